/- Shallow texts of the seat's functions, printed by a program: part 1. -/
import Derived.Test.YtppallabmjdolaaGreatDoorRows
import Derived.Test.YtppallabmjdolaaGreatDoorFs
set_option linter.unusedVariables false
set_option maxRecDepth 100000
namespace Go.Vit
open Go Go.Proofs
section
variable {β : Type}
/-- vitola/bond.May -/
def K18 : Kat := []
noncomputable def S18 (lf : Nat) : FnK β := fun call args L m k =>
 uc args fun t0 l1 =>
 uc l1 fun t2 l3 =>
 un0 l3 (oRes (abox m t0) fun t4 m5 =>
 oOpt (ldN m5 2 t4) fun t6 =>
 call 56 [t6] L m5 fun t7 m8 =>
 oOpt (aextract t7 0) fun t9 =>
 oOpt (aextract t7 1) fun t10 =>
 oRes (anew m8 1 [(.int .i64 (.ofNat 0)), (.slice none 0 0)] ptrTo) fun t11 m12 =>
 oRes (st1 2 L m12 t11 t9) fun t13 m14 =>
 oInt .neq .i64 t10 (.int .i64 (.ofNat 0)) fun t15 =>
 oIf t15 (k (.tuple ⟨[(.bool false), t10]⟩) m14) (oOpt (fa 0 t11) fun t16 =>
 oOpt (ldN m14 2 t16) fun t17 =>
 call 69 [t17, t2] L m14 fun t18 m19 =>
 oOpt (aun .not t18) fun t20 =>
 oIf t20 (k (.tuple ⟨[(.bool false), (.int .i64 (.ofNat 2))]⟩) m19) (oOpt (ldN m19 2 t11) fun t21 =>
 call 70 [t21, t2] L m19 fun t22 m23 =>
 k (.tuple ⟨[t22, (.int .i64 (.ofNat 0))]⟩) m23)))
theorem S18_ok (lf : Nat) (cK : CallK β) (args : List Value) (L : Nat) (m : Mem) (k : Value → Mem → Option β)  : S18 lf cK args L m k = denF Tryz.prog fsT 2 K18 lf cK 18 args L m k := by kernel_rfl

/-- vitola/vitolatop.group -/
def K19 : Kat := [(89, (0, [3, 8]))]
noncomputable def S19 (lf : Nat) : FnK β := fun call args L m k =>
 uc args fun t0 l1 =>
 un0 l1 (oOpt (ln t0) fun t2 =>
 loopS (fun j5 l3 m4 =>
 uc l3 fun t6 l7 =>
 uc l7 fun t8 l9 =>
 oInt .lss .i64 t8 t2 fun t10 =>
 oIf t10 (oOpt (ia 1 t0 t8) fun t11 =>
 oOpt (ld1 m4 t11) fun t12 =>
 oOpt (abin Tryz.prog .shl 3 (.int .i64 (.ofNat 1)) t12) fun t13 =>
 oInt .or .i64 t6 t13 fun t14 =>
 oInt .add .i64 t8 (.int .i64 (.ofNat 1)) fun t15 =>
 j5 [t14, t15] m4) (k t6 m4)) lf [(.int .i64 (.ofNat 0)), (.int .i64 (.ofNat 0))] m)
theorem S19_ok (lf : Nat) (cK : CallK β) (args : List Value) (L : Nat) (m : Mem) (k : Value → Mem → Option β)  : S19 lf cK args L m k = denF Tryz.prog fsT 2 K19 lf cK 19 args L m k := by kernel_rfl

/-- vitola/bond.Opens -/
def K20 : Kat := []
noncomputable def S20 (lf : Nat) : FnK β := fun call args L m k =>
 uc args fun t0 l1 =>
 uc l1 fun t2 l3 =>
 un0 l3 (oRes (abox m t0) fun t4 m5 =>
 oOpt (ldN m5 2 t4) fun t6 =>
 call 71 [t6] L m5 fun t7 m8 =>
 oOpt (aextract t7 0) fun t9 =>
 oOpt (aextract t7 1) fun t10 =>
 oRes (anew m8 1 [(.int .i64 (.ofNat 0)), (.slice none 0 0)] ptrTo) fun t11 m12 =>
 oRes (st1 2 L m12 t11 t9) fun t13 m14 =>
 oInt .neq .i64 t10 (.int .i64 (.ofNat 0)) fun t15 =>
 oIf t15 (k (.tuple ⟨[(.bool false), t10]⟩) m14) (oOpt (fa 0 t11) fun t16 =>
 oOpt (ldN m14 2 t16) fun t17 =>
 call 69 [t17, t2] L m14 fun t18 m19 =>
 oOpt (aun .not t18) fun t20 =>
 oIf t20 (k (.tuple ⟨[(.bool false), (.int .i64 (.ofNat 2))]⟩) m19) (oOpt (ldN m19 2 t11) fun t21 =>
 call 72 [t21, t2] L m19 fun t22 m23 =>
 oOpt (abin Tryz.prog .eql 22 t22 (.slice none 0 0)) fun t24 =>
 k (.tuple ⟨[t24, (.int .i64 (.ofNat 0))]⟩) m23)))
theorem S20_ok (lf : Nat) (cK : CallK β) (args : List Value) (L : Nat) (m : Mem) (k : Value → Mem → Option β)  : S20 lf cK args L m k = denF Tryz.prog fsT 2 K20 lf cK 20 args L m k := by kernel_rfl

/-- vitola/bond.Smallest -/
def K22 : Kat := []
noncomputable def S22 (lf : Nat) : FnK β := fun call args L m k =>
 uc args fun t0 l1 =>
 un0 l1 (oRes (abox m t0) fun t2 m3 =>
 oOpt (ldN m3 2 t2) fun t4 =>
 call 71 [t4] L m3 fun t5 m6 =>
 oOpt (aextract t5 0) fun t7 =>
 oOpt (aextract t5 1) fun t8 =>
 oRes (anew m6 1 [(.int .i64 (.ofNat 0)), (.slice none 0 0)] ptrTo) fun t9 m10 =>
 oRes (st1 2 L m10 t9 t7) fun t11 m12 =>
 oInt .neq .i64 t8 (.int .i64 (.ofNat 0)) fun t13 =>
 oIf t13 (k (.tuple ⟨[(.slice none 0 0), t8]⟩) m12) (oOpt (fa 0 t9) fun t14 =>
 oOpt (ldN m12 2 t14) fun t15 =>
 call 57 [t15] L m12 fun t16 m17 =>
 k (.tuple ⟨[t16, (.int .i64 (.ofNat 0))]⟩) m17))
theorem S22_ok (lf : Nat) (cK : CallK β) (args : List Value) (L : Nat) (m : Mem) (k : Value → Mem → Option β)  : S22 lf cK args L m k = denF Tryz.prog fsT 2 K22 lf cK 22 args L m k := by kernel_rfl

/-- vitola/heap.Hours -/
def K23 : Kat := [(377, (0, [6, 5, 7])), (3023, (1, [21])), (24209, (1, [38])), (24210, (0, [6, 5]))]
noncomputable def S23 (lf : Nat) : FnK β := fun call args L m k =>
 uc args fun t0 l1 =>
 un0 l1 (call 73 [t0] L m fun t2 m3 =>
 oInt .neq .i64 t2 (.int .i64 (.ofNat 0)) fun t4 =>
 oIf t4 (k (.tuple ⟨[(.slice none 0 0), t2]⟩) m3) (call 76 [t0] L m3 fun t5 m6 =>
 oRes (anew m6 1 [(.int .i64 (.ofNat 0))] ptrTo) fun t7 m8 =>
 oRes (st1 1 L m8 t7 (.int .i64 (.ofNat 0))) fun t9 m10 =>
 loopS (fun j13 l11 m12 =>
 uc l11 fun t14 l15 =>
 uc l15 fun t16 l17 =>
 uc l17 fun t18 l19 =>
 oOpt (ld1 m12 t18) fun t20 =>
 oInt .leq .i64 t20 (.int .i64 (.ofNat 23)) fun t21 =>
 join (fun l22 m23 =>
 uc l22 fun t25 l26 =>
 oPick t21 t25 (.bool false) fun t27 =>
 oIf t27 (call 76 [t14] L m23 fun t28 m29 =>
 call 77 [t28, (.func (.func 78) #[] ⟨[t18]⟩)] L m29 fun t30 m31 =>
 call 79 [t30] L m31 fun t32 m33 =>
 call 79 [t14] L m33 fun t34 m35 =>
 oInt .lss .i64 t32 t34 fun t36 =>
 join (fun l37 m38 =>
 uc l37 fun t40 l41 =>
 oPick t36 t40 (.bool false) fun t42 =>
 join (fun l43 m44 =>
 uc l43 fun t46 l47 =>
 uc l47 fun t48 l49 =>
 oOpt (ld1 m44 t18) fun t50 =>
 oRes (anew m44 1 [(.int .i64 (.ofNat 0))] ptrTo) fun t51 m52 =>
 oRes (st1 1 L m52 t51 t50) fun t53 m54 =>
 oOpt (ld1 m54 t51) fun t55 =>
 oInt .add .i64 t55 (.int .i64 (.ofNat 1)) fun t56 =>
 oRes (st1 1 L m54 t51 t56) fun t57 m58 =>
 j13 [t46, t48, t51] m58) fun j45 =>
 oIf t42 (oOpt (ld1 m38 t18) fun t59 =>
 oRes (bs Tryz.prog m38 22 1 [(0, t59)]) fun t60 m61 =>
 oRes (aappend Tryz.prog L m61 22 t16 t60) fun t62 m63 =>
 j45 [t30, t62] m63) (j45 [t14, t16] m38)) fun j39 =>
 oGT t36 (call 80 [t30, (.func (.func 81) #[] ⟨[t18]⟩)] L m35 fun t64 m65 =>
 oOpt (aun .not t64) fun t66 =>
 j39 [t66] m65) (j39 [Go.undef] m35)) (k (.tuple ⟨[t16, (.int .i64 (.ofNat 0))]⟩) m23)) fun j24 =>
 oGT t21 (oOpt (ln t14) fun t67 =>
 oInt .gtr .i64 t67 (.int .i64 (.ofNat 0)) fun t68 =>
 j24 [t68] m12) (j24 [Go.undef] m12)) lf [t5, (.slice none 0 0), t7] m10))
theorem S23_ok (lf : Nat) (cK : CallK β) (args : List Value) (L : Nat) (m : Mem) (k : Value → Mem → Option β)  : S23 lf cK args L m k = denF Tryz.prog fsT 2 K23 lf cK 23 args L m k := by kernel_rfl

/-- vitola/heap.Apart -/
def K24 : Kat := [(761, (0, [7, 5, 22])), (12197, (0, [7, 5])), (390350, (0, [7, 5]))]
noncomputable def S24 (lf : Nat) : FnK β := fun call args L m k =>
 uc args fun t0 l1 =>
 un0 l1 (call 73 [t0] L m fun t2 m3 =>
 oInt .neq .i64 t2 (.int .i64 (.ofNat 0)) fun t4 =>
 oIf t4 (k (.tuple ⟨[(.slice none 0 0), t2]⟩) m3) (call 76 [t0] L m3 fun t5 m6 =>
 oRes (anew m6 1 [(.slice none 0 0)] ptrTo) fun t7 m8 =>
 oRes (st1 1 L m8 t7 t5) fun t9 m10 =>
 oOpt (ld1 m10 t7) fun t11 =>
 call 79 [t11] L m10 fun t12 m13 =>
 oOpt (ln t0) fun t14 =>
 loopS (fun j17 l15 m16 =>
 uc l15 fun t18 l19 =>
 uc l19 fun t20 l21 =>
 uc l21 fun t22 l23 =>
 oInt .lss .i64 t22 t14 fun t24 =>
 oIf t24 (join (fun l25 m26 =>
 uc l25 fun t28 l29 =>
 uc l29 fun t30 l31 =>
 oInt .add .i64 t22 (.int .i64 (.ofNat 1)) fun t32 =>
 j17 [t28, t30, t32] m26) fun j27 =>
 oOpt (ia 2 t0 t22) fun t33 =>
 oOpt (ldN m16 2 t33) fun t34 =>
 oRes (anew m16 1 [(.int .i64 (.ofNat 0)), (.int .i64 (.ofNat 0))] ptrTo) fun t35 m36 =>
 oRes (st1 2 L m36 t35 t34) fun t37 m38 =>
 oOpt (ld1 m38 t7) fun t39 =>
 oOpt (ldN m38 2 t35) fun t40 =>
 call 82 [t39, t40] L m38 fun t41 m42 =>
 oOpt (aun .not t41) fun t43 =>
 oIf t43 (j27 [t18, t20] m42) (oInt .add .i64 t22 (.int .i64 (.ofNat 1)) fun t44 =>
 oOpt (sl Tryz.prog 47 t0 (some t44) none none) fun t45 =>
 call 76 [t45] L m42 fun t46 m47 =>
 call 77 [t46, (.func (.func 83) #[] ⟨[t35, t7]⟩)] L m47 fun t48 m49 =>
 call 79 [t48] L m49 fun t50 m51 =>
 oInt .sub .i64 t18 (.int .i64 (.ofNat 1)) fun t52 =>
 oInt .eql .i64 t50 t52 fun t53 =>
 join (fun l54 m55 =>
 uc l54 fun t57 l58 =>
 uc l58 fun t59 l60 =>
 j27 [t57, t59] m55) fun j56 =>
 oIf t53 (oInt .sub .i64 t18 (.int .i64 (.ofNat 1)) fun t61 =>
 oRes (bs Tryz.prog m51 22 1 [(0, t22)]) fun t62 m63 =>
 oRes (aappend Tryz.prog L m63 22 t20 t62) fun t64 m65 =>
 oRes (st1 1 L m65 t7 t48) fun t66 m67 =>
 j56 [t61, t64] m67) (j56 [t18, t20] m51))) (k (.tuple ⟨[t20, (.int .i64 (.ofNat 0))]⟩) m16)) lf [t12, (.slice none 0 0), (.int .i64 (.ofNat 0))] m13))
theorem S24_ok (lf : Nat) (cK : CallK β) (args : List Value) (L : Nat) (m : Mem) (k : Value → Mem → Option β)  : S24 lf cK args L m k = denF Tryz.prog fsT 2 K24 lf cK 24 args L m k := by kernel_rfl

/-- slices.Compare[[]int,int] -/
def K25 : Kat := [(41, (0, [11]))]
noncomputable def S25 (lf : Nat) : FnK β := fun call args L m k =>
 uc args fun t0 l1 =>
 uc l1 fun t2 l3 =>
 un0 l3 (oOpt (ln t0) fun t4 =>
 loopS (fun j7 l5 m6 =>
 uc l5 fun t8 l9 =>
 oInt .lss .i64 t8 t4 fun t10 =>
 oIf t10 (oOpt (ia 1 t0 t8) fun t11 =>
 oOpt (ld1 m6 t11) fun t12 =>
 oOpt (ln t2) fun t13 =>
 oInt .geq .i64 t8 t13 fun t14 =>
 oIf t14 (k (.int .i64 (.ofNat 1)) m6) (oOpt (ia 1 t2 t8) fun t15 =>
 oOpt (ld1 m6 t15) fun t16 =>
 call 84 [t12, t16] L m6 fun t17 m18 =>
 oInt .neq .i64 t17 (.int .i64 (.ofNat 0)) fun t19 =>
 oIf t19 (k t17 m18) (oInt .add .i64 t8 (.int .i64 (.ofNat 1)) fun t20 =>
 j7 [t20] m18))) (oOpt (ln t0) fun t21 =>
 oOpt (ln t2) fun t22 =>
 oInt .lss .i64 t21 t22 fun t23 =>
 oIf t23 (k (.int .i64 (.negSucc 0)) m6) (k (.int .i64 (.ofNat 0)) m6))) lf [(.int .i64 (.ofNat 0))] m)
theorem S25_ok (lf : Nat) (cK : CallK β) (args : List Value) (L : Nat) (m : Mem) (k : Value → Mem → Option β)  : S25 lf cK args L m k = denF Tryz.prog fsT 2 K25 lf cK 25 args L m k := by kernel_rfl

/-- vitola/vitolatop.wound -/
def K26 : Kat := [(377, (0, [10, 11]))]
noncomputable def S26 (lf : Nat) : FnK β := fun call args L m k =>
 uc args fun t0 l1 =>
 uc l1 fun t2 l3 =>
 uc l3 fun t4 l5 =>
 uc l5 fun t6 l7 =>
 un0 l7 (oRes (anew m 1 [(.int .i64 (.ofNat 0)), (.int .i64 (.ofNat 0)), (.int .i64 (.ofNat 0))] ptrTo) fun t8 m9 =>
 oCv .i64 t0 fun t10 =>
 oInt .rem .i64 t10 t6 fun t11 =>
 oInt .add .i64 (.int .i64 (.ofNat 1)) t11 fun t12 =>
 oOpt (bu Tryz.prog 57 [(0, t12)]) fun t13 =>
 oRes (anew m9 1 [(.int .i64 (.ofNat 0)), (.int .i64 (.ofNat 0)), (.int .i64 (.ofNat 0))] ptrTo) fun t14 m15 =>
 oRes (st1 3 L m15 t14 t13) fun t16 m17 =>
 oCv .i64 t2 fun t18 =>
 oOpt (fa 0 t14) fun t19 =>
 oOpt (ld1 m17 t19) fun t20 =>
 oInt .rem .i64 t18 t20 fun t21 =>
 oOpt (fa 1 t14) fun t22 =>
 oRes (st1 1 L m17 t22 t21) fun t23 m24 =>
 oOpt (fa 1 t14) fun t25 =>
 oOpt (ld1 m24 t25) fun t26 =>
 loopS (fun j29 l27 m28 =>
 uc l27 fun t30 l31 =>
 uc l31 fun t32 l33 =>
 oInt .neq .i64 t32 (.int .i64 (.ofNat 0)) fun t34 =>
 oIf t34 (oInt .add .i64 t30 (.int .i64 (.ofNat 1)) fun t35 =>
 oOpt (fa 1 t14) fun t36 =>
 oOpt (ld1 m28 t36) fun t37 =>
 oInt .add .i64 t32 t37 fun t38 =>
 oOpt (fa 0 t14) fun t39 =>
 oOpt (ld1 m28 t39) fun t40 =>
 oInt .rem .i64 t38 t40 fun t41 =>
 j29 [t35, t41] m28) (oCv .i64 t4 fun t42 =>
 oInt .rem .i64 t42 t30 fun t43 =>
 oInt .add .i64 (.int .i64 (.ofNat 1)) t43 fun t44 =>
 oOpt (fa 2 t14) fun t45 =>
 oRes (st1 1 L m28 t45 t44) fun t46 m47 =>
 oOpt (ldN m47 3 t14) fun t48 =>
 oRes (st1 3 L m47 t8 t48) fun t49 m50 =>
 oOpt (ldN m50 3 t8) fun t51 =>
 k t51 m50)) lf [(.int .i64 (.ofNat 1)), t26] m24)
theorem S26_ok (lf : Nat) (cK : CallK β) (args : List Value) (L : Nat) (m : Mem) (k : Value → Mem → Option β)  : S26 lf cK args L m k = denF Tryz.prog fsT 2 K26 lf cK 26 args L m k := by kernel_rfl

/-- vitola/wrap.Gaps -/
def K27 : Kat := []
noncomputable def S27 (lf : Nat) : FnK β := fun call args L m k =>
 uc args fun t0 l1 =>
 un0 l1 (oRes (abox m t0) fun t2 m3 =>
 oOpt (ldN m3 3 t2) fun t4 =>
 call 85 [t4, (.func (.func 86) #[] #[])] L m3 fun t5 m6 =>
 oOpt (aextract t5 0) fun t7 =>
 oOpt (aextract t5 1) fun t8 =>
 k (.tuple ⟨[t7, t8]⟩) m6)
theorem S27_ok (lf : Nat) (cK : CallK β) (args : List Value) (L : Nat) (m : Mem) (k : Value → Mem → Option β)  : S27 lf cK args L m k = denF Tryz.prog fsT 2 K27 lf cK 27 args L m k := by kernel_rfl

/-- vitola/vitolatop.places -/
def K28 : Kat := [(89, (0, [3, 7]))]
noncomputable def S28 (lf : Nat) : FnK β := fun call args L m k =>
 uc args fun t0 l1 =>
 un0 l1 (oRes (abox m t0) fun t2 m3 =>
 oOpt (fa 2 t2) fun t4 =>
 oOpt (ld1 m3 t4) fun t5 =>
 loopS (fun j8 l6 m7 =>
 uc l6 fun t9 l10 =>
 uc l10 fun t11 l12 =>
 oInt .lss .i64 t11 t5 fun t13 =>
 oIf t13 (oOpt (fa 1 t2) fun t14 =>
 oOpt (ld1 m7 t14) fun t15 =>
 oInt .mul .i64 t11 t15 fun t16 =>
 oOpt (fa 0 t2) fun t17 =>
 oOpt (ld1 m7 t17) fun t18 =>
 oInt .rem .i64 t16 t18 fun t19 =>
 oRes (bs Tryz.prog m7 22 1 [(0, t19)]) fun t20 m21 =>
 oRes (aappend Tryz.prog L m21 22 t9 t20) fun t22 m23 =>
 oInt .add .i64 t11 (.int .i64 (.ofNat 1)) fun t24 =>
 j8 [t22, t24] m23) (k t9 m7)) lf [(.slice none 0 0), (.int .i64 (.ofNat 0))] m3)
theorem S28_ok (lf : Nat) (cK : CallK β) (args : List Value) (L : Nat) (m : Mem) (k : Value → Mem → Option β)  : S28 lf cK args L m k = denF Tryz.prog fsT 2 K28 lf cK 28 args L m k := by kernel_rfl

/-- vitola/shade.Least -/
def K29 : Kat := []
noncomputable def S29 (lf : Nat) : FnK β := fun call args L m k =>
 uc args fun t0 l1 =>
 uc l1 fun t2 l3 =>
 un0 l3 (call 87 [t0, t2] L m fun t4 m5 =>
 oOpt (aextract t4 0) fun t6 =>
 oOpt (aextract t4 1) fun t7 =>
 oInt .neq .i64 t7 (.int .i64 (.ofNat 0)) fun t8 =>
 oIf t8 (k (.tuple ⟨[(.int .i64 (.ofNat 0)), t7]⟩) m5) (call 88 [t6] L m5 fun t9 m10 =>
 oOpt (aextract t9 0) fun t11 =>
 oOpt (aextract t9 1) fun t12 =>
 k (.tuple ⟨[t12, (.int .i64 (.ofNat 0))]⟩) m10))
theorem S29_ok (lf : Nat) (cK : CallK β) (args : List Value) (L : Nat) (m : Mem) (k : Value → Mem → Option β)  : S29 lf cK args L m k = denF Tryz.prog fsT 2 K29 lf cK 29 args L m k := by kernel_rfl

/-- vitola/vitolatop.shadesWork -/
def K30 : Kat := [(45, (1, [19])), (45, (3, [23])), (45, (5, [29])), (45, (7, [32]))]
noncomputable def S30 (lf : Nat) : FnK β := fun call args L m k =>
 un0 args (oRes (bs Tryz.prog m 22 5 [(0, (.int .i64 (.ofNat 10))), (1, (.int .i64 (.ofNat 40))), (2, (.int .i64 (.ofNat 12))), (3, (.int .i64 (.ofNat 30))), (4, (.int .i64 (.ofNat 11)))]) fun t0 m1 =>
 call 62 [t0] L m1 fun t2 m3 =>
 call 29 [t2, (.bool true)] L m3 fun t4 m5 =>
 oOpt (aextract t4 0) fun t6 =>
 oOpt (aextract t4 1) fun t7 =>
 call 48 [(.int .i64 (.ofNat 4)), (.int .i64 (.ofNat 3))] L m5 fun t8 m9 =>
 oOpt (aextract t8 0) fun t10 =>
 oOpt (aextract t8 1) fun t11 =>
 oInt .eql .i64 t7 (.int .i64 (.ofNat 0)) fun t12 =>
 join (fun l13 m14 =>
 uc l13 fun t16 l17 =>
 oPick t12 t16 (.bool false) fun t18 =>
 join (fun l19 m20 =>
 uc l19 fun t22 l23 =>
 oPick t18 t22 (.bool false) fun t24 =>
 join (fun l25 m26 =>
 uc l25 fun t28 l29 =>
 oPick t24 t28 (.bool false) fun t30 =>
 join (fun l31 m32 =>
 uc l31 fun t34 l35 =>
 oPick t30 t34 (.bool false) fun t36 =>
 k t36 m32) fun j33 =>
 oGT t30 (call 89 [] L m26 fun t37 m38 =>
 j33 [t37] m38) (j33 [Go.undef] m26)) fun j27 =>
 oGT t24 (oRes (bs Tryz.prog m20 22 4 [(0, (.int .i64 (.ofNat 1))), (1, (.int .i64 (.ofNat 3))), (2, (.int .i64 (.ofNat 0))), (3, (.int .i64 (.ofNat 2)))]) fun t39 m40 =>
 call 62 [t39] L m40 fun t41 m42 =>
 call 13 [t10, t41] L m42 fun t43 m44 =>
 j27 [t43] m44) (j27 [Go.undef] m20)) fun j21 =>
 oGT t18 (oInt .eql .i64 t6 (.int .i64 (.ofNat 28)) fun t45 =>
 j21 [t45] m14) (j21 [Go.undef] m14)) fun j15 =>
 oGT t12 (oInt .eql .i64 t11 (.int .i64 (.ofNat 0)) fun t46 =>
 j15 [t46] m9) (j15 [Go.undef] m9))
theorem S30_ok (lf : Nat) (cK : CallK β) (args : List Value) (L : Nat) (m : Mem) (k : Value → Mem → Option β)  : S30 lf cK args L m k = denF Tryz.prog fsT 2 K30 lf cK 30 args L m k := by kernel_rfl

/-- vitola/beetle.Spread -/
def K31 : Kat := []
noncomputable def S31 (lf : Nat) : FnK β := fun call args L m k =>
 uc args fun t0 l1 =>
 un0 l1 (oRes (abox m t0) fun t2 m3 =>
 oOpt (ldN m3 4 t2) fun t4 =>
 call 90 [t4] L m3 fun t5 m6 =>
 oOpt (aextract t5 0) fun t7 =>
 oOpt (aextract t5 1) fun t8 =>
 oOpt (aextract t5 2) fun t9 =>
 oRes (anew m6 1 [(.int .u32 (.ofNat 0)), (.int .u32 (.ofNat 0))] ptrTo) fun t10 m11 =>
 oRes (st1 2 L m11 t10 t8) fun t12 m13 =>
 oInt .neq .i64 t9 (.int .i64 (.ofNat 0)) fun t14 =>
 oIf t14 (k (.tuple ⟨[(.slice none 0 0), t9]⟩) m13) (oOpt (ldN m13 2 t10) fun t15 =>
 call 91 [t7, t15] L m13 fun t16 m17 =>
 call 92 [t16] L m17 fun t18 m19 =>
 k (.tuple ⟨[t18, (.int .i64 (.ofNat 0))]⟩) m19))
theorem S31_ok (lf : Nat) (cK : CallK β) (args : List Value) (L : Nat) (m : Mem) (k : Value → Mem → Option β)  : S31 lf cK args L m k = denF Tryz.prog fsT 2 K31 lf cK 31 args L m k := by kernel_rfl

/-- vitola/bond.Least -/
def K32 : Kat := []
noncomputable def S32 (lf : Nat) : FnK β := fun call args L m k =>
 uc args fun t0 l1 =>
 un0 l1 (oRes (abox m t0) fun t2 m3 =>
 oOpt (ldN m3 2 t2) fun t4 =>
 call 56 [t4] L m3 fun t5 m6 =>
 oOpt (aextract t5 0) fun t7 =>
 oOpt (aextract t5 1) fun t8 =>
 oRes (anew m6 1 [(.int .i64 (.ofNat 0)), (.slice none 0 0)] ptrTo) fun t9 m10 =>
 oRes (st1 2 L m10 t9 t7) fun t11 m12 =>
 oInt .neq .i64 t8 (.int .i64 (.ofNat 0)) fun t13 =>
 oIf t13 (k (.tuple ⟨[(.slice none 0 0), t8]⟩) m12) (oOpt (fa 0 t9) fun t14 =>
 oOpt (ldN m12 2 t14) fun t15 =>
 call 93 [t15] L m12 fun t16 m17 =>
 k (.tuple ⟨[t16, (.int .i64 (.ofNat 0))]⟩) m17))
theorem S32_ok (lf : Nat) (cK : CallK β) (args : List Value) (L : Nat) (m : Mem) (k : Value → Mem → Option β)  : S32 lf cK args L m k = denF Tryz.prog fsT 2 K32 lf cK 32 args L m k := by kernel_rfl

/-- vitola/beetle.Least -/
def K33 : Kat := []
noncomputable def S33 (lf : Nat) : FnK β := fun call args L m k =>
 uc args fun t0 l1 =>
 uc l1 fun t2 l3 =>
 un0 l3 (call 94 [t0, t2] L m fun t4 m5 =>
 oOpt (aun .not t4) fun t6 =>
 oIf t6 (k (.tuple ⟨[(.int .i64 (.ofNat 0)), (.int .i64 (.ofNat 1))]⟩) m5) (oInt .add .i64 t0 t2 fun t7 =>
 oInt .add .i64 t7 (.int .i64 (.ofNat 1)) fun t8 =>
 oInt .quo .i64 t8 (.int .i64 (.ofNat 2)) fun t9 =>
 k (.tuple ⟨[t9, (.int .i64 (.ofNat 0))]⟩) m5))
theorem S33_ok (lf : Nat) (cK : CallK β) (args : List Value) (L : Nat) (m : Mem) (k : Value → Mem → Option β)  : S33 lf cK args L m k = denF Tryz.prog fsT 2 K33 lf cK 33 args L m k := by kernel_rfl

/-- vitola/beetle.Plant -/
def K34 : Kat := []
noncomputable def S34 (lf : Nat) : FnK β := fun call args L m k =>
 uc args fun t0 l1 =>
 uc l1 fun t2 l3 =>
 un0 l3 (oRes (abox m t0) fun t4 m5 =>
 oRes (abox m5 t2) fun t6 m7 =>
 oOpt (ld1 m7 t4) fun t8 =>
 oOpt (ld1 m7 t6) fun t9 =>
 call 33 [t8, t9] L m7 fun t10 m11 =>
 oOpt (aextract t10 0) fun t12 =>
 oOpt (aextract t10 1) fun t13 =>
 oInt .neq .i64 t13 (.int .i64 (.ofNat 0)) fun t14 =>
 oIf t14 (k (.tuple ⟨[(.slice none 0 0), t13]⟩) m11) (oOpt (ld1 m11 t4) fun t15 =>
 oOpt (ld1 m11 t6) fun t16 =>
 call 95 [t15, t16] L m11 fun t17 m18 =>
 oRes (anew m18 1 [(.pointer none)] ptrTo) fun t19 m20 =>
 oRes (st1 1 L m20 t19 t17) fun t21 m22 =>
 oOpt (ld1 m22 t19) fun t23 =>
 oOpt (anil t23) fun t24 =>
 oOpt (fa 2 t24) fun t25 =>
 oOpt (ld1 m22 t25) fun t26 =>
 oOpt (abin Tryz.prog .shl 130 (.int .u32 (.ofNat 1)) t26) fun t27 =>
 oInt .sub .u32 t27 (.int .u32 (.ofNat 1)) fun t28 =>
 oRes (anew m22 1 [(.int .u32 (.ofNat 0))] ptrTo) fun t29 m30 =>
 oRes (st1 1 L m30 t29 t28) fun t31 m32 =>
 oOpt (ld1 m32 t29) fun t33 =>
 call 96 [(.int .u32 (.ofNat 0)), t33, t12, (.func (.func 97) #[] ⟨[t19, t4, t6]⟩), (.func (.func 99) #[] ⟨[t19, t29]⟩)] L m32 fun t34 m35 =>
 oOpt (aextract t34 0) fun t36 =>
 oOpt (aextract t34 1) fun t37 =>
 call 92 [t36] L m35 fun t38 m39 =>
 k (.tuple ⟨[t38, (.int .i64 (.ofNat 0))]⟩) m39))
theorem S34_ok (lf : Nat) (cK : CallK β) (args : List Value) (L : Nat) (m : Mem) (k : Value → Mem → Option β)  : S34 lf cK args L m k = denF Tryz.prog fsT 2 K34 lf cK 34 args L m k := by kernel_rfl

/-- vitola/beetle.Proves -/
def K35 : Kat := [(761, (0, [8, 9, 25])), (390343, (1, [38])), (3065, (0, [61]))]
noncomputable def S35 (lf : Nat) : FnK β := fun call args L m k =>
 uc args fun t0 l1 =>
 uc l1 fun t2 l3 =>
 un0 l3 (oRes (abox m t0) fun t4 m5 =>
 oOpt (ldN m5 4 t4) fun t6 =>
 call 90 [t6] L m5 fun t7 m8 =>
 oOpt (aextract t7 0) fun t9 =>
 oOpt (aextract t7 1) fun t10 =>
 oOpt (aextract t7 2) fun t11 =>
 oRes (anew m8 1 [(.int .u32 (.ofNat 0)), (.int .u32 (.ofNat 0))] ptrTo) fun t12 m13 =>
 oRes (st1 2 L m13 t12 t10) fun t14 m15 =>
 oInt .neq .i64 t11 (.int .i64 (.ofNat 0)) fun t16 =>
 oIf t16 (k t11 m15) (oOpt (ln t2) fun t17 =>
 loopS (fun j20 l18 m19 =>
 uc l18 fun t21 l22 =>
 uc l22 fun t23 l24 =>
 uc l24 fun t25 l26 =>
 oInt .lss .i64 t25 t17 fun t27 =>
 oIf t27 (oOpt (ia 1 t2 t25) fun t28 =>
 oOpt (ld1 m19 t28) fun t29 =>
 oInt .lss .i64 t29 (.int .i64 (.ofNat 0)) fun t30 =>
 join (fun l31 m32 =>
 uc l31 fun t34 l35 =>
 oPick t30 (.bool true) t34 fun t36 =>
 oIf t36 (k (.int .i64 (.ofNat 2)) m32) (oInt .leq .i64 t29 t23 fun t37 =>
 oIf t37 (k (.int .i64 (.ofNat 7)) m32) (oOpt (abin Tryz.prog .shl 130 (.int .u32 (.ofNat 1)) t29) fun t38 =>
 oInt .or .u32 t21 t38 fun t39 =>
 oInt .add .i64 t25 (.int .i64 (.ofNat 1)) fun t40 =>
 j20 [t39, t29, t40] m32))) fun j33 =>
 oGF t30 (oOpt (anil t9) fun t41 =>
 oOpt (fa 2 t41) fun t42 =>
 oOpt (ld1 m19 t42) fun t43 =>
 oInt .geq .i64 t29 t43 fun t44 =>
 j33 [t44] m19) (j33 [Go.undef] m19)) (oOpt (fa 0 t12) fun t45 =>
 oOpt (ld1 m19 t45) fun t46 =>
 oInt .and .u32 t21 t46 fun t47 =>
 oInt .neq .u32 t47 (.int .u32 (.ofNat 0)) fun t48 =>
 oIf t48 (k (.int .i64 (.ofNat 14)) m19) (oOpt (fa 1 t12) fun t49 =>
 oOpt (ld1 m19 t49) fun t50 =>
 oInt .andNot .u32 t21 t50 fun t51 =>
 call 92 [t51] L m19 fun t52 m53 =>
 oOpt (ln t52) fun t54 =>
 loopS (fun j57 l55 m56 =>
 uc l55 fun t58 l59 =>
 oInt .lss .i64 t58 t54 fun t60 =>
 oIf t60 (oOpt (ia 1 t52 t58) fun t61 =>
 oOpt (ld1 m56 t61) fun t62 =>
 oOpt (anil t9) fun t63 =>
 oOpt (fa 3 t63) fun t64 =>
 oOpt (iaA 25 1 t64 t62) fun t65 =>
 oOpt (ld1 m56 t65) fun t66 =>
 oInt .andNot .u32 t66 t21 fun t67 =>
 oOpt (fa 1 t12) fun t68 =>
 oOpt (ld1 m56 t68) fun t69 =>
 oInt .andNot .u32 t67 t69 fun t70 =>
 call 100 [t70] L m56 fun t71 m72 =>
 oInt .gtr .i64 t71 (.int .i64 (.ofNat 1)) fun t73 =>
 oIf t73 (k (.int .i64 (.ofNat 14)) m72) (oInt .add .i64 t58 (.int .i64 (.ofNat 1)) fun t74 =>
 j57 [t74] m72)) (k (.int .i64 (.ofNat 0)) m56)) lf [(.int .i64 (.ofNat 0))] m53))) lf [(.int .u32 (.ofNat 0)), (.int .i64 (.negSucc 0)), (.int .i64 (.ofNat 0))] m15))
theorem S35_ok (lf : Nat) (cK : CallK β) (args : List Value) (L : Nat) (m : Mem) (k : Value → Mem → Option β)  : S35 lf cK args L m k = denF Tryz.prog fsT 2 K35 lf cK 35 args L m k := by kernel_rfl

end
end Go.Vit
