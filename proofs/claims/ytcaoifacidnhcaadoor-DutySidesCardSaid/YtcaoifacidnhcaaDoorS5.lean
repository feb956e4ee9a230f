/- Shallow texts of the seat's functions, printed by a program: part 5. -/
import Derived.Test.YtcaoifacidnhcaaDoorRows
import Derived.Test.YtcaoifacidnhcaaDoorCoreB
set_option linter.unusedVariables false
set_option maxRecDepth 100000
namespace Go.Vit
open Go Go.Proofs
section
variable {β : Type}
/-- vitola/duty.Pairs -/
def K40 : Kat := [(377, (0, [5, 17])), (48434, (0, [5]))]
noncomputable def S40 (lf : Nat) : FnK β := fun call args L m k =>
 uc args fun t0 l1 =>
 un0 l1 (call 63 [t0, (.int .i64 (.ofNat 1)), (.int .i64 (.ofNat 40))] L m fun t2 m3 =>
 oOpt (aun .not t2) fun t4 =>
 oIf t4 (k (.tuple ⟨[(.slice none 0 0), (.int .i64 (.ofNat 1))]⟩) m3) (oInt .mul .i64 t0 t0 fun t5 =>
 call 73 [t5] L m3 fun t6 m7 =>
 oOpt (ln t6) fun t8 =>
 loopS (fun j11 l9 m10 =>
 uc l9 fun t12 l13 =>
 uc l13 fun t14 l15 =>
 oInt .lss .i64 t14 t8 fun t16 =>
 oIf t16 (oOpt (ia 1 t6 t14) fun t17 =>
 oOpt (ld1 m10 t17) fun t18 =>
 oInt .lss .i64 t18 t0 fun t19 =>
 join (fun l20 m21 =>
 uc l20 fun t23 l24 =>
 oInt .add .i64 t14 (.int .i64 (.ofNat 1)) fun t25 =>
 j11 [t23, t25] m21) fun j22 =>
 oIf t19 (oInt .add .i64 t0 t18 fun t26 =>
 oInt .quo .i64 t5 t18 fun t27 =>
 oInt .add .i64 t0 t27 fun t28 =>
 oOpt (bu Tryd.prog 68 [(0, t26), (1, t28)]) fun t29 =>
 oRes (bs Tryd.prog m10 52 1 [(0, t29)]) fun t30 m31 =>
 oRes (aappend Tryd.prog L m31 52 t12 t30) fun t32 m33 =>
 j22 [t32] m33) (j22 [t12] m10)) (k (.tuple ⟨[t12, (.int .i64 (.ofNat 0))]⟩) m10)) lf [(.slice none 0 0), (.int .i64 (.ofNat 0))] m7))
theorem S40_ok (lf : Nat) (cK : CallK β) (args : List Value) (L : Nat) (m : Mem) (k : Value → Mem → Option β)  : S40 lf cK args L m k = denF Tryd.prog 1 K40 lf cK 40 args L m k := by kernel_rfl

/-- vitola/vitolaref13.Pairs -/
def K41 : Kat := [(185, (0, [4, 5])), (11922, (0, [4]))]
noncomputable def S41 (lf : Nat) : FnK β := fun call args L m k =>
 uc args fun t0 l1 =>
 un0 l1 (call 65 [t0, (.int .i64 (.ofNat 1)), (.int .i64 (.ofNat 40))] L m fun t2 m3 =>
 oOpt (aun .not t2) fun t4 =>
 oIf t4 (k (.tuple ⟨[(.slice none 0 0), (.int .i64 (.ofNat 1))]⟩) m3) (oInt .add .i64 t0 (.int .i64 (.ofNat 1)) fun t5 =>
 loopS (fun j8 l6 m7 =>
 uc l6 fun t9 l10 =>
 uc l10 fun t11 l12 =>
 oInt .mul .i64 (.int .i64 (.ofNat 2)) t0 fun t13 =>
 oInt .lss .i64 t11 t13 fun t14 =>
 oIf t14 (oOpt (bu Tryd.prog 24 [(0, (.int .i64 (.ofNat 1))), (1, t0)]) fun t15 =>
 call 54 [t15, t11] L m7 fun t16 m17 =>
 oRes (anew m17 1 [(.int .i64 (.ofNat 0)), (.int .i64 (.ofNat 0))] ptrTo) fun t18 m19 =>
 oRes (st1 2 L m19 t18 t16) fun t20 m21 =>
 oOpt (fa 0 t18) fun t22 =>
 oOpt (ld1 m21 t22) fun t23 =>
 oInt .eql .i64 t23 (.int .i64 (.ofNat 1)) fun t24 =>
 join (fun l25 m26 =>
 uc l25 fun t28 l29 =>
 oInt .add .i64 t11 (.int .i64 (.ofNat 1)) fun t30 =>
 j8 [t28, t30] m26) fun j27 =>
 oIf t24 (oOpt (fa 1 t18) fun t31 =>
 oOpt (ld1 m21 t31) fun t32 =>
 oOpt (bu Tryd.prog 68 [(0, t11), (1, t32)]) fun t33 =>
 oRes (bs Tryd.prog m21 52 1 [(0, t33)]) fun t34 m35 =>
 oRes (aappend Tryd.prog L m35 52 t9 t34) fun t36 m37 =>
 j27 [t36] m37) (j27 [t9] m21)) (k (.tuple ⟨[t9, (.int .i64 (.ofNat 0))]⟩) m7)) lf [(.slice none 0 0), t5] m3))
theorem S41_ok (lf : Nat) (cK : CallK β) (args : List Value) (L : Nat) (m : Mem) (k : Value → Mem → Option β)  : S41 lf cK args L m k = denF Tryd.prog 1 K41 lf cK 41 args L m k := by kernel_rfl

/-- vitola/vitolalaw13.pairs -/
def K42 : Kat := [(89, (0, [5]))]
noncomputable def S42 (lf : Nat) : FnK β := fun call args L m k =>
 uc args fun t0 l1 =>
 uc l1 fun t2 l3 =>
 un0 l3 (oOpt (ln t0) fun t4 =>
 oOpt (ln t2) fun t5 =>
 oInt .neq .i64 t4 t5 fun t6 =>
 oIf t6 (k (.bool false) m) (loopS (fun j9 l7 m8 =>
 uc l7 fun t10 l11 =>
 oOpt (ln t0) fun t12 =>
 oInt .lss .i64 t10 t12 fun t13 =>
 oIf t13 (oOpt (ia 2 t0 t10) fun t14 =>
 oOpt (ldN m8 2 t14) fun t15 =>
 oOpt (ia 2 t2 t10) fun t16 =>
 oOpt (ldN m8 2 t16) fun t17 =>
 oOpt (abin Tryd.prog .neq 68 t15 t17) fun t18 =>
 oIf t18 (k (.bool false) m8) (oInt .add .i64 t10 (.int .i64 (.ofNat 1)) fun t19 =>
 j9 [t19] m8)) (k (.bool true) m8)) lf [(.int .i64 (.ofNat 0))] m))
theorem S42_ok (lf : Nat) (cK : CallK β) (args : List Value) (L : Nat) (m : Mem) (k : Value → Mem → Option β)  : S42 lf cK args L m k = denF Tryd.prog 1 K42 lf cK 42 args L m k := by kernel_rfl

/-- (vitola/vitolalaw13.Part).made -/
def K43 : Kat := []
noncomputable def S43 (lf : Nat) : FnK β := fun call args L m k =>
 uc args fun t0 l1 =>
 un0 l1 (oRes (abox m t0) fun t2 m3 =>
 oRes (anew m3 1 [(.int .i64 (.ofNat 0)), (.int .i64 (.ofNat 0))] ptrTo) fun t4 m5 =>
 oOpt (fa 1 t2) fun t6 =>
 oOpt (ld1 m5 t6) fun t7 =>
 oCv .i64 t7 fun t8 =>
 oInt .rem .i64 t8 (.int .i64 (.ofNat 29)) fun t9 =>
 oInt .add .i64 (.int .i64 (.ofNat 2)) t9 fun t10 =>
 oOpt (fa 0 t2) fun t11 =>
 oOpt (ld1 m5 t11) fun t12 =>
 oCv .i64 t12 fun t13 =>
 oInt .sub .i64 t10 (.int .i64 (.ofNat 1)) fun t14 =>
 oInt .rem .i64 t13 t14 fun t15 =>
 oInt .add .i64 (.int .i64 (.ofNat 1)) t15 fun t16 =>
 call 48 [t16, t10] L m5 fun t17 m18 =>
 oRes (st1 2 L m18 t4 t17) fun t19 m20 =>
 oOpt (ldN m20 2 t4) fun t21 =>
 k t21 m20)
theorem S43_ok (lf : Nat) (cK : CallK β) (args : List Value) (L : Nat) (m : Mem) (k : Value → Mem → Option β)  : S43 lf cK args L m k = denF Tryd.prog 1 K43 lf cK 43 args L m k := by kernel_rfl

/-- vitola/vitolalaw13.common -/
def K44 : Kat := [(19, (0, [0, 1]))]
noncomputable def S44 (lf : Nat) : FnK β := fun call args L m k =>
 uc args fun t0 l1 =>
 uc l1 fun t2 l3 =>
 un0 l3 (loopS (fun j6 l4 m5 =>
 uc l4 fun t7 l8 =>
 uc l8 fun t9 l10 =>
 oInt .gtr .i64 t9 (.int .i64 (.ofNat 0)) fun t11 =>
 oIf t11 (oInt .rem .i64 t7 t9 fun t12 =>
 j6 [t9, t12] m5) (k t7 m5)) lf [t0, t2] m)
theorem S44_ok (lf : Nat) (cK : CallK β) (args : List Value) (L : Nat) (m : Mem) (k : Value → Mem → Option β)  : S44 lf cK args L m k = denF Tryd.prog 1 K44 lf cK 44 args L m k := by kernel_rfl

/-- vitola/vitolalaw13.one -/
def K45 : Kat := [(19, (1, [12]))]
noncomputable def S45 (lf : Nat) : FnK β := fun call args L m k =>
 uc args fun t0 l1 =>
 uc l1 fun t2 l3 =>
 un0 l3 (oInt .lss .i64 t0 (.int .i64 (.ofNat 1)) fun t4 =>
 join (fun l5 m6 =>
 uc l5 fun t8 l9 =>
 oPick t4 (.bool true) t8 fun t10 =>
 oIf t10 (k (.tuple ⟨[(.int .i64 (.ofNat 0)), (.bool false)]⟩) m6) (oInt .quo .i64 t2 t0 fun t11 =>
 k (.tuple ⟨[t11, (.bool true)]⟩) m6)) fun j7 =>
 oGF t4 (oInt .rem .i64 t2 t0 fun t12 =>
 oInt .neq .i64 t12 (.int .i64 (.ofNat 0)) fun t13 =>
 j7 [t13] m) (j7 [Go.undef] m))
theorem S45_ok (lf : Nat) (cK : CallK β) (args : List Value) (L : Nat) (m : Mem) (k : Value → Mem → Option β)  : S45 lf cK args L m k = denF Tryd.prog 1 K45 lf cK 45 args L m k := by kernel_rfl

/-- vitola/vitolalaw13.rest -/
def K46 : Kat := []
noncomputable def S46 (lf : Nat) : FnK β := fun call args L m k =>
 uc args fun t0 l1 =>
 uc l1 fun t2 l3 =>
 uc l3 fun t4 l5 =>
 un0 l5 (oInt .mul .i64 t0 t4 fun t6 =>
 oInt .sub .i64 t6 t2 fun t7 =>
 oInt .mul .i64 t2 t4 fun t8 =>
 k (.tuple ⟨[t7, t8]⟩) m)
theorem S46_ok (lf : Nat) (cK : CallK β) (args : List Value) (L : Nat) (m : Mem) (k : Value → Mem → Option β)  : S46 lf cK args L m k = denF Tryd.prog 1 K46 lf cK 46 args L m k := by kernel_rfl

/-- vitola/vitolalaw13.list -/
def K47 : Kat := []
noncomputable def S47 (lf : Nat) : FnK β := fun call args L m k =>
 uc args fun t0 l1 =>
 un0 l1 (k t0 m)
theorem S47_ok (lf : Nat) (cK : CallK β) (args : List Value) (L : Nat) (m : Mem) (k : Value → Mem → Option β)  : S47 lf cK args L m k = denF Tryd.prog 1 K47 lf cK 47 args L m k := by kernel_rfl

/-- vitola/vitolalaw13.of -/
def K48 : Kat := []
noncomputable def S48 (lf : Nat) : FnK β := fun call args L m k =>
 uc args fun t0 l1 =>
 uc l1 fun t2 l3 =>
 un0 l3 (oRes (anew m 1 [(.int .i64 (.ofNat 0)), (.int .i64 (.ofNat 0))] ptrTo) fun t4 m5 =>
 oOpt (bu Tryd.prog 23 [(0, t0), (1, t2)]) fun t6 =>
 oRes (st1 2 L m5 t4 t6) fun t7 m8 =>
 oOpt (ldN m8 2 t4) fun t9 =>
 k t9 m8)
theorem S48_ok (lf : Nat) (cK : CallK β) (args : List Value) (L : Nat) (m : Mem) (k : Value → Mem → Option β)  : S48 lf cK args L m k = denF Tryd.prog 1 K48 lf cK 48 args L m k := by kernel_rfl

/-- vitola/vitolalaw13.DutyFew$1 -/
def K49 : Kat := [(42, (0, []))]
noncomputable def S49 (lf : Nat) : FnK β := fun call args L m k =>
 uc args fun t0 l1 =>
 uc l1 fun t2 l3 =>
 uc l3 fun t4 l5 =>
 un0 l5 (oOpt (ln t0) fun t6 =>
 oInt .sub .i64 t6 (.int .i64 (.ofNat 1)) fun t7 =>
 oOpt (ia 1 t0 t7) fun t8 =>
 oOpt (ld1 m t8) fun t9 =>
 oInt .gtr .i64 t9 (.int .i64 (.ofNat 2000)) fun t10 =>
 oIf t10 (k (.tuple ⟨[]⟩) m) (oOpt (ln t0) fun t11 =>
 oOpt (iaA 4 1 t2 t11) fun t12 =>
 oOpt (ld1 m t12) fun t13 =>
 oInt .eql .i64 t13 (.int .i64 (.ofNat 0)) fun t14 =>
 join (fun l15 m16 =>
 oOpt (ln t0) fun t18 =>
 oOpt (iaA 4 1 t2 t18) fun t19 =>
 oOpt (ld1 m16 t19) fun t20 =>
 oInt .add .i64 t20 (.int .i64 (.ofNat 1)) fun t21 =>
 oOpt (iaA 4 1 t2 t18) fun t22 =>
 oRes (st1 1 L m16 t22 t21) fun t23 m24 =>
 k (.tuple ⟨[]⟩) m24) fun j17 =>
 oIf t14 (oOpt (iaA 4 1 t4 t11) fun t25 =>
 oRes (st1 1 L m t25 t0) fun t26 m27 =>
 j17 [] m27) (j17 [] m)))
theorem S49_ok (lf : Nat) (cK : CallK β) (args : List Value) (L : Nat) (m : Mem) (k : Value → Mem → Option β)  : S49 lf cK args L m k = denF Tryd.prog 1 K49 lf cK 49 args L m k := by kernel_rfl

/-- vitola/vitolalaw13.some -/
def K50 : Kat := [(89, (0, [5, 12])), (23142, (0, [5]))]
noncomputable def S50 (lf : Nat) : FnK β := fun call args L m k =>
 uc args fun t0 l1 =>
 uc l1 fun t2 l3 =>
 un0 l3 (oRes (abox m t0) fun t4 m5 =>
 oOpt (sl Tryd.prog 74 t4 none (some t2) none) fun t6 =>
 oOpt (ln t6) fun t7 =>
 loopS (fun j10 l8 m9 =>
 uc l8 fun t11 l12 =>
 uc l12 fun t13 l14 =>
 oInt .lss .i64 t13 t7 fun t15 =>
 oIf t15 (oOpt (ia 1 t6 t13) fun t16 =>
 oOpt (ld1 m9 t16) fun t17 =>
 oCv .i64 t17 fun t18 =>
 oInt .rem .i64 t18 (.int .i64 (.ofNat 1999)) fun t19 =>
 oInt .add .i64 (.int .i64 (.ofNat 2)) t19 fun t20 =>
 call 51 [t11, t20] L m9 fun t21 m22 =>
 oOpt (aun .not t21) fun t23 =>
 join (fun l24 m25 =>
 uc l24 fun t27 l28 =>
 oInt .add .i64 t13 (.int .i64 (.ofNat 1)) fun t29 =>
 j10 [t27, t29] m25) fun j26 =>
 oIf t23 (oRes (bs Tryd.prog m22 30 1 [(0, t20)]) fun t30 m31 =>
 oRes (aappend Tryd.prog L m31 30 t11 t30) fun t32 m33 =>
 j26 [t32] m33) (j26 [t11] m22)) (call 71 [t11] L m9 fun t34 m35 =>
 k t11 m35)) lf [(.slice none 0 0), (.int .i64 (.ofNat 0))] m5)
theorem S50_ok (lf : Nat) (cK : CallK β) (args : List Value) (L : Nat) (m : Mem) (k : Value → Mem → Option β)  : S50 lf cK args L m k = denF Tryd.prog 1 K50 lf cK 50 args L m k := by kernel_rfl

/-- slices.Contains[[]int,int] -/
def K51 : Kat := []
noncomputable def S51 (lf : Nat) : FnK β := fun call args L m k =>
 uc args fun t0 l1 =>
 uc l1 fun t2 l3 =>
 un0 l3 (call 74 [t0, t2] L m fun t4 m5 =>
 oInt .geq .i64 t4 (.int .i64 (.ofNat 0)) fun t6 =>
 k t6 m5)
theorem S51_ok (lf : Nat) (cK : CallK β) (args : List Value) (L : Nat) (m : Mem) (k : Value → Mem → Option β)  : S51 lf cK args L m k = denF Tryd.prog 1 K51 lf cK 51 args L m k := by kernel_rfl

/-- vitola/duty.opened -/
def K52 : Kat := [(4, (0, [])), (185, (0, [14])), (23857, (1, [27])), (23858, (0, [])), (345, (0, [14])), (44337, (1, [27])), (44338, (0, []))]
noncomputable def S52 (lf : Nat) : FnK β := fun call args L m k =>
 uc args fun t0 l1 =>
 un0 l1 (oRes (abox m t0) fun t2 m3 =>
 oRes (anew m3 1 [(.int .i64 (.ofNat 0)), (.int .i64 (.ofNat 0))] ptrTo) fun t4 m5 =>
 join (fun l9 m10 =>
 loopS (fun j8 l6 m7 =>
 oOpt (ldN m7 12 (.pointer (some ⟨0, 0, none⟩))) fun t12 =>
 loopS (fun j15 l13 m14 =>
 uc l13 fun t16 l17 =>
 oInt .lss .i64 t16 (.int .i64 (.ofNat 12)) fun t18 =>
 oIf t18 (oOpt (aindex Tryd.prog 101 t12 t16) fun t19 =>
 oOpt (fa 0 t2) fun t20 =>
 oOpt (ld1 m14 t20) fun t21 =>
 oInt .rem .i64 t21 t19 fun t22 =>
 oInt .eql .i64 t22 (.int .i64 (.ofNat 0)) fun t23 =>
 join (fun l24 m25 =>
 uc l24 fun t27 l28 =>
 oPick t23 t27 (.bool false) fun t29 =>
 join (fun l30 m31 =>
 oInt .add .i64 t16 (.int .i64 (.ofNat 1)) fun t33 =>
 j15 [t33] m31) fun j32 =>
 oIf t29 (oOpt (fa 0 t2) fun t34 =>
 oOpt (ld1 m25 t34) fun t35 =>
 oInt .quo .i64 t35 t19 fun t36 =>
 oOpt (fa 1 t2) fun t37 =>
 oOpt (ld1 m25 t37) fun t38 =>
 oInt .quo .i64 t38 t19 fun t39 =>
 oOpt (bu Tryd.prog 23 [(0, t36), (1, t39)]) fun t40 =>
 oRes (st1 2 L m25 t2 t40) fun t41 m42 =>
 j8 [] m42) (j32 [] m25)) fun j26 =>
 oGT t23 (oOpt (fa 1 t2) fun t43 =>
 oOpt (ld1 m14 t43) fun t44 =>
 oInt .rem .i64 t44 t19 fun t45 =>
 oInt .eql .i64 t45 (.int .i64 (.ofNat 0)) fun t46 =>
 j26 [t46] m14) (j26 [Go.undef] m14)) (oOpt (ldN m14 2 t2) fun t47 =>
 oRes (st1 2 L m14 t4 t47) fun t48 m49 =>
 oOpt (ldN m49 2 t4) fun t50 =>
 k (.tuple ⟨[t50, (.int .i64 (.ofNat 0))]⟩) m49)) lf [(.int .i64 (.ofNat 0))] m7) lf l9 m10) fun j11 =>
 oOpt (ldN m5 2 t2) fun t51 =>
 call 21 [t51] L m5 fun t52 m53 =>
 oInt .neq .i64 t52 (.int .i64 (.ofNat 0)) fun t54 =>
 oIf t54 (oOpt (bu Tryd.prog 23 []) fun t55 =>
 oRes (st1 2 L m53 t4 t55) fun t56 m57 =>
 oOpt (ldN m57 2 t4) fun t58 =>
 k (.tuple ⟨[t58, t52]⟩) m57) (oOpt (ldN m53 12 (.pointer (some ⟨0, 0, none⟩))) fun t59 =>
 loopS (fun j62 l60 m61 =>
 uc l60 fun t63 l64 =>
 oInt .lss .i64 t63 (.int .i64 (.ofNat 12)) fun t65 =>
 oIf t65 (oOpt (aindex Tryd.prog 101 t59 t63) fun t66 =>
 oOpt (fa 0 t2) fun t67 =>
 oOpt (ld1 m61 t67) fun t68 =>
 oInt .rem .i64 t68 t66 fun t69 =>
 oInt .eql .i64 t69 (.int .i64 (.ofNat 0)) fun t70 =>
 join (fun l71 m72 =>
 uc l71 fun t74 l75 =>
 oPick t70 t74 (.bool false) fun t76 =>
 join (fun l77 m78 =>
 oInt .add .i64 t63 (.int .i64 (.ofNat 1)) fun t80 =>
 j62 [t80] m78) fun j79 =>
 oIf t76 (oOpt (fa 0 t2) fun t81 =>
 oOpt (ld1 m72 t81) fun t82 =>
 oInt .quo .i64 t82 t66 fun t83 =>
 oOpt (fa 1 t2) fun t84 =>
 oOpt (ld1 m72 t84) fun t85 =>
 oInt .quo .i64 t85 t66 fun t86 =>
 oOpt (bu Tryd.prog 23 [(0, t83), (1, t86)]) fun t87 =>
 oRes (st1 2 L m72 t2 t87) fun t88 m89 =>
 j11 [] m89) (j79 [] m72)) fun j73 =>
 oGT t70 (oOpt (fa 1 t2) fun t90 =>
 oOpt (ld1 m61 t90) fun t91 =>
 oInt .rem .i64 t91 t66 fun t92 =>
 oInt .eql .i64 t92 (.int .i64 (.ofNat 0)) fun t93 =>
 j73 [t93] m61) (j73 [Go.undef] m61)) (oOpt (ldN m61 2 t2) fun t94 =>
 oRes (st1 2 L m61 t4 t94) fun t95 m96 =>
 oOpt (ldN m96 2 t4) fun t97 =>
 k (.tuple ⟨[t97, (.int .i64 (.ofNat 0))]⟩) m96)) lf [(.int .i64 (.ofNat 0))] m53))
theorem S52_ok (lf : Nat) (cK : CallK β) (args : List Value) (L : Nat) (m : Mem) (k : Value → Mem → Option β)  : S52 lf cK args L m k = denF Tryd.prog 1 K52 lf cK 52 args L m k := by kernel_rfl

/-- vitola/vitolaref13.reduced -/
def K53 : Kat := []
noncomputable def S53 (lf : Nat) : FnK β := fun call args L m k =>
 uc args fun t0 l1 =>
 un0 l1 (oRes (abox m t0) fun t2 m3 =>
 oRes (anew m3 1 [(.int .i64 (.ofNat 0)), (.int .i64 (.ofNat 0))] ptrTo) fun t4 m5 =>
 oOpt (fa 0 t2) fun t6 =>
 oOpt (ld1 m5 t6) fun t7 =>
 oOpt (fa 1 t2) fun t8 =>
 oOpt (ld1 m5 t8) fun t9 =>
 call 60 [t7, t9] L m5 fun t10 m11 =>
 oOpt (fa 0 t2) fun t12 =>
 oOpt (ld1 m11 t12) fun t13 =>
 oInt .quo .i64 t13 t10 fun t14 =>
 oOpt (fa 1 t2) fun t15 =>
 oOpt (ld1 m11 t15) fun t16 =>
 oInt .quo .i64 t16 t10 fun t17 =>
 oOpt (bu Tryd.prog 24 [(0, t14), (1, t17)]) fun t18 =>
 oRes (st1 2 L m11 t4 t18) fun t19 m20 =>
 oOpt (ldN m20 2 t4) fun t21 =>
 k t21 m20)
theorem S53_ok (lf : Nat) (cK : CallK β) (args : List Value) (L : Nat) (m : Mem) (k : Value → Mem → Option β)  : S53 lf cK args L m k = denF Tryd.prog 1 K53 lf cK 53 args L m k := by kernel_rfl

/-- vitola/vitolaref13.less -/
def K54 : Kat := []
noncomputable def S54 (lf : Nat) : FnK β := fun call args L m k =>
 uc args fun t0 l1 =>
 uc l1 fun t2 l3 =>
 un0 l3 (oRes (abox m t0) fun t4 m5 =>
 oRes (anew m5 1 [(.int .i64 (.ofNat 0)), (.int .i64 (.ofNat 0))] ptrTo) fun t6 m7 =>
 oOpt (fa 0 t4) fun t8 =>
 oOpt (ld1 m7 t8) fun t9 =>
 oInt .mul .i64 t9 t2 fun t10 =>
 oOpt (fa 1 t4) fun t11 =>
 oOpt (ld1 m7 t11) fun t12 =>
 oInt .sub .i64 t10 t12 fun t13 =>
 oOpt (fa 1 t4) fun t14 =>
 oOpt (ld1 m7 t14) fun t15 =>
 oInt .mul .i64 t15 t2 fun t16 =>
 oOpt (bu Tryd.prog 24 [(0, t13), (1, t16)]) fun t17 =>
 call 53 [t17] L m7 fun t18 m19 =>
 oRes (st1 2 L m19 t6 t18) fun t20 m21 =>
 oOpt (ldN m21 2 t6) fun t22 =>
 k t22 m21)
theorem S54_ok (lf : Nat) (cK : CallK β) (args : List Value) (L : Nat) (m : Mem) (k : Value → Mem → Option β)  : S54 lf cK args L m k = denF Tryd.prog 1 K54 lf cK 54 args L m k := by kernel_rfl

/-- vitola/duty.sides -/
def K55 : Kat := [(45, (0, [14])), (11877, (0, [24])), (1520433, (1, [39])), (1520433, (3, [46]))]
noncomputable def S55 (lf : Nat) : FnK β := fun call args L m k =>
 uc args fun t0 l1 =>
 uc l1 fun t2 l3 =>
 un0 l3 (oRes (abox m t0) fun t4 m5 =>
 oOpt (fa 1 t4) fun t6 =>
 oOpt (ld1 m5 t6) fun t7 =>
 call 73 [t7] L m5 fun t8 m9 =>
 oOpt (ln t8) fun t10 =>
 loopS (fun j13 l11 m12 =>
 uc l11 fun t14 l15 =>
 oInt .lss .i64 t14 t10 fun t16 =>
 oIf t16 (oOpt (ia 1 t8 t14) fun t17 =>
 oOpt (ld1 m12 t17) fun t18 =>
 oInt .add .i64 t14 (.int .i64 (.ofNat 1)) fun t19 =>
 oOpt (sl Tryd.prog 30 t8 (some t19) none none) fun t20 =>
 oOpt (ln t20) fun t21 =>
 loopS (fun j24 l22 m23 =>
 uc l22 fun t25 l26 =>
 oInt .lss .i64 t25 t21 fun t27 =>
 oIf t27 (oOpt (ia 1 t20 t25) fun t28 =>
 oOpt (ld1 m23 t28) fun t29 =>
 call 67 [t18, t29] L m23 fun t30 m31 =>
 oInt .eql .i64 t30 (.int .i64 (.ofNat 1)) fun t32 =>
 join (fun l33 m34 =>
 uc l33 fun t36 l37 =>
 oPick t32 t36 (.bool false) fun t38 =>
 join (fun l39 m40 =>
 uc l39 fun t42 l43 =>
 oPick t38 t42 (.bool false) fun t44 =>
 oIf t44 (k (.tuple ⟨[]⟩) m40) (oInt .add .i64 t25 (.int .i64 (.ofNat 1)) fun t45 =>
 j24 [t45] m40)) fun j41 =>
 oGT t38 (oCallV call t2 [t18, t29] L m34 fun t46 m47 =>
 oOpt (aun .not t46) fun t48 =>
 j41 [t48] m47) (j41 [Go.undef] m34)) fun j35 =>
 oGT t32 (oInt .add .i64 t18 t29 fun t49 =>
 oOpt (fa 0 t4) fun t50 =>
 oOpt (ld1 m31 t50) fun t51 =>
 oInt .rem .i64 t49 t51 fun t52 =>
 oInt .eql .i64 t52 (.int .i64 (.ofNat 0)) fun t53 =>
 j35 [t53] m31) (j35 [Go.undef] m31)) (oInt .add .i64 t14 (.int .i64 (.ofNat 1)) fun t54 =>
 j13 [t54] m23)) lf [(.int .i64 (.ofNat 0))] m12) (k (.tuple ⟨[]⟩) m12)) lf [(.int .i64 (.ofNat 0))] m9)
theorem S55_ok (lf : Nat) (cK : CallK β) (args : List Value) (L : Nat) (m : Mem) (k : Value → Mem → Option β)  : S55 lf cK args L m k = denF Tryd.prog 1 K55 lf cK 55 args L m k := by kernel_rfl

end
end Go.Vit
