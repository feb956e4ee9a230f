/- Shallow texts of the seat's functions, printed by a program: part 1. -/
import Derived.Test.YtppallabmjdolaaDoorRows
import Derived.Test.YtppallabmjdolaaDoorFs
set_option linter.unusedVariables false
set_option maxRecDepth 100000
namespace Go.Vit
open Go Go.Proofs
section
variable {β : Type}
/-- vitola/wrap.Mark -/
def K7 : Kat := [(357, (1, [20]))]
noncomputable def S7 (lf : Nat) : FnK β := fun call args L m k =>
 uc args fun t0 l1 =>
 uc l1 fun t2 l3 =>
 un0 l3 (oRes (abox m t0) fun t4 m5 =>
 oOpt (ldN m5 3 t4) fun t6 =>
 call 13 [t6] L m5 fun t7 m8 =>
 oInt .neq .i64 t7 (.int .i64 (.ofNat 0)) fun t9 =>
 oIf t9 (k (.tuple ⟨[(.int .i64 (.ofNat 0)), t7]⟩) m8) (oInt .lss .i64 t2 (.int .i64 (.ofNat 0)) fun t10 =>
 join (fun l11 m12 =>
 uc l11 fun t14 l15 =>
 oPick t10 (.bool true) t14 fun t16 =>
 oIf t16 (k (.tuple ⟨[(.int .i64 (.ofNat 0)), (.int .i64 (.ofNat 2))]⟩) m12) (oOpt (ldN m12 3 t4) fun t17 =>
 call 30 [t17, t2] L m12 fun t18 m19 =>
 k (.tuple ⟨[t18, (.int .i64 (.ofNat 0))]⟩) m19)) fun j13 =>
 oGF t10 (oOpt (fa 2 t4) fun t20 =>
 oOpt (ld1 m8 t20) fun t21 =>
 oInt .geq .i64 t2 t21 fun t22 =>
 j13 [t22] m8) (j13 [Go.undef] m8)))
theorem S7_ok (lf : Nat) (cK : CallK β) (args : List Value) (L : Nat) (m : Mem) (k : Value → Mem → Option β)  : S7 lf cK args L m k = denF Tryd.prog fsT 2 K7 lf cK 7 args L m k := by kernel_rfl

/-- vitola/dock.Turns -/
def K8 : Kat := [(185, (0, [24])), (47715, (0, [9])), (761, (0, [10, 43])), (97586, (0, [10]))]
noncomputable def S8 (lf : Nat) : FnK β := fun call args L m k =>
 uc args fun t0 l1 =>
 uc l1 fun t2 l3 =>
 un0 l3 (call 31 [t0, t0, t2] L m fun t4 m5 =>
 oInt .neq .i64 t4 (.int .i64 (.ofNat 0)) fun t6 =>
 oIf t6 (k (.tuple ⟨[(.slice none 0 0), t4]⟩) m5) (oInt .add .i64 t0 (.int .i64 (.ofNat 1)) fun t7 =>
 oRes (amakeSlice Tryd.prog m5 59 t7 t7) fun t8 m9 =>
 oOpt (ln t2) fun t10 =>
 loopS (fun j13 l11 m12 =>
 uc l11 fun t14 l15 =>
 oInt .lss .i64 t14 t10 fun t16 =>
 oIf t16 (oOpt (ia 1 t2 t14) fun t17 =>
 oOpt (ld1 m12 t17) fun t18 =>
 loopS (fun j21 l19 m20 =>
 uc l19 fun t22 l23 =>
 oOpt (ia 1 t8 t22) fun t24 =>
 oOpt (ld1 m20 t24) fun t25 =>
 oIf t25 (oInt .add .i64 t22 (.int .i64 (.ofNat 1)) fun t26 =>
 oInt .add .i64 t0 (.int .i64 (.ofNat 1)) fun t27 =>
 oInt .rem .i64 t26 t27 fun t28 =>
 j21 [t28] m20) (oOpt (ia 1 t8 t22) fun t29 =>
 oRes (st1 1 L m20 t29 (.bool true)) fun t30 m31 =>
 oInt .add .i64 t14 (.int .i64 (.ofNat 1)) fun t32 =>
 j13 [t32] m31)) lf [t18] m12) (oInt .add .i64 t0 (.int .i64 (.ofNat 1)) fun t33 =>
 loopS (fun j36 l34 m35 =>
 uc l34 fun t37 l38 =>
 uc l38 fun t39 l40 =>
 oInt .lss .i64 t39 t33 fun t41 =>
 oIf t41 (oInt .sub .i64 t0 t39 fun t42 =>
 oOpt (ia 1 t8 t42) fun t43 =>
 oOpt (ld1 m35 t43) fun t44 =>
 oOpt (aun .not t44) fun t45 =>
 join (fun l46 m47 =>
 uc l46 fun t49 l50 =>
 oInt .add .i64 t39 (.int .i64 (.ofNat 1)) fun t51 =>
 j36 [t49, t51] m47) fun j48 =>
 oIf t45 (oRes (bs Tryd.prog m35 25 1 [(0, t39)]) fun t52 m53 =>
 oRes (aappend Tryd.prog L m53 25 t37 t52) fun t54 m55 =>
 j48 [t54] m55) (j48 [t37] m35)) (k (.tuple ⟨[t37, (.int .i64 (.ofNat 0))]⟩) m35)) lf [(.slice none 0 0), (.int .i64 (.ofNat 0))] m12)) lf [(.int .i64 (.ofNat 0))] m9))
theorem S8_ok (lf : Nat) (cK : CallK β) (args : List Value) (L : Nat) (m : Mem) (k : Value → Mem → Option β)  : S8 lf cK args L m k = denF Tryd.prog fsT 2 K8 lf cK 8 args L m k := by kernel_rfl

/-- vitola/dock.Lucky -/
def K9 : Kat := [(185, (0, [8, 20])), (95436, (0, [8])), (763498, (0, [8]))]
noncomputable def S9 (lf : Nat) : FnK β := fun call args L m k =>
 uc args fun t0 l1 =>
 uc l1 fun t2 l3 =>
 un0 l3 (call 32 [t0, t2] L m fun t4 m5 =>
 oOpt (aextract t4 0) fun t6 =>
 oOpt (aextract t4 1) fun t7 =>
 oOpt (ln t6) fun t8 =>
 loopS (fun j11 l9 m10 =>
 uc l9 fun t12 l13 =>
 uc l13 fun t14 l15 =>
 oInt .lss .i64 t14 t8 fun t16 =>
 oIf t16 (oOpt (ia 1 t6 t14) fun t17 =>
 oOpt (ld1 m10 t17) fun t18 =>
 oOpt (aassert Tryd.prog t18 66 true) fun t19 =>
 oOpt (aextract t19 1) fun t20 =>
 oOpt (aextract t19 0) fun t21 =>
 join (fun l22 m23 =>
 uc l22 fun t25 l26 =>
 oInt .add .i64 t14 (.int .i64 (.ofNat 1)) fun t27 =>
 j11 [t25, t27] m23) fun j24 =>
 oIf t20 (oRes (anew m10 1 [(.int .i64 (.ofNat 0)), (.int .i64 (.ofNat 0))] ptrTo) fun t28 m29 =>
 oRes (st1 2 L m29 t28 t21) fun t30 m31 =>
 oOpt (fa 1 t28) fun t32 =>
 oOpt (ld1 m31 t32) fun t33 =>
 oInt .eql .i64 t33 (.int .i64 (.ofNat 0)) fun t34 =>
 join (fun l35 m36 =>
 uc l35 fun t38 l39 =>
 j24 [t38] m36) fun j37 =>
 oIf t34 (oInt .add .i64 t12 (.int .i64 (.ofNat 1)) fun t40 =>
 j37 [t40] m31) (j37 [t12] m31)) (j24 [t12] m10)) (k (.tuple ⟨[t12, t7]⟩) m10)) lf [(.int .i64 (.ofNat 0)), (.int .i64 (.ofNat 0))] m5)
theorem S9_ok (lf : Nat) (cK : CallK β) (args : List Value) (L : Nat) (m : Mem) (k : Value → Mem → Option β)  : S9 lf cK args L m k = denF Tryd.prog fsT 2 K9 lf cK 9 args L m k := by kernel_rfl

/-- vitola/vitolatop.turnsWork -/
def K10 : Kat := [(45, (1, [20])), (45, (3, [26])), (45, (5, [32])), (45, (7, [35]))]
noncomputable def S10 (lf : Nat) : FnK β := fun call args L m k =>
 un0 args (oOpt (bu Tryd.prog 23 [(0, (.int .i64 (.ofNat 12))), (1, (.int .i64 (.ofNat 5))), (2, (.int .i64 (.ofNat 4)))]) fun t0 =>
 call 33 [t0] L m fun t1 m2 =>
 oOpt (aextract t1 0) fun t3 =>
 oOpt (aextract t1 1) fun t4 =>
 oRes (bs Tryd.prog m2 25 2 [(0, (.int .i64 (.ofNat 2))), (1, (.int .i64 (.ofNat 0)))]) fun t5 m6 =>
 call 34 [t5] L m6 fun t7 m8 =>
 call 8 [(.int .i64 (.ofNat 4)), t7] L m8 fun t9 m10 =>
 oOpt (aextract t9 0) fun t11 =>
 oOpt (aextract t9 1) fun t12 =>
 oInt .eql .i64 t4 (.int .i64 (.ofNat 0)) fun t13 =>
 join (fun l14 m15 =>
 uc l14 fun t17 l18 =>
 oPick t13 t17 (.bool false) fun t19 =>
 join (fun l20 m21 =>
 uc l20 fun t23 l24 =>
 oPick t19 t23 (.bool false) fun t25 =>
 join (fun l26 m27 =>
 uc l26 fun t29 l30 =>
 oPick t25 t29 (.bool false) fun t31 =>
 join (fun l32 m33 =>
 uc l32 fun t35 l36 =>
 oPick t31 t35 (.bool false) fun t37 =>
 k t37 m33) fun j34 =>
 oGT t31 (call 35 [] L m27 fun t38 m39 =>
 j34 [t38] m39) (j34 [Go.undef] m27)) fun j28 =>
 oGT t25 (oRes (bs Tryd.prog m21 25 3 [(0, (.int .i64 (.ofNat 0))), (1, (.int .i64 (.ofNat 1))), (2, (.int .i64 (.ofNat 3)))]) fun t40 m41 =>
 call 34 [t40] L m41 fun t42 m43 =>
 call 22 [t11, t42] L m43 fun t44 m45 =>
 j28 [t44] m45) (j28 [Go.undef] m21)) fun j22 =>
 oGT t19 (oRes (bs Tryd.prog m15 25 4 [(0, (.int .i64 (.ofNat 0))), (1, (.int .i64 (.ofNat 3))), (2, (.int .i64 (.ofNat 1))), (3, (.int .i64 (.ofNat 2)))]) fun t46 m47 =>
 call 34 [t46] L m47 fun t48 m49 =>
 call 22 [t3, t48] L m49 fun t50 m51 =>
 j22 [t50] m51) (j22 [Go.undef] m15)) fun j16 =>
 oGT t13 (oInt .eql .i64 t12 (.int .i64 (.ofNat 0)) fun t52 =>
 j16 [t52] m10) (j16 [Go.undef] m10))
theorem S10_ok (lf : Nat) (cK : CallK β) (args : List Value) (L : Nat) (m : Mem) (k : Value → Mem → Option β)  : S10 lf cK args L m k = denF Tryd.prog fsT 2 K10 lf cK 10 args L m k := by kernel_rfl

/-- vitola/vitolatop.divisor -/
def K11 : Kat := [(19, (0, [0, 1]))]
noncomputable def S11 (lf : Nat) : FnK β := fun call args L m k =>
 uc args fun t0 l1 =>
 uc l1 fun t2 l3 =>
 un0 l3 (loopS (fun j6 l4 m5 =>
 uc l4 fun t7 l8 =>
 uc l8 fun t9 l10 =>
 oInt .gtr .i64 t9 (.int .i64 (.ofNat 0)) fun t11 =>
 oIf t11 (oInt .rem .i64 t7 t9 fun t12 =>
 j6 [t9, t12] m5) (k t7 m5)) lf [t0, t2] m)
theorem S11_ok (lf : Nat) (cK : CallK β) (args : List Value) (L : Nat) (m : Mem) (k : Value → Mem → Option β)  : S11 lf cK args L m k = denF Tryd.prog fsT 2 K11 lf cK 11 args L m k := by kernel_rfl

/-- vitola/band.Make -/
def K12 : Kat := [(377, (0, [8, 17])), (193738, (0, [8, 9]))]
noncomputable def S12 (lf : Nat) : FnK β := fun call args L m k =>
 uc args fun t0 l1 =>
 uc l1 fun t2 l3 =>
 un0 l3 (call 36 [t0, t2] L m fun t4 m5 =>
 oInt .neq .i64 t4 (.int .i64 (.ofNat 0)) fun t6 =>
 oIf t6 (k (.tuple ⟨[(.string ⟨#[]⟩), t4]⟩) m5) (oRes (anew m5 1 [(.pointer none), (.slice none 0 0)] ptrTo) fun t7 m8 =>
 loopS (fun j11 l9 m10 =>
 uc l9 fun t12 l13 =>
 uc l13 fun t14 l15 =>
 oInt .lss .i64 t14 t0 fun t16 =>
 oIf t16 (oInt .add .i64 t12 t2 fun t17 =>
 oInt .geq .i64 t17 t0 fun t18 =>
 join (fun l19 m20 =>
 uc l19 fun t22 l23 =>
 uc l23 fun t24 l25 =>
 call 37 [t7, t24] L m20 fun t26 m27 =>
 oInt .add .i64 t14 (.int .i64 (.ofNat 1)) fun t28 =>
 j11 [t22, t28] m27) fun j21 =>
 oIf t18 (oInt .sub .i64 t17 t0 fun t29 =>
 j21 [t29, (.int .i32 (.ofNat 98))] m10) (j21 [t17, (.int .i32 (.ofNat 97))] m10)) (call 38 [t7] L m10 fun t30 m31 =>
 k (.tuple ⟨[t30, (.int .i64 (.ofNat 0))]⟩) m31)) lf [(.int .i64 (.ofNat 0)), (.int .i64 (.ofNat 0))] m8))
theorem S12_ok (lf : Nat) (cK : CallK β) (args : List Value) (L : Nat) (m : Mem) (k : Value → Mem → Option β)  : S12 lf cK args L m k = denF Tryd.prog fsT 2 K12 lf cK 12 args L m k := by kernel_rfl

/-- vitola/wrap.Check -/
def K13 : Kat := [(39, (1, [13]))]
noncomputable def S13 (lf : Nat) : FnK β := fun call args L m k =>
 uc args fun t0 l1 =>
 un0 l1 (oRes (abox m t0) fun t2 m3 =>
 oOpt (fa 0 t2) fun t4 =>
 oOpt (ld1 m3 t4) fun t5 =>
 oOpt (fa 1 t2) fun t6 =>
 oOpt (ld1 m3 t6) fun t7 =>
 call 39 [t5, t7] L m3 fun t8 m9 =>
 oOpt (aun .not t8) fun t10 =>
 join (fun l11 m12 =>
 uc l11 fun t14 l15 =>
 oPick t10 (.bool true) t14 fun t16 =>
 oIf t16 (k (.int .i64 (.ofNat 1)) m12) (oOpt (fa 2 t2) fun t17 =>
 oOpt (ld1 m12 t17) fun t18 =>
 oOpt (ldN m12 3 t2) fun t19 =>
 call 40 [t19] L m12 fun t20 m21 =>
 oSm m12 m21 t17 (
 oInt .gtr .i64 t18 t20 fun t22 =>
 oIf t22 (k (.int .i64 (.ofNat 3)) m21) (k (.int .i64 (.ofNat 0)) m21)))) fun j13 =>
 oGF t10 (oOpt (fa 2 t2) fun t23 =>
 oOpt (ld1 m9 t23) fun t24 =>
 oInt .lss .i64 t24 (.int .i64 (.ofNat 1)) fun t25 =>
 j13 [t25] m9) (j13 [Go.undef] m9))
theorem S13_ok (lf : Nat) (cK : CallK β) (args : List Value) (L : Nat) (m : Mem) (k : Value → Mem → Option β)  : S13 lf cK args L m k = denF Tryd.prog fsT 2 K13 lf cK 13 args L m k := by kernel_rfl

/-- vitola/band.Turn -/
def K14 : Kat := []
noncomputable def S14 (lf : Nat) : FnK β := fun call args L m k =>
 uc args fun t0 l1 =>
 uc l1 fun t2 l3 =>
 un0 l3 (call 41 [t0] L m fun t4 m5 =>
 oInt .neq .i64 t4 (.int .i64 (.ofNat 0)) fun t6 =>
 oIf t6 (k (.tuple ⟨[(.string ⟨#[]⟩), t4]⟩) m5) (oOpt (alen Tryd.prog 9 t0) fun t7 =>
 oInt .sub .i64 t7 (.int .i64 (.ofNat 1)) fun t8 =>
 call 42 [t2, (.int .i64 (.ofNat 0)), t8] L m5 fun t9 m10 =>
 oOpt (aun .not t9) fun t11 =>
 oIf t11 (k (.tuple ⟨[(.string ⟨#[]⟩), (.int .i64 (.ofNat 1))]⟩) m10) (oOpt (sl Tryd.prog 9 t0 (some t2) none none) fun t12 =>
 oOpt (sl Tryd.prog 9 t0 none (some t2) none) fun t13 =>
 oOpt (abin Tryd.prog .add 9 t12 t13) fun t14 =>
 k (.tuple ⟨[t14, (.int .i64 (.ofNat 0))]⟩) m10)))
theorem S14_ok (lf : Nat) (cK : CallK β) (args : List Value) (L : Nat) (m : Mem) (k : Value → Mem → Option β)  : S14 lf cK args L m k = denF Tryd.prog fsT 2 K14 lf cK 14 args L m k := by kernel_rfl

/-- vitola/band.Split -/
def K15 : Kat := [(91, (0, [7, 8, 9, 10])), (187, (1, [41]))]
noncomputable def S15 (lf : Nat) : FnK β := fun call args L m k =>
 uc args fun t0 l1 =>
 uc l1 fun t2 l3 =>
 un0 l3 (call 36 [t0, t2] L m fun t4 m5 =>
 oInt .neq .i64 t4 (.int .i64 (.ofNat 0)) fun t6 =>
 oIf t6 (k (.tuple ⟨[(.int .i64 (.ofNat 0)), t4]⟩) m5) (loopS (fun j9 l7 m8 =>
 uc l7 fun t10 l11 =>
 uc l11 fun t12 l13 =>
 uc l13 fun t14 l15 =>
 uc l15 fun t16 l17 =>
 oInt .neq .i64 t12 (.int .i64 (.ofNat 0)) fun t18 =>
 oIf t18 (oInt .quo .i64 t10 t12 fun t19 =>
 oInt .mul .i64 t19 t12 fun t20 =>
 oInt .sub .i64 t10 t20 fun t21 =>
 oInt .mul .i64 t19 t16 fun t22 =>
 oInt .sub .i64 t14 t22 fun t23 =>
 j9 [t12, t21, t16, t23] m8) (oInt .neq .i64 t10 (.int .i64 (.ofNat 1)) fun t24 =>
 join (fun l25 m26 =>
 uc l25 fun t28 l29 =>
 oPick t24 (.bool true) t28 fun t30 =>
 oIf t30 (k (.tuple ⟨[(.int .i64 (.ofNat 0)), (.int .i64 (.ofNat 12))]⟩) m26) (oInt .rem .i64 t14 t0 fun t31 =>
 oInt .add .i64 t31 t0 fun t32 =>
 oInt .rem .i64 t32 t0 fun t33 =>
 k (.tuple ⟨[t33, (.int .i64 (.ofNat 0))]⟩) m26)) fun j27 =>
 oGF t24 (oInt .eql .i64 t0 (.int .i64 (.ofNat 1)) fun t34 =>
 j27 [t34] m8) (j27 [Go.undef] m8))) lf [t0, t2, (.int .i64 (.ofNat 0)), (.int .i64 (.ofNat 1))] m5))
theorem S15_ok (lf : Nat) (cK : CallK β) (args : List Value) (L : Nat) (m : Mem) (k : Value → Mem → Option β)  : S15 lf cK args L m k = denF Tryd.prog fsT 2 K15 lf cK 15 args L m k := by kernel_rfl

/-- vitola/vitolatop.bandWorks -/
def K16 : Kat := [(21, (1, [11])), (21, (3, [14]))]
noncomputable def S16 (lf : Nat) : FnK β := fun call args L m k =>
 un0 args (call 12 [(.int .i64 (.ofNat 8)), (.int .i64 (.ofNat 3))] L m fun t0 m1 =>
 oOpt (aextract t0 0) fun t2 =>
 oOpt (aextract t0 1) fun t3 =>
 oInt .eql .i64 t3 (.int .i64 (.ofNat 0)) fun t4 =>
 join (fun l5 m6 =>
 uc l5 fun t8 l9 =>
 oPick t4 t8 (.bool false) fun t10 =>
 join (fun l11 m12 =>
 uc l11 fun t14 l15 =>
 oPick t10 t14 (.bool false) fun t16 =>
 k t16 m12) fun j13 =>
 oGT t10 (call 43 [] L m6 fun t17 m18 =>
 j13 [t17] m18) (j13 [Go.undef] m6)) fun j7 =>
 oGT t4 (oOpt (abin Tryd.prog .eql 9 t2 (.string ⟨#[97, 97, 98, 97, 97, 98, 97, 98]⟩)) fun t19 =>
 j7 [t19] m1) (j7 [Go.undef] m1))
theorem S16_ok (lf : Nat) (cK : CallK β) (args : List Value) (L : Nat) (m : Mem) (k : Value → Mem → Option β)  : S16 lf cK args L m k = denF Tryd.prog fsT 2 K16 lf cK 16 args L m k := by kernel_rfl

/-- vitola/wrap.Which -/
def K17 : Kat := [(357, (1, [21])), (185, (1, [36]))]
noncomputable def S17 (lf : Nat) : FnK β := fun call args L m k =>
 uc args fun t0 l1 =>
 uc l1 fun t2 l3 =>
 un0 l3 (oRes (abox m t0) fun t4 m5 =>
 oOpt (ldN m5 3 t4) fun t6 =>
 call 13 [t6] L m5 fun t7 m8 =>
 oInt .neq .i64 t7 (.int .i64 (.ofNat 0)) fun t9 =>
 oIf t9 (k (.tuple ⟨[(.int .i64 (.ofNat 0)), t7]⟩) m8) (oInt .lss .i64 t2 (.int .i64 (.ofNat 0)) fun t10 =>
 join (fun l11 m12 =>
 uc l11 fun t14 l15 =>
 oPick t10 (.bool true) t14 fun t16 =>
 oIf t16 (k (.tuple ⟨[(.int .i64 (.ofNat 0)), (.int .i64 (.ofNat 2))]⟩) m12) (oOpt (fa 0 t4) fun t17 =>
 oOpt (ld1 m12 t17) fun t18 =>
 oOpt (fa 1 t4) fun t19 =>
 oOpt (ld1 m12 t19) fun t20 =>
 call 44 [t18, t20, t2, t2] L m12 fun t21 m22 =>
 oInt .geq .i64 t21 (.int .i64 (.ofNat 0)) fun t23 =>
 join (fun l24 m25 =>
 uc l24 fun t27 l28 =>
 oPick t23 t27 (.bool false) fun t29 =>
 oIf t29 (k (.tuple ⟨[t21, (.int .i64 (.ofNat 0))]⟩) m25) (k (.tuple ⟨[(.int .i64 (.ofNat 0)), (.int .i64 (.ofNat 12))]⟩) m25)) fun j26 =>
 oGT t23 (oOpt (fa 2 t4) fun t30 =>
 oOpt (ld1 m22 t30) fun t31 =>
 oInt .lss .i64 t21 t31 fun t32 =>
 j26 [t32] m22) (j26 [Go.undef] m22))) fun j13 =>
 oGF t10 (oOpt (fa 0 t4) fun t33 =>
 oOpt (ld1 m8 t33) fun t34 =>
 oInt .geq .i64 t2 t34 fun t35 =>
 j13 [t35] m8) (j13 [Go.undef] m8)))
theorem S17_ok (lf : Nat) (cK : CallK β) (args : List Value) (L : Nat) (m : Mem) (k : Value → Mem → Option β)  : S17 lf cK args L m k = denF Tryd.prog fsT 2 K17 lf cK 17 args L m k := by kernel_rfl

/-- vitola/dock.Park -/
def K18 : Kat := [(185, (0, [8, 21])), (95436, (0, [8])), (381750, (0, [8]))]
noncomputable def S18 (lf : Nat) : FnK β := fun call args L m k =>
 uc args fun t0 l1 =>
 uc l1 fun t2 l3 =>
 un0 l3 (call 32 [t0, t2] L m fun t4 m5 =>
 oOpt (aextract t4 0) fun t6 =>
 oOpt (aextract t4 1) fun t7 =>
 oOpt (ln t6) fun t8 =>
 loopS (fun j11 l9 m10 =>
 uc l9 fun t12 l13 =>
 uc l13 fun t14 l15 =>
 oInt .lss .i64 t14 t8 fun t16 =>
 oIf t16 (oOpt (ia 1 t6 t14) fun t17 =>
 oOpt (ld1 m10 t17) fun t18 =>
 oOpt (aassert Tryd.prog t18 66 true) fun t19 =>
 oOpt (aextract t19 1) fun t20 =>
 oOpt (aextract t19 0) fun t21 =>
 join (fun l22 m23 =>
 uc l22 fun t25 l26 =>
 oInt .add .i64 t14 (.int .i64 (.ofNat 1)) fun t27 =>
 j11 [t25, t27] m23) fun j24 =>
 oIf t20 (oRes (anew m10 1 [(.int .i64 (.ofNat 0)), (.int .i64 (.ofNat 0))] ptrTo) fun t28 m29 =>
 oRes (st1 2 L m29 t28 t21) fun t30 m31 =>
 oOpt (fa 0 t28) fun t32 =>
 oOpt (ld1 m31 t32) fun t33 =>
 oRes (bs Tryd.prog m31 25 1 [(0, t33)]) fun t34 m35 =>
 oRes (aappend Tryd.prog L m35 25 t12 t34) fun t36 m37 =>
 j24 [t36] m37) (oOpt (aassert Tryd.prog t18 85 true) fun t38 =>
 oOpt (aextract t38 1) fun t39 =>
 oOpt (aextract t38 0) fun t40 =>
 join (fun l41 m42 =>
 uc l41 fun t44 l45 =>
 j24 [t44] m42) fun j43 =>
 oIf t39 (oRes (anew m10 1 [] ptrTo) fun t46 m47 =>
 oRes (st1 0 L m47 t46 t40) fun t48 m49 =>
 oRes (bs Tryd.prog m49 25 1 [(0, (.int .i64 (.negSucc 0)))]) fun t50 m51 =>
 oRes (aappend Tryd.prog L m51 25 t12 t50) fun t52 m53 =>
 j43 [t52] m53) (j43 [t12] m10))) (k (.tuple ⟨[t12, t7]⟩) m10)) lf [(.slice none 0 0), (.int .i64 (.ofNat 0))] m5)
theorem S18_ok (lf : Nat) (cK : CallK β) (args : List Value) (L : Nat) (m : Mem) (k : Value → Mem → Option β)  : S18 lf cK args L m k = denF Tryd.prog fsT 2 K18 lf cK 18 args L m k := by kernel_rfl

/-- vitola/dock.Serves -/
def K19 : Kat := [(21, (1, [18]))]
noncomputable def S19 (lf : Nat) : FnK β := fun call args L m k =>
 uc args fun t0 l1 =>
 uc l1 fun t2 l3 =>
 un0 l3 (call 32 [t0, t2] L m fun t4 m5 =>
 oOpt (aextract t4 0) fun t6 =>
 oOpt (aextract t4 1) fun t7 =>
 oInt .eql .i64 t7 (.int .i64 (.ofNat 0)) fun t8 =>
 join (fun l9 m10 =>
 uc l9 fun t12 l13 =>
 oPick t8 t12 (.bool false) fun t14 =>
 k (.tuple ⟨[t14, t7]⟩) m10) fun j11 =>
 oGT t8 (call 45 [t6] L m5 fun t15 m16 =>
 j11 [t15] m16) (j11 [Go.undef] m5))
theorem S19_ok (lf : Nat) (cK : CallK β) (args : List Value) (L : Nat) (m : Mem) (k : Value → Mem → Option β)  : S19 lf cK args L m k = denF Tryd.prog fsT 2 K19 lf cK 19 args L m k := by kernel_rfl

/-- vitola/heap.Keep -/
def K20 : Kat := []
noncomputable def S20 (lf : Nat) : FnK β := fun call args L m k =>
 uc args fun t0 l1 =>
 uc l1 fun t2 l3 =>
 un0 l3 (oRes (abox m t2) fun t4 m5 =>
 oOpt (ld1 m5 t4) fun t6 =>
 call 46 [t0, t6] L m5 fun t7 m8 =>
 oInt .neq .i64 t7 (.int .i64 (.ofNat 0)) fun t9 =>
 oIf t9 (k (.tuple ⟨[(.slice none 0 0), t7]⟩) m8) (call 47 [t0, (.func (.func 48) #[] ⟨[t4]⟩)] L m8 fun t10 m11 =>
 k (.tuple ⟨[t10, (.int .i64 (.ofNat 0))]⟩) m11))
theorem S20_ok (lf : Nat) (cK : CallK β) (args : List Value) (L : Nat) (m : Mem) (k : Value → Mem → Option β)  : S20 lf cK args L m k = denF Tryd.prog fsT 2 K20 lf cK 20 args L m k := by kernel_rfl

/-- vitola/heap.Finish -/
def K21 : Kat := [(377, (0, [7, 27])), (381, (0, [7])), (24449, (0, [42]))]
noncomputable def S21 (lf : Nat) : FnK β := fun call args L m k =>
 uc args fun t0 l1 =>
 uc l1 fun t2 l3 =>
 un0 l3 (call 46 [t0, t2] L m fun t4 m5 =>
 oInt .neq .i64 t4 (.int .i64 (.ofNat 0)) fun t6 =>
 oIf t6 (k (.tuple ⟨[(.int .i64 (.ofNat 0)), t4]⟩) m5) (call 49 [t0, t2] L m5 fun t7 m8 =>
 oOpt (aun .not t7) fun t9 =>
 oIf t9 (k (.tuple ⟨[(.int .i64 (.ofNat 0)), (.int .i64 (.ofNat 12))]⟩) m8) (oOpt (ln t0) fun t10 =>
 loopS (fun j13 l11 m12 =>
 uc l11 fun t14 l15 =>
 uc l15 fun t16 l17 =>
 oInt .lss .i64 t16 t10 fun t18 =>
 oIf t18 (oOpt (ia 2 t0 t16) fun t19 =>
 oOpt (ldN m12 2 t19) fun t20 =>
 oRes (anew m12 1 [(.int .i64 (.ofNat 0)), (.int .i64 (.ofNat 0))] ptrTo) fun t21 m22 =>
 oRes (st1 2 L m22 t21 t20) fun t23 m24 =>
 oOpt (fa 0 t21) fun t25 =>
 oOpt (ld1 m24 t25) fun t26 =>
 oOpt (abuiltin Tryd.prog .max #[3, 3] [t14, t26]) fun t27 =>
 oInt .add .i64 t16 (.int .i64 (.ofNat 1)) fun t28 =>
 j13 [t27, t28] m24) (call 50 [t0] L m12 fun t29 m30 =>
 loopS (fun j33 l31 m32 =>
 uc l31 fun t34 l35 =>
 oOpt (ln t0) fun t36 =>
 loopS (fun j39 l37 m38 =>
 uc l37 fun t40 l41 =>
 oInt .lss .i64 t40 t36 fun t42 =>
 oIf t42 (oOpt (ia 2 t0 t40) fun t43 =>
 oOpt (ldN m38 2 t43) fun t44 =>
 oRes (anew m38 1 [(.int .i64 (.ofNat 0)), (.int .i64 (.ofNat 0))] ptrTo) fun t45 m46 =>
 oRes (st1 2 L m46 t45 t44) fun t47 m48 =>
 oOpt (fa 1 t45) fun t49 =>
 oOpt (ld1 m48 t49) fun t50 =>
 oOpt (abuiltin Tryd.prog .min #[3, 3] [t50, t34]) fun t51 =>
 oOpt (ia 2 t29 t40) fun t52 =>
 oOpt (fa 1 t52) fun t53 =>
 oRes (st1 1 L m48 t53 t51) fun t54 m55 =>
 oInt .add .i64 t40 (.int .i64 (.ofNat 1)) fun t56 =>
 j39 [t56] m55) (call 49 [t29, t2] L m38 fun t57 m58 =>
 oIf t57 (k (.tuple ⟨[t34, (.int .i64 (.ofNat 0))]⟩) m58) (oInt .add .i64 t34 (.int .i64 (.ofNat 1)) fun t59 =>
 j33 [t59] m58))) lf [(.int .i64 (.ofNat 0))] m32) lf [t14] m30)) lf [(.int .i64 (.ofNat 0)), (.int .i64 (.ofNat 0))] m8)))
theorem S21_ok (lf : Nat) (cK : CallK β) (args : List Value) (L : Nat) (m : Mem) (k : Value → Mem → Option β)  : S21 lf cK args L m k = denF Tryd.prog fsT 2 K21 lf cK 21 args L m k := by kernel_rfl

/-- vitola/vitolatop.same -/
def K22 : Kat := [(89, (0, [13]))]
noncomputable def S22 (lf : Nat) : FnK β := fun call args L m k =>
 uc args fun t0 l1 =>
 uc l1 fun t2 l3 =>
 un0 l3 (oOpt (ln t0) fun t4 =>
 oOpt (ln t2) fun t5 =>
 oInt .neq .i64 t4 t5 fun t6 =>
 oIf t6 (k (.bool false) m) (oOpt (ln t0) fun t7 =>
 loopS (fun j10 l8 m9 =>
 uc l8 fun t11 l12 =>
 oInt .lss .i64 t11 t7 fun t13 =>
 oIf t13 (oOpt (ia 1 t0 t11) fun t14 =>
 oOpt (ld1 m9 t14) fun t15 =>
 oOpt (ia 1 t2 t11) fun t16 =>
 oOpt (ld1 m9 t16) fun t17 =>
 oInt .neq .i64 t15 t17 fun t18 =>
 oIf t18 (k (.bool false) m9) (oInt .add .i64 t11 (.int .i64 (.ofNat 1)) fun t19 =>
 j10 [t19] m9)) (k (.bool true) m9)) lf [(.int .i64 (.ofNat 0))] m))
theorem S22_ok (lf : Nat) (cK : CallK β) (args : List Value) (L : Nat) (m : Mem) (k : Value → Mem → Option β)  : S22 lf cK args L m k = denF Tryd.prog fsT 2 K22 lf cK 22 args L m k := by kernel_rfl

/-- vitola/heap.Verify -/
def K23 : Kat := [(377, (0, [26]))]
noncomputable def S23 (lf : Nat) : FnK β := fun call args L m k =>
 uc args fun t0 l1 =>
 uc l1 fun t2 l3 =>
 uc l3 fun t4 l5 =>
 un0 l5 (call 46 [t0, t2] L m fun t6 m7 =>
 oInt .neq .i64 t6 (.int .i64 (.ofNat 0)) fun t8 =>
 oIf t8 (k t6 m7) (oOpt (ln t4) fun t9 =>
 oOpt (ln t0) fun t10 =>
 oInt .neq .i64 t9 t10 fun t11 =>
 oIf t11 (k (.int .i64 (.ofNat 5)) m7) (oRes (anew m7 1 [(.int .i64 (.ofNat 0)), (.int .i64 (.ofNat 0)), (.int .i64 (.ofNat 0)), (.int .i64 (.ofNat 0)), (.int .i64 (.ofNat 0)), (.int .i64 (.ofNat 0)), (.int .i64 (.ofNat 0)), (.int .i64 (.ofNat 0)), (.int .i64 (.ofNat 0)), (.int .i64 (.ofNat 0)), (.int .i64 (.ofNat 0)), (.int .i64 (.ofNat 0)), (.int .i64 (.ofNat 0)), (.int .i64 (.ofNat 0)), (.int .i64 (.ofNat 0)), (.int .i64 (.ofNat 0)), (.int .i64 (.ofNat 0)), (.int .i64 (.ofNat 0)), (.int .i64 (.ofNat 0)), (.int .i64 (.ofNat 0)), (.int .i64 (.ofNat 0)), (.int .i64 (.ofNat 0)), (.int .i64 (.ofNat 0)), (.int .i64 (.ofNat 0))] ptrTo) fun t12 m13 =>
 oOpt (ln t4) fun t14 =>
 loopS (fun j17 l15 m16 =>
 uc l15 fun t18 l19 =>
 oInt .lss .i64 t18 t14 fun t20 =>
 oIf t20 (oOpt (ia 1 t4 t18) fun t21 =>
 oOpt (ld1 m16 t21) fun t22 =>
 oOpt (ia 2 t0 t18) fun t23 =>
 oOpt (ldN m16 2 t23) fun t24 =>
 call 51 [t24, t22] L m16 fun t25 m26 =>
 oOpt (aun .not t25) fun t27 =>
 oIf t27 (k (.int .i64 (.ofNat 1)) m26) (oOpt (iaA 24 1 t12 t22) fun t28 =>
 oOpt (ld1 m26 t28) fun t29 =>
 oInt .add .i64 t29 (.int .i64 (.ofNat 1)) fun t30 =>
 oOpt (iaA 24 1 t12 t22) fun t31 =>
 oRes (st1 1 L m26 t31 t30) fun t32 m33 =>
 oOpt (iaA 24 1 t12 t22) fun t34 =>
 oOpt (ld1 m33 t34) fun t35 =>
 oInt .gtr .i64 t35 t2 fun t36 =>
 oIf t36 (k (.int .i64 (.ofNat 15)) m33) (oInt .add .i64 t18 (.int .i64 (.ofNat 1)) fun t37 =>
 j17 [t37] m33))) (k (.int .i64 (.ofNat 0)) m16)) lf [(.int .i64 (.ofNat 0))] m13)))
theorem S23_ok (lf : Nat) (cK : CallK β) (args : List Value) (L : Nat) (m : Mem) (k : Value → Mem → Option β)  : S23 lf cK args L m k = denF Tryd.prog fsT 2 K23 lf cK 23 args L m k := by kernel_rfl

end
end Go.Vit
