/- Shallow texts of the seat's functions, printed by a program: part 5. -/
import Derived.Test.YtppallabmjdolaaGreatDoorRows
import Derived.Test.YtppallabmjdolaaGreatDoorFs
set_option linter.unusedVariables false
set_option maxRecDepth 100000
namespace Go.Vit
open Go Go.Proofs
section
variable {β : Type}
/-- vitola/beetle.Plant$1 -/
def K97 : Kat := []
noncomputable def S97 (lf : Nat) : FnK β := fun call args L m k =>
 uc args fun t0 l1 =>
 uc l1 fun t2 l3 =>
 uc l3 fun t4 l5 =>
 uc l5 fun t6 l7 =>
 uc l7 fun t8 l9 =>
 un0 l9 (oOpt (ld1 m t4) fun t10 =>
 call 98 [t10, t0] m.next m fun t11 m12 =>
 oInt .mul .i64 (.int .i64 (.ofNat 4)) t2 fun t13 =>
 oInt .add .i64 t11 t13 fun t14 =>
 oOpt (ld1 m12 t6) fun t15 =>
 oOpt (ld1 m12 t8) fun t16 =>
 oInt .add .i64 t15 t16 fun t17 =>
 oInt .mul .i64 (.int .i64 (.ofNat 2)) t17 fun t18 =>
 oInt .geq .i64 t14 t18 fun t19 =>
 k t19 m12)
theorem S97_ok (lf : Nat) (cK : CallK β) (args : List Value) (L : Nat) (m : Mem) (k : Value → Mem → Option β)  : S97 lf cK args L m k = denF Tryz.prog fsT 2 K97 lf cK 97 args L m k := by kernel_rfl

/-- (*vitola/beetle.floor).outline -/
def K98 : Kat := [(89, (0, [5, 11]))]
noncomputable def S98 (lf : Nat) : FnK β := fun call args L m k =>
 uc args fun t0 l1 =>
 uc l1 fun t2 l3 =>
 un0 l3 (call 92 [t2] L m fun t4 m5 =>
 oOpt (ln t4) fun t6 =>
 loopS (fun j9 l7 m8 =>
 uc l7 fun t10 l11 =>
 uc l11 fun t12 l13 =>
 oInt .lss .i64 t12 t6 fun t14 =>
 oIf t14 (oOpt (ia 1 t4 t12) fun t15 =>
 oOpt (ld1 m8 t15) fun t16 =>
 oOpt (anil t0) fun t17 =>
 oOpt (fa 3 t17) fun t18 =>
 oOpt (iaA 25 1 t18 t16) fun t19 =>
 oOpt (ld1 m8 t19) fun t20 =>
 oInt .and .u32 t20 t2 fun t21 =>
 call 100 [t21] L m8 fun t22 m23 =>
 oInt .sub .i64 (.int .i64 (.ofNat 4)) t22 fun t24 =>
 oInt .add .i64 t10 t24 fun t25 =>
 oInt .add .i64 t12 (.int .i64 (.ofNat 1)) fun t26 =>
 j9 [t25, t26] m23) (k t10 m8)) lf [(.int .i64 (.ofNat 0)), (.int .i64 (.ofNat 0))] m5)
theorem S98_ok (lf : Nat) (cK : CallK β) (args : List Value) (L : Nat) (m : Mem) (k : Value → Mem → Option β)  : S98 lf cK args L m k = denF Tryz.prog fsT 2 K98 lf cK 98 args L m k := by kernel_rfl

/-- vitola/beetle.Plant$2 -/
def K99 : Kat := []
noncomputable def S99 (lf : Nat) : FnK β := fun call args L m k =>
 uc args fun t0 l1 =>
 uc l1 fun t2 l3 =>
 uc l3 fun t4 l5 =>
 un0 l5 (oOpt (ld1 m t2) fun t6 =>
 oOpt (bu Tryz.prog 132 [(0, t0)]) fun t7 =>
 call 91 [t6, t7] m.next m fun t8 m9 =>
 oOpt (ld1 m9 t4) fun t10 =>
 oInt .eql .u32 t8 t10 fun t11 =>
 k t11 m9)
theorem S99_ok (lf : Nat) (cK : CallK β) (args : List Value) (L : Nat) (m : Mem) (k : Value → Mem → Option β)  : S99 lf cK args L m k = denF Tryz.prog fsT 2 K99 lf cK 99 args L m k := by kernel_rfl

/-- (vitola/beetle.set).size -/
def K100 : Kat := []
noncomputable def S100 (lf : Nat) : FnK β := fun call args L m k =>
 uc args fun t0 l1 =>
 un0 l1 (call 119 [t0] L m fun t2 m3 =>
 k t2 m3)
theorem S100_ok (lf : Nat) (cK : CallK β) (args : List Value) (L : Nat) (m : Mem) (k : Value → Mem → Option β)  : S100 lf cK args L m k = denF Tryz.prog fsT 2 K100 lf cK 100 args L m k := by kernel_rfl

/-- slices.Index[[]int,int] -/
def K101 : Kat := [(41, (0, [8]))]
noncomputable def S101 (lf : Nat) : FnK β := fun call args L m k =>
 uc args fun t0 l1 =>
 uc l1 fun t2 l3 =>
 un0 l3 (oOpt (ln t0) fun t4 =>
 loopS (fun j7 l5 m6 =>
 uc l5 fun t8 l9 =>
 oInt .lss .i64 t8 t4 fun t10 =>
 oIf t10 (oOpt (ia 1 t0 t8) fun t11 =>
 oOpt (ld1 m6 t11) fun t12 =>
 oInt .eql .i64 t2 t12 fun t13 =>
 oIf t13 (k t8 m6) (oInt .add .i64 t8 (.int .i64 (.ofNat 1)) fun t14 =>
 j7 [t14] m6)) (k (.int .i64 (.negSucc 0)) m6)) lf [(.int .i64 (.ofNat 0))] m)
theorem S101_ok (lf : Nat) (cK : CallK β) (args : List Value) (L : Nat) (m : Mem) (k : Value → Mem → Option β)  : S101 lf cK args L m k = denF Tryz.prog fsT 2 K101 lf cK 101 args L m k := by kernel_rfl

/-- vitola/club.asked -/
def K102 : Kat := []
noncomputable def S102 (lf : Nat) : FnK β := fun call args L m k =>
 uc args fun t0 l1 =>
 uc l1 fun t2 l3 =>
 un0 l3 (oRes (abox m t0) fun t4 m5 =>
 oOpt (ldN m5 2 t4) fun t6 =>
 call 149 [t6] L m5 fun t7 m8 =>
 oOpt (aextract t7 0) fun t9 =>
 oOpt (aextract t7 1) fun t10 =>
 oInt .neq .i64 t10 (.int .i64 (.ofNat 0)) fun t11 =>
 oIf t11 (k (.tuple ⟨[.nilIface, t10]⟩) m8) (oCallV call t2 [t9] L m8 fun t12 m13 =>
 k (.tuple ⟨[t12, (.int .i64 (.ofNat 0))]⟩) m13))
theorem S102_ok (lf : Nat) (cK : CallK β) (args : List Value) (L : Nat) (m : Mem) (k : Value → Mem → Option β)  : S102 lf cK args L m k = denF Tryz.prog fsT 2 K102 lf cK 102 args L m k := by kernel_rfl

/-- (vitola/club.room).others -/
def K103 : Kat := [(89, (0, [11]))]
noncomputable def S103 (lf : Nat) : FnK β := fun call args L m k =>
 uc args fun t0 l1 =>
 un0 l1 (oOpt (ln t0) fun t2 =>
 oRes (amakeSlice Tryz.prog m 152 t2 t2) fun t3 m4 =>
 oOpt (ln t0) fun t5 =>
 loopS (fun j8 l6 m7 =>
 uc l6 fun t9 l10 =>
 oInt .lss .i64 t9 t5 fun t11 =>
 oIf t11 (oOpt (ia 1 t0 t9) fun t12 =>
 oOpt (ld1 m7 t12) fun t13 =>
 oOpt (aun .xor t13) fun t14 =>
 oOpt (ln t0) fun t15 =>
 oOpt (abin Tryz.prog .shl 95 (.int .u64 (.ofNat 1)) t15) fun t16 =>
 oInt .sub .u64 t16 (.int .u64 (.ofNat 1)) fun t17 =>
 oInt .and .u64 t14 t17 fun t18 =>
 oOpt (abin Tryz.prog .shl 95 (.int .u64 (.ofNat 1)) t9) fun t19 =>
 oInt .andNot .u64 t18 t19 fun t20 =>
 oOpt (ia 1 t3 t9) fun t21 =>
 oRes (st1 1 L m7 t21 t20) fun t22 m23 =>
 oInt .add .i64 t9 (.int .i64 (.ofNat 1)) fun t24 =>
 j8 [t24] m23) (call 150 [t3] L m7 fun t25 m26 =>
 oOpt (aiface Tryz.prog 74 t25) fun t27 =>
 k t27 m26)) lf [(.int .i64 (.ofNat 0))] m4)
theorem S103_ok (lf : Nat) (cK : CallK β) (args : List Value) (L : Nat) (m : Mem) (k : Value → Mem → Option β)  : S103 lf cK args L m k = denF Tryz.prog fsT 2 K103 lf cK 103 args L m k := by kernel_rfl

/-- (vitola/club.room).counts -/
def K104 : Kat := [(89, (0, [3, 8]))]
noncomputable def S104 (lf : Nat) : FnK β := fun call args L m k =>
 uc args fun t0 l1 =>
 un0 l1 (oOpt (ln t0) fun t2 =>
 loopS (fun j5 l3 m4 =>
 uc l3 fun t6 l7 =>
 uc l7 fun t8 l9 =>
 oInt .lss .i64 t8 t2 fun t10 =>
 oIf t10 (oOpt (ia 1 t0 t8) fun t11 =>
 oOpt (ld1 m4 t11) fun t12 =>
 call 55 [t12] L m4 fun t13 m14 =>
 oRes (bs Tryz.prog m14 22 1 [(0, t13)]) fun t15 m16 =>
 oRes (aappend Tryz.prog L m16 22 t6 t15) fun t17 m18 =>
 oInt .add .i64 t8 (.int .i64 (.ofNat 1)) fun t19 =>
 j5 [t17, t19] m18) (oOpt (aiface Tryz.prog 22 t6) fun t20 =>
 k t20 m4)) lf [(.slice none 0 0), (.int .i64 (.ofNat 0))] m)
theorem S104_ok (lf : Nat) (cK : CallK β) (args : List Value) (L : Nat) (m : Mem) (k : Value → Mem → Option β)  : S104 lf cK args L m k = denF Tryz.prog fsT 2 K104 lf cK 104 args L m k := by kernel_rfl

/-- slices.IndexFunc[[]int,int] -/
def K105 : Kat := [(41, (0, [8]))]
noncomputable def S105 (lf : Nat) : FnK β := fun call args L m k =>
 uc args fun t0 l1 =>
 uc l1 fun t2 l3 =>
 un0 l3 (oOpt (ln t0) fun t4 =>
 loopS (fun j7 l5 m6 =>
 uc l5 fun t8 l9 =>
 oInt .lss .i64 t8 t4 fun t10 =>
 oIf t10 (oOpt (ia 1 t0 t8) fun t11 =>
 oOpt (ld1 m6 t11) fun t12 =>
 oCallV call t2 [t12] L m6 fun t13 m14 =>
 oIf t13 (k t8 m14) (oInt .add .i64 t8 (.int .i64 (.ofNat 1)) fun t15 =>
 j7 [t15] m14)) (k (.int .i64 (.negSucc 0)) m6)) lf [(.int .i64 (.ofNat 0))] m)
theorem S105_ok (lf : Nat) (cK : CallK β) (args : List Value) (L : Nat) (m : Mem) (k : Value → Mem → Option β)  : S105 lf cK args L m k = denF Tryz.prog fsT 2 K105 lf cK 105 args L m k := by kernel_rfl

/-- (vitola/club.room).trios -/
def K106 : Kat := [(185, (0, [4, 12]))]
noncomputable def S106 (lf : Nat) : FnK β := fun call args L m k =>
 uc args fun t0 l1 =>
 un0 l1 (oOpt (ln t0) fun t2 =>
 oOpt (ln t0) fun t3 =>
 loopS (fun j6 l4 m5 =>
 uc l4 fun t7 l8 =>
 uc l8 fun t9 l10 =>
 oInt .lss .i64 t9 t3 fun t11 =>
 oIf t11 (oOpt (ia 1 t0 t9) fun t12 =>
 oOpt (ld1 m5 t12) fun t13 =>
 call 55 [t13] L m5 fun t14 m15 =>
 oInt .sub .i64 t2 (.int .i64 (.ofNat 1)) fun t16 =>
 oInt .sub .i64 t16 t14 fun t17 =>
 oInt .mul .i64 t14 t17 fun t18 =>
 oInt .add .i64 t7 t18 fun t19 =>
 oInt .add .i64 t9 (.int .i64 (.ofNat 1)) fun t20 =>
 j6 [t19, t20] m15) (oInt .sub .i64 t2 (.int .i64 (.ofNat 1)) fun t21 =>
 oInt .mul .i64 t2 t21 fun t22 =>
 oInt .sub .i64 t2 (.int .i64 (.ofNat 2)) fun t23 =>
 oInt .mul .i64 t22 t23 fun t24 =>
 oInt .quo .i64 t24 (.int .i64 (.ofNat 6)) fun t25 =>
 oInt .quo .i64 t7 (.int .i64 (.ofNat 2)) fun t26 =>
 oInt .sub .i64 t25 t26 fun t27 =>
 oOpt (aiface Tryz.prog 3 t27) fun t28 =>
 k t28 m5)) lf [(.int .i64 (.ofNat 0)), (.int .i64 (.ofNat 0))] m)
theorem S106_ok (lf : Nat) (cK : CallK β) (args : List Value) (L : Nat) (m : Mem) (k : Value → Mem → Option β)  : S106 lf cK args L m k = denF Tryz.prog fsT 2 K106 lf cK 106 args L m k := by kernel_rfl

/-- vitola/club.Count -/
def K107 : Kat := []
noncomputable def S107 (lf : Nat) : FnK β := fun call args L m k =>
 uc args fun t0 l1 =>
 un0 l1 (call 151 [t0] L m fun t2 m3 =>
 oInt .neq .i64 t2 (.int .i64 (.ofNat 0)) fun t4 =>
 oIf t4 (k (.tuple ⟨[(.int .i64 (.ofNat 0)), t2]⟩) m3) (oRes (amakeMap m3) fun t5 m6 =>
 call 152 [t5, t0] L m6 fun t7 m8 =>
 k (.tuple ⟨[t7, (.int .i64 (.ofNat 0))]⟩) m8))
theorem S107_ok (lf : Nat) (cK : CallK β) (args : List Value) (L : Nat) (m : Mem) (k : Value → Mem → Option β)  : S107 lf cK args L m k = denF Tryz.prog fsT 2 K107 lf cK 107 args L m k := by kernel_rfl

/-- vitola/shade.within -/
def K108 : Kat := [(9, (1, [13]))]
noncomputable def S108 (lf : Nat) : FnK β := fun call args L m k =>
 uc args fun t0 l1 =>
 uc l1 fun t2 l3 =>
 uc l3 fun t4 l5 =>
 un0 l5 (oInt .leq .i64 t2 t0 fun t6 =>
 join (fun l7 m8 =>
 uc l7 fun t10 l11 =>
 oPick t6 t10 (.bool false) fun t12 =>
 k t12 m8) fun j9 =>
 oGT t6 (oInt .leq .i64 t0 t4 fun t13 =>
 j9 [t13] m) (j9 [Go.undef] m))
theorem S108_ok (lf : Nat) (cK : CallK β) (args : List Value) (L : Nat) (m : Mem) (k : Value → Mem → Option β)  : S108 lf cK args L m k = denF Tryz.prog fsT 2 K108 lf cK 108 args L m k := by kernel_rfl

/-- vitola/shade.triangle -/
def K109 : Kat := [(185, (0, [2])), (11921, (0, [3]))]
noncomputable def S109 (lf : Nat) : FnK β := fun call args L m k =>
 un0 args (oRes (anew m 1 [(.int .i64 (.ofNat 0)), (.int .i64 (.ofNat 0)), (.int .i64 (.ofNat 0)), (.int .i64 (.ofNat 0)), (.int .i64 (.ofNat 0)), (.int .i64 (.ofNat 0)), (.int .i64 (.ofNat 0)), (.int .i64 (.ofNat 0)), (.int .i64 (.ofNat 0)), (.int .i64 (.ofNat 0)), (.int .i64 (.ofNat 0)), (.int .i64 (.ofNat 0)), (.int .i64 (.ofNat 0)), (.int .i64 (.ofNat 0)), (.int .i64 (.ofNat 0)), (.int .i64 (.ofNat 0)), (.int .i64 (.ofNat 0)), (.int .i64 (.ofNat 0)), (.int .i64 (.ofNat 0)), (.int .i64 (.ofNat 0)), (.int .i64 (.ofNat 0)), (.int .i64 (.ofNat 0)), (.int .i64 (.ofNat 0)), (.int .i64 (.ofNat 0)), (.int .i64 (.ofNat 0)), (.int .i64 (.ofNat 0)), (.int .i64 (.ofNat 0)), (.int .i64 (.ofNat 0)), (.int .i64 (.ofNat 0)), (.int .i64 (.ofNat 0)), (.int .i64 (.ofNat 0)), (.int .i64 (.ofNat 0)), (.int .i64 (.ofNat 0)), (.int .i64 (.ofNat 0)), (.int .i64 (.ofNat 0)), (.int .i64 (.ofNat 0)), (.int .i64 (.ofNat 0)), (.int .i64 (.ofNat 0)), (.int .i64 (.ofNat 0)), (.int .i64 (.ofNat 0)), (.int .i64 (.ofNat 0)), (.int .i64 (.ofNat 0)), (.int .i64 (.ofNat 0)), (.int .i64 (.ofNat 0)), (.int .i64 (.ofNat 0)), (.int .i64 (.ofNat 0)), (.int .i64 (.ofNat 0)), (.int .i64 (.ofNat 0)), (.int .i64 (.ofNat 0)), (.int .i64 (.ofNat 0)), (.int .i64 (.ofNat 0)), (.int .i64 (.ofNat 0)), (.int .i64 (.ofNat 0)), (.int .i64 (.ofNat 0)), (.int .i64 (.ofNat 0)), (.int .i64 (.ofNat 0)), (.int .i64 (.ofNat 0)), (.int .i64 (.ofNat 0)), (.int .i64 (.ofNat 0)), (.int .i64 (.ofNat 0)), (.int .i64 (.ofNat 0)), (.int .i64 (.ofNat 0)), (.int .i64 (.ofNat 0)), (.int .i64 (.ofNat 0)), (.int .i64 (.ofNat 0)), (.int .i64 (.ofNat 0)), (.int .i64 (.ofNat 0)), (.int .i64 (.ofNat 0)), (.int .i64 (.ofNat 0)), (.int .i64 (.ofNat 0)), (.int .i64 (.ofNat 0)), (.int .i64 (.ofNat 0)), (.int .i64 (.ofNat 0)), (.int .i64 (.ofNat 0)), (.int .i64 (.ofNat 0)), (.int .i64 (.ofNat 0)), (.int .i64 (.ofNat 0)), (.int .i64 (.ofNat 0)), (.int .i64 (.ofNat 0)), (.int .i64 (.ofNat 0)), (.int .i64 (.ofNat 0)), (.int .i64 (.ofNat 0)), (.int .i64 (.ofNat 0)), (.int .i64 (.ofNat 0)), (.int .i64 (.ofNat 0)), (.int .i64 (.ofNat 0)), (.int .i64 (.ofNat 0)), (.int .i64 (.ofNat 0)), (.int .i64 (.ofNat 0)), (.int .i64 (.ofNat 0)), (.int .i64 (.ofNat 0)), (.int .i64 (.ofNat 0)), (.int .i64 (.ofNat 0)), (.int .i64 (.ofNat 0)), (.int .i64 (.ofNat 0)), (.int .i64 (.ofNat 0)), (.int .i64 (.ofNat 0)), (.int .i64 (.ofNat 0)), (.int .i64 (.ofNat 0)), (.int .i64 (.ofNat 0))] ptrTo) fun t0 m1 =>
 oRes (anew m1 1 [(.int .i64 (.ofNat 0)), (.int .i64 (.ofNat 0)), (.int .i64 (.ofNat 0)), (.int .i64 (.ofNat 0)), (.int .i64 (.ofNat 0)), (.int .i64 (.ofNat 0)), (.int .i64 (.ofNat 0)), (.int .i64 (.ofNat 0)), (.int .i64 (.ofNat 0)), (.int .i64 (.ofNat 0)), (.int .i64 (.ofNat 0)), (.int .i64 (.ofNat 0)), (.int .i64 (.ofNat 0)), (.int .i64 (.ofNat 0)), (.int .i64 (.ofNat 0)), (.int .i64 (.ofNat 0)), (.int .i64 (.ofNat 0)), (.int .i64 (.ofNat 0)), (.int .i64 (.ofNat 0)), (.int .i64 (.ofNat 0)), (.int .i64 (.ofNat 0)), (.int .i64 (.ofNat 0)), (.int .i64 (.ofNat 0)), (.int .i64 (.ofNat 0)), (.int .i64 (.ofNat 0)), (.int .i64 (.ofNat 0)), (.int .i64 (.ofNat 0)), (.int .i64 (.ofNat 0)), (.int .i64 (.ofNat 0)), (.int .i64 (.ofNat 0)), (.int .i64 (.ofNat 0)), (.int .i64 (.ofNat 0)), (.int .i64 (.ofNat 0)), (.int .i64 (.ofNat 0)), (.int .i64 (.ofNat 0)), (.int .i64 (.ofNat 0)), (.int .i64 (.ofNat 0)), (.int .i64 (.ofNat 0)), (.int .i64 (.ofNat 0)), (.int .i64 (.ofNat 0)), (.int .i64 (.ofNat 0)), (.int .i64 (.ofNat 0)), (.int .i64 (.ofNat 0)), (.int .i64 (.ofNat 0)), (.int .i64 (.ofNat 0)), (.int .i64 (.ofNat 0)), (.int .i64 (.ofNat 0)), (.int .i64 (.ofNat 0)), (.int .i64 (.ofNat 0)), (.int .i64 (.ofNat 0)), (.int .i64 (.ofNat 0)), (.int .i64 (.ofNat 0)), (.int .i64 (.ofNat 0)), (.int .i64 (.ofNat 0)), (.int .i64 (.ofNat 0)), (.int .i64 (.ofNat 0)), (.int .i64 (.ofNat 0)), (.int .i64 (.ofNat 0)), (.int .i64 (.ofNat 0)), (.int .i64 (.ofNat 0)), (.int .i64 (.ofNat 0)), (.int .i64 (.ofNat 0)), (.int .i64 (.ofNat 0)), (.int .i64 (.ofNat 0)), (.int .i64 (.ofNat 0)), (.int .i64 (.ofNat 0)), (.int .i64 (.ofNat 0)), (.int .i64 (.ofNat 0)), (.int .i64 (.ofNat 0)), (.int .i64 (.ofNat 0)), (.int .i64 (.ofNat 0)), (.int .i64 (.ofNat 0)), (.int .i64 (.ofNat 0)), (.int .i64 (.ofNat 0)), (.int .i64 (.ofNat 0)), (.int .i64 (.ofNat 0)), (.int .i64 (.ofNat 0)), (.int .i64 (.ofNat 0)), (.int .i64 (.ofNat 0)), (.int .i64 (.ofNat 0)), (.int .i64 (.ofNat 0)), (.int .i64 (.ofNat 0)), (.int .i64 (.ofNat 0)), (.int .i64 (.ofNat 0)), (.int .i64 (.ofNat 0)), (.int .i64 (.ofNat 0)), (.int .i64 (.ofNat 0)), (.int .i64 (.ofNat 0)), (.int .i64 (.ofNat 0)), (.int .i64 (.ofNat 0)), (.int .i64 (.ofNat 0)), (.int .i64 (.ofNat 0)), (.int .i64 (.ofNat 0)), (.int .i64 (.ofNat 0)), (.int .i64 (.ofNat 0)), (.int .i64 (.ofNat 0)), (.int .i64 (.ofNat 0)), (.int .i64 (.ofNat 0)), (.int .i64 (.ofNat 0)), (.int .i64 (.ofNat 0))] ptrTo) fun t2 m3 =>
 oOpt (iaA 10 10 t2 (.int .i64 (.ofNat 1))) fun t4 =>
 oOpt (iaA 10 1 t4 (.int .i64 (.ofNat 0))) fun t5 =>
 oRes (st1 1 L m3 t5 (.int .i64 (.ofNat 1))) fun t6 m7 =>
 loopS (fun j10 l8 m9 =>
 uc l8 fun t11 l12 =>
 oInt .leq .i64 t11 (.int .i64 (.ofNat 9)) fun t13 =>
 oIf t13 (oInt .sub .i64 t11 (.int .i64 (.ofNat 2)) fun t14 =>
 loopS (fun j17 l15 m16 =>
 uc l15 fun t18 l19 =>
 oInt .geq .i64 t18 (.int .i64 (.ofNat 0)) fun t20 =>
 oIf t20 (oInt .add .i64 t18 (.int .i64 (.ofNat 1)) fun t21 =>
 oOpt (iaA 10 10 t2 t11) fun t22 =>
 oOpt (iaA 10 1 t22 t21) fun t23 =>
 oOpt (ld1 m16 t23) fun t24 =>
 oInt .sub .i64 t11 (.int .i64 (.ofNat 1)) fun t25 =>
 oInt .sub .i64 t11 (.int .i64 (.ofNat 2)) fun t26 =>
 oInt .sub .i64 t26 t18 fun t27 =>
 oOpt (iaA 10 10 t2 t25) fun t28 =>
 oOpt (iaA 10 1 t28 t27) fun t29 =>
 oOpt (ld1 m16 t29) fun t30 =>
 oInt .add .i64 t24 t30 fun t31 =>
 oOpt (iaA 10 10 t2 t11) fun t32 =>
 oOpt (iaA 10 1 t32 t18) fun t33 =>
 oRes (st1 1 L m16 t33 t31) fun t34 m35 =>
 oInt .sub .i64 t18 (.int .i64 (.ofNat 1)) fun t36 =>
 j17 [t36] m35) (oInt .add .i64 t11 (.int .i64 (.ofNat 1)) fun t37 =>
 j10 [t37] m16)) lf [t14] m9) (oOpt (ldN m9 100 t2) fun t38 =>
 oRes (st1 100 L m9 t0 t38) fun t39 m40 =>
 oOpt (ldN m40 100 t0) fun t41 =>
 k t41 m40)) lf [(.int .i64 (.ofNat 2))] m7)
theorem S109_ok (lf : Nat) (cK : CallK β) (args : List Value) (L : Nat) (m : Mem) (k : Value → Mem → Option β)  : S109 lf cK args L m k = denF Tryz.prog fsT 2 K109 lf cK 109 args L m k := by kernel_rfl

/-- vitola/shade.begun -/
def K110 : Kat := [(89, (0, [8]))]
noncomputable def S110 (lf : Nat) : FnK β := fun call args L m k =>
 uc args fun t0 l1 =>
 un0 l1 (oOpt (bu Tryz.prog 162 []) fun t2 =>
 oRes (abox m t2) fun t3 m4 =>
 loopS (fun j7 l5 m6 =>
 uc l5 fun t8 l9 =>
 oInt .lss .i64 t8 t0 fun t10 =>
 oIf t10 (oOpt (anil t3) fun t11 =>
 oOpt (fa 0 t11) fun t12 =>
 oOpt (ld1 m6 t12) fun t13 =>
 oRes (bs Tryz.prog m6 22 1 [(0, t8)]) fun t14 m15 =>
 oRes (aappend Tryz.prog L m15 22 t13 t14) fun t16 m17 =>
 oOpt (anil t3) fun t18 =>
 oOpt (fa 0 t18) fun t19 =>
 oRes (st1 1 L m17 t19 t16) fun t20 m21 =>
 oInt .add .i64 t8 (.int .i64 (.ofNat 1)) fun t22 =>
 j7 [t22] m21) (k t3 m6)) lf [(.int .i64 (.ofNat 0))] m4)
theorem S110_ok (lf : Nat) (cK : CallK β) (args : List Value) (L : Nat) (m : Mem) (k : Value → Mem → Option β)  : S110 lf cK args L m k = denF Tryz.prog fsT 2 K110 lf cK 110 args L m k := by kernel_rfl

/-- (*vitola/shade.rest).goes -/
def K111 : Kat := [(9, (1, [23]))]
noncomputable def S111 (lf : Nat) : FnK β := fun call args L m k =>
 uc args fun t0 l1 =>
 uc l1 fun t2 l3 =>
 uc l3 fun t4 l5 =>
 un0 l5 (oInt .lss .i64 t2 (.int .i64 (.ofNat 0)) fun t6 =>
 join (fun l7 m8 =>
 uc l7 fun t10 l11 =>
 oPick t6 (.bool true) t10 fun t12 =>
 k t12 m8) fun j9 =>
 oGF t6 (oOpt (anil t0) fun t13 =>
 oOpt (fa 0 t13) fun t14 =>
 oOpt (ld1 m t14) fun t15 =>
 oOpt (ia 1 t15 t4) fun t16 =>
 oOpt (ld1 m t16) fun t17 =>
 oInt .gtr .i64 t17 t2 fun t18 =>
 oOpt (anil t0) fun t19 =>
 oOpt (fa 1 t19) fun t20 =>
 oOpt (ld1 m t20) fun t21 =>
 oOpt (abin Tryz.prog .eql 4 t18 t21) fun t22 =>
 j9 [t22] m) (j9 [Go.undef] m))
theorem S111_ok (lf : Nat) (cK : CallK β) (args : List Value) (L : Nat) (m : Mem) (k : Value → Mem → Option β)  : S111 lf cK args L m k = denF Tryz.prog fsT 2 K111 lf cK 111 args L m k := by kernel_rfl

/-- (*vitola/shade.rest).ways -/
def K112 : Kat := [(44, (0, [1]))]
noncomputable def S112 (lf : Nat) : FnK β := fun call args L m k =>
 uc args fun t0 l1 =>
 uc l1 fun t2 l3 =>
 un0 l3 (oOpt (anil t0) fun t4 =>
 oOpt (fa 0 t4) fun t5 =>
 oOpt (ld1 m t5) fun t6 =>
 oOpt (ln t6) fun t7 =>
 oOpt (anil t0) fun t8 =>
 oOpt (fa 1 t8) fun t9 =>
 oOpt (ld1 m t9) fun t10 =>
 join (fun l11 m12 =>
 uc l11 fun t14 l15 =>
 call 109 [] L m12 fun t16 m17 =>
 oOpt (aindex Tryz.prog 157 t16 t7) fun t18 =>
 oOpt (aindex Tryz.prog 156 t18 t14) fun t19 =>
 k t19 m17) fun j13 =>
 oIf t10 (oInt .sub .i64 t7 (.int .i64 (.ofNat 1)) fun t20 =>
 oInt .sub .i64 t20 t2 fun t21 =>
 j13 [t21] m) (j13 [t2] m))
theorem S112_ok (lf : Nat) (cK : CallK β) (args : List Value) (L : Nat) (m : Mem) (k : Value → Mem → Option β)  : S112 lf cK args L m k = denF Tryz.prog fsT 2 K112 lf cK 112 args L m k := by kernel_rfl

/-- (*vitola/shade.rest).take -/
def K113 : Kat := []
noncomputable def S113 (lf : Nat) : FnK β := fun call args L m k =>
 uc args fun t0 l1 =>
 uc l1 fun t2 l3 =>
 un0 l3 (oOpt (anil t0) fun t4 =>
 oOpt (fa 0 t4) fun t5 =>
 oOpt (ld1 m t5) fun t6 =>
 oOpt (ia 1 t6 t2) fun t7 =>
 oOpt (ld1 m t7) fun t8 =>
 oOpt (anil t0) fun t9 =>
 oOpt (fa 0 t9) fun t10 =>
 oOpt (ld1 m t10) fun t11 =>
 oInt .add .i64 t2 (.int .i64 (.ofNat 1)) fun t12 =>
 call 153 [t11, t2, t12] L m fun t13 m14 =>
 oOpt (anil t0) fun t15 =>
 oOpt (fa 0 t15) fun t16 =>
 oRes (st1 1 L m14 t16 t13) fun t17 m18 =>
 oOpt (anil t0) fun t19 =>
 oOpt (fa 1 t19) fun t20 =>
 oOpt (ld1 m18 t20) fun t21 =>
 oOpt (aun .not t21) fun t22 =>
 oOpt (anil t0) fun t23 =>
 oOpt (fa 1 t23) fun t24 =>
 oRes (st1 1 L m18 t24 t22) fun t25 m26 =>
 k t8 m26)
theorem S113_ok (lf : Nat) (cK : CallK β) (args : List Value) (L : Nat) (m : Mem) (k : Value → Mem → Option β)  : S113 lf cK args L m k = denF Tryz.prog fsT 2 K113 lf cK 113 args L m k := by kernel_rfl

/-- vitola/shade.order -/
def K114 : Kat := []
noncomputable def S114 (lf : Nat) : FnK β := fun call args L m k =>
 uc args fun t0 l1 =>
 un0 l1 (oRes (abox m t0) fun t2 m3 =>
 oRes (anew m3 1 [(.bool false), (.bool false), (.bool false), (.bool false), (.bool false), (.bool false), (.bool false), (.bool false), (.bool false)] ptrTo) fun t4 m5 =>
 oOpt (ld1 m5 t2) fun t6 =>
 call 154 [t6, (.int .i64 (.ofNat 9)), (.func (.func 155) #[] ⟨[t2, t4]⟩)] L m5 fun t7 m8 =>
 k t7 m8)
theorem S114_ok (lf : Nat) (cK : CallK β) (args : List Value) (L : Nat) (m : Mem) (k : Value → Mem → Option β)  : S114 lf cK args L m k = denF Tryz.prog fsT 2 K114 lf cK 114 args L m k := by kernel_rfl

/-- vitola/grade.Check -/
def K115 : Kat := [(185, (0, [17])), (95431, (1, [28]))]
noncomputable def S115 (lf : Nat) : FnK β := fun call args L m k =>
 uc args fun t0 l1 =>
 un0 l1 (oOpt (ln t0) fun t2 =>
 oInt .eql .i64 t2 (.int .i64 (.ofNat 0)) fun t3 =>
 oIf t3 (k (.int .i64 (.ofNat 4)) m) (oInt .gtr .i64 t2 (.int .i64 (.ofNat 7)) fun t4 =>
 oIf t4 (k (.int .i64 (.ofNat 3)) m) (oRes (anew m 1 [(.bool false), (.bool false), (.bool false), (.bool false), (.bool false), (.bool false), (.bool false)] ptrTo) fun t5 m6 =>
 oOpt (ln t0) fun t7 =>
 loopS (fun j10 l8 m9 =>
 uc l8 fun t11 l12 =>
 oInt .lss .i64 t11 t7 fun t13 =>
 oIf t13 (oOpt (ia 1 t0 t11) fun t14 =>
 oOpt (ld1 m9 t14) fun t15 =>
 oInt .lss .i64 t15 (.int .i64 (.ofNat 0)) fun t16 =>
 join (fun l17 m18 =>
 uc l17 fun t20 l21 =>
 oPick t16 (.bool true) t20 fun t22 =>
 oIf t22 (k (.int .i64 (.ofNat 2)) m18) (oOpt (iaA 7 1 t5 t15) fun t23 =>
 oOpt (ld1 m18 t23) fun t24 =>
 oIf t24 (k (.int .i64 (.ofNat 6)) m18) (oOpt (iaA 7 1 t5 t15) fun t25 =>
 oRes (st1 1 L m18 t25 (.bool true)) fun t26 m27 =>
 oInt .add .i64 t11 (.int .i64 (.ofNat 1)) fun t28 =>
 j10 [t28] m27))) fun j19 =>
 oGF t16 (oOpt (ln t0) fun t29 =>
 oInt .geq .i64 t15 t29 fun t30 =>
 j19 [t30] m9) (j19 [Go.undef] m9)) (k (.int .i64 (.ofNat 0)) m9)) lf [(.int .i64 (.ofNat 0))] m6)))
theorem S115_ok (lf : Nat) (cK : CallK β) (args : List Value) (L : Nat) (m : Mem) (k : Value → Mem → Option β)  : S115 lf cK args L m k = denF Tryz.prog fsT 2 K115 lf cK 115 args L m k := by kernel_rfl

end
end Go.Vit
