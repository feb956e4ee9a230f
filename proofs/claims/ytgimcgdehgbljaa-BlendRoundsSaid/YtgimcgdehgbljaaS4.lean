/- Shallow texts of the seat's functions, printed by a program: part 4. -/
import Derived.Test.YtgimcgdehgbljaaRows
import Derived.Test.YtgimcgdehgbljaaFs
set_option linter.unusedVariables false
set_option maxRecDepth 100000
namespace Go.Vit
open Go Go.Proofs
section
variable {β : Type}
/-- vitola/vitolalaw04.weigh -/
def K57 : Kat := [(89, (0, [5, 10]))]
noncomputable def S57 (lf : Nat) : FnK β := fun call args L m k =>
 uc args fun t0 l1 =>
 uc l1 fun t2 l3 =>
 un0 l3 (oRes (abox m t0) fun t4 m5 =>
 oOpt (ln t2) fun t6 =>
 loopS (fun j9 l7 m8 =>
 uc l7 fun t10 l11 =>
 uc l11 fun t12 l13 =>
 oInt .lss .i64 t12 t6 fun t14 =>
 oIf t14 (oOpt (ia 1 t2 t12) fun t15 =>
 oOpt (ld1 m8 t15) fun t16 =>
 oOpt (fa 0 t4) fun t17 =>
 oOpt (ld1 m8 t17) fun t18 =>
 oOpt (ia 1 t18 t16) fun t19 =>
 oOpt (ld1 m8 t19) fun t20 =>
 oInt .add .i64 t10 t20 fun t21 =>
 oInt .add .i64 t12 (.int .i64 (.ofNat 1)) fun t22 =>
 j9 [t21, t22] m8) (k t10 m8)) lf [(.int .i64 (.ofNat 0)), (.int .i64 (.ofNat 0))] m5)
theorem S57_ok (lf : Nat) (cK : CallK β) (args : List Value) (L : Nat) (m : Mem) (k : Value → Mem → Option β)  : S57 lf cK args L m k = denF Try.prog fsT 0 K57 lf cK 57 args L m k := by kernel_rfl

/-- slices.Compare[[]int,int] -/
def K58 : Kat := [(41, (0, [11]))]
noncomputable def S58 (lf : Nat) : FnK β := fun call args L m k =>
 uc args fun t0 l1 =>
 uc l1 fun t2 l3 =>
 un0 l3 (oOpt (ln t0) fun t4 =>
 loopS (fun j7 l5 m6 =>
 uc l5 fun t8 l9 =>
 oInt .lss .i64 t8 t4 fun t10 =>
 oIf t10 (oOpt (ia 1 t0 t8) fun t11 =>
 oOpt (ld1 m6 t11) fun t12 =>
 oOpt (ln t2) fun t13 =>
 oInt .geq .i64 t8 t13 fun t14 =>
 oIf t14 (k (.int .i64 (.ofNat 1)) m6) (oOpt (ia 1 t2 t8) fun t15 =>
 oOpt (ld1 m6 t15) fun t16 =>
 call 88 [t12, t16] L m6 fun t17 m18 =>
 oInt .neq .i64 t17 (.int .i64 (.ofNat 0)) fun t19 =>
 oIf t19 (k t17 m18) (oInt .add .i64 t8 (.int .i64 (.ofNat 1)) fun t20 =>
 j7 [t20] m18))) (oOpt (ln t0) fun t21 =>
 oOpt (ln t2) fun t22 =>
 oInt .lss .i64 t21 t22 fun t23 =>
 oIf t23 (k (.int .i64 (.negSucc 0)) m6) (k (.int .i64 (.ofNat 0)) m6))) lf [(.int .i64 (.ofNat 0))] m)
theorem S58_ok (lf : Nat) (cK : CallK β) (args : List Value) (L : Nat) (m : Mem) (k : Value → Mem → Option β)  : S58 lf cK args L m k = denF Try.prog fsT 0 K58 lf cK 58 args L m k := by kernel_rfl

/-- vitola/blend.sized -/
def K59 : Kat := [(19, (1, [12]))]
noncomputable def S59 (lf : Nat) : FnK β := fun call args L m k =>
 uc args fun t0 l1 =>
 uc l1 fun t2 l3 =>
 un0 l3 (call 65 [t0, (.int .i64 (.ofNat 1)), (.int .i64 (.ofNat 10))] L m fun t4 m5 =>
 oOpt (aun .not t4) fun t6 =>
 join (fun l7 m8 =>
 uc l7 fun t10 l11 =>
 oPick t6 (.bool true) t10 fun t12 =>
 oIf t12 (k (.int .i64 (.ofNat 1)) m8) (k (.int .i64 (.ofNat 0)) m8)) fun j9 =>
 oGF t6 (call 65 [t2, (.int .i64 (.ofNat 0)), t0] L m5 fun t13 m14 =>
 oOpt (aun .not t13) fun t15 =>
 j9 [t15] m14) (j9 [Go.undef] m5))
theorem S59_ok (lf : Nat) (cK : CallK β) (args : List Value) (L : Nat) (m : Mem) (k : Value → Mem → Option β)  : S59 lf cK args L m k = denF Try.prog fsT 0 K59 lf cK 59 args L m k := by kernel_rfl

/-- vitola/blend.choose -/
def K60 : Kat := [(19, (1, [12])), (185, (0, [5, 15]))]
noncomputable def S60 (lf : Nat) : FnK β := fun call args L m k =>
 uc args fun t0 l1 =>
 uc l1 fun t2 l3 =>
 un0 l3 (oInt .lss .i64 t2 (.int .i64 (.ofNat 0)) fun t4 =>
 join (fun l5 m6 =>
 uc l5 fun t8 l9 =>
 oPick t4 (.bool true) t8 fun t10 =>
 oIf t10 (k (.int .i64 (.ofNat 0)) m6) (loopS (fun j13 l11 m12 =>
 uc l11 fun t14 l15 =>
 uc l15 fun t16 l17 =>
 oInt .lss .i64 t16 t2 fun t18 =>
 oIf t18 (oInt .sub .i64 t0 t16 fun t19 =>
 oInt .mul .i64 t14 t19 fun t20 =>
 oInt .add .i64 t16 (.int .i64 (.ofNat 1)) fun t21 =>
 oInt .quo .i64 t20 t21 fun t22 =>
 oInt .add .i64 t16 (.int .i64 (.ofNat 1)) fun t23 =>
 j13 [t22, t23] m12) (k t14 m12)) lf [(.int .i64 (.ofNat 1)), (.int .i64 (.ofNat 0))] m6)) fun j7 =>
 oGF t4 (oInt .gtr .i64 t2 t0 fun t24 =>
 j7 [t24] m) (j7 [Go.undef] m))
theorem S60_ok (lf : Nat) (cK : CallK β) (args : List Value) (L : Nat) (m : Mem) (k : Value → Mem → Option β)  : S60 lf cK args L m k = denF Try.prog fsT 0 K60 lf cK 60 args L m k := by kernel_rfl

/-- vitola/vitolaref04.sized -/
def K61 : Kat := [(19, (1, [12]))]
noncomputable def S61 (lf : Nat) : FnK β := fun call args L m k =>
 uc args fun t0 l1 =>
 uc l1 fun t2 l3 =>
 un0 l3 (call 67 [t0, (.int .i64 (.ofNat 1)), (.int .i64 (.ofNat 10))] L m fun t4 m5 =>
 oOpt (aun .not t4) fun t6 =>
 join (fun l7 m8 =>
 uc l7 fun t10 l11 =>
 oPick t6 (.bool true) t10 fun t12 =>
 oIf t12 (k (.int .i64 (.ofNat 1)) m8) (k (.int .i64 (.ofNat 0)) m8)) fun j9 =>
 oGF t6 (call 67 [t2, (.int .i64 (.ofNat 0)), t0] L m5 fun t13 m14 =>
 oOpt (aun .not t13) fun t15 =>
 j9 [t15] m14) (j9 [Go.undef] m5))
theorem S61_ok (lf : Nat) (cK : CallK β) (args : List Value) (L : Nat) (m : Mem) (k : Value → Mem → Option β)  : S61 lf cK args L m k = denF Try.prog fsT 0 K61 lf cK 61 args L m k := by kernel_rfl

/-- vitola/vitolaref04.round -/
def K62 : Kat := [(761, (0, [5, 7]))]
noncomputable def S62 (lf : Nat) : FnK β := fun call args L m k =>
 uc args fun t0 l1 =>
 uc l1 fun t2 l3 =>
 un0 l3 (oInt .eql .i64 t2 (.int .i64 (.ofNat 0)) fun t4 =>
 oIf t4 (oRes (bs Try.prog m 22 0 []) fun t5 m6 =>
 oRes (bs Try.prog m6 37 1 [(0, t5)]) fun t7 m8 =>
 k t7 m8) (oInt .eql .i64 t2 t0 fun t9 =>
 oIf t9 (call 89 [t0] L m fun t10 m11 =>
 oRes (bs Try.prog m11 37 1 [(0, t10)]) fun t12 m13 =>
 k t12 m13) (oInt .sub .i64 t0 (.int .i64 (.ofNat 1)) fun t14 =>
 call 62 [t14, t2] L m fun t15 m16 =>
 oInt .sub .i64 t0 (.int .i64 (.ofNat 1)) fun t17 =>
 oInt .sub .i64 t2 (.int .i64 (.ofNat 1)) fun t18 =>
 call 62 [t17, t18] L m16 fun t19 m20 =>
 oOpt (ln t19) fun t21 =>
 oInt .sub .i64 t21 (.int .i64 (.ofNat 1)) fun t22 =>
 loopS (fun j25 l23 m24 =>
 uc l23 fun t26 l27 =>
 uc l27 fun t28 l29 =>
 oInt .geq .i64 t28 (.int .i64 (.ofNat 0)) fun t30 =>
 oIf t30 (oRes (bs Try.prog m24 22 0 []) fun t31 m32 =>
 oOpt (ia 1 t19 t28) fun t33 =>
 oOpt (ld1 m32 t33) fun t34 =>
 oRes (aappend Try.prog L m32 22 t31 t34) fun t35 m36 =>
 oInt .sub .i64 t0 (.int .i64 (.ofNat 1)) fun t37 =>
 oRes (bs Try.prog m36 22 1 [(0, t37)]) fun t38 m39 =>
 oRes (aappend Try.prog L m39 22 t35 t38) fun t40 m41 =>
 oRes (bs Try.prog m41 37 1 [(0, t40)]) fun t42 m43 =>
 oRes (aappend Try.prog L m43 37 t26 t42) fun t44 m45 =>
 oInt .sub .i64 t28 (.int .i64 (.ofNat 1)) fun t46 =>
 j25 [t44, t46] m45) (k t26 m24)) lf [t15, t22] m20)))
theorem S62_ok (lf : Nat) (cK : CallK β) (args : List Value) (L : Nat) (m : Mem) (k : Value → Mem → Option β)  : S62 lf cK args L m k = denF Try.prog fsT 0 K62 lf cK 62 args L m k := by kernel_rfl

/-- vitola/blend.number -/
def K63 : Kat := []
noncomputable def S63 (lf : Nat) : FnK β := fun call args L m k =>
 uc args fun t0 l1 =>
 un0 l1 (oOpt (ln t0) fun t2 =>
 oInt .eql .i64 t2 (.int .i64 (.ofNat 0)) fun t3 =>
 oIf t3 (k (.int .i64 (.ofNat 0)) m) (oInt .sub .i64 t2 (.int .i64 (.ofNat 1)) fun t4 =>
 oOpt (ia 1 t0 t4) fun t5 =>
 oOpt (ld1 m t5) fun t6 =>
 oInt .add .i64 t6 (.int .i64 (.ofNat 1)) fun t7 =>
 call 60 [t7, t2] L m fun t8 m9 =>
 oInt .sub .i64 t8 (.int .i64 (.ofNat 1)) fun t10 =>
 oInt .sub .i64 t2 (.int .i64 (.ofNat 1)) fun t11 =>
 oOpt (sl Try.prog 22 t0 none (some t11) none) fun t12 =>
 call 63 [t12] L m9 fun t13 m14 =>
 oInt .sub .i64 t10 t13 fun t15 =>
 k t15 m14))
theorem S63_ok (lf : Nat) (cK : CallK β) (args : List Value) (L : Nat) (m : Mem) (k : Value → Mem → Option β)  : S63 lf cK args L m k = denF Try.prog fsT 0 K63 lf cK 63 args L m k := by kernel_rfl

/-- vitola/vitolaref04.same -/
def K64 : Kat := [(89, (0, [5]))]
noncomputable def S64 (lf : Nat) : FnK β := fun call args L m k =>
 uc args fun t0 l1 =>
 uc l1 fun t2 l3 =>
 un0 l3 (oOpt (ln t0) fun t4 =>
 oOpt (ln t2) fun t5 =>
 oInt .neq .i64 t4 t5 fun t6 =>
 oIf t6 (k (.bool false) m) (loopS (fun j9 l7 m8 =>
 uc l7 fun t10 l11 =>
 oOpt (ln t0) fun t12 =>
 oInt .lss .i64 t10 t12 fun t13 =>
 oIf t13 (oOpt (ia 1 t0 t10) fun t14 =>
 oOpt (ld1 m8 t14) fun t15 =>
 oOpt (ia 1 t2 t10) fun t16 =>
 oOpt (ld1 m8 t16) fun t17 =>
 oInt .neq .i64 t15 t17 fun t18 =>
 oIf t18 (k (.bool false) m8) (oInt .add .i64 t10 (.int .i64 (.ofNat 1)) fun t19 =>
 j9 [t19] m8)) (k (.bool true) m8)) lf [(.int .i64 (.ofNat 0))] m))
theorem S64_ok (lf : Nat) (cK : CallK β) (args : List Value) (L : Nat) (m : Mem) (k : Value → Mem → Option β)  : S64 lf cK args L m k = denF Try.prog fsT 0 K64 lf cK 64 args L m k := by kernel_rfl

/-- vitola/blend.within -/
def K65 : Kat := [(9, (1, [13]))]
noncomputable def S65 (lf : Nat) : FnK β := fun call args L m k =>
 uc args fun t0 l1 =>
 uc l1 fun t2 l3 =>
 uc l3 fun t4 l5 =>
 un0 l5 (oInt .leq .i64 t2 t0 fun t6 =>
 join (fun l7 m8 =>
 uc l7 fun t10 l11 =>
 oPick t6 t10 (.bool false) fun t12 =>
 k t12 m8) fun j9 =>
 oGT t6 (oInt .leq .i64 t0 t4 fun t13 =>
 j9 [t13] m) (j9 [Go.undef] m))
theorem S65_ok (lf : Nat) (cK : CallK β) (args : List Value) (L : Nat) (m : Mem) (k : Value → Mem → Option β)  : S65 lf cK args L m k = denF Try.prog fsT 0 K65 lf cK 65 args L m k := by kernel_rfl

/-- vitola/blend.nth -/
def K66 : Kat := [(89, (0, [1, 6])), (11555, (0, [7]))]
noncomputable def S66 (lf : Nat) : FnK β := fun call args L m k =>
 uc args fun t0 l1 =>
 uc l1 fun t2 l3 =>
 un0 l3 (oRes (amakeSlice Try.prog m 22 t0 t0) fun t4 m5 =>
 loopS (fun j8 l6 m7 =>
 uc l6 fun t9 l10 =>
 uc l10 fun t11 l12 =>
 oInt .gtr .i64 t11 (.int .i64 (.ofNat 0)) fun t13 =>
 oIf t13 (oInt .sub .i64 t11 (.int .i64 (.ofNat 1)) fun t14 =>
 loopS (fun j17 l15 m16 =>
 uc l15 fun t18 l19 =>
 oInt .add .i64 t18 (.int .i64 (.ofNat 1)) fun t20 =>
 call 60 [t20, t11] L m16 fun t21 m22 =>
 oInt .leq .i64 t21 t9 fun t23 =>
 oIf t23 (oInt .add .i64 t18 (.int .i64 (.ofNat 1)) fun t24 =>
 j17 [t24] m22) (oInt .sub .i64 t11 (.int .i64 (.ofNat 1)) fun t25 =>
 oOpt (ia 1 t4 t25) fun t26 =>
 oRes (st1 1 L m22 t26 t18) fun t27 m28 =>
 oInt .add .i64 t18 (.int .i64 (.ofNat 1)) fun t29 =>
 call 60 [t29, t11] L m28 fun t30 m31 =>
 oInt .sub .i64 t30 (.int .i64 (.ofNat 1)) fun t32 =>
 oInt .sub .i64 t32 t9 fun t33 =>
 oInt .sub .i64 t11 (.int .i64 (.ofNat 1)) fun t34 =>
 j8 [t33, t34] m31)) lf [t14] m7) (k t4 m7)) lf [t2, t0] m5)
theorem S66_ok (lf : Nat) (cK : CallK β) (args : List Value) (L : Nat) (m : Mem) (k : Value → Mem → Option β)  : S66 lf cK args L m k = denF Try.prog fsT 0 K66 lf cK 66 args L m k := by kernel_rfl

/-- vitola/vitolaref04.in -/
def K67 : Kat := [(9, (1, [13]))]
noncomputable def S67 (lf : Nat) : FnK β := fun call args L m k =>
 uc args fun t0 l1 =>
 uc l1 fun t2 l3 =>
 uc l3 fun t4 l5 =>
 un0 l5 (oInt .geq .i64 t0 t2 fun t6 =>
 join (fun l7 m8 =>
 uc l7 fun t10 l11 =>
 oPick t6 t10 (.bool false) fun t12 =>
 k t12 m8) fun j9 =>
 oGT t6 (oInt .leq .i64 t0 t4 fun t13 =>
 j9 [t13] m) (j9 [Go.undef] m))
theorem S67_ok (lf : Nat) (cK : CallK β) (args : List Value) (L : Nat) (m : Mem) (k : Value → Mem → Option β)  : S67 lf cK args L m k = denF Try.prog fsT 0 K67 lf cK 67 args L m k := by kernel_rfl

/-- vitola/blend.missing -/
def K68 : Kat := [(41, (0, [9]))]
noncomputable def S68 (lf : Nat) : FnK β := fun call args L m k =>
 uc args fun t0 l1 =>
 uc l1 fun t2 l3 =>
 un0 l3 (oOpt (ln t0) fun t4 =>
 loopS (fun j7 l5 m6 =>
 uc l5 fun t8 l9 =>
 oInt .lss .i64 t8 t4 fun t10 =>
 oIf t10 (oOpt (ia 1 t0 t8) fun t11 =>
 oOpt (ld1 m6 t11) fun t12 =>
 call 48 [t2, t12] L m6 fun t13 m14 =>
 oOpt (aun .not t13) fun t15 =>
 oIf t15 (k t12 m14) (oInt .add .i64 t8 (.int .i64 (.ofNat 1)) fun t16 =>
 j7 [t16] m14)) (k (.int .i64 (.negSucc 0)) m6)) lf [(.int .i64 (.ofNat 0))] m)
theorem S68_ok (lf : Nat) (cK : CallK β) (args : List Value) (L : Nat) (m : Mem) (k : Value → Mem → Option β)  : S68 lf cK args L m k = denF Try.prog fsT 0 K68 lf cK 68 args L m k := by kernel_rfl

/-- vitola/vitolaref04.less -/
def K69 : Kat := [(89, (0, [5, 6])), (2888, (0, [5]))]
noncomputable def S69 (lf : Nat) : FnK β := fun call args L m k =>
 uc args fun t0 l1 =>
 uc l1 fun t2 l3 =>
 un0 l3 (loopS (fun j6 l4 m5 =>
 uc l4 fun t7 l8 =>
 uc l8 fun t9 l10 =>
 oOpt (ln t0) fun t11 =>
 oInt .lss .i64 t9 t11 fun t12 =>
 oIf t12 (oOpt (ia 1 t0 t9) fun t13 =>
 oOpt (ld1 m5 t13) fun t14 =>
 call 90 [t2, t14] L m5 fun t15 m16 =>
 oOpt (aun .not t15) fun t17 =>
 join (fun l18 m19 =>
 uc l18 fun t21 l22 =>
 oInt .add .i64 t9 (.int .i64 (.ofNat 1)) fun t23 =>
 j6 [t21, t23] m19) fun j20 =>
 oIf t17 (oOpt (ia 1 t0 t9) fun t24 =>
 oOpt (ld1 m16 t24) fun t25 =>
 oRes (bs Try.prog m16 22 1 [(0, t25)]) fun t26 m27 =>
 oRes (aappend Try.prog L m27 22 t7 t26) fun t28 m29 =>
 j20 [t28] m29) (j20 [t7] m16)) (k t7 m5)) lf [(.slice none 0 0), (.int .i64 (.ofNat 0))] m)
theorem S69_ok (lf : Nat) (cK : CallK β) (args : List Value) (L : Nat) (m : Mem) (k : Value → Mem → Option β)  : S69 lf cK args L m k = denF Try.prog fsT 0 K69 lf cK 69 args L m k := by kernel_rfl

/-- vitola/blend.both -/
def K70 : Kat := [(44, (0, [7])), (91, (1, [23])), (92, (0, [7]))]
noncomputable def S70 (lf : Nat) : FnK β := fun call args L m k =>
 uc args fun t0 l1 =>
 uc l1 fun t2 l3 =>
 uc l3 fun t4 l5 =>
 un0 l5 (call 25 [t0, t2] L m fun t6 m7 =>
 oInt .eql .i64 t6 (.int .i64 (.ofNat 0)) fun t8 =>
 join (fun l9 m10 =>
 uc l9 fun t12 l13 =>
 oInt .eql .i64 t12 (.int .i64 (.ofNat 0)) fun t14 =>
 join (fun l15 m16 =>
 uc l15 fun t18 l19 =>
 oPick t14 t18 (.bool false) fun t20 =>
 join (fun l21 m22 =>
 uc l21 fun t24 l25 =>
 k t24 m22) fun j23 =>
 oIf t20 (j23 [(.int .i64 (.ofNat 5))] m16) (j23 [t12] m16)) fun j17 =>
 oGT t14 (oOpt (ln t2) fun t26 =>
 oOpt (ln t4) fun t27 =>
 oInt .neq .i64 t26 t27 fun t28 =>
 j17 [t28] m10) (j17 [Go.undef] m10)) fun j11 =>
 oIf t8 (call 25 [t0, t4] L m7 fun t29 m30 =>
 j11 [t29] m30) (j11 [t6] m7))
theorem S70_ok (lf : Nat) (cK : CallK β) (args : List Value) (L : Nat) (m : Mem) (k : Value → Mem → Option β)  : S70 lf cK args L m k = denF Try.prog fsT 0 K70 lf cK 70 args L m k := by kernel_rfl

/-- vitola/blend.away -/
def K71 : Kat := [(89, (0, [5, 10])), (11570, (0, [5]))]
noncomputable def S71 (lf : Nat) : FnK β := fun call args L m k =>
 uc args fun t0 l1 =>
 uc l1 fun t2 l3 =>
 un0 l3 (oOpt (ln t0) fun t4 =>
 loopS (fun j7 l5 m6 =>
 uc l5 fun t8 l9 =>
 uc l9 fun t10 l11 =>
 oInt .lss .i64 t10 t4 fun t12 =>
 oIf t12 (oOpt (ia 1 t0 t10) fun t13 =>
 oOpt (ld1 m6 t13) fun t14 =>
 call 48 [t2, t14] L m6 fun t15 m16 =>
 oOpt (aun .not t15) fun t17 =>
 join (fun l18 m19 =>
 uc l18 fun t21 l22 =>
 oInt .add .i64 t10 (.int .i64 (.ofNat 1)) fun t23 =>
 j7 [t21, t23] m19) fun j20 =>
 oIf t17 (oInt .add .i64 t8 (.int .i64 (.ofNat 1)) fun t24 =>
 j20 [t24] m16) (j20 [t8] m16)) (k t8 m6)) lf [(.int .i64 (.ofNat 0)), (.int .i64 (.ofNat 0))] m)
theorem S71_ok (lf : Nat) (cK : CallK β) (args : List Value) (L : Nat) (m : Mem) (k : Value → Mem → Option β)  : S71 lf cK args L m k = denF Try.prog fsT 0 K71 lf cK 71 args L m k := by kernel_rfl

/-- vitola/vitolaref04.both -/
def K72 : Kat := [(44, (0, [7])), (91, (1, [23])), (92, (0, [7]))]
noncomputable def S72 (lf : Nat) : FnK β := fun call args L m k =>
 uc args fun t0 l1 =>
 uc l1 fun t2 l3 =>
 uc l3 fun t4 l5 =>
 un0 l5 (call 26 [t0, t2] L m fun t6 m7 =>
 oInt .eql .i64 t6 (.int .i64 (.ofNat 0)) fun t8 =>
 join (fun l9 m10 =>
 uc l9 fun t12 l13 =>
 oInt .eql .i64 t12 (.int .i64 (.ofNat 0)) fun t14 =>
 join (fun l15 m16 =>
 uc l15 fun t18 l19 =>
 oPick t14 t18 (.bool false) fun t20 =>
 join (fun l21 m22 =>
 uc l21 fun t24 l25 =>
 k t24 m22) fun j23 =>
 oIf t20 (j23 [(.int .i64 (.ofNat 5))] m16) (j23 [t12] m16)) fun j17 =>
 oGT t14 (oOpt (ln t2) fun t26 =>
 oOpt (ln t4) fun t27 =>
 oInt .neq .i64 t26 t27 fun t28 =>
 j17 [t28] m10) (j17 [Go.undef] m10)) fun j11 =>
 oIf t8 (call 26 [t0, t4] L m7 fun t29 m30 =>
 j11 [t29] m30) (j11 [t6] m7))
theorem S72_ok (lf : Nat) (cK : CallK β) (args : List Value) (L : Nat) (m : Mem) (k : Value → Mem → Option β)  : S72 lf cK args L m k = denF Try.prog fsT 0 K72 lf cK 72 args L m k := by kernel_rfl

/-- slices.Clone[[]int,int] -/
def K73 : Kat := []
noncomputable def S73 (lf : Nat) : FnK β := fun call args L m k =>
 uc args fun t0 l1 =>
 un0 l1 (oOpt (abin Try.prog .eql 22 t0 (.slice none 0 0)) fun t2 =>
 oIf t2 (k (.slice none 0 0) m) (oRes (bs Try.prog m 22 0 []) fun t3 m4 =>
 oRes (aappend Try.prog L m4 22 t3 t0) fun t5 m6 =>
 k t5 m6))
theorem S73_ok (lf : Nat) (cK : CallK β) (args : List Value) (L : Nat) (m : Mem) (k : Value → Mem → Option β)  : S73 lf cK args L m k = denF Try.prog fsT 0 K73 lf cK 73 args L m k := by kernel_rfl

/-- slices.Index[[]int,int] -/
def K74 : Kat := [(41, (0, [8]))]
noncomputable def S74 (lf : Nat) : FnK β := fun call args L m k =>
 uc args fun t0 l1 =>
 uc l1 fun t2 l3 =>
 un0 l3 (oOpt (ln t0) fun t4 =>
 loopS (fun j7 l5 m6 =>
 uc l5 fun t8 l9 =>
 oInt .lss .i64 t8 t4 fun t10 =>
 oIf t10 (oOpt (ia 1 t0 t8) fun t11 =>
 oOpt (ld1 m6 t11) fun t12 =>
 oInt .eql .i64 t2 t12 fun t13 =>
 oIf t13 (k t8 m6) (oInt .add .i64 t8 (.int .i64 (.ofNat 1)) fun t14 =>
 j7 [t14] m6)) (k (.int .i64 (.negSucc 0)) m6)) lf [(.int .i64 (.ofNat 0))] m)
theorem S74_ok (lf : Nat) (cK : CallK β) (args : List Value) (L : Nat) (m : Mem) (k : Value → Mem → Option β)  : S74 lf cK args L m k = denF Try.prog fsT 0 K74 lf cK 74 args L m k := by kernel_rfl

/-- vitola/vitolaref04.exchanged -/
def K75 : Kat := [(89, (0, [9, 10])), (2887, (1, [23])), (2887, (2, [26])), (2887, (3, [27])), (2888, (0, [9]))]
noncomputable def S75 (lf : Nat) : FnK β := fun call args L m k =>
 uc args fun t0 l1 =>
 uc l1 fun t2 l3 =>
 uc l3 fun t4 l5 =>
 uc l5 fun t6 l7 =>
 un0 l7 (loopS (fun j10 l8 m9 =>
 uc l8 fun t11 l12 =>
 uc l12 fun t13 l14 =>
 oInt .lss .i64 t13 t0 fun t15 =>
 oIf t15 (oInt .eql .i64 t13 t6 fun t16 =>
 join (fun l17 m18 =>
 uc l17 fun t20 l21 =>
 join (fun l22 m23 =>
 uc l22 fun t25 l26 =>
 join (fun l27 m28 =>
 uc l27 fun t30 l31 =>
 oPick t16 (.bool true) t30 fun t32 =>
 join (fun l33 m34 =>
 uc l33 fun t36 l37 =>
 oInt .add .i64 t13 (.int .i64 (.ofNat 1)) fun t38 =>
 j10 [t36, t38] m34) fun j35 =>
 oIf t32 (oRes (bs Try.prog m28 22 1 [(0, t13)]) fun t39 m40 =>
 oRes (aappend Try.prog L m40 22 t11 t39) fun t41 m42 =>
 j35 [t41] m42) (j35 [t11] m28)) fun j29 =>
 oGF t16 (oPick t20 t25 (.bool false) fun t43 =>
 j29 [t43] m23) (j29 [Go.undef] m23)) fun j24 =>
 oGT t20 (call 90 [t2, t13] L m18 fun t44 m45 =>
 j24 [t44] m45) (j24 [Go.undef] m18)) fun j19 =>
 oGF t16 (oInt .neq .i64 t13 t4 fun t46 =>
 j19 [t46] m9) (j19 [Go.undef] m9)) (k t11 m9)) lf [(.slice none 0 0), (.int .i64 (.ofNat 0))] m)
theorem S75_ok (lf : Nat) (cK : CallK β) (args : List Value) (L : Nat) (m : Mem) (k : Value → Mem → Option β)  : S75 lf cK args L m k = denF Try.prog fsT 0 K75 lf cK 75 args L m k := by kernel_rfl

/-- vitola/blend.blended -/
def K76 : Kat := []
noncomputable def S76 (lf : Nat) : FnK β := fun call args L m k =>
 uc args fun t0 l1 =>
 uc l1 fun t2 l3 =>
 un0 l3 (oRes (abox m t0) fun t4 m5 =>
 oOpt (ldN m5 3 t4) fun t6 =>
 call 36 [t6] L m5 fun t7 m8 =>
 oInt .neq .i64 t7 (.int .i64 (.ofNat 0)) fun t9 =>
 oIf t9 (k t7 m8) (oOpt (fa 0 t4) fun t10 =>
 oOpt (ld1 m8 t10) fun t11 =>
 oOpt (ln t11) fun t12 =>
 call 25 [t12, t2] L m8 fun t13 m14 =>
 k t13 m14))
theorem S76_ok (lf : Nat) (cK : CallK β) (args : List Value) (L : Nat) (m : Mem) (k : Value → Mem → Option β)  : S76 lf cK args L m k = denF Try.prog fsT 0 K76 lf cK 76 args L m k := by kernel_rfl

/-- (vitola/blend.Recipe).weight -/
def K77 : Kat := [(89, (0, [5, 10]))]
noncomputable def S77 (lf : Nat) : FnK β := fun call args L m k =>
 uc args fun t0 l1 =>
 uc l1 fun t2 l3 =>
 un0 l3 (oRes (abox m t0) fun t4 m5 =>
 oOpt (ln t2) fun t6 =>
 loopS (fun j9 l7 m8 =>
 uc l7 fun t10 l11 =>
 uc l11 fun t12 l13 =>
 oInt .lss .i64 t12 t6 fun t14 =>
 oIf t14 (oOpt (ia 1 t2 t12) fun t15 =>
 oOpt (ld1 m8 t15) fun t16 =>
 oOpt (fa 0 t4) fun t17 =>
 oOpt (ld1 m8 t17) fun t18 =>
 oOpt (ia 1 t18 t16) fun t19 =>
 oOpt (ld1 m8 t19) fun t20 =>
 oInt .add .i64 t10 t20 fun t21 =>
 oInt .add .i64 t12 (.int .i64 (.ofNat 1)) fun t22 =>
 j9 [t21, t22] m8) (k t10 m8)) lf [(.int .i64 (.ofNat 0)), (.int .i64 (.ofNat 0))] m5)
theorem S77_ok (lf : Nat) (cK : CallK β) (args : List Value) (L : Nat) (m : Mem) (k : Value → Mem → Option β)  : S77 lf cK args L m k = denF Try.prog fsT 0 K77 lf cK 77 args L m k := by kernel_rfl

/-- vitola/vitolaref04.blended -/
def K78 : Kat := [(44, (0, [5]))]
noncomputable def S78 (lf : Nat) : FnK β := fun call args L m k =>
 uc args fun t0 l1 =>
 uc l1 fun t2 l3 =>
 un0 l3 (oRes (abox m t0) fun t4 m5 =>
 oOpt (ldN m5 3 t4) fun t6 =>
 call 37 [t6] L m5 fun t7 m8 =>
 oInt .eql .i64 t7 (.int .i64 (.ofNat 0)) fun t9 =>
 join (fun l10 m11 =>
 uc l10 fun t13 l14 =>
 k t13 m11) fun j12 =>
 oIf t9 (oOpt (fa 0 t4) fun t15 =>
 oOpt (ld1 m8 t15) fun t16 =>
 oOpt (ln t16) fun t17 =>
 call 26 [t17, t2] L m8 fun t18 m19 =>
 j12 [t18] m19) (j12 [t7] m8))
theorem S78_ok (lf : Nat) (cK : CallK β) (args : List Value) (L : Nat) (m : Mem) (k : Value → Mem → Option β)  : S78 lf cK args L m k = denF Try.prog fsT 0 K78 lf cK 78 args L m k := by kernel_rfl

/-- vitola/vitolaref04.weight -/
def K79 : Kat := [(89, (0, [5, 6]))]
noncomputable def S79 (lf : Nat) : FnK β := fun call args L m k =>
 uc args fun t0 l1 =>
 uc l1 fun t2 l3 =>
 un0 l3 (oRes (abox m t0) fun t4 m5 =>
 loopS (fun j8 l6 m7 =>
 uc l6 fun t9 l10 =>
 uc l10 fun t11 l12 =>
 oOpt (ln t2) fun t13 =>
 oInt .lss .i64 t11 t13 fun t14 =>
 oIf t14 (oOpt (fa 0 t4) fun t15 =>
 oOpt (ld1 m7 t15) fun t16 =>
 oOpt (ia 1 t2 t11) fun t17 =>
 oOpt (ld1 m7 t17) fun t18 =>
 oOpt (ia 1 t16 t18) fun t19 =>
 oOpt (ld1 m7 t19) fun t20 =>
 oInt .add .i64 t9 t20 fun t21 =>
 oInt .add .i64 t11 (.int .i64 (.ofNat 1)) fun t22 =>
 j8 [t21, t22] m7) (k t9 m7)) lf [(.int .i64 (.ofNat 0)), (.int .i64 (.ofNat 0))] m5)
theorem S79_ok (lf : Nat) (cK : CallK β) (args : List Value) (L : Nat) (m : Mem) (k : Value → Mem → Option β)  : S79 lf cK args L m k = denF Try.prog fsT 0 K79 lf cK 79 args L m k := by kernel_rfl

/-- (vitola/blend.Recipe).fitting -/
def K80 : Kat := []
noncomputable def S80 (lf : Nat) : FnK β := fun call args L m k =>
 uc args fun t0 l1 =>
 uc l1 fun t2 l3 =>
 un0 l3 (oRes (abox m t0) fun t4 m5 =>
 oRes (abox m5 t2) fun t6 m7 =>
 k (.func (.func 91) #[] ⟨[t4, t6]⟩) m7)
theorem S80_ok (lf : Nat) (cK : CallK β) (args : List Value) (L : Nat) (m : Mem) (k : Value → Mem → Option β)  : S80 lf cK args L m k = denF Try.prog fsT 0 K80 lf cK 80 args L m k := by kernel_rfl

/-- slices.ContainsFunc[[]int,int] -/
def K81 : Kat := []
noncomputable def S81 (lf : Nat) : FnK β := fun call args L m k =>
 uc args fun t0 l1 =>
 uc l1 fun t2 l3 =>
 un0 l3 (call 92 [t0, t2] L m fun t4 m5 =>
 oInt .geq .i64 t4 (.int .i64 (.ofNat 0)) fun t6 =>
 k t6 m5)
theorem S81_ok (lf : Nat) (cK : CallK β) (args : List Value) (L : Nat) (m : Mem) (k : Value → Mem → Option β)  : S81 lf cK args L m k = denF Try.prog fsT 0 K81 lf cK 81 args L m k := by kernel_rfl

/-- vitola/blend.CheckRecipe$1 -/
def K82 : Kat := []
noncomputable def S82 (lf : Nat) : FnK β := fun call args L m k =>
 uc args fun t0 l1 =>
 un0 l1 (call 65 [t0, (.int .i64 (.ofNat 0)), (.int .i64 (.ofNat 50))] L m fun t2 m3 =>
 oOpt (aun .not t2) fun t4 =>
 k t4 m3)
theorem S82_ok (lf : Nat) (cK : CallK β) (args : List Value) (L : Nat) (m : Mem) (k : Value → Mem → Option β)  : S82 lf cK args L m k = denF Try.prog fsT 0 K82 lf cK 82 args L m k := by kernel_rfl

/-- vitola/vitolaref04.smaller -/
def K83 : Kat := [(41, (0, [5]))]
noncomputable def S83 (lf : Nat) : FnK β := fun call args L m k =>
 uc args fun t0 l1 =>
 uc l1 fun t2 l3 =>
 un0 l3 (loopS (fun j6 l4 m5 =>
 uc l4 fun t7 l8 =>
 oOpt (ln t0) fun t9 =>
 oInt .lss .i64 t7 t9 fun t10 =>
 oIf t10 (oOpt (ia 1 t0 t7) fun t11 =>
 oOpt (ld1 m5 t11) fun t12 =>
 oOpt (ia 1 t2 t7) fun t13 =>
 oOpt (ld1 m5 t13) fun t14 =>
 oInt .neq .i64 t12 t14 fun t15 =>
 oIf t15 (oOpt (ia 1 t0 t7) fun t16 =>
 oOpt (ld1 m5 t16) fun t17 =>
 oOpt (ia 1 t2 t7) fun t18 =>
 oOpt (ld1 m5 t18) fun t19 =>
 oInt .lss .i64 t17 t19 fun t20 =>
 k t20 m5) (oInt .add .i64 t7 (.int .i64 (.ofNat 1)) fun t21 =>
 j6 [t21] m5)) (k (.bool false) m5)) lf [(.int .i64 (.ofNat 0))] m)
theorem S83_ok (lf : Nat) (cK : CallK β) (args : List Value) (L : Nat) (m : Mem) (k : Value → Mem → Option β)  : S83 lf cK args L m k = denF Try.prog fsT 0 K83 lf cK 83 args L m k := by kernel_rfl

/-- math/bits.OnesCount16 -/
def K84 : Kat := []
noncomputable def S84 (lf : Nat) : FnK β := fun call args L m k =>
 uc args fun t0 l1 =>
 un0 l1 (oOpt (abin Try.prog .shr 63 t0 (.int .u64 (.ofNat 8))) fun t2 =>
 oOpt (aindex Try.prog 9 (.string ⟨#[0, 1, 1, 2, 1, 2, 2, 3, 1, 2, 2, 3, 2, 3, 3, 4, 1, 2, 2, 3, 2, 3, 3, 4, 2, 3, 3, 4, 3, 4, 4, 5, 1, 2, 2, 3, 2, 3, 3, 4, 2, 3, 3, 4, 3, 4, 4, 5, 2, 3, 3, 4, 3, 4, 4, 5, 3, 4, 4, 5, 4, 5, 5, 6, 1, 2, 2, 3, 2, 3, 3, 4, 2, 3, 3, 4, 3, 4, 4, 5, 2, 3, 3, 4, 3, 4, 4, 5, 3, 4, 4, 5, 4, 5, 5, 6, 2, 3, 3, 4, 3, 4, 4, 5, 3, 4, 4, 5, 4, 5, 5, 6, 3, 4, 4, 5, 4, 5, 5, 6, 4, 5, 5, 6, 5, 6, 6, 7, 1, 2, 2, 3, 2, 3, 3, 4, 2, 3, 3, 4, 3, 4, 4, 5, 2, 3, 3, 4, 3, 4, 4, 5, 3, 4, 4, 5, 4, 5, 5, 6, 2, 3, 3, 4, 3, 4, 4, 5, 3, 4, 4, 5, 4, 5, 5, 6, 3, 4, 4, 5, 4, 5, 5, 6, 4, 5, 5, 6, 5, 6, 6, 7, 2, 3, 3, 4, 3, 4, 4, 5, 3, 4, 4, 5, 4, 5, 5, 6, 3, 4, 4, 5, 4, 5, 5, 6, 4, 5, 5, 6, 5, 6, 6, 7, 3, 4, 4, 5, 4, 5, 5, 6, 4, 5, 5, 6, 5, 6, 6, 7, 4, 5, 5, 6, 5, 6, 6, 7, 5, 6, 6, 7, 6, 7, 7, 8]⟩) t2) fun t3 =>
 oInt .and .u16 t0 (.int .u16 (.ofNat 255)) fun t4 =>
 oOpt (aindex Try.prog 9 (.string ⟨#[0, 1, 1, 2, 1, 2, 2, 3, 1, 2, 2, 3, 2, 3, 3, 4, 1, 2, 2, 3, 2, 3, 3, 4, 2, 3, 3, 4, 3, 4, 4, 5, 1, 2, 2, 3, 2, 3, 3, 4, 2, 3, 3, 4, 3, 4, 4, 5, 2, 3, 3, 4, 3, 4, 4, 5, 3, 4, 4, 5, 4, 5, 5, 6, 1, 2, 2, 3, 2, 3, 3, 4, 2, 3, 3, 4, 3, 4, 4, 5, 2, 3, 3, 4, 3, 4, 4, 5, 3, 4, 4, 5, 4, 5, 5, 6, 2, 3, 3, 4, 3, 4, 4, 5, 3, 4, 4, 5, 4, 5, 5, 6, 3, 4, 4, 5, 4, 5, 5, 6, 4, 5, 5, 6, 5, 6, 6, 7, 1, 2, 2, 3, 2, 3, 3, 4, 2, 3, 3, 4, 3, 4, 4, 5, 2, 3, 3, 4, 3, 4, 4, 5, 3, 4, 4, 5, 4, 5, 5, 6, 2, 3, 3, 4, 3, 4, 4, 5, 3, 4, 4, 5, 4, 5, 5, 6, 3, 4, 4, 5, 4, 5, 5, 6, 4, 5, 5, 6, 5, 6, 6, 7, 2, 3, 3, 4, 3, 4, 4, 5, 3, 4, 4, 5, 4, 5, 5, 6, 3, 4, 4, 5, 4, 5, 5, 6, 4, 5, 5, 6, 5, 6, 6, 7, 3, 4, 4, 5, 4, 5, 5, 6, 4, 5, 5, 6, 5, 6, 6, 7, 4, 5, 5, 6, 5, 6, 6, 7, 5, 6, 6, 7, 6, 7, 7, 8]⟩) t4) fun t5 =>
 oInt .add .u8 t3 t5 fun t6 =>
 oCv .i64 t6 fun t7 =>
 k t7 m)
theorem S84_ok (lf : Nat) (cK : CallK β) (args : List Value) (L : Nat) (m : Mem) (k : Value → Mem → Option β)  : S84 lf cK args L m k = denF Try.prog fsT 0 K84 lf cK 84 args L m k := by kernel_rfl

end
end Go.Vit
