/- Shallow texts of the seat's functions, printed by a program: part 2. -/
import Derived.Test.YtgimcgdehgbljaaRows
import Derived.Test.YtgimcgdehgbljaaFs
set_option linter.unusedVariables false
set_option maxRecDepth 100000
namespace Go.Vit
open Go Go.Proofs
section
variable {β : Type}
/-- vitola/vitolalaw04.large -/
def K14 : Kat := [(41, (0, [3]))]
noncomputable def S14 (lf : Nat) : FnK β := fun call args L m k =>
 uc args fun t0 l1 =>
 un0 l1 (loopS (fun j4 l2 m3 =>
 uc l2 fun t5 l6 =>
 oOpt (ln t0) fun t7 =>
 oInt .lss .i64 t5 t7 fun t8 =>
 oIf t8 (oOpt (ia 1 t0 t5) fun t9 =>
 oOpt (ld1 m3 t9) fun t10 =>
 oOpt (ln t10) fun t11 =>
 oInt .gtr .i64 t11 (.int .i64 (.ofNat 60)) fun t12 =>
 oIf t12 (k (.bool true) m3) (oInt .add .i64 t5 (.int .i64 (.ofNat 1)) fun t13 =>
 j4 [t13] m3)) (k (.bool false) m3)) lf [(.int .i64 (.ofNat 0))] m)
theorem S14_ok (lf : Nat) (cK : CallK β) (args : List Value) (L : Nat) (m : Mem) (k : Value → Mem → Option β)  : S14 lf cK args L m k = denF Try.prog fsT 0 K14 lf cK 14 args L m k := by kernel_rfl

/-- vitola/vitolalaw04.works: the general reading itself -/
def K15 : Kat := [(1531, (1, [62])), (1531, (3, [66])), (1531, (5, [70])), (1531, (7, [74])), (1531, (9, [78])), (98301, (1, [126])), (98301, (3, [130])), (98301, (5, [134])), (98301, (7, [138])), (98301, (9, [142])), (98301, (11, [146])), (98301, (13, [150])), (98301, (15, [156])), (98301, (17, [162])), (98301, (19, [166])), (98301, (21, [170])), (98301, (23, [174])), (98301, (25, [182])), (98301, (27, [186])), (98301, (29, [190])), (98301, (31, [196])), (98301, (33, [200])), (98301, (35, [204]))]
noncomputable def S15 (lf : Nat) : FnK β := fun cK args L m k => denF Try.prog fsT 0 K15 lf cK 15 args L m k
theorem S15_ok (lf : Nat) (cK : CallK β) (args : List Value) (L : Nat) (m : Mem) (k : Value → Mem → Option β)  : S15 lf cK args L m k = denF Try.prog fsT 0 K15 lf cK 15 args L m k := rfl

/-- vitola/blend.Count -/
def K16 : Kat := []
noncomputable def S16 (lf : Nat) : FnK β := fun call args L m k =>
 uc args fun t0 l1 =>
 uc l1 fun t2 l3 =>
 un0 l3 (call 59 [t0, t2] L m fun t4 m5 =>
 oInt .neq .i64 t4 (.int .i64 (.ofNat 0)) fun t6 =>
 oIf t6 (k (.tuple ⟨[(.int .i64 (.ofNat 0)), t4]⟩) m5) (call 60 [t0, t2] L m5 fun t7 m8 =>
 k (.tuple ⟨[t7, (.int .i64 (.ofNat 0))]⟩) m8))
theorem S16_ok (lf : Nat) (cK : CallK β) (args : List Value) (L : Nat) (m : Mem) (k : Value → Mem → Option β)  : S16 lf cK args L m k = denF Try.prog fsT 0 K16 lf cK 16 args L m k := by kernel_rfl

/-- vitola/vitolaref04.Count -/
def K17 : Kat := []
noncomputable def S17 (lf : Nat) : FnK β := fun call args L m k =>
 uc args fun t0 l1 =>
 uc l1 fun t2 l3 =>
 un0 l3 (call 61 [t0, t2] L m fun t4 m5 =>
 oInt .neq .i64 t4 (.int .i64 (.ofNat 0)) fun t6 =>
 oIf t6 (k (.tuple ⟨[(.int .i64 (.ofNat 0)), t4]⟩) m5) (call 62 [t0, t2] L m5 fun t7 m8 =>
 oOpt (ln t7) fun t9 =>
 k (.tuple ⟨[t9, (.int .i64 (.ofNat 0))]⟩) m8))
theorem S17_ok (lf : Nat) (cK : CallK β) (args : List Value) (L : Nat) (m : Mem) (k : Value → Mem → Option β)  : S17 lf cK args L m k = denF Try.prog fsT 0 K17 lf cK 17 args L m k := by kernel_rfl

/-- vitola/blend.Number -/
def K18 : Kat := []
noncomputable def S18 (lf : Nat) : FnK β := fun call args L m k =>
 uc args fun t0 l1 =>
 uc l1 fun t2 l3 =>
 un0 l3 (call 25 [t0, t2] L m fun t4 m5 =>
 oInt .neq .i64 t4 (.int .i64 (.ofNat 0)) fun t6 =>
 oIf t6 (k (.tuple ⟨[(.int .i64 (.ofNat 0)), t4]⟩) m5) (call 63 [t2] L m5 fun t7 m8 =>
 k (.tuple ⟨[t7, (.int .i64 (.ofNat 0))]⟩) m8))
theorem S18_ok (lf : Nat) (cK : CallK β) (args : List Value) (L : Nat) (m : Mem) (k : Value → Mem → Option β)  : S18 lf cK args L m k = denF Try.prog fsT 0 K18 lf cK 18 args L m k := by kernel_rfl

/-- vitola/vitolaref04.Number -/
def K19 : Kat := [(379, (0, [8]))]
noncomputable def S19 (lf : Nat) : FnK β := fun call args L m k =>
 uc args fun t0 l1 =>
 uc l1 fun t2 l3 =>
 un0 l3 (call 26 [t0, t2] L m fun t4 m5 =>
 oInt .neq .i64 t4 (.int .i64 (.ofNat 0)) fun t6 =>
 oIf t6 (k (.tuple ⟨[(.int .i64 (.ofNat 0)), t4]⟩) m5) (oOpt (ln t2) fun t7 =>
 call 62 [t0, t7] L m5 fun t8 m9 =>
 loopS (fun j12 l10 m11 =>
 uc l10 fun t13 l14 =>
 oOpt (ia 1 t8 t13) fun t15 =>
 oOpt (ld1 m11 t15) fun t16 =>
 call 64 [t16, t2] L m11 fun t17 m18 =>
 oOpt (aun .not t17) fun t19 =>
 oIf t19 (oInt .add .i64 t13 (.int .i64 (.ofNat 1)) fun t20 =>
 j12 [t20] m18) (k (.tuple ⟨[t13, (.int .i64 (.ofNat 0))]⟩) m18)) lf [(.int .i64 (.ofNat 0))] m9))
theorem S19_ok (lf : Nat) (cK : CallK β) (args : List Value) (L : Nat) (m : Mem) (k : Value → Mem → Option β)  : S19 lf cK args L m k = denF Try.prog fsT 0 K19 lf cK 19 args L m k := by kernel_rfl

/-- vitola/blend.Nth -/
def K20 : Kat := []
noncomputable def S20 (lf : Nat) : FnK β := fun call args L m k =>
 uc args fun t0 l1 =>
 uc l1 fun t2 l3 =>
 uc l3 fun t4 l5 =>
 un0 l5 (call 59 [t0, t2] L m fun t6 m7 =>
 oInt .neq .i64 t6 (.int .i64 (.ofNat 0)) fun t8 =>
 oIf t8 (k (.tuple ⟨[(.slice none 0 0), t6]⟩) m7) (call 60 [t0, t2] L m7 fun t9 m10 =>
 oInt .sub .i64 t9 (.int .i64 (.ofNat 1)) fun t11 =>
 call 65 [t4, (.int .i64 (.ofNat 0)), t11] L m10 fun t12 m13 =>
 oOpt (aun .not t12) fun t14 =>
 oIf t14 (k (.tuple ⟨[(.slice none 0 0), (.int .i64 (.ofNat 2))]⟩) m13) (call 66 [t2, t4] L m13 fun t15 m16 =>
 k (.tuple ⟨[t15, (.int .i64 (.ofNat 0))]⟩) m16)))
theorem S20_ok (lf : Nat) (cK : CallK β) (args : List Value) (L : Nat) (m : Mem) (k : Value → Mem → Option β)  : S20 lf cK args L m k = denF Try.prog fsT 0 K20 lf cK 20 args L m k := by kernel_rfl

/-- vitola/vitolaref04.Nth -/
def K21 : Kat := [(43, (1, [23])), (44, (0, [9]))]
noncomputable def S21 (lf : Nat) : FnK β := fun call args L m k =>
 uc args fun t0 l1 =>
 uc l1 fun t2 l3 =>
 uc l3 fun t4 l5 =>
 un0 l5 (call 17 [t0, t2] L m fun t6 m7 =>
 oOpt (aextract t6 0) fun t8 =>
 oOpt (aextract t6 1) fun t9 =>
 oInt .eql .i64 t9 (.int .i64 (.ofNat 0)) fun t10 =>
 join (fun l11 m12 =>
 uc l11 fun t14 l15 =>
 oPick t10 t14 (.bool false) fun t16 =>
 join (fun l17 m18 =>
 uc l17 fun t20 l21 =>
 oInt .neq .i64 t20 (.int .i64 (.ofNat 0)) fun t22 =>
 oIf t22 (k (.tuple ⟨[(.slice none 0 0), t20]⟩) m18) (call 62 [t0, t2] L m18 fun t23 m24 =>
 oOpt (ia 1 t23 t4) fun t25 =>
 oOpt (ld1 m24 t25) fun t26 =>
 k (.tuple ⟨[t26, (.int .i64 (.ofNat 0))]⟩) m24)) fun j19 =>
 oIf t16 (j19 [(.int .i64 (.ofNat 2))] m12) (j19 [t9] m12)) fun j13 =>
 oGT t10 (oInt .sub .i64 t8 (.int .i64 (.ofNat 1)) fun t27 =>
 call 67 [t4, (.int .i64 (.ofNat 0)), t27] L m7 fun t28 m29 =>
 oOpt (aun .not t28) fun t30 =>
 j13 [t30] m29) (j13 [Go.undef] m7))
theorem S21_ok (lf : Nat) (cK : CallK β) (args : List Value) (L : Nat) (m : Mem) (k : Value → Mem → Option β)  : S21 lf cK args L m k = denF Try.prog fsT 0 K21 lf cK 21 args L m k := by kernel_rfl

/-- vitola/vitolalaw04.same -/
def K22 : Kat := [(89, (0, [5]))]
noncomputable def S22 (lf : Nat) : FnK β := fun call args L m k =>
 uc args fun t0 l1 =>
 uc l1 fun t2 l3 =>
 un0 l3 (oOpt (ln t0) fun t4 =>
 oOpt (ln t2) fun t5 =>
 oInt .neq .i64 t4 t5 fun t6 =>
 oIf t6 (k (.bool false) m) (loopS (fun j9 l7 m8 =>
 uc l7 fun t10 l11 =>
 oOpt (ln t0) fun t12 =>
 oInt .lss .i64 t10 t12 fun t13 =>
 oIf t13 (oOpt (ia 1 t0 t10) fun t14 =>
 oOpt (ld1 m8 t14) fun t15 =>
 oOpt (ia 1 t2 t10) fun t16 =>
 oOpt (ld1 m8 t16) fun t17 =>
 oInt .neq .i64 t15 t17 fun t18 =>
 oIf t18 (k (.bool false) m8) (oInt .add .i64 t10 (.int .i64 (.ofNat 1)) fun t19 =>
 j9 [t19] m8)) (k (.bool true) m8)) lf [(.int .i64 (.ofNat 0))] m))
theorem S22_ok (lf : Nat) (cK : CallK β) (args : List Value) (L : Nat) (m : Mem) (k : Value → Mem → Option β)  : S22 lf cK args L m k = denF Try.prog fsT 0 K22 lf cK 22 args L m k := by kernel_rfl

/-- vitola/blend.Next -/
def K23 : Kat := []
noncomputable def S23 (lf : Nat) : FnK β := fun call args L m k =>
 uc args fun t0 l1 =>
 uc l1 fun t2 l3 =>
 un0 l3 (call 25 [t0, t2] L m fun t4 m5 =>
 oOpt (ln t2) fun t6 =>
 call 60 [t0, t6] L m5 fun t7 m8 =>
 oInt .neq .i64 t4 (.int .i64 (.ofNat 0)) fun t9 =>
 oIf t9 (k (.tuple ⟨[(.slice none 0 0), (.int .i64 (.ofNat 0)), (.int .i64 (.ofNat 0)), t4]⟩) m8) (oInt .eql .i64 t7 (.int .i64 (.ofNat 1)) fun t10 =>
 oIf t10 (k (.tuple ⟨[(.slice none 0 0), (.int .i64 (.ofNat 0)), (.int .i64 (.ofNat 0)), (.int .i64 (.ofNat 12))]⟩) m8) (oOpt (ln t2) fun t11 =>
 call 63 [t2] L m8 fun t12 m13 =>
 oInt .add .i64 t12 (.int .i64 (.ofNat 1)) fun t14 =>
 oInt .rem .i64 t14 t7 fun t15 =>
 call 66 [t11, t15] L m13 fun t16 m17 =>
 call 68 [t2, t16] L m17 fun t18 m19 =>
 call 68 [t16, t2] L m19 fun t20 m21 =>
 k (.tuple ⟨[t16, t18, t20, (.int .i64 (.ofNat 0))]⟩) m21)))
theorem S23_ok (lf : Nat) (cK : CallK β) (args : List Value) (L : Nat) (m : Mem) (k : Value → Mem → Option β)  : S23 lf cK args L m k = denF Try.prog fsT 0 K23 lf cK 23 args L m k := by kernel_rfl

/-- vitola/vitolaref04.Next -/
def K24 : Kat := []
noncomputable def S24 (lf : Nat) : FnK β := fun call args L m k =>
 uc args fun t0 l1 =>
 uc l1 fun t2 l3 =>
 un0 l3 (call 19 [t0, t2] L m fun t4 m5 =>
 oOpt (aextract t4 0) fun t6 =>
 oOpt (aextract t4 1) fun t7 =>
 oInt .neq .i64 t7 (.int .i64 (.ofNat 0)) fun t8 =>
 oIf t8 (k (.tuple ⟨[(.slice none 0 0), (.int .i64 (.ofNat 0)), (.int .i64 (.ofNat 0)), t7]⟩) m5) (oOpt (ln t2) fun t9 =>
 call 62 [t0, t9] L m5 fun t10 m11 =>
 oOpt (ln t10) fun t12 =>
 oInt .eql .i64 t12 (.int .i64 (.ofNat 1)) fun t13 =>
 oIf t13 (k (.tuple ⟨[(.slice none 0 0), (.int .i64 (.ofNat 0)), (.int .i64 (.ofNat 0)), (.int .i64 (.ofNat 12))]⟩) m11) (oInt .add .i64 t6 (.int .i64 (.ofNat 1)) fun t14 =>
 oOpt (ln t10) fun t15 =>
 oInt .rem .i64 t14 t15 fun t16 =>
 oOpt (ia 1 t10 t16) fun t17 =>
 oOpt (ld1 m11 t17) fun t18 =>
 call 69 [t2, t18] L m11 fun t19 m20 =>
 oOpt (ia 1 t19 (.int .i64 (.ofNat 0))) fun t21 =>
 oOpt (ld1 m20 t21) fun t22 =>
 call 69 [t18, t2] L m20 fun t23 m24 =>
 oSm m20 m24 t21 (
 oOpt (ia 1 t23 (.int .i64 (.ofNat 0))) fun t25 =>
 oOpt (ld1 m24 t25) fun t26 =>
 k (.tuple ⟨[t18, t22, t26, (.int .i64 (.ofNat 0))]⟩) m24))))
theorem S24_ok (lf : Nat) (cK : CallK β) (args : List Value) (L : Nat) (m : Mem) (k : Value → Mem → Option β)  : S24 lf cK args L m k = denF Try.prog fsT 0 K24 lf cK 24 args L m k := by kernel_rfl

/-- vitola/blend.Check -/
def K25 : Kat := [(185, (0, [5, 13]))]
noncomputable def S25 (lf : Nat) : FnK β := fun call args L m k =>
 uc args fun t0 l1 =>
 uc l1 fun t2 l3 =>
 un0 l3 (call 65 [t0, (.int .i64 (.ofNat 1)), (.int .i64 (.ofNat 10))] L m fun t4 m5 =>
 oOpt (aun .not t4) fun t6 =>
 oIf t6 (k (.int .i64 (.ofNat 1)) m5) (oOpt (ln t2) fun t7 =>
 loopS (fun j10 l8 m9 =>
 uc l8 fun t11 l12 =>
 uc l12 fun t13 l14 =>
 oInt .lss .i64 t13 t7 fun t15 =>
 oIf t15 (oOpt (ia 1 t2 t13) fun t16 =>
 oOpt (ld1 m9 t16) fun t17 =>
 oInt .sub .i64 t0 (.int .i64 (.ofNat 1)) fun t18 =>
 call 65 [t17, (.int .i64 (.ofNat 0)), t18] L m9 fun t19 m20 =>
 oOpt (aun .not t19) fun t21 =>
 oIf t21 (k (.int .i64 (.ofNat 2)) m20) (oInt .leq .i64 t17 t11 fun t22 =>
 oIf t22 (k (.int .i64 (.ofNat 7)) m20) (oInt .add .i64 t13 (.int .i64 (.ofNat 1)) fun t23 =>
 j10 [t17, t23] m20))) (k (.int .i64 (.ofNat 0)) m9)) lf [(.int .i64 (.negSucc 0)), (.int .i64 (.ofNat 0))] m5))
theorem S25_ok (lf : Nat) (cK : CallK β) (args : List Value) (L : Nat) (m : Mem) (k : Value → Mem → Option β)  : S25 lf cK args L m k = denF Try.prog fsT 0 K25 lf cK 25 args L m k := by kernel_rfl

/-- vitola/vitolaref04.Check -/
def K26 : Kat := [(89, (0, [5])), (5777, (1, [35]))]
noncomputable def S26 (lf : Nat) : FnK β := fun call args L m k =>
 uc args fun t0 l1 =>
 uc l1 fun t2 l3 =>
 un0 l3 (call 67 [t0, (.int .i64 (.ofNat 1)), (.int .i64 (.ofNat 10))] L m fun t4 m5 =>
 oOpt (aun .not t4) fun t6 =>
 oIf t6 (k (.int .i64 (.ofNat 1)) m5) (loopS (fun j9 l7 m8 =>
 uc l7 fun t10 l11 =>
 oOpt (ln t2) fun t12 =>
 oInt .lss .i64 t10 t12 fun t13 =>
 oIf t13 (oOpt (ia 1 t2 t10) fun t14 =>
 oOpt (ld1 m8 t14) fun t15 =>
 oInt .sub .i64 t0 (.int .i64 (.ofNat 1)) fun t16 =>
 call 67 [t15, (.int .i64 (.ofNat 0)), t16] L m8 fun t17 m18 =>
 oOpt (aun .not t17) fun t19 =>
 oIf t19 (k (.int .i64 (.ofNat 2)) m18) (oInt .gtr .i64 t10 (.int .i64 (.ofNat 0)) fun t20 =>
 join (fun l21 m22 =>
 uc l21 fun t24 l25 =>
 oPick t20 t24 (.bool false) fun t26 =>
 oIf t26 (k (.int .i64 (.ofNat 7)) m22) (oInt .add .i64 t10 (.int .i64 (.ofNat 1)) fun t27 =>
 j9 [t27] m22)) fun j23 =>
 oGT t20 (oOpt (ia 1 t2 t10) fun t28 =>
 oOpt (ld1 m18 t28) fun t29 =>
 oInt .sub .i64 t10 (.int .i64 (.ofNat 1)) fun t30 =>
 oOpt (ia 1 t2 t30) fun t31 =>
 oOpt (ld1 m18 t31) fun t32 =>
 oInt .leq .i64 t29 t32 fun t33 =>
 j23 [t33] m18) (j23 [Go.undef] m18))) (k (.int .i64 (.ofNat 0)) m8)) lf [(.int .i64 (.ofNat 0))] m5))
theorem S26_ok (lf : Nat) (cK : CallK β) (args : List Value) (L : Nat) (m : Mem) (k : Value → Mem → Option β)  : S26 lf cK args L m k = denF Try.prog fsT 0 K26 lf cK 26 args L m k := by kernel_rfl

/-- vitola/blend.Away -/
def K27 : Kat := []
noncomputable def S27 (lf : Nat) : FnK β := fun call args L m k =>
 uc args fun t0 l1 =>
 uc l1 fun t2 l3 =>
 uc l3 fun t4 l5 =>
 un0 l5 (call 70 [t0, t2, t4] L m fun t6 m7 =>
 oInt .neq .i64 t6 (.int .i64 (.ofNat 0)) fun t8 =>
 oIf t8 (k (.tuple ⟨[(.int .i64 (.ofNat 0)), t6]⟩) m7) (call 71 [t2, t4] L m7 fun t9 m10 =>
 k (.tuple ⟨[t9, (.int .i64 (.ofNat 0))]⟩) m10))
theorem S27_ok (lf : Nat) (cK : CallK β) (args : List Value) (L : Nat) (m : Mem) (k : Value → Mem → Option β)  : S27 lf cK args L m k = denF Try.prog fsT 0 K27 lf cK 27 args L m k := by kernel_rfl

/-- vitola/vitolaref04.Away -/
def K28 : Kat := []
noncomputable def S28 (lf : Nat) : FnK β := fun call args L m k =>
 uc args fun t0 l1 =>
 uc l1 fun t2 l3 =>
 uc l3 fun t4 l5 =>
 un0 l5 (call 72 [t0, t2, t4] L m fun t6 m7 =>
 oInt .neq .i64 t6 (.int .i64 (.ofNat 0)) fun t8 =>
 oIf t8 (k (.tuple ⟨[(.int .i64 (.ofNat 0)), t6]⟩) m7) (call 69 [t2, t4] L m7 fun t9 m10 =>
 oOpt (ln t9) fun t11 =>
 k (.tuple ⟨[t11, (.int .i64 (.ofNat 0))]⟩) m10))
theorem S28_ok (lf : Nat) (cK : CallK β) (args : List Value) (L : Nat) (m : Mem) (k : Value → Mem → Option β)  : S28 lf cK args L m k = denF Try.prog fsT 0 K28 lf cK 28 args L m k := by kernel_rfl

/-- vitola/blend.Way -/
def K29 : Kat := [(761, (0, [10, 31]))]
noncomputable def S29 (lf : Nat) : FnK β := fun call args L m k =>
 uc args fun t0 l1 =>
 uc l1 fun t2 l3 =>
 uc l3 fun t4 l5 =>
 un0 l5 (call 70 [t0, t2, t4] L m fun t6 m7 =>
 oInt .neq .i64 t6 (.int .i64 (.ofNat 0)) fun t8 =>
 oIf t8 (k (.tuple ⟨[(.slice none 0 0), t6]⟩) m7) (oOpt (ln t2) fun t9 =>
 oRes (amakeSlice Try.prog m7 22 t9 t9) fun t10 m11 =>
 oRes (acopy Try.prog L m11 22 t10 t2) fun t12 m13 =>
 call 73 [t10] L m13 fun t14 m15 =>
 oRes (bs Try.prog m15 37 1 [(0, t14)]) fun t16 m17 =>
 call 71 [t2, t4] L m17 fun t18 m19 =>
 loopS (fun j22 l20 m21 =>
 uc l20 fun t23 l24 =>
 uc l24 fun t25 l26 =>
 oInt .lss .i64 t25 t18 fun t27 =>
 oIf t27 (call 68 [t10, t4] L m21 fun t28 m29 =>
 call 74 [t10, t28] L m29 fun t30 m31 =>
 call 68 [t4, t10] L m31 fun t32 m33 =>
 oOpt (ia 1 t10 t30) fun t34 =>
 oRes (st1 1 L m33 t34 t32) fun t35 m36 =>
 call 55 [t10] L m36 fun t37 m38 =>
 oOpt (ln t10) fun t39 =>
 oRes (amakeSlice Try.prog m38 22 t39 t39) fun t40 m41 =>
 oRes (acopy Try.prog L m41 22 t40 t10) fun t42 m43 =>
 oRes (bs Try.prog m43 37 1 [(0, t40)]) fun t44 m45 =>
 oRes (aappend Try.prog L m45 37 t23 t44) fun t46 m47 =>
 oInt .add .i64 t25 (.int .i64 (.ofNat 1)) fun t48 =>
 j22 [t46, t48] m47) (k (.tuple ⟨[t23, (.int .i64 (.ofNat 0))]⟩) m21)) lf [t16, (.int .i64 (.ofNat 0))] m19))
theorem S29_ok (lf : Nat) (cK : CallK β) (args : List Value) (L : Nat) (m : Mem) (k : Value → Mem → Option β)  : S29 lf cK args L m k = denF Try.prog fsT 0 K29 lf cK 29 args L m k := by kernel_rfl

/-- vitola/vitolaref04.Way -/
def K30 : Kat := [(187, (0, [1, 9]))]
noncomputable def S30 (lf : Nat) : FnK β := fun call args L m k =>
 uc args fun t0 l1 =>
 uc l1 fun t2 l3 =>
 uc l3 fun t4 l5 =>
 un0 l5 (call 72 [t0, t2, t4] L m fun t6 m7 =>
 oInt .neq .i64 t6 (.int .i64 (.ofNat 0)) fun t8 =>
 oIf t8 (k (.tuple ⟨[(.slice none 0 0), t6]⟩) m7) (oRes (bs Try.prog m7 22 0 []) fun t9 m10 =>
 oRes (aappend Try.prog L m10 22 t9 t2) fun t11 m12 =>
 oRes (bs Try.prog m12 37 1 [(0, t11)]) fun t13 m14 =>
 loopS (fun j17 l15 m16 =>
 uc l15 fun t18 l19 =>
 uc l19 fun t20 l21 =>
 call 64 [t18, t4] L m16 fun t22 m23 =>
 oOpt (aun .not t22) fun t24 =>
 oIf t24 (call 69 [t18, t4] L m23 fun t25 m26 =>
 oOpt (ia 1 t25 (.int .i64 (.ofNat 0))) fun t27 =>
 oOpt (ld1 m26 t27) fun t28 =>
 call 69 [t4, t18] L m26 fun t29 m30 =>
 oSm m26 m30 t27 (
 oOpt (ia 1 t29 (.int .i64 (.ofNat 0))) fun t31 =>
 oOpt (ld1 m30 t31) fun t32 =>
 call 75 [t0, t18, t28, t32] L m30 fun t33 m34 =>
 oRes (bs Try.prog m34 37 1 [(0, t33)]) fun t35 m36 =>
 oRes (aappend Try.prog L m36 37 t20 t35) fun t37 m38 =>
 j17 [t33, t37] m38)) (k (.tuple ⟨[t20, (.int .i64 (.ofNat 0))]⟩) m23)) lf [t2, t13] m14))
theorem S30_ok (lf : Nat) (cK : CallK β) (args : List Value) (L : Nat) (m : Mem) (k : Value → Mem → Option β)  : S30 lf cK args L m k = denF Try.prog fsT 0 K30 lf cK 30 args L m k := by kernel_rfl

/-- vitola/vitolalaw04.lists -/
def K31 : Kat := [(89, (0, [5]))]
noncomputable def S31 (lf : Nat) : FnK β := fun call args L m k =>
 uc args fun t0 l1 =>
 uc l1 fun t2 l3 =>
 un0 l3 (oOpt (ln t0) fun t4 =>
 oOpt (ln t2) fun t5 =>
 oInt .neq .i64 t4 t5 fun t6 =>
 oIf t6 (k (.bool false) m) (loopS (fun j9 l7 m8 =>
 uc l7 fun t10 l11 =>
 oOpt (ln t0) fun t12 =>
 oInt .lss .i64 t10 t12 fun t13 =>
 oIf t13 (oOpt (ia 1 t0 t10) fun t14 =>
 oOpt (ld1 m8 t14) fun t15 =>
 oOpt (ia 1 t2 t10) fun t16 =>
 oOpt (ld1 m8 t16) fun t17 =>
 call 22 [t15, t17] L m8 fun t18 m19 =>
 oOpt (aun .not t18) fun t20 =>
 oIf t20 (k (.bool false) m19) (oInt .add .i64 t10 (.int .i64 (.ofNat 1)) fun t21 =>
 j9 [t21] m19)) (k (.bool true) m8)) lf [(.int .i64 (.ofNat 0))] m))
theorem S31_ok (lf : Nat) (cK : CallK β) (args : List Value) (L : Nat) (m : Mem) (k : Value → Mem → Option β)  : S31 lf cK args L m k = denF Try.prog fsT 0 K31 lf cK 31 args L m k := by kernel_rfl

/-- vitola/blend.Weight -/
def K32 : Kat := []
noncomputable def S32 (lf : Nat) : FnK β := fun call args L m k =>
 uc args fun t0 l1 =>
 uc l1 fun t2 l3 =>
 un0 l3 (oRes (abox m t0) fun t4 m5 =>
 oOpt (ldN m5 3 t4) fun t6 =>
 call 76 [t6, t2] L m5 fun t7 m8 =>
 oInt .neq .i64 t7 (.int .i64 (.ofNat 0)) fun t9 =>
 oIf t9 (k (.tuple ⟨[(.int .i64 (.ofNat 0)), t7]⟩) m8) (oOpt (ldN m8 3 t4) fun t10 =>
 call 77 [t10, t2] L m8 fun t11 m12 =>
 k (.tuple ⟨[t11, (.int .i64 (.ofNat 0))]⟩) m12))
theorem S32_ok (lf : Nat) (cK : CallK β) (args : List Value) (L : Nat) (m : Mem) (k : Value → Mem → Option β)  : S32 lf cK args L m k = denF Try.prog fsT 0 K32 lf cK 32 args L m k := by kernel_rfl

/-- vitola/vitolaref04.Weight -/
def K33 : Kat := []
noncomputable def S33 (lf : Nat) : FnK β := fun call args L m k =>
 uc args fun t0 l1 =>
 uc l1 fun t2 l3 =>
 un0 l3 (oRes (abox m t0) fun t4 m5 =>
 oOpt (ldN m5 3 t4) fun t6 =>
 call 78 [t6, t2] L m5 fun t7 m8 =>
 oInt .neq .i64 t7 (.int .i64 (.ofNat 0)) fun t9 =>
 oIf t9 (k (.tuple ⟨[(.int .i64 (.ofNat 0)), t7]⟩) m8) (oOpt (ldN m8 3 t4) fun t10 =>
 call 79 [t10, t2] L m8 fun t11 m12 =>
 k (.tuple ⟨[t11, (.int .i64 (.ofNat 0))]⟩) m12))
theorem S33_ok (lf : Nat) (cK : CallK β) (args : List Value) (L : Nat) (m : Mem) (k : Value → Mem → Option β)  : S33 lf cK args L m k = denF Try.prog fsT 0 K33 lf cK 33 args L m k := by kernel_rfl

/-- vitola/blend.Fits -/
def K34 : Kat := []
noncomputable def S34 (lf : Nat) : FnK β := fun call args L m k =>
 uc args fun t0 l1 =>
 uc l1 fun t2 l3 =>
 un0 l3 (oRes (abox m t0) fun t4 m5 =>
 oOpt (ldN m5 3 t4) fun t6 =>
 call 36 [t6] L m5 fun t7 m8 =>
 oInt .neq .i64 t7 (.int .i64 (.ofNat 0)) fun t9 =>
 oIf t9 (k (.tuple ⟨[(.int .i64 (.ofNat 0)), t7]⟩) m8) (oOpt (fa 0 t4) fun t10 =>
 oOpt (ld1 m8 t10) fun t11 =>
 oOpt (ln t11) fun t12 =>
 call 65 [t2, (.int .i64 (.ofNat 0)), t12] L m8 fun t13 m14 =>
 oOpt (aun .not t13) fun t15 =>
 oIf t15 (k (.tuple ⟨[(.int .i64 (.ofNat 0)), (.int .i64 (.ofNat 1))]⟩) m14) (oRes (anew m14 1 [(.int .i64 (.ofNat 0))] ptrTo) fun t16 m17 =>
 oRes (st1 1 L m17 t16 (.int .i64 (.ofNat 0))) fun t18 m19 =>
 oOpt (ldN m19 3 t4) fun t20 =>
 call 80 [t20, t2] L m19 fun t21 m22 =>
 oRange call 34 t21 [t16] L m22 fun m23 =>
 oOpt (ld1 m23 t16) fun t24 =>
 k (.tuple ⟨[t24, (.int .i64 (.ofNat 0))]⟩) m23)))
theorem S34_ok (lf : Nat) (cK : CallK β) (args : List Value) (L : Nat) (m : Mem) (k : Value → Mem → Option β)  : S34 lf cK args L m k = denF Try.prog fsT 0 K34 lf cK 34 args L m k := by kernel_rfl

/-- vitola/vitolaref04.Fits -/
def K35 : Kat := [(43, (1, [20])), (44, (0, [6])), (1529, (0, [7, 9])), (48968, (0, [7]))]
noncomputable def S35 (lf : Nat) : FnK β := fun call args L m k =>
 uc args fun t0 l1 =>
 uc l1 fun t2 l3 =>
 un0 l3 (oRes (abox m t0) fun t4 m5 =>
 oOpt (ldN m5 3 t4) fun t6 =>
 call 37 [t6] L m5 fun t7 m8 =>
 oInt .eql .i64 t7 (.int .i64 (.ofNat 0)) fun t9 =>
 join (fun l10 m11 =>
 uc l10 fun t13 l14 =>
 oPick t9 t13 (.bool false) fun t15 =>
 join (fun l16 m17 =>
 uc l16 fun t19 l20 =>
 oInt .neq .i64 t19 (.int .i64 (.ofNat 0)) fun t21 =>
 oIf t21 (k (.tuple ⟨[(.int .i64 (.ofNat 0)), t19]⟩) m17) (oOpt (fa 0 t4) fun t22 =>
 oOpt (ld1 m17 t22) fun t23 =>
 oOpt (ln t23) fun t24 =>
 call 62 [t24, t2] L m17 fun t25 m26 =>
 loopS (fun j29 l27 m28 =>
 uc l27 fun t30 l31 =>
 uc l31 fun t32 l33 =>
 oOpt (ln t25) fun t34 =>
 oInt .lss .i64 t32 t34 fun t35 =>
 oIf t35 (oOpt (ldN m28 3 t4) fun t36 =>
 oOpt (ia 1 t25 t32) fun t37 =>
 oOpt (ld1 m28 t37) fun t38 =>
 call 79 [t36, t38] m28.next m28 fun t39 m40 =>
 oOpt (fa 1 t4) fun t41 =>
 oOpt (ld1 m40 t41) fun t42 =>
 oOpt (fa 2 t4) fun t43 =>
 oOpt (ld1 m40 t43) fun t44 =>
 call 67 [t39, t42, t44] L m40 fun t45 m46 =>
 join (fun l47 m48 =>
 uc l47 fun t50 l51 =>
 oInt .add .i64 t32 (.int .i64 (.ofNat 1)) fun t52 =>
 j29 [t50, t52] m48) fun j49 =>
 oIf t45 (oInt .add .i64 t30 (.int .i64 (.ofNat 1)) fun t53 =>
 j49 [t53] m46) (j49 [t30] m46)) (k (.tuple ⟨[t30, (.int .i64 (.ofNat 0))]⟩) m28)) lf [(.int .i64 (.ofNat 0)), (.int .i64 (.ofNat 0))] m26)) fun j18 =>
 oIf t15 (j18 [(.int .i64 (.ofNat 1))] m11) (j18 [t7] m11)) fun j12 =>
 oGT t9 (oOpt (fa 0 t4) fun t54 =>
 oOpt (ld1 m8 t54) fun t55 =>
 oOpt (ln t55) fun t56 =>
 call 67 [t2, (.int .i64 (.ofNat 0)), t56] L m8 fun t57 m58 =>
 oOpt (aun .not t57) fun t59 =>
 j12 [t59] m58) (j12 [Go.undef] m8))
theorem S35_ok (lf : Nat) (cK : CallK β) (args : List Value) (L : Nat) (m : Mem) (k : Value → Mem → Option β)  : S35 lf cK args L m k = denF Try.prog fsT 0 K35 lf cK 35 args L m k := by kernel_rfl

/-- vitola/blend.CheckRecipe -/
def K36 : Kat := []
noncomputable def S36 (lf : Nat) : FnK β := fun call args L m k =>
 uc args fun t0 l1 =>
 un0 l1 (oRes (abox m t0) fun t2 m3 =>
 oOpt (fa 0 t2) fun t4 =>
 oOpt (ld1 m3 t4) fun t5 =>
 oOpt (ln t5) fun t6 =>
 oInt .eql .i64 t6 (.int .i64 (.ofNat 0)) fun t7 =>
 oIf t7 (k (.int .i64 (.ofNat 4)) m3) (oOpt (fa 0 t2) fun t8 =>
 oOpt (ld1 m3 t8) fun t9 =>
 oOpt (ln t9) fun t10 =>
 oInt .gtr .i64 t10 (.int .i64 (.ofNat 10)) fun t11 =>
 oIf t11 (k (.int .i64 (.ofNat 3)) m3) (oOpt (fa 0 t2) fun t12 =>
 oOpt (ld1 m3 t12) fun t13 =>
 call 81 [t13, (.func (.func 82) #[] #[])] L m3 fun t14 m15 =>
 oIf t14 (k (.int .i64 (.ofNat 1)) m15) (oOpt (fa 1 t2) fun t16 =>
 oOpt (ld1 m15 t16) fun t17 =>
 oOpt (fa 2 t2) fun t18 =>
 oOpt (ld1 m15 t18) fun t19 =>
 oInt .gtr .i64 t17 t19 fun t20 =>
 oIf t20 (k (.int .i64 (.ofNat 7)) m15) (k (.int .i64 (.ofNat 0)) m15)))))
theorem S36_ok (lf : Nat) (cK : CallK β) (args : List Value) (L : Nat) (m : Mem) (k : Value → Mem → Option β)  : S36 lf cK args L m k = denF Try.prog fsT 0 K36 lf cK 36 args L m k := by kernel_rfl

/-- vitola/vitolaref04.CheckRecipe -/
def K37 : Kat := [(185, (0, [3]))]
noncomputable def S37 (lf : Nat) : FnK β := fun call args L m k =>
 uc args fun t0 l1 =>
 un0 l1 (oRes (abox m t0) fun t2 m3 =>
 oOpt (fa 0 t2) fun t4 =>
 oOpt (ld1 m3 t4) fun t5 =>
 oOpt (ln t5) fun t6 =>
 oInt .eql .i64 t6 (.int .i64 (.ofNat 0)) fun t7 =>
 oIf t7 (k (.int .i64 (.ofNat 4)) m3) (oOpt (fa 0 t2) fun t8 =>
 oOpt (ld1 m3 t8) fun t9 =>
 oOpt (ln t9) fun t10 =>
 oInt .gtr .i64 t10 (.int .i64 (.ofNat 10)) fun t11 =>
 oIf t11 (k (.int .i64 (.ofNat 3)) m3) (loopS (fun j14 l12 m13 =>
 uc l12 fun t15 l16 =>
 oOpt (fa 0 t2) fun t17 =>
 oOpt (ld1 m13 t17) fun t18 =>
 oOpt (ln t18) fun t19 =>
 oInt .lss .i64 t15 t19 fun t20 =>
 oIf t20 (oOpt (fa 0 t2) fun t21 =>
 oOpt (ld1 m13 t21) fun t22 =>
 oOpt (ia 1 t22 t15) fun t23 =>
 oOpt (ld1 m13 t23) fun t24 =>
 call 67 [t24, (.int .i64 (.ofNat 0)), (.int .i64 (.ofNat 50))] L m13 fun t25 m26 =>
 oOpt (aun .not t25) fun t27 =>
 oIf t27 (k (.int .i64 (.ofNat 1)) m26) (oInt .add .i64 t15 (.int .i64 (.ofNat 1)) fun t28 =>
 j14 [t28] m26)) (oOpt (fa 1 t2) fun t29 =>
 oOpt (ld1 m13 t29) fun t30 =>
 oOpt (fa 2 t2) fun t31 =>
 oOpt (ld1 m13 t31) fun t32 =>
 oInt .gtr .i64 t30 t32 fun t33 =>
 oIf t33 (k (.int .i64 (.ofNat 7)) m13) (k (.int .i64 (.ofNat 0)) m13))) lf [(.int .i64 (.ofNat 0))] m3)))
theorem S37_ok (lf : Nat) (cK : CallK β) (args : List Value) (L : Nat) (m : Mem) (k : Value → Mem → Option β)  : S37 lf cK args L m k = denF Try.prog fsT 0 K37 lf cK 37 args L m k := by kernel_rfl

end
end Go.Vit
