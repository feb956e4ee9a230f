/- Shallow texts of the seat's functions, printed by a program: part 2. -/
import Derived.Test.YtffomiamkiakcaaRows
import Derived.Test.YtffomiamkiakcaaFs
set_option linter.unusedVariables false
set_option maxRecDepth 100000
namespace Go.Vit
open Go Go.Proofs
section
variable {β : Type}
/-- vitola/vitolalaw07.works: the general reading itself -/
def K15 : Kat := [(3067, (1, [59])), (3067, (3, [63])), (3067, (5, [67])), (3067, (7, [71])), (3067, (9, [75])), (3067, (11, [79])), (393213, (1, [121])), (393213, (3, [125])), (393213, (5, [129])), (393213, (7, [133])), (393213, (9, [137])), (393213, (11, [141])), (393213, (13, [145])), (393213, (15, [149])), (393213, (17, [153])), (393213, (19, [159])), (393213, (21, [163])), (393213, (23, [167])), (393213, (25, [173])), (393213, (27, [176])), (393213, (29, [180])), (393213, (31, [184])), (393213, (33, [190])), (393213, (35, [194])), (393213, (37, [199])), (393213, (39, [204]))]
noncomputable def S15 (lf : Nat) : FnK β := fun cK args L m k => denF Try.prog fsT 0 K15 lf cK 15 args L m k
theorem S15_ok (lf : Nat) (cK : CallK β) (args : List Value) (L : Nat) (m : Mem) (k : Value → Mem → Option β)  : S15 lf cK args L m k = denF Try.prog fsT 0 K15 lf cK 15 args L m k := rfl

/-- vitola/shade.Step -/
def K16 : Kat := []
noncomputable def S16 (lf : Nat) : FnK β := fun call args L m k =>
 uc args fun t0 l1 =>
 uc l1 fun t2 l3 =>
 un0 l3 (call 59 [t0, t2, (.func (.func 60) #[] #[])] L m fun t4 m5 =>
 oOpt (aextract t4 0) fun t6 =>
 oOpt (aextract t4 1) fun t7 =>
 k (.tuple ⟨[t6, t7]⟩) m5)
theorem S16_ok (lf : Nat) (cK : CallK β) (args : List Value) (L : Nat) (m : Mem) (k : Value → Mem → Option β)  : S16 lf cK args L m k = denF Try.prog fsT 0 K16 lf cK 16 args L m k := by kernel_rfl

/-- vitola/vitolaref07.Step -/
def K17 : Kat := []
noncomputable def S17 (lf : Nat) : FnK β := fun call args L m k =>
 uc args fun t0 l1 =>
 uc l1 fun t2 l3 =>
 un0 l3 (call 21 [t0] L m fun t4 m5 =>
 oInt .neq .i64 t4 (.int .i64 (.ofNat 0)) fun t6 =>
 oIf t6 (k (.tuple ⟨[(.int .i64 (.ofNat 0)), t4]⟩) m5) (call 61 [t0, t2] L m5 fun t7 m8 =>
 k (.tuple ⟨[t7, (.int .i64 (.ofNat 0))]⟩) m8))
theorem S17_ok (lf : Nat) (cK : CallK β) (args : List Value) (L : Nat) (m : Mem) (k : Value → Mem → Option β)  : S17 lf cK args L m k = denF Try.prog fsT 0 K17 lf cK 17 args L m k := by kernel_rfl

/-- vitola/shade.Sum -/
def K18 : Kat := []
noncomputable def S18 (lf : Nat) : FnK β := fun call args L m k =>
 uc args fun t0 l1 =>
 uc l1 fun t2 l3 =>
 un0 l3 (call 59 [t0, t2, (.func (.func 62) #[] #[])] L m fun t4 m5 =>
 oOpt (aextract t4 0) fun t6 =>
 oOpt (aextract t4 1) fun t7 =>
 k (.tuple ⟨[t6, t7]⟩) m5)
theorem S18_ok (lf : Nat) (cK : CallK β) (args : List Value) (L : Nat) (m : Mem) (k : Value → Mem → Option β)  : S18 lf cK args L m k = denF Try.prog fsT 0 K18 lf cK 18 args L m k := by kernel_rfl

/-- vitola/vitolaref07.Sum -/
def K19 : Kat := []
noncomputable def S19 (lf : Nat) : FnK β := fun call args L m k =>
 uc args fun t0 l1 =>
 uc l1 fun t2 l3 =>
 un0 l3 (call 21 [t0] L m fun t4 m5 =>
 oInt .neq .i64 t4 (.int .i64 (.ofNat 0)) fun t6 =>
 oIf t6 (k (.tuple ⟨[(.int .i64 (.ofNat 0)), t4]⟩) m5) (call 63 [t0, t2] L m5 fun t7 m8 =>
 k (.tuple ⟨[t7, (.int .i64 (.ofNat 0))]⟩) m8))
theorem S19_ok (lf : Nat) (cK : CallK β) (args : List Value) (L : Nat) (m : Mem) (k : Value → Mem → Option β)  : S19 lf cK args L m k = denF Try.prog fsT 0 K19 lf cK 19 args L m k := by kernel_rfl

/-- vitola/shade.Check -/
def K20 : Kat := []
noncomputable def S20 (lf : Nat) : FnK β := fun call args L m k =>
 uc args fun t0 l1 =>
 un0 l1 (call 64 [t0, (.int .i64 (.ofNat 7)), (.func (.func 65) #[] #[])] L m fun t2 m3 =>
 k t2 m3)
theorem S20_ok (lf : Nat) (cK : CallK β) (args : List Value) (L : Nat) (m : Mem) (k : Value → Mem → Option β)  : S20 lf cK args L m k = denF Try.prog fsT 0 K20 lf cK 20 args L m k := by kernel_rfl

/-- vitola/vitolaref07.Check -/
def K21 : Kat := [(185, (0, [3]))]
noncomputable def S21 (lf : Nat) : FnK β := fun call args L m k =>
 uc args fun t0 l1 =>
 un0 l1 (oOpt (ln t0) fun t2 =>
 oInt .eql .i64 t2 (.int .i64 (.ofNat 0)) fun t3 =>
 oIf t3 (k (.int .i64 (.ofNat 4)) m) (oOpt (ln t0) fun t4 =>
 oInt .gtr .i64 t4 (.int .i64 (.ofNat 7)) fun t5 =>
 oIf t5 (k (.int .i64 (.ofNat 3)) m) (loopS (fun j8 l6 m7 =>
 uc l6 fun t9 l10 =>
 oOpt (ln t0) fun t11 =>
 oInt .lss .i64 t9 t11 fun t12 =>
 oIf t12 (oOpt (ia 1 t0 t9) fun t13 =>
 oOpt (ld1 m7 t13) fun t14 =>
 call 67 [t14, (.int .i64 (.ofNat 0)), (.int .i64 (.ofNat 60))] L m7 fun t15 m16 =>
 oOpt (aun .not t15) fun t17 =>
 oIf t17 (k (.int .i64 (.ofNat 1)) m16) (oInt .add .i64 t9 (.int .i64 (.ofNat 1)) fun t18 =>
 j8 [t18] m16)) (k (.int .i64 (.ofNat 0)) m7)) lf [(.int .i64 (.ofNat 0))] m)))
theorem S21_ok (lf : Nat) (cK : CallK β) (args : List Value) (L : Nat) (m : Mem) (k : Value → Mem → Option β)  : S21 lf cK args L m k = denF Try.prog fsT 0 K21 lf cK 21 args L m k := by kernel_rfl

/-- vitola/shade.Proves -/
def K22 : Kat := []
noncomputable def S22 (lf : Nat) : FnK β := fun call args L m k =>
 uc args fun t0 l1 =>
 uc l1 fun t2 l3 =>
 uc l3 fun t4 l5 =>
 uc l5 fun t6 l7 =>
 un0 l7 (call 68 [t0, t2] L m fun t8 m9 =>
 oOpt (aextract t8 0) fun t10 =>
 oOpt (aextract t8 1) fun t11 =>
 oInt .neq .i64 t11 (.int .i64 (.ofNat 0)) fun t12 =>
 oIf t12 (k t11 m9) (oOpt (anil t10) fun t13 =>
 oOpt (fa 0 t13) fun t14 =>
 oOpt (ld1 m9 t14) fun t15 =>
 oOpt (ln t15) fun t16 =>
 oInt .sub .i64 t16 (.int .i64 (.ofNat 1)) fun t17 =>
 call 69 [t10] L m9 fun t18 m19 =>
 oSm m9 m19 t14 (
 oInt .sub .i64 t17 t18 fun t20 =>
 call 66 [t4, (.int .i64 (.ofNat 0)), t20] L m19 fun t21 m22 =>
 oOpt (aun .not t21) fun t23 =>
 oIf t23 (k (.int .i64 (.ofNat 1)) m22) (oOpt (anil t10) fun t24 =>
 oOpt (fa 0 t24) fun t25 =>
 oOpt (ld1 m22 t25) fun t26 =>
 call 69 [t10] m22.next m22 fun t27 m28 =>
 oInt .add .i64 t4 t27 fun t29 =>
 oOpt (ia 1 t26 t29) fun t30 =>
 oOpt (ld1 m28 t30) fun t31 =>
 oOpt (anil t10) fun t32 =>
 oOpt (fa 0 t32) fun t33 =>
 oOpt (ld1 m28 t33) fun t34 =>
 oOpt (ia 1 t34 t4) fun t35 =>
 oOpt (ld1 m28 t35) fun t36 =>
 oInt .sub .i64 t31 t36 fun t37 =>
 oInt .lss .i64 t37 t6 fun t38 =>
 oIf t38 (k (.int .i64 (.ofNat 14)) m28) (k (.int .i64 (.ofNat 0)) m28)))))
theorem S22_ok (lf : Nat) (cK : CallK β) (args : List Value) (L : Nat) (m : Mem) (k : Value → Mem → Option β)  : S22 lf cK args L m k = denF Try.prog fsT 0 K22 lf cK 22 args L m k := by kernel_rfl

/-- vitola/vitolaref07.Proves -/
def K23 : Kat := []
noncomputable def S23 (lf : Nat) : FnK β := fun call args L m k =>
 uc args fun t0 l1 =>
 uc l1 fun t2 l3 =>
 uc l3 fun t4 l5 =>
 uc l5 fun t6 l7 =>
 un0 l7 (call 21 [t0] L m fun t8 m9 =>
 oInt .neq .i64 t8 (.int .i64 (.ofNat 0)) fun t10 =>
 oIf t10 (k t8 m9) (call 70 [t0, t2] L m9 fun t11 m12 =>
 oOpt (ln t0) fun t13 =>
 oInt .sub .i64 t13 (.int .i64 (.ofNat 1)) fun t14 =>
 oInt .sub .i64 t14 t11 fun t15 =>
 call 67 [t4, (.int .i64 (.ofNat 0)), t15] L m12 fun t16 m17 =>
 oOpt (aun .not t16) fun t18 =>
 oIf t18 (k (.int .i64 (.ofNat 1)) m17) (call 71 [t0] L m17 fun t19 m20 =>
 oInt .add .i64 t4 t11 fun t21 =>
 oOpt (ia 1 t19 t21) fun t22 =>
 oOpt (ld1 m20 t22) fun t23 =>
 oOpt (ia 1 t19 t4) fun t24 =>
 oOpt (ld1 m20 t24) fun t25 =>
 oInt .sub .i64 t23 t25 fun t26 =>
 oInt .lss .i64 t26 t6 fun t27 =>
 oIf t27 (k (.int .i64 (.ofNat 14)) m20) (k (.int .i64 (.ofNat 0)) m20))))
theorem S23_ok (lf : Nat) (cK : CallK β) (args : List Value) (L : Nat) (m : Mem) (k : Value → Mem → Option β)  : S23 lf cK args L m k = denF Try.prog fsT 0 K23 lf cK 23 args L m k := by kernel_rfl

/-- vitola/shade.Least -/
def K24 : Kat := []
noncomputable def S24 (lf : Nat) : FnK β := fun call args L m k =>
 uc args fun t0 l1 =>
 uc l1 fun t2 l3 =>
 un0 l3 (call 68 [t0, t2] L m fun t4 m5 =>
 oOpt (aextract t4 0) fun t6 =>
 oOpt (aextract t4 1) fun t7 =>
 oInt .neq .i64 t7 (.int .i64 (.ofNat 0)) fun t8 =>
 oIf t8 (k (.tuple ⟨[(.int .i64 (.ofNat 0)), t7]⟩) m5) (call 72 [t6] L m5 fun t9 m10 =>
 oOpt (aextract t9 0) fun t11 =>
 oOpt (aextract t9 1) fun t12 =>
 k (.tuple ⟨[t12, (.int .i64 (.ofNat 0))]⟩) m10))
theorem S24_ok (lf : Nat) (cK : CallK β) (args : List Value) (L : Nat) (m : Mem) (k : Value → Mem → Option β)  : S24 lf cK args L m k = denF Try.prog fsT 0 K24 lf cK 24 args L m k := by kernel_rfl

/-- vitola/vitolaref07.Least -/
def K25 : Kat := []
noncomputable def S25 (lf : Nat) : FnK β := fun call args L m k =>
 uc args fun t0 l1 =>
 uc l1 fun t2 l3 =>
 un0 l3 (call 21 [t0] L m fun t4 m5 =>
 oInt .neq .i64 t4 (.int .i64 (.ofNat 0)) fun t6 =>
 oIf t6 (k (.tuple ⟨[(.int .i64 (.ofNat 0)), t4]⟩) m5) (call 73 [t0, t2] L m5 fun t7 m8 =>
 call 61 [t7, t2] L m8 fun t9 m10 =>
 k (.tuple ⟨[t9, (.int .i64 (.ofNat 0))]⟩) m10))
theorem S25_ok (lf : Nat) (cK : CallK β) (args : List Value) (L : Nat) (m : Mem) (k : Value → Mem → Option β)  : S25 lf cK args L m k = denF Try.prog fsT 0 K25 lf cK 25 args L m k := by kernel_rfl

/-- vitola/shade.Box -/
def K26 : Kat := []
noncomputable def S26 (lf : Nat) : FnK β := fun call args L m k =>
 uc args fun t0 l1 =>
 uc l1 fun t2 l3 =>
 un0 l3 (call 68 [t0, t2] L m fun t4 m5 =>
 oOpt (aextract t4 0) fun t6 =>
 oOpt (aextract t4 1) fun t7 =>
 oInt .neq .i64 t7 (.int .i64 (.ofNat 0)) fun t8 =>
 oIf t8 (k (.tuple ⟨[(.slice none 0 0), t7]⟩) m5) (call 72 [t6] L m5 fun t9 m10 =>
 oOpt (aextract t9 0) fun t11 =>
 oOpt (aextract t9 1) fun t12 =>
 oRes (anew m10 1 [(.int .i64 (.ofNat 0))] ptrTo) fun t13 m14 =>
 oRes (st1 1 L m14 t13 t12) fun t15 m16 =>
 call 74 [t6, (.func (.func 75) #[] ⟨[t13]⟩)] L m16 fun t17 m18 =>
 k (.tuple ⟨[t17, (.int .i64 (.ofNat 0))]⟩) m18))
theorem S26_ok (lf : Nat) (cK : CallK β) (args : List Value) (L : Nat) (m : Mem) (k : Value → Mem → Option β)  : S26 lf cK args L m k = denF Try.prog fsT 0 K26 lf cK 26 args L m k := by kernel_rfl

/-- vitola/vitolaref07.Box -/
def K27 : Kat := []
noncomputable def S27 (lf : Nat) : FnK β := fun call args L m k =>
 uc args fun t0 l1 =>
 uc l1 fun t2 l3 =>
 un0 l3 (call 21 [t0] L m fun t4 m5 =>
 oInt .neq .i64 t4 (.int .i64 (.ofNat 0)) fun t6 =>
 oIf t6 (k (.tuple ⟨[(.slice none 0 0), t4]⟩) m5) (call 73 [t0, t2] L m5 fun t7 m8 =>
 k (.tuple ⟨[t7, (.int .i64 (.ofNat 0))]⟩) m8))
theorem S27_ok (lf : Nat) (cK : CallK β) (args : List Value) (L : Nat) (m : Mem) (k : Value → Mem → Option β)  : S27 lf cK args L m k = denF Try.prog fsT 0 K27 lf cK 27 args L m k := by kernel_rfl

/-- vitola/shade.Why -/
def K28 : Kat := []
noncomputable def S28 (lf : Nat) : FnK β := fun call args L m k =>
 uc args fun t0 l1 =>
 uc l1 fun t2 l3 =>
 un0 l3 (call 68 [t0, t2] L m fun t4 m5 =>
 oOpt (aextract t4 0) fun t6 =>
 oOpt (aextract t4 1) fun t7 =>
 oInt .neq .i64 t7 (.int .i64 (.ofNat 0)) fun t8 =>
 oIf t8 (k (.tuple ⟨[(.int .i64 (.ofNat 0)), t7]⟩) m5) (call 72 [t6] L m5 fun t9 m10 =>
 oOpt (aextract t9 0) fun t11 =>
 oOpt (aextract t9 1) fun t12 =>
 oInt .lss .i64 t11 (.int .i64 (.ofNat 0)) fun t13 =>
 oIf t13 (k (.tuple ⟨[(.int .i64 (.ofNat 0)), (.int .i64 (.ofNat 12))]⟩) m10) (k (.tuple ⟨[t11, (.int .i64 (.ofNat 0))]⟩) m10)))
theorem S28_ok (lf : Nat) (cK : CallK β) (args : List Value) (L : Nat) (m : Mem) (k : Value → Mem → Option β)  : S28 lf cK args L m k = denF Try.prog fsT 0 K28 lf cK 28 args L m k := by kernel_rfl

/-- vitola/vitolaref07.Why -/
def K29 : Kat := [(43, (1, [21])), (44, (0, [7])), (763, (0, [9]))]
noncomputable def S29 (lf : Nat) : FnK β := fun call args L m k =>
 uc args fun t0 l1 =>
 uc l1 fun t2 l3 =>
 un0 l3 (call 25 [t0, t2] L m fun t4 m5 =>
 oOpt (aextract t4 0) fun t6 =>
 oOpt (aextract t4 1) fun t7 =>
 oInt .eql .i64 t7 (.int .i64 (.ofNat 0)) fun t8 =>
 join (fun l9 m10 =>
 uc l9 fun t12 l13 =>
 oPick t8 t12 (.bool false) fun t14 =>
 join (fun l15 m16 =>
 uc l15 fun t18 l19 =>
 oInt .neq .i64 t18 (.int .i64 (.ofNat 0)) fun t20 =>
 oIf t20 (k (.tuple ⟨[(.int .i64 (.ofNat 0)), t18]⟩) m16) (call 71 [t0] L m16 fun t21 m22 =>
 loopS (fun j25 l23 m24 =>
 uc l23 fun t26 l27 =>
 call 70 [t0, t2] m24.next m24 fun t28 m29 =>
 oInt .add .i64 t26 t28 fun t30 =>
 oOpt (ia 1 t21 t30) fun t31 =>
 oOpt (ld1 m29 t31) fun t32 =>
 oOpt (ia 1 t21 t26) fun t33 =>
 oOpt (ld1 m29 t33) fun t34 =>
 oInt .sub .i64 t32 t34 fun t35 =>
 oInt .lss .i64 t35 t6 fun t36 =>
 oIf t36 (oInt .add .i64 t26 (.int .i64 (.ofNat 1)) fun t37 =>
 j25 [t37] m29) (k (.tuple ⟨[t26, (.int .i64 (.ofNat 0))]⟩) m29)) lf [(.int .i64 (.ofNat 0))] m22)) fun j17 =>
 oIf t14 (j17 [(.int .i64 (.ofNat 12))] m10) (j17 [t7] m10)) fun j11 =>
 oGT t8 (oOpt (ln t0) fun t38 =>
 oInt .eql .i64 t38 (.int .i64 (.ofNat 1)) fun t39 =>
 j11 [t39] m5) (j11 [Go.undef] m5))
theorem S29_ok (lf : Nat) (cK : CallK β) (args : List Value) (L : Nat) (m : Mem) (k : Value → Mem → Option β)  : S29 lf cK args L m k = denF Try.prog fsT 0 K29 lf cK 29 args L m k := by kernel_rfl

/-- vitola/vitolalaw07.same -/
def K30 : Kat := [(89, (0, [5]))]
noncomputable def S30 (lf : Nat) : FnK β := fun call args L m k =>
 uc args fun t0 l1 =>
 uc l1 fun t2 l3 =>
 un0 l3 (oOpt (ln t0) fun t4 =>
 oOpt (ln t2) fun t5 =>
 oInt .neq .i64 t4 t5 fun t6 =>
 oIf t6 (k (.bool false) m) (loopS (fun j9 l7 m8 =>
 uc l7 fun t10 l11 =>
 oOpt (ln t0) fun t12 =>
 oInt .lss .i64 t10 t12 fun t13 =>
 oIf t13 (oOpt (ia 1 t0 t10) fun t14 =>
 oOpt (ld1 m8 t14) fun t15 =>
 oOpt (ia 1 t2 t10) fun t16 =>
 oOpt (ld1 m8 t16) fun t17 =>
 oInt .neq .i64 t15 t17 fun t18 =>
 oIf t18 (k (.bool false) m8) (oInt .add .i64 t10 (.int .i64 (.ofNat 1)) fun t19 =>
 j9 [t19] m8)) (k (.bool true) m8)) lf [(.int .i64 (.ofNat 0))] m))
theorem S30_ok (lf : Nat) (cK : CallK β) (args : List Value) (L : Nat) (m : Mem) (k : Value → Mem → Option β)  : S30 lf cK args L m k = denF Try.prog fsT 0 K30 lf cK 30 args L m k := by kernel_rfl

/-- vitola/shade.Most -/
def K31 : Kat := []
noncomputable def S31 (lf : Nat) : FnK β := fun call args L m k =>
 uc args fun t0 l1 =>
 uc l1 fun t2 l3 =>
 un0 l3 (call 33 [t0, t2] L m fun t4 m5 =>
 oOpt (aextract t4 0) fun t6 =>
 oOpt (aextract t4 1) fun t7 =>
 oInt .neq .i64 t7 (.int .i64 (.ofNat 0)) fun t8 =>
 oIf t8 (k (.tuple ⟨[(.int .i64 (.ofNat 0)), t7]⟩) m5) (call 18 [t6, t2] L m5 fun t9 m10 =>
 oOpt (aextract t9 0) fun t11 =>
 oOpt (aextract t9 1) fun t12 =>
 k (.tuple ⟨[t11, t12]⟩) m10))
theorem S31_ok (lf : Nat) (cK : CallK β) (args : List Value) (L : Nat) (m : Mem) (k : Value → Mem → Option β)  : S31 lf cK args L m k = denF Try.prog fsT 0 K31 lf cK 31 args L m k := by kernel_rfl

/-- vitola/vitolaref07.Most -/
def K32 : Kat := []
noncomputable def S32 (lf : Nat) : FnK β := fun call args L m k =>
 uc args fun t0 l1 =>
 uc l1 fun t2 l3 =>
 un0 l3 (call 21 [t0] L m fun t4 m5 =>
 oInt .neq .i64 t4 (.int .i64 (.ofNat 0)) fun t6 =>
 oIf t6 (k (.tuple ⟨[(.int .i64 (.ofNat 0)), t4]⟩) m5) (call 76 [t0, t2] L m5 fun t7 m8 =>
 call 63 [t7, t2] L m8 fun t9 m10 =>
 k (.tuple ⟨[t9, (.int .i64 (.ofNat 0))]⟩) m10))
theorem S32_ok (lf : Nat) (cK : CallK β) (args : List Value) (L : Nat) (m : Mem) (k : Value → Mem → Option β)  : S32 lf cK args L m k = denF Try.prog fsT 0 K32 lf cK 32 args L m k := by kernel_rfl

/-- vitola/shade.Wide -/
def K33 : Kat := []
noncomputable def S33 (lf : Nat) : FnK β := fun call args L m k =>
 uc args fun t0 l1 =>
 uc l1 fun t2 l3 =>
 un0 l3 (call 68 [t0, t2] L m fun t4 m5 =>
 oOpt (aextract t4 0) fun t6 =>
 oOpt (aextract t4 1) fun t7 =>
 oInt .neq .i64 t7 (.int .i64 (.ofNat 0)) fun t8 =>
 oIf t8 (k (.tuple ⟨[(.slice none 0 0), t7]⟩) m5) (call 74 [t6, (.func (.func 77) #[] #[])] L m5 fun t9 m10 =>
 k (.tuple ⟨[t9, (.int .i64 (.ofNat 0))]⟩) m10))
theorem S33_ok (lf : Nat) (cK : CallK β) (args : List Value) (L : Nat) (m : Mem) (k : Value → Mem → Option β)  : S33 lf cK args L m k = denF Try.prog fsT 0 K33 lf cK 33 args L m k := by kernel_rfl

/-- vitola/vitolaref07.Wide -/
def K34 : Kat := []
noncomputable def S34 (lf : Nat) : FnK β := fun call args L m k =>
 uc args fun t0 l1 =>
 uc l1 fun t2 l3 =>
 un0 l3 (call 21 [t0] L m fun t4 m5 =>
 oInt .neq .i64 t4 (.int .i64 (.ofNat 0)) fun t6 =>
 oIf t6 (k (.tuple ⟨[(.slice none 0 0), t4]⟩) m5) (call 76 [t0, t2] L m5 fun t7 m8 =>
 k (.tuple ⟨[t7, (.int .i64 (.ofNat 0))]⟩) m8))
theorem S34_ok (lf : Nat) (cK : CallK β) (args : List Value) (L : Nat) (m : Mem) (k : Value → Mem → Option β)  : S34 lf cK args L m k = denF Try.prog fsT 0 K34 lf cK 34 args L m k := by kernel_rfl

/-- vitola/shade.Turning -/
def K35 : Kat := [(89, (0, [14]))]
noncomputable def S35 (lf : Nat) : FnK β := fun call args L m k =>
 uc args fun t0 l1 =>
 un0 l1 (call 78 [t0] L m fun t2 m3 =>
 oInt .neq .i64 t2 (.int .i64 (.ofNat 0)) fun t4 =>
 oIf t4 (k (.tuple ⟨[(.bool false), t2]⟩) m3) (oOpt (sl Try.prog 22 t0 (some (.int .i64 (.ofNat 1))) none none) fun t5 =>
 oOpt (ln t5) fun t6 =>
 loopS (fun j9 l7 m8 =>
 uc l7 fun t10 l11 =>
 oInt .lss .i64 t10 t6 fun t12 =>
 oIf t12 (oInt .add .i64 t10 (.int .i64 (.ofNat 1)) fun t13 =>
 oOpt (ia 1 t0 t13) fun t14 =>
 oOpt (ld1 m8 t14) fun t15 =>
 oOpt (ia 1 t0 t10) fun t16 =>
 oOpt (ld1 m8 t16) fun t17 =>
 oInt .gtr .i64 t15 t17 fun t18 =>
 oInt .rem .i64 t10 (.int .i64 (.ofNat 2)) fun t19 =>
 oInt .eql .i64 t19 (.int .i64 (.ofNat 0)) fun t20 =>
 oOpt (abin Try.prog .neq 4 t18 t20) fun t21 =>
 oIf t21 (k (.tuple ⟨[(.bool false), (.int .i64 (.ofNat 0))]⟩) m8) (oInt .add .i64 t10 (.int .i64 (.ofNat 1)) fun t22 =>
 j9 [t22] m8)) (k (.tuple ⟨[(.bool true), (.int .i64 (.ofNat 0))]⟩) m8)) lf [(.int .i64 (.ofNat 0))] m3))
theorem S35_ok (lf : Nat) (cK : CallK β) (args : List Value) (L : Nat) (m : Mem) (k : Value → Mem → Option β)  : S35 lf cK args L m k = denF Try.prog fsT 0 K35 lf cK 35 args L m k := by kernel_rfl

/-- vitola/vitolaref07.Turning -/
def K36 : Kat := [(185, (0, [4]))]
noncomputable def S36 (lf : Nat) : FnK β := fun call args L m k =>
 uc args fun t0 l1 =>
 un0 l1 (oOpt (ln t0) fun t2 =>
 oInt .eql .i64 t2 (.int .i64 (.ofNat 0)) fun t3 =>
 oIf t3 (k (.tuple ⟨[(.bool false), (.int .i64 (.ofNat 4))]⟩) m) (oOpt (ln t0) fun t4 =>
 oInt .gtr .i64 t4 (.int .i64 (.ofNat 9)) fun t5 =>
 oIf t5 (k (.tuple ⟨[(.bool false), (.int .i64 (.ofNat 3))]⟩) m) (loopS (fun j8 l6 m7 =>
 uc l6 fun t9 l10 =>
 oOpt (ln t0) fun t11 =>
 oInt .lss .i64 t9 t11 fun t12 =>
 oIf t12 (oOpt (ia 1 t0 t9) fun t13 =>
 oOpt (ld1 m7 t13) fun t14 =>
 oOpt (ln t0) fun t15 =>
 oInt .sub .i64 t15 (.int .i64 (.ofNat 1)) fun t16 =>
 call 67 [t14, (.int .i64 (.ofNat 0)), t16] L m7 fun t17 m18 =>
 oOpt (aun .not t17) fun t19 =>
 oIf t19 (k (.tuple ⟨[(.bool false), (.int .i64 (.ofNat 2))]⟩) m18) (oOpt (sl Try.prog 22 t0 none (some t9) none) fun t20 =>
 oOpt (ia 1 t0 t9) fun t21 =>
 oOpt (ld1 m18 t21) fun t22 =>
 call 79 [t20, t22] L m18 fun t23 m24 =>
 oIf t23 (k (.tuple ⟨[(.bool false), (.int .i64 (.ofNat 6))]⟩) m24) (oInt .add .i64 t9 (.int .i64 (.ofNat 1)) fun t25 =>
 j8 [t25] m24))) (call 80 [t0] L m7 fun t26 m27 =>
 k (.tuple ⟨[t26, (.int .i64 (.ofNat 0))]⟩) m27)) lf [(.int .i64 (.ofNat 0))] m)))
theorem S36_ok (lf : Nat) (cK : CallK β) (args : List Value) (L : Nat) (m : Mem) (k : Value → Mem → Option β)  : S36 lf cK args L m k = denF Try.prog fsT 0 K36 lf cK 36 args L m k := by kernel_rfl

/-- vitola/shade.Count -/
def K37 : Kat := [(185, (0, [4, 13]))]
noncomputable def S37 (lf : Nat) : FnK β := fun call args L m k =>
 uc args fun t0 l1 =>
 un0 l1 (call 66 [t0, (.int .i64 (.ofNat 1)), (.int .i64 (.ofNat 9))] L m fun t2 m3 =>
 oOpt (aun .not t2) fun t4 =>
 oIf t4 (k (.tuple ⟨[(.int .i64 (.ofNat 0)), (.int .i64 (.ofNat 1))]⟩) m3) (call 81 [] L m3 fun t5 m6 =>
 oOpt (aindex Try.prog 85 t5 t0) fun t7 =>
 loopS (fun j10 l8 m9 =>
 uc l8 fun t11 l12 =>
 uc l12 fun t13 l14 =>
 oInt .lss .i64 t13 (.int .i64 (.ofNat 10)) fun t15 =>
 oIf t15 (oOpt (aindex Try.prog 84 t7 t13) fun t16 =>
 oInt .add .i64 t11 t16 fun t17 =>
 oInt .add .i64 t13 (.int .i64 (.ofNat 1)) fun t18 =>
 j10 [t17, t18] m9) (k (.tuple ⟨[t11, (.int .i64 (.ofNat 0))]⟩) m9)) lf [(.int .i64 (.ofNat 0)), (.int .i64 (.ofNat 0))] m6))
theorem S37_ok (lf : Nat) (cK : CallK β) (args : List Value) (L : Nat) (m : Mem) (k : Value → Mem → Option β)  : S37 lf cK args L m k = denF Try.prog fsT 0 K37 lf cK 37 args L m k := by kernel_rfl

end
end Go.Vit
