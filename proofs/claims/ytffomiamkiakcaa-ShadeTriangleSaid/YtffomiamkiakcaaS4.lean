/- Shallow texts of the seat's functions, printed by a program: part 4. -/
import Derived.Test.YtffomiamkiakcaaRows
import Derived.Test.YtffomiamkiakcaaFs
set_option linter.unusedVariables false
set_option maxRecDepth 100000
namespace Go.Vit
open Go Go.Proofs
section
variable {β : Type}
/-- slices.Reverse[[]int,int] -/
def K56 : Kat := [(9, (0, [2, 3]))]
noncomputable def S56 (lf : Nat) : FnK β := fun call args L m k =>
 uc args fun t0 l1 =>
 un0 l1 (oOpt (ln t0) fun t2 =>
 oInt .sub .i64 t2 (.int .i64 (.ofNat 1)) fun t3 =>
 loopS (fun j6 l4 m5 =>
 uc l4 fun t7 l8 =>
 uc l8 fun t9 l10 =>
 oInt .lss .i64 t7 t9 fun t11 =>
 oIf t11 (oOpt (ia 1 t0 t9) fun t12 =>
 oOpt (ld1 m5 t12) fun t13 =>
 oOpt (ia 1 t0 t7) fun t14 =>
 oOpt (ld1 m5 t14) fun t15 =>
 oOpt (ia 1 t0 t7) fun t16 =>
 oRes (st1 1 L m5 t16 t13) fun t17 m18 =>
 oOpt (ia 1 t0 t9) fun t19 =>
 oRes (st1 1 L m18 t19 t15) fun t20 m21 =>
 oInt .add .i64 t7 (.int .i64 (.ofNat 1)) fun t22 =>
 oInt .sub .i64 t9 (.int .i64 (.ofNat 1)) fun t23 =>
 j6 [t22, t23] m21) (k (.tuple ⟨[]⟩) m5)) lf [(.int .i64 (.ofNat 0)), t3] m)
theorem S56_ok (lf : Nat) (cK : CallK β) (args : List Value) (L : Nat) (m : Mem) (k : Value → Mem → Option β)  : S56 lf cK args L m k = denF Try.prog fsT 0 K56 lf cK 56 args L m k := by kernel_rfl

/-- vitola/vitolalaw07.greatest -/
def K57 : Kat := []
noncomputable def S57 (lf : Nat) : FnK β := fun call args L m k =>
 uc args fun t0 l1 =>
 un0 l1 (oRes (bs Try.prog m 22 1 [(0, (.int .i64 (.ofNat 0)))]) fun t2 m3 =>
 oRes (aappend Try.prog L m3 22 t2 t0) fun t4 m5 =>
 call 92 [t4] L m5 fun t6 m7 =>
 k t6 m7)
theorem S57_ok (lf : Nat) (cK : CallK β) (args : List Value) (L : Nat) (m : Mem) (k : Value → Mem → Option β)  : S57 lf cK args L m k = denF Try.prog fsT 0 K57 lf cK 57 args L m k := by kernel_rfl

/-- vitola/vitolalaw07.ShadeLeast$1 -/
def K58 : Kat := [(10, (0, []))]
noncomputable def S58 (lf : Nat) : FnK β := fun call args L m k =>
 uc args fun t0 l1 =>
 uc l1 fun t2 l3 =>
 uc l3 fun t4 l5 =>
 uc l5 fun t6 l7 =>
 un0 l7 (oOpt (ld1 m t2) fun t8 =>
 call 54 [t0, t8] L m fun t9 m10 =>
 call 57 [t9] L m10 fun t11 m12 =>
 oOpt (ld1 m12 t4) fun t13 =>
 oInt .lss .i64 t11 t13 fun t14 =>
 join (fun l15 m16 =>
 k (.tuple ⟨[]⟩) m16) fun j17 =>
 oIf t14 (oRes (st1 1 L m12 t4 t11) fun t18 m19 =>
 oRes (st1 1 L m19 t6 t0) fun t20 m21 =>
 j17 [] m21) (j17 [] m12))
theorem S58_ok (lf : Nat) (cK : CallK β) (args : List Value) (L : Nat) (m : Mem) (k : Value → Mem → Option β)  : S58 lf cK args L m k = denF Try.prog fsT 0 K58 lf cK 58 args L m k := by kernel_rfl

/-- vitola/shade.asked -/
def K59 : Kat := [(185, (0, [9, 21]))]
noncomputable def S59 (lf : Nat) : FnK β := fun call args L m k =>
 uc args fun t0 l1 =>
 uc l1 fun t2 l3 =>
 uc l3 fun t4 l5 =>
 un0 l5 (call 20 [t0] L m fun t6 m7 =>
 oInt .neq .i64 t6 (.int .i64 (.ofNat 0)) fun t8 =>
 oIf t8 (k (.tuple ⟨[(.int .i64 (.ofNat 0)), t6]⟩) m7) (call 93 [t0, t2] L m7 fun t9 m10 =>
 oOpt (ln t9) fun t11 =>
 loopS (fun j14 l12 m13 =>
 uc l12 fun t15 l16 =>
 uc l16 fun t17 l18 =>
 oInt .lss .i64 t17 t11 fun t19 =>
 oIf t19 (oOpt (ia 1 t9 t17) fun t20 =>
 oOpt (ld1 m13 t20) fun t21 =>
 oCallV call t4 [t15, t21] L m13 fun t22 m23 =>
 oInt .add .i64 t17 (.int .i64 (.ofNat 1)) fun t24 =>
 j14 [t22, t24] m23) (k (.tuple ⟨[t15, (.int .i64 (.ofNat 0))]⟩) m13)) lf [(.int .i64 (.ofNat 0)), (.int .i64 (.ofNat 0))] m10))
theorem S59_ok (lf : Nat) (cK : CallK β) (args : List Value) (L : Nat) (m : Mem) (k : Value → Mem → Option β)  : S59 lf cK args L m k = denF Try.prog fsT 0 K59 lf cK 59 args L m k := by kernel_rfl

/-- vitola/shade.Step$1 -/
def K60 : Kat := []
noncomputable def S60 (lf : Nat) : FnK β := fun call args L m k =>
 uc args fun t0 l1 =>
 uc l1 fun t2 l3 =>
 un0 l3 (oOpt (abuiltin Try.prog .max #[3, 3] [t0, t2]) fun t4 =>
 k t4 m)
theorem S60_ok (lf : Nat) (cK : CallK β) (args : List Value) (L : Nat) (m : Mem) (k : Value → Mem → Option β)  : S60 lf cK args L m k = denF Try.prog fsT 0 K60 lf cK 60 args L m k := by kernel_rfl

/-- vitola/vitolaref07.greatest -/
def K61 : Kat := [(185, (0, [5, 7]))]
noncomputable def S61 (lf : Nat) : FnK β := fun call args L m k =>
 uc args fun t0 l1 =>
 uc l1 fun t2 l3 =>
 un0 l3 (call 94 [t0, t2] L m fun t4 m5 =>
 loopS (fun j8 l6 m7 =>
 uc l6 fun t9 l10 =>
 uc l10 fun t11 l12 =>
 oOpt (ln t4) fun t13 =>
 oInt .lss .i64 t11 t13 fun t14 =>
 oIf t14 (oOpt (ia 1 t4 t11) fun t15 =>
 oOpt (ld1 m7 t15) fun t16 =>
 oOpt (abuiltin Try.prog .max #[3, 3] [t9, t16]) fun t17 =>
 oInt .add .i64 t11 (.int .i64 (.ofNat 1)) fun t18 =>
 j8 [t17, t18] m7) (k t9 m7)) lf [(.int .i64 (.ofNat 0)), (.int .i64 (.ofNat 0))] m5)
theorem S61_ok (lf : Nat) (cK : CallK β) (args : List Value) (L : Nat) (m : Mem) (k : Value → Mem → Option β)  : S61 lf cK args L m k = denF Try.prog fsT 0 K61 lf cK 61 args L m k := by kernel_rfl

/-- vitola/shade.Sum$1 -/
def K62 : Kat := []
noncomputable def S62 (lf : Nat) : FnK β := fun call args L m k =>
 uc args fun t0 l1 =>
 uc l1 fun t2 l3 =>
 un0 l3 (oInt .add .i64 t0 t2 fun t4 =>
 k t4 m)
theorem S62_ok (lf : Nat) (cK : CallK β) (args : List Value) (L : Nat) (m : Mem) (k : Value → Mem → Option β)  : S62 lf cK args L m k = denF Try.prog fsT 0 K62 lf cK 62 args L m k := by kernel_rfl

/-- vitola/vitolaref07.sum -/
def K63 : Kat := [(185, (0, [5, 7]))]
noncomputable def S63 (lf : Nat) : FnK β := fun call args L m k =>
 uc args fun t0 l1 =>
 uc l1 fun t2 l3 =>
 un0 l3 (call 94 [t0, t2] L m fun t4 m5 =>
 loopS (fun j8 l6 m7 =>
 uc l6 fun t9 l10 =>
 uc l10 fun t11 l12 =>
 oOpt (ln t4) fun t13 =>
 oInt .lss .i64 t11 t13 fun t14 =>
 oIf t14 (oOpt (ia 1 t4 t11) fun t15 =>
 oOpt (ld1 m7 t15) fun t16 =>
 oInt .add .i64 t9 t16 fun t17 =>
 oInt .add .i64 t11 (.int .i64 (.ofNat 1)) fun t18 =>
 j8 [t17, t18] m7) (k t9 m7)) lf [(.int .i64 (.ofNat 0)), (.int .i64 (.ofNat 0))] m5)
theorem S63_ok (lf : Nat) (cK : CallK β) (args : List Value) (L : Nat) (m : Mem) (k : Value → Mem → Option β)  : S63 lf cK args L m k = denF Try.prog fsT 0 K63 lf cK 63 args L m k := by kernel_rfl

/-- vitola/shade.checked[int] -/
def K64 : Kat := [(89, (0, [21]))]
noncomputable def S64 (lf : Nat) : FnK β := fun call args L m k =>
 uc args fun t0 l1 =>
 uc l1 fun t2 l3 =>
 uc l3 fun t4 l5 =>
 un0 l5 (oOpt (ln t0) fun t6 =>
 oInt .eql .i64 t6 (.int .i64 (.ofNat 0)) fun t7 =>
 oIf t7 (k (.int .i64 (.ofNat 4)) m) (oOpt (ln t0) fun t8 =>
 oInt .gtr .i64 t8 t2 fun t9 =>
 oIf t9 (k (.int .i64 (.ofNat 3)) m) (oOpt (ln t0) fun t10 =>
 loopS (fun j13 l11 m12 =>
 uc l11 fun t14 l15 =>
 oInt .lss .i64 t14 t10 fun t16 =>
 oIf t16 (oOpt (ia 1 t0 t14) fun t17 =>
 oOpt (ld1 m12 t17) fun t18 =>
 oCallV call t4 [t14, t18] L m12 fun t19 m20 =>
 oInt .neq .i64 t19 (.int .i64 (.ofNat 0)) fun t21 =>
 oIf t21 (k t19 m20) (oInt .add .i64 t14 (.int .i64 (.ofNat 1)) fun t22 =>
 j13 [t22] m20)) (k (.int .i64 (.ofNat 0)) m12)) lf [(.int .i64 (.ofNat 0))] m)))
theorem S64_ok (lf : Nat) (cK : CallK β) (args : List Value) (L : Nat) (m : Mem) (k : Value → Mem → Option β)  : S64 lf cK args L m k = denF Try.prog fsT 0 K64 lf cK 64 args L m k := by kernel_rfl

/-- vitola/shade.Check$1 -/
def K65 : Kat := []
noncomputable def S65 (lf : Nat) : FnK β := fun call args L m k =>
 uc args fun t0 l1 =>
 uc l1 fun t2 l3 =>
 un0 l3 (call 66 [t2, (.int .i64 (.ofNat 0)), (.int .i64 (.ofNat 60))] L m fun t4 m5 =>
 oOpt (aun .not t4) fun t6 =>
 oIf t6 (k (.int .i64 (.ofNat 1)) m5) (k (.int .i64 (.ofNat 0)) m5))
theorem S65_ok (lf : Nat) (cK : CallK β) (args : List Value) (L : Nat) (m : Mem) (k : Value → Mem → Option β)  : S65 lf cK args L m k = denF Try.prog fsT 0 K65 lf cK 65 args L m k := by kernel_rfl

/-- vitola/shade.within -/
def K66 : Kat := [(9, (1, [13]))]
noncomputable def S66 (lf : Nat) : FnK β := fun call args L m k =>
 uc args fun t0 l1 =>
 uc l1 fun t2 l3 =>
 uc l3 fun t4 l5 =>
 un0 l5 (oInt .leq .i64 t2 t0 fun t6 =>
 join (fun l7 m8 =>
 uc l7 fun t10 l11 =>
 oPick t6 t10 (.bool false) fun t12 =>
 k t12 m8) fun j9 =>
 oGT t6 (oInt .leq .i64 t0 t4 fun t13 =>
 j9 [t13] m) (j9 [Go.undef] m))
theorem S66_ok (lf : Nat) (cK : CallK β) (args : List Value) (L : Nat) (m : Mem) (k : Value → Mem → Option β)  : S66 lf cK args L m k = denF Try.prog fsT 0 K66 lf cK 66 args L m k := by kernel_rfl

/-- vitola/vitolaref07.in -/
def K67 : Kat := [(9, (1, [13]))]
noncomputable def S67 (lf : Nat) : FnK β := fun call args L m k =>
 uc args fun t0 l1 =>
 uc l1 fun t2 l3 =>
 uc l3 fun t4 l5 =>
 un0 l5 (oInt .geq .i64 t0 t2 fun t6 =>
 join (fun l7 m8 =>
 uc l7 fun t10 l11 =>
 oPick t6 t10 (.bool false) fun t12 =>
 k t12 m8) fun j9 =>
 oGT t6 (oInt .leq .i64 t0 t4 fun t13 =>
 j9 [t13] m) (j9 [Go.undef] m))
theorem S67_ok (lf : Nat) (cK : CallK β) (args : List Value) (L : Nat) (m : Mem) (k : Value → Mem → Option β)  : S67 lf cK args L m k = denF Try.prog fsT 0 K67 lf cK 67 args L m k := by kernel_rfl

/-- vitola/shade.opened -/
def K68 : Kat := []
noncomputable def S68 (lf : Nat) : FnK β := fun call args L m k =>
 uc args fun t0 l1 =>
 uc l1 fun t2 l3 =>
 un0 l3 (call 20 [t0] L m fun t4 m5 =>
 oInt .neq .i64 t4 (.int .i64 (.ofNat 0)) fun t6 =>
 oIf t6 (k (.tuple ⟨[(.pointer none), t4]⟩) m5) (call 50 [t0] L m5 fun t7 m8 =>
 call 49 [t7] L m8 fun t9 m10 =>
 oOpt (bu Try.prog 77 [(0, t9), (1, t2)]) fun t11 =>
 oRes (abox m10 t11) fun t12 m13 =>
 k (.tuple ⟨[t12, (.int .i64 (.ofNat 0))]⟩) m13))
theorem S68_ok (lf : Nat) (cK : CallK β) (args : List Value) (L : Nat) (m : Mem) (k : Value → Mem → Option β)  : S68 lf cK args L m k = denF Try.prog fsT 0 K68 lf cK 68 args L m k := by kernel_rfl

/-- (*vitola/shade.shelf).reach -/
def K69 : Kat := [(19, (1, [13]))]
noncomputable def S69 (lf : Nat) : FnK β := fun call args L m k =>
 uc args fun t0 l1 =>
 un0 l1 (oOpt (anil t0) fun t2 =>
 oOpt (fa 1 t2) fun t3 =>
 oOpt (ld1 m t3) fun t4 =>
 join (fun l5 m6 =>
 uc l5 fun t8 l9 =>
 oPick t4 t8 (.bool false) fun t10 =>
 oIf t10 (k (.int .i64 (.ofNat 2)) m6) (k (.int .i64 (.ofNat 1)) m6)) fun j7 =>
 oGT t4 (oOpt (anil t0) fun t11 =>
 oOpt (fa 0 t11) fun t12 =>
 oOpt (ld1 m t12) fun t13 =>
 oOpt (ln t13) fun t14 =>
 oInt .gtr .i64 t14 (.int .i64 (.ofNat 2)) fun t15 =>
 j7 [t15] m) (j7 [Go.undef] m))
theorem S69_ok (lf : Nat) (cK : CallK β) (args : List Value) (L : Nat) (m : Mem) (k : Value → Mem → Option β)  : S69 lf cK args L m k = denF Try.prog fsT 0 K69 lf cK 69 args L m k := by kernel_rfl

/-- vitola/vitolaref07.reach -/
def K70 : Kat := [(19, (1, [9]))]
noncomputable def S70 (lf : Nat) : FnK β := fun call args L m k =>
 uc args fun t0 l1 =>
 uc l1 fun t2 l3 =>
 un0 l3 (join (fun l4 m5 =>
 uc l4 fun t7 l8 =>
 oPick t2 t7 (.bool false) fun t9 =>
 oIf t9 (k (.int .i64 (.ofNat 2)) m5) (k (.int .i64 (.ofNat 1)) m5)) fun j6 =>
 oGT t2 (oOpt (ln t0) fun t10 =>
 oInt .gtr .i64 t10 (.int .i64 (.ofNat 2)) fun t11 =>
 j6 [t11] m) (j6 [Go.undef] m))
theorem S70_ok (lf : Nat) (cK : CallK β) (args : List Value) (L : Nat) (m : Mem) (k : Value → Mem → Option β)  : S70 lf cK args L m k = denF Try.prog fsT 0 K70 lf cK 70 args L m k := by kernel_rfl

/-- vitola/vitolaref07.sorted -/
def K71 : Kat := [(89, (0, [3, 4])), (5777, (0, [3, 5])), (184904, (0, [3]))]
noncomputable def S71 (lf : Nat) : FnK β := fun call args L m k =>
 uc args fun t0 l1 =>
 un0 l1 (loopS (fun j4 l2 m3 =>
 uc l2 fun t5 l6 =>
 uc l6 fun t7 l8 =>
 oInt .leq .i64 t7 (.int .i64 (.ofNat 60)) fun t9 =>
 oIf t9 (loopS (fun j12 l10 m11 =>
 uc l10 fun t13 l14 =>
 uc l14 fun t15 l16 =>
 oOpt (ln t0) fun t17 =>
 oInt .lss .i64 t15 t17 fun t18 =>
 oIf t18 (oOpt (ia 1 t0 t15) fun t19 =>
 oOpt (ld1 m11 t19) fun t20 =>
 oInt .eql .i64 t20 t7 fun t21 =>
 join (fun l22 m23 =>
 uc l22 fun t25 l26 =>
 oInt .add .i64 t15 (.int .i64 (.ofNat 1)) fun t27 =>
 j12 [t25, t27] m23) fun j24 =>
 oIf t21 (oRes (bs Try.prog m11 22 1 [(0, t7)]) fun t28 m29 =>
 oRes (aappend Try.prog L m29 22 t13 t28) fun t30 m31 =>
 j24 [t30] m31) (j24 [t13] m11)) (oInt .add .i64 t7 (.int .i64 (.ofNat 1)) fun t32 =>
 j4 [t13, t32] m11)) lf [t5, (.int .i64 (.ofNat 0))] m3) (k t5 m3)) lf [(.slice none 0 0), (.int .i64 (.ofNat 0))] m)
theorem S71_ok (lf : Nat) (cK : CallK β) (args : List Value) (L : Nat) (m : Mem) (k : Value → Mem → Option β)  : S71 lf cK args L m k = denF Try.prog fsT 0 K71 lf cK 71 args L m k := by kernel_rfl

/-- (*vitola/shade.shelf).why -/
def K72 : Kat := [(185, (0, [2, 3, 16])), (47717, (1, [41])), (47718, (0, [2, 3]))]
noncomputable def S72 (lf : Nat) : FnK β := fun call args L m k =>
 uc args fun t0 l1 =>
 un0 l1 (call 69 [t0] L m fun t2 m3 =>
 oOpt (anil t0) fun t4 =>
 oOpt (fa 0 t4) fun t5 =>
 oOpt (ld1 m3 t5) fun t6 =>
 oOpt (ln t6) fun t7 =>
 oInt .sub .i64 t7 t2 fun t8 =>
 loopS (fun j11 l9 m10 =>
 uc l9 fun t12 l13 =>
 uc l13 fun t14 l15 =>
 uc l15 fun t16 l17 =>
 oInt .lss .i64 t16 t8 fun t18 =>
 oIf t18 (oOpt (anil t0) fun t19 =>
 oOpt (fa 0 t19) fun t20 =>
 oOpt (ld1 m10 t20) fun t21 =>
 oInt .add .i64 t16 t2 fun t22 =>
 oOpt (ia 1 t21 t22) fun t23 =>
 oOpt (ld1 m10 t23) fun t24 =>
 oOpt (anil t0) fun t25 =>
 oOpt (fa 0 t25) fun t26 =>
 oOpt (ld1 m10 t26) fun t27 =>
 oOpt (ia 1 t27 t16) fun t28 =>
 oOpt (ld1 m10 t28) fun t29 =>
 oInt .sub .i64 t24 t29 fun t30 =>
 oInt .lss .i64 t12 (.int .i64 (.ofNat 0)) fun t31 =>
 join (fun l32 m33 =>
 uc l32 fun t35 l36 =>
 oPick t31 (.bool true) t35 fun t37 =>
 join (fun l38 m39 =>
 uc l38 fun t41 l42 =>
 uc l42 fun t43 l44 =>
 oInt .add .i64 t16 (.int .i64 (.ofNat 1)) fun t45 =>
 j11 [t41, t43, t45] m39) fun j40 =>
 oIf t37 (j40 [t16, t30] m33) (j40 [t12, t14] m33)) fun j34 =>
 oGF t31 (oInt .gtr .i64 t30 t14 fun t46 =>
 j34 [t46] m10) (j34 [Go.undef] m10)) (k (.tuple ⟨[t12, t14]⟩) m10)) lf [(.int .i64 (.negSucc 0)), (.int .i64 (.ofNat 0)), (.int .i64 (.ofNat 0))] m3)
theorem S72_ok (lf : Nat) (cK : CallK β) (args : List Value) (L : Nat) (m : Mem) (k : Value → Mem → Option β)  : S72 lf cK args L m k = denF Try.prog fsT 0 K72 lf cK 72 args L m k := by kernel_rfl

/-- vitola/vitolaref07.box -/
def K73 : Kat := [(185, (0, [6, 7])), (11921, (1, [37])), (11921, (2, [43])), (11921, (3, [44])), (11922, (0, [6]))]
noncomputable def S73 (lf : Nat) : FnK β := fun call args L m k =>
 uc args fun t0 l1 =>
 uc l1 fun t2 l3 =>
 un0 l3 (call 95 [(.slice none 0 0), t0] L m fun t4 m5 =>
 oOpt (ia 1 t4 (.int .i64 (.ofNat 0))) fun t6 =>
 oOpt (ld1 m5 t6) fun t7 =>
 loopS (fun j10 l8 m9 =>
 uc l8 fun t11 l12 =>
 uc l12 fun t13 l14 =>
 oOpt (ln t4) fun t15 =>
 oInt .lss .i64 t13 t15 fun t16 =>
 oIf t16 (oOpt (ia 1 t4 t13) fun t17 =>
 oOpt (ld1 m9 t17) fun t18 =>
 call 61 [t18, t2] L m9 fun t19 m20 =>
 call 61 [t11, t2] L m20 fun t21 m22 =>
 oInt .lss .i64 t19 t21 fun t23 =>
 join (fun l24 m25 =>
 uc l24 fun t27 l28 =>
 join (fun l29 m30 =>
 uc l29 fun t32 l33 =>
 join (fun l34 m35 =>
 uc l34 fun t37 l38 =>
 oPick t23 (.bool true) t37 fun t39 =>
 join (fun l40 m41 =>
 uc l40 fun t43 l44 =>
 oInt .add .i64 t13 (.int .i64 (.ofNat 1)) fun t45 =>
 j10 [t43, t45] m41) fun j42 =>
 oIf t39 (oOpt (ia 1 t4 t13) fun t46 =>
 oOpt (ld1 m35 t46) fun t47 =>
 j42 [t47] m35) (j42 [t11] m35)) fun j36 =>
 oGF t23 (oPick t27 t32 (.bool false) fun t48 =>
 j36 [t48] m30) (j36 [Go.undef] m30)) fun j31 =>
 oGT t27 (oOpt (ia 1 t4 t13) fun t49 =>
 oOpt (ld1 m25 t49) fun t50 =>
 call 96 [t50, t11] L m25 fun t51 m52 =>
 j31 [t51] m52) (j31 [Go.undef] m25)) fun j26 =>
 oGF t23 (oInt .eql .i64 t19 t21 fun t53 =>
 j26 [t53] m22) (j26 [Go.undef] m22)) (k t11 m9)) lf [t7, (.int .i64 (.ofNat 1))] m5)
theorem S73_ok (lf : Nat) (cK : CallK β) (args : List Value) (L : Nat) (m : Mem) (k : Value → Mem → Option β)  : S73 lf cK args L m k = denF Try.prog fsT 0 K73 lf cK 73 args L m k := by kernel_rfl

/-- (*vitola/shade.shelf).fill -/
def K74 : Kat := [(1529, (0, [8, 37])), (3065, (0, [52])), (12559993, (0, [11, 12, 13, 80])), (1607679282, (0, [11, 12, 13])), (3215358565, (0, [11, 12, 13, 88])), (411565896497, (1, [110]))]
noncomputable def S74 (lf : Nat) : FnK β := fun call args L m k =>
 uc args fun t0 l1 =>
 uc l1 fun t2 l3 =>
 un0 l3 (oOpt (anil t0) fun t4 =>
 oOpt (fa 0 t4) fun t5 =>
 oOpt (ld1 m t5) fun t6 =>
 oOpt (ln t6) fun t7 =>
 oInt .eql .i64 t7 (.int .i64 (.ofNat 1)) fun t8 =>
 oIf t8 (oOpt (anil t0) fun t9 =>
 oOpt (fa 0 t9) fun t10 =>
 oOpt (ld1 m t10) fun t11 =>
 call 46 [t11] L m fun t12 m13 =>
 k t12 m13) (oRes (amakeMap m) fun t14 m15 =>
 oOpt (bu Try.prog 102 [(0, t0), (1, t2), (2, t14)]) fun t16 =>
 oRes (abox m15 t16) fun t17 m18 =>
 oOpt (abin Try.prog .shl 3 (.int .i64 (.ofNat 1)) t7) fun t19 =>
 oInt .sub .i64 t19 (.int .i64 (.ofNat 1)) fun t20 =>
 loopS (fun j23 l21 m22 =>
 uc l21 fun t24 l25 =>
 uc l25 fun t26 l27 =>
 oInt .lss .i64 t26 t7 fun t28 =>
 oIf t28 (oOpt (abin Try.prog .shl 3 (.int .i64 (.ofNat 1)) t26) fun t29 =>
 oInt .andNot .i64 t20 t29 fun t30 =>
 call 97 [t17, t26, t26, t30] L m22 fun t31 m32 =>
 oOpt (abuiltin Try.prog .max #[3, 3] [t24, t31]) fun t33 =>
 oInt .add .i64 t26 (.int .i64 (.ofNat 1)) fun t34 =>
 j23 [t33, t34] m32) (loopS (fun j37 l35 m36 =>
 uc l35 fun t38 l39 =>
 oInt .lss .i64 t38 t7 fun t40 =>
 oIf t40 (oOpt (abin Try.prog .shl 3 (.int .i64 (.ofNat 1)) t38) fun t41 =>
 oInt .andNot .i64 t20 t41 fun t42 =>
 call 97 [t17, t38, t38, t42] L m36 fun t43 m44 =>
 oInt .neq .i64 t43 t24 fun t45 =>
 oIf t45 (oInt .add .i64 t38 (.int .i64 (.ofNat 1)) fun t46 =>
 j37 [t46] m44) (oOpt (anil t0) fun t47 =>
 oOpt (fa 0 t47) fun t48 =>
 oOpt (ld1 m44 t48) fun t49 =>
 oOpt (ia 1 t49 t38) fun t50 =>
 oOpt (ld1 m44 t50) fun t51 =>
 oRes (bs Try.prog m44 22 1 [(0, t51)]) fun t52 m53 =>
 oOpt (abin Try.prog .shl 3 (.int .i64 (.ofNat 1)) t38) fun t54 =>
 oInt .andNot .i64 t20 t54 fun t55 =>
 oInt .sub .i64 t7 (.int .i64 (.ofNat 1)) fun t56 =>
 loopS (fun j59 l57 m58 =>
 uc l57 fun t60 l61 =>
 uc l61 fun t62 l63 =>
 uc l63 fun t64 l65 =>
 uc l65 fun t66 l67 =>
 oInt .lss .i64 t66 t56 fun t68 =>
 oIf t68 (call 97 [t17, t38, t62, t64] L m58 fun t69 m70 =>
 join (fun l71 m72 =>
 uc l71 fun t74 l75 =>
 uc l75 fun t76 l77 =>
 uc l77 fun t78 l79 =>
 oInt .add .i64 t66 (.int .i64 (.ofNat 1)) fun t80 =>
 j59 [t74, t76, t78, t80] m72) fun j73 =>
 loopS (fun j83 l81 m82 =>
 uc l81 fun t84 l85 =>
 uc l85 fun t86 l87 =>
 uc l87 fun t88 l89 =>
 uc l89 fun t90 l91 =>
 oInt .lss .i64 t90 t7 fun t92 =>
 oIf t92 (oOpt (abin Try.prog .shr 3 t88 t90) fun t93 =>
 oInt .and .i64 t93 (.int .i64 (.ofNat 1)) fun t94 =>
 oInt .eql .i64 t94 (.int .i64 (.ofNat 1)) fun t95 =>
 join (fun l96 m97 =>
 uc l96 fun t99 l100 =>
 oPick t95 t99 (.bool false) fun t101 =>
 oIf t101 (oOpt (anil t0) fun t102 =>
 oOpt (fa 0 t102) fun t103 =>
 oOpt (ld1 m97 t103) fun t104 =>
 oOpt (ia 1 t104 t90) fun t105 =>
 oOpt (ld1 m97 t105) fun t106 =>
 oRes (bs Try.prog m97 22 1 [(0, t106)]) fun t107 m108 =>
 oRes (aappend Try.prog L m108 22 t84 t107) fun t109 m110 =>
 oOpt (abin Try.prog .shl 3 (.int .i64 (.ofNat 1)) t90) fun t111 =>
 oInt .andNot .i64 t88 t111 fun t112 =>
 j73 [t109, t90, t112] m110) (oInt .add .i64 t90 (.int .i64 (.ofNat 1)) fun t113 =>
 j83 [t84, t86, t88, t113] m97)) fun j98 =>
 oGT t95 (oOpt (abin Try.prog .shl 3 (.int .i64 (.ofNat 1)) t90) fun t114 =>
 oInt .andNot .i64 t88 t114 fun t115 =>
 call 97 [t17, t38, t90, t115] L m82 fun t116 m117 =>
 call 98 [t17, t86, t90, t116] L m117 fun t118 m119 =>
 oInt .eql .i64 t118 t69 fun t120 =>
 j98 [t120] m119) (j98 [Go.undef] m82)) (j73 [t84, t86, t88] m82)) lf [t60, t62, t64, (.int .i64 (.ofNat 0))] m70) (k t60 m58)) lf [t52, t38, t55, (.int .i64 (.ofNat 0))] m53)) (k (.slice none 0 0) m36)) lf [(.int .i64 (.ofNat 0))] m22)) lf [(.int .i64 (.negSucc 0)), (.int .i64 (.ofNat 0))] m18))
theorem S74_ok (lf : Nat) (cK : CallK β) (args : List Value) (L : Nat) (m : Mem) (k : Value → Mem → Option β)  : S74 lf cK args L m k = denF Try.prog fsT 0 K74 lf cK 74 args L m k := by kernel_rfl

end
end Go.Vit
