/- Shallow texts of the seat's functions, printed by a program: part 3. -/
import Derived.Test.YtppallabmjdolaaGreatDoorRows
import Derived.Test.YtppallabmjdolaaGreatDoorFs
set_option linter.unusedVariables false
set_option maxRecDepth 100000
namespace Go.Vit
open Go Go.Proofs
section
variable {β : Type}
/-- (vitola/bond.circle).meeting -/
def K57 : Kat := [(89, (0, [17])), (92569, (0, [6, 24])), (1481125, (0, [6])), (47396045, (0, [6, 9]))]
noncomputable def S57 (lf : Nat) : FnK β := fun call args L m k => uc args fun t0 l1 => un0 l1 (oRes (abox m t0) fun t2 m3 => oOpt (fa 0 t2) fun t4 => oOpt (ld1 m3 t4) fun t5 => oRes (bs Tryz.prog m3 22 1 [(0, (.int .i64 (.ofNat 0)))]) fun t6 m7 => oOpt (bu Tryz.prog 97 [(0, t5), (1, t6)]) fun t8 => oRes (anew m7 1 [(.int .i64 (.ofNat 0)), (.slice none 0 0)] ptrTo) fun t9 m10 => oRes (st1 2 L m10 t9 t8) fun t11 m12 => oOpt (ldN m12 2 t2) fun t13 => call 93 [t13] L m12 fun t14 m15 => oOpt (ln t14) fun t16 => loopS (fun j19 l17 m18 => uc l17 fun t20 l21 => oInt .lss .i64 t20 t16 fun t22 => oIf t22 (oOpt (ia 1 t14 t20) fun t23 => oOpt (ld1 m18 t23) fun t24 => oOpt (fa 1 t9) fun t25 => oOpt (ld1 m18 t25) fun t26 => oOpt (ln t26) fun t27 => loopS (fun j30 l28 m29 => uc l28 fun t31 l32 => uc l32 fun t33 l34 => oInt .lss .i64 t33 t27 fun t35 => oIf t35 (join (fun l36 m37 => uc l36 fun t39 l40 => oInt .add .i64 t33 (.int .i64 (.ofNat 1)) fun t41 => j30 [t39, t41] m37) fun j38 => oOpt (ia 1 t26 t33) fun t42 => oOpt (ld1 m29 t42) fun t43 => oInt .and .i64 t43 t24 fun t44 => oInt .neq .i64 t44 (.int .i64 (.ofNat 0)) fun t45 => oIf t45 (oRes (bs Tryz.prog m29 22 1 [(0, t43)]) fun t46 m47 => oRes (aappend Tryz.prog L m47 22 t31 t46) fun t48 m49 => j38 [t48] m49) (loopS (fun j52 l50 m51 => uc l50 fun t53 l54 => uc l54 fun t55 l56 => oInt .neq .i64 t55 (.int .i64 (.ofNat 0)) fun t57 => oIf t57 (oOpt (aun .neg t55) fun t58 => oInt .and .i64 t55 t58 fun t59 => oInt .or .i64 t43 t59 fun t60 => oRes (bs Tryz.prog m51 22 1 [(0, t60)]) fun t61 m62 => oRes (aappend Tryz.prog L m62 22 t53 t61) fun t63 m64 => oInt .sub .i64 t55 (.int .i64 (.ofNat 1)) fun t65 => oInt .and .i64 t55 t65 fun t66 => j52 [t63, t66] m64) (j38 [t53] m51)) lf [t31, t24] m29)) (oOpt (fa 0 t2) fun t67 => oOpt (ld1 m29 t67) fun t68 => oOpt (bu Tryz.prog 97 [(0, t68), (1, t31)]) fun t69 => call 93 [t69] L m29 fun t70 m71 => oOpt (fa 1 t9) fun t72 => oRes (st1 1 L m71 t72 t70) fun t73 m74 => oInt .add .i64 t20 (.int .i64 (.ofNat 1)) fun t75 => j19 [t75] m74)) lf [(.slice none 0 0), (.int .i64 (.ofNat 0))] m18) (oOpt (fa 1 t9) fun t76 => oOpt (ld1 m18 t76) fun t77 => k t77 m18)) lf [(.int .i64 (.ofNat 0))] m15)
theorem S57_ok (lf : Nat) (cK : CallK β) (args : List Value) (L : Nat) (m : Mem) (k : Value → Mem → Option β)  : S57 lf cK args L m k = denF Tryz.prog fsT 2 K57 lf cK 57 args L m k := by kernel_rfl

/-- (vitola/bond.circle).all -/
def K58 : Kat := []
noncomputable def S58 (lf : Nat) : FnK β := fun call args L m k => uc args fun t0 l1 => un0 l1 (oRes (abox m t0) fun t2 m3 => oOpt (fa 0 t2) fun t4 => oOpt (ld1 m3 t4) fun t5 => oOpt (abin Tryz.prog .shl 3 (.int .i64 (.ofNat 1)) t5) fun t6 => oInt .sub .i64 t6 (.int .i64 (.ofNat 1)) fun t7 => k t7 m3)
theorem S58_ok (lf : Nat) (cK : CallK β) (args : List Value) (L : Nat) (m : Mem) (k : Value → Mem → Option β)  : S58 lf cK args L m k = denF Tryz.prog fsT 2 K58 lf cK 58 args L m k := by kernel_rfl


/-- vitola/blend.Count -/
def K60 : Kat := []
noncomputable def S60 (lf : Nat) : FnK β := fun call args L m k => uc args fun t0 l1 => uc l1 fun t2 l3 => un0 l3 (call 124 [t0, t2] L m fun t4 m5 => oInt .neq .i64 t4 (.int .i64 (.ofNat 0)) fun t6 => oIf t6 (k (.tuple ⟨[(.int .i64 (.ofNat 0)), t4]⟩) m5) (call 65 [t0, t2] L m5 fun t7 m8 => k (.tuple ⟨[t7, (.int .i64 (.ofNat 0))]⟩) m8))
theorem S60_ok (lf : Nat) (cK : CallK β) (args : List Value) (L : Nat) (m : Mem) (k : Value → Mem → Option β)  : S60 lf cK args L m k = denF Tryz.prog fsT 2 K60 lf cK 60 args L m k := by kernel_rfl

/-- vitola/blend.Nth -/
def K61 : Kat := []
noncomputable def S61 (lf : Nat) : FnK β := fun call args L m k => uc args fun t0 l1 => uc l1 fun t2 l3 => uc l3 fun t4 l5 => un0 l5 (call 124 [t0, t2] L m fun t6 m7 => oInt .neq .i64 t6 (.int .i64 (.ofNat 0)) fun t8 => oIf t8 (k (.tuple ⟨[(.slice none 0 0), t6]⟩) m7) (call 65 [t0, t2] L m7 fun t9 m10 => oInt .sub .i64 t9 (.int .i64 (.ofNat 1)) fun t11 => call 125 [t4, (.int .i64 (.ofNat 0)), t11] L m10 fun t12 m13 => oOpt (aun .not t12) fun t14 => oIf t14 (k (.tuple ⟨[(.slice none 0 0), (.int .i64 (.ofNat 2))]⟩) m13) (call 66 [t2, t4] L m13 fun t15 m16 => k (.tuple ⟨[t15, (.int .i64 (.ofNat 0))]⟩) m16)))
theorem S61_ok (lf : Nat) (cK : CallK β) (args : List Value) (L : Nat) (m : Mem) (k : Value → Mem → Option β)  : S61 lf cK args L m k = denF Tryz.prog fsT 2 K61 lf cK 61 args L m k := by kernel_rfl

/-- vitola/vitolatop.list -/
def K62 : Kat := []
noncomputable def S62 (lf : Nat) : FnK β := fun call args L m k => uc args fun t0 l1 => un0 l1 (k t0 m)
theorem S62_ok (lf : Nat) (cK : CallK β) (args : List Value) (L : Nat) (m : Mem) (k : Value → Mem → Option β)  : S62 lf cK args L m k = denF Tryz.prog fsT 2 K62 lf cK 62 args L m k := by kernel_rfl

/-- vitola/vitolatop.bandWorks -/
def K63 : Kat := [(21, (1, [11])), (21, (3, [14]))]
noncomputable def S63 (lf : Nat) : FnK β := fun call args L m k => un0 args (call 126 [(.int .i64 (.ofNat 8)), (.int .i64 (.ofNat 3))] L m fun t0 m1 => oOpt (aextract t0 0) fun t2 => oOpt (aextract t0 1) fun t3 => oInt .eql .i64 t3 (.int .i64 (.ofNat 0)) fun t4 => join (fun l5 m6 => uc l5 fun t8 l9 => oPick t4 t8 (.bool false) fun t10 => join (fun l11 m12 => uc l11 fun t14 l15 => oPick t10 t14 (.bool false) fun t16 => k t16 m12) fun j13 => oGT t10 (call 127 [] L m6 fun t17 m18 => j13 [t17] m18) (j13 [Go.undef] m6)) fun j7 => oGT t4 (oOpt (abin Tryz.prog .eql 9 t2 (.string ⟨#[97, 97, 98, 97, 97, 98, 97, 98]⟩)) fun t19 => j7 [t19] m1) (j7 [Go.undef] m1))
theorem S63_ok (lf : Nat) (cK : CallK β) (args : List Value) (L : Nat) (m : Mem) (k : Value → Mem → Option β)  : S63 lf cK args L m k = denF Tryz.prog fsT 2 K63 lf cK 63 args L m k := by kernel_rfl

/-- vitola/blend.Check -/
def K64 : Kat := [(185, (0, [5, 13]))]
noncomputable def S64 (lf : Nat) : FnK β := fun call args L m k => uc args fun t0 l1 => uc l1 fun t2 l3 => un0 l3 (call 125 [t0, (.int .i64 (.ofNat 1)), (.int .i64 (.ofNat 10))] L m fun t4 m5 => oOpt (aun .not t4) fun t6 => oIf t6 (k (.int .i64 (.ofNat 1)) m5) (oOpt (ln t2) fun t7 => loopS (fun j10 l8 m9 => uc l8 fun t11 l12 => uc l12 fun t13 l14 => oInt .lss .i64 t13 t7 fun t15 => oIf t15 (oOpt (ia 1 t2 t13) fun t16 => oOpt (ld1 m9 t16) fun t17 => oInt .sub .i64 t0 (.int .i64 (.ofNat 1)) fun t18 => call 125 [t17, (.int .i64 (.ofNat 0)), t18] L m9 fun t19 m20 => oOpt (aun .not t19) fun t21 => oIf t21 (k (.int .i64 (.ofNat 2)) m20) (oInt .leq .i64 t17 t11 fun t22 => oIf t22 (k (.int .i64 (.ofNat 7)) m20) (oInt .add .i64 t13 (.int .i64 (.ofNat 1)) fun t23 => j10 [t17, t23] m20))) (k (.int .i64 (.ofNat 0)) m9)) lf [(.int .i64 (.negSucc 0)), (.int .i64 (.ofNat 0))] m5))
theorem S64_ok (lf : Nat) (cK : CallK β) (args : List Value) (L : Nat) (m : Mem) (k : Value → Mem → Option β)  : S64 lf cK args L m k = denF Tryz.prog fsT 2 K64 lf cK 64 args L m k := by kernel_rfl

/-- vitola/blend.choose -/
def K65 : Kat := [(19, (1, [12])), (185, (0, [5, 15]))]
noncomputable def S65 (lf : Nat) : FnK β := fun call args L m k => uc args fun t0 l1 => uc l1 fun t2 l3 => un0 l3 (oInt .lss .i64 t2 (.int .i64 (.ofNat 0)) fun t4 => join (fun l5 m6 => uc l5 fun t8 l9 => oPick t4 (.bool true) t8 fun t10 => oIf t10 (k (.int .i64 (.ofNat 0)) m6) (loopS (fun j13 l11 m12 => uc l11 fun t14 l15 => uc l15 fun t16 l17 => oInt .lss .i64 t16 t2 fun t18 => oIf t18 (oInt .sub .i64 t0 t16 fun t19 => oInt .mul .i64 t14 t19 fun t20 => oInt .add .i64 t16 (.int .i64 (.ofNat 1)) fun t21 => oInt .quo .i64 t20 t21 fun t22 => oInt .add .i64 t16 (.int .i64 (.ofNat 1)) fun t23 => j13 [t22, t23] m12) (k t14 m12)) lf [(.int .i64 (.ofNat 1)), (.int .i64 (.ofNat 0))] m6)) fun j7 => oGF t4 (oInt .gtr .i64 t2 t0 fun t24 => j7 [t24] m) (j7 [Go.undef] m))
theorem S65_ok (lf : Nat) (cK : CallK β) (args : List Value) (L : Nat) (m : Mem) (k : Value → Mem → Option β)  : S65 lf cK args L m k = denF Tryz.prog fsT 2 K65 lf cK 65 args L m k := by kernel_rfl

/-- vitola/blend.nth -/
def K66 : Kat := [(89, (0, [1, 6])), (11555, (0, [7]))]
noncomputable def S66 (lf : Nat) : FnK β := fun call args L m k => uc args fun t0 l1 => uc l1 fun t2 l3 => un0 l3 (oRes (amakeSlice Tryz.prog m 22 t0 t0) fun t4 m5 => loopS (fun j8 l6 m7 => uc l6 fun t9 l10 => uc l10 fun t11 l12 => oInt .gtr .i64 t11 (.int .i64 (.ofNat 0)) fun t13 => oIf t13 (oInt .sub .i64 t11 (.int .i64 (.ofNat 1)) fun t14 => loopS (fun j17 l15 m16 => uc l15 fun t18 l19 => oInt .add .i64 t18 (.int .i64 (.ofNat 1)) fun t20 => call 65 [t20, t11] L m16 fun t21 m22 => oInt .leq .i64 t21 t9 fun t23 => oIf t23 (oInt .add .i64 t18 (.int .i64 (.ofNat 1)) fun t24 => j17 [t24] m22) (oInt .sub .i64 t11 (.int .i64 (.ofNat 1)) fun t25 => oOpt (ia 1 t4 t25) fun t26 => oRes (st1 1 L m22 t26 t18) fun t27 m28 => oInt .add .i64 t18 (.int .i64 (.ofNat 1)) fun t29 => call 65 [t29, t11] L m28 fun t30 m31 => oInt .sub .i64 t30 (.int .i64 (.ofNat 1)) fun t32 => oInt .sub .i64 t32 t9 fun t33 => oInt .sub .i64 t11 (.int .i64 (.ofNat 1)) fun t34 => j8 [t33, t34] m31)) lf [t14] m7) (k t4 m7)) lf [t2, t0] m5)
theorem S66_ok (lf : Nat) (cK : CallK β) (args : List Value) (L : Nat) (m : Mem) (k : Value → Mem → Option β)  : S66 lf cK args L m k = denF Tryz.prog fsT 2 K66 lf cK 66 args L m k := by kernel_rfl

/-- vitola/blend.number -/
def K67 : Kat := []
noncomputable def S67 (lf : Nat) : FnK β := fun call args L m k => uc args fun t0 l1 => un0 l1 (oOpt (ln t0) fun t2 => oInt .eql .i64 t2 (.int .i64 (.ofNat 0)) fun t3 => oIf t3 (k (.int .i64 (.ofNat 0)) m) (oInt .sub .i64 t2 (.int .i64 (.ofNat 1)) fun t4 => oOpt (ia 1 t0 t4) fun t5 => oOpt (ld1 m t5) fun t6 => oInt .add .i64 t6 (.int .i64 (.ofNat 1)) fun t7 => call 65 [t7, t2] L m fun t8 m9 => oInt .sub .i64 t8 (.int .i64 (.ofNat 1)) fun t10 => oInt .sub .i64 t2 (.int .i64 (.ofNat 1)) fun t11 => oOpt (sl Tryz.prog 22 t0 none (some t11) none) fun t12 => call 67 [t12] L m9 fun t13 m14 => oInt .sub .i64 t10 t13 fun t15 => k t15 m14))
theorem S67_ok (lf : Nat) (cK : CallK β) (args : List Value) (L : Nat) (m : Mem) (k : Value → Mem → Option β)  : S67 lf cK args L m k = denF Tryz.prog fsT 2 K67 lf cK 67 args L m k := by kernel_rfl

/-- vitola/blend.missing -/
def K68 : Kat := [(41, (0, [9]))]
noncomputable def S68 (lf : Nat) : FnK β := fun call args L m k => uc args fun t0 l1 => uc l1 fun t2 l3 => un0 l3 (oOpt (ln t0) fun t4 => loopS (fun j7 l5 m6 => uc l5 fun t8 l9 => oInt .lss .i64 t8 t4 fun t10 => oIf t10 (oOpt (ia 1 t0 t8) fun t11 => oOpt (ld1 m6 t11) fun t12 => call 36 [t2, t12] L m6 fun t13 m14 => oOpt (aun .not t13) fun t15 => oIf t15 (k t12 m14) (oInt .add .i64 t8 (.int .i64 (.ofNat 1)) fun t16 => j7 [t16] m14)) (k (.int .i64 (.negSucc 0)) m6)) lf [(.int .i64 (.ofNat 0))] m)
theorem S68_ok (lf : Nat) (cK : CallK β) (args : List Value) (L : Nat) (m : Mem) (k : Value → Mem → Option β)  : S68 lf cK args L m k = denF Tryz.prog fsT 2 K68 lf cK 68 args L m k := by kernel_rfl

/-- (vitola/bond.circle).has -/
def K69 : Kat := []
noncomputable def S69 (lf : Nat) : FnK β := fun call args L m k => uc args fun t0 l1 => uc l1 fun t2 l3 => un0 l3 (oRes (abox m t0) fun t4 m5 => oOpt (ldN m5 2 t4) fun t6 => call 58 [t6] L m5 fun t7 m8 => call 54 [t2, (.int .i64 (.ofNat 0)), t7] L m8 fun t9 m10 => k t9 m10)
theorem S69_ok (lf : Nat) (cK : CallK β) (args : List Value) (L : Nat) (m : Mem) (k : Value → Mem → Option β)  : S69 lf cK args L m k = denF Tryz.prog fsT 2 K69 lf cK 69 args L m k := by kernel_rfl

/-- (vitola/bond.rule).may -/
def K70 : Kat := []
noncomputable def S70 (lf : Nat) : FnK β := fun call args L m k => uc args fun t0 l1 => uc l1 fun t2 l3 => un0 l3 (oRes (abox m t0) fun t4 m5 => oRes (abox m5 t2) fun t6 m7 => oOpt (fa 0 t4) fun t8 => oOpt (fa 1 t8) fun t9 => oOpt (ld1 m7 t9) fun t10 => call 43 [t10, (.func (.func 128) #[] ⟨[t6]⟩)] L m7 fun t11 m12 => k t11 m12)
theorem S70_ok (lf : Nat) (cK : CallK β) (args : List Value) (L : Nat) (m : Mem) (k : Value → Mem → Option β)  : S70 lf cK args L m k = denF Tryz.prog fsT 2 K70 lf cK 70 args L m k := by kernel_rfl

/-- vitola/bond.planned -/
def K71 : Kat := []
noncomputable def S71 (lf : Nat) : FnK β := fun call args L m k => uc args fun t0 l1 => un0 l1 (oRes (abox m t0) fun t2 m3 => oRes (anew m3 1 [(.int .i64 (.ofNat 0)), (.slice none 0 0)] ptrTo) fun t4 m5 => oOpt (fa 0 t2) fun t6 => oOpt (ld1 m5 t6) fun t7 => oOpt (fa 1 t2) fun t8 => oOpt (ld1 m5 t8) fun t9 => oOpt (bu Tryz.prog 97 [(0, t7), (1, t9)]) fun t10 => oOpt (bu Tryz.prog 109 [(0, t10)]) fun t11 => oRes (anew m5 1 [(.int .i64 (.ofNat 0)), (.slice none 0 0)] ptrTo) fun t12 m13 => oRes (st1 2 L m13 t12 t11) fun t14 m15 => oOpt (ldN m15 2 t12) fun t16 => oOpt (fa 0 t12) fun t17 => oOpt (ldN m15 2 t17) fun t18 => call 121 [t18] L m15 fun t19 m20 => oSm m15 m20 t12 ( oRes (st1 2 L m20 t4 t16) fun t21 m22 => oOpt (ldN m22 2 t4) fun t23 => k (.tuple ⟨[t23, t19]⟩) m22))
theorem S71_ok (lf : Nat) (cK : CallK β) (args : List Value) (L : Nat) (m : Mem) (k : Value → Mem → Option β)  : S71 lf cK args L m k = denF Tryz.prog fsT 2 K71 lf cK 71 args L m k := by kernel_rfl

/-- (vitola/bond.plan).lacks -/
def K72 : Kat := [(89, (0, [5, 12])), (11570, (0, [5]))]
noncomputable def S72 (lf : Nat) : FnK β := fun call args L m k => uc args fun t0 l1 => uc l1 fun t2 l3 => un0 l3 (oRes (abox m t0) fun t4 m5 => oOpt (fa 0 t4) fun t6 => oOpt (fa 1 t6) fun t7 => oOpt (ld1 m5 t7) fun t8 => oOpt (ln t8) fun t9 => loopS (fun j12 l10 m11 => uc l10 fun t13 l14 => uc l14 fun t15 l16 => oInt .lss .i64 t15 t9 fun t17 => oIf t17 (oOpt (ia 1 t8 t15) fun t18 => oOpt (ld1 m11 t18) fun t19 => oInt .and .i64 t19 t2 fun t20 => oInt .eql .i64 t20 (.int .i64 (.ofNat 0)) fun t21 => join (fun l22 m23 => uc l22 fun t25 l26 => oInt .add .i64 t15 (.int .i64 (.ofNat 1)) fun t27 => j12 [t25, t27] m23) fun j24 => oIf t21 (oRes (bs Tryz.prog m11 22 1 [(0, t15)]) fun t28 m29 => oRes (aappend Tryz.prog L m29 22 t13 t28) fun t30 m31 => j24 [t30] m31) (j24 [t13] m11)) (k t13 m11)) lf [(.slice none 0 0), (.int .i64 (.ofNat 0))] m5)
theorem S72_ok (lf : Nat) (cK : CallK β) (args : List Value) (L : Nat) (m : Mem) (k : Value → Mem → Option β)  : S72 lf cK args L m k = denF Tryz.prog fsT 2 K72 lf cK 72 args L m k := by kernel_rfl

/-- vitola/heap.Check -/
def K73 : Kat := [(89, (0, [10])), (23139, (1, [23]))]
noncomputable def S73 (lf : Nat) : FnK β := fun call args L m k => uc args fun t0 l1 => un0 l1 (oOpt (ln t0) fun t2 => oInt .gtr .i64 t2 (.int .i64 (.ofNat 10)) fun t3 => oIf t3 (k (.int .i64 (.ofNat 3)) m) (oOpt (ln t0) fun t4 => loopS (fun j7 l5 m6 => uc l5 fun t8 l9 => oInt .lss .i64 t8 t4 fun t10 => oIf t10 (oOpt (ia 2 t0 t8) fun t11 => oOpt (ldN m6 2 t11) fun t12 => oRes (anew m6 1 [(.int .i64 (.ofNat 0)), (.int .i64 (.ofNat 0))] ptrTo) fun t13 m14 => oRes (st1 2 L m14 t13 t12) fun t15 m16 => oOpt (fa 0 t13) fun t17 => oOpt (ld1 m16 t17) fun t18 => call 74 [(.int .i64 (.ofNat 0)), t18, (.int .i64 (.ofNat 23))] L m16 fun t19 m20 => oOpt (aun .not t19) fun t21 => join (fun l22 m23 => uc l22 fun t25 l26 => oPick t21 (.bool true) t25 fun t27 => oIf t27 (k (.int .i64 (.ofNat 1)) m23) (oOpt (fa 0 t13) fun t28 => oOpt (ld1 m23 t28) fun t29 => oOpt (fa 1 t13) fun t30 => oOpt (ld1 m23 t30) fun t31 => oInt .gtr .i64 t29 t31 fun t32 => oIf t32 (k (.int .i64 (.ofNat 7)) m23) (oInt .add .i64 t8 (.int .i64 (.ofNat 1)) fun t33 => j7 [t33] m23))) fun j24 => oGF t21 (oOpt (fa 1 t13) fun t34 => oOpt (ld1 m20 t34) fun t35 => call 74 [(.int .i64 (.ofNat 0)), t35, (.int .i64 (.ofNat 23))] L m20 fun t36 m37 => oOpt (aun .not t36) fun t38 => j24 [t38] m37) (j24 [Go.undef] m20)) (k (.int .i64 (.ofNat 0)) m6)) lf [(.int .i64 (.ofNat 0))] m))
theorem S73_ok (lf : Nat) (cK : CallK β) (args : List Value) (L : Nat) (m : Mem) (k : Value → Mem → Option β)  : S73 lf cK args L m k = denF Tryz.prog fsT 2 K73 lf cK 73 args L m k := by kernel_rfl

/-- vitola/heap.between -/
def K74 : Kat := [(9, (1, [13]))]
noncomputable def S74 (lf : Nat) : FnK β := fun call args L m k => uc args fun t0 l1 => uc l1 fun t2 l3 => uc l3 fun t4 l5 => un0 l5 (oInt .leq .i64 t0 t2 fun t6 => join (fun l7 m8 => uc l7 fun t10 l11 => oPick t6 t10 (.bool false) fun t12 => k t12 m8) fun j9 => oGT t6 (oInt .leq .i64 t2 t4 fun t13 => j9 [t13] m) (j9 [Go.undef] m))
theorem S74_ok (lf : Nat) (cK : CallK β) (args : List Value) (L : Nat) (m : Mem) (k : Value → Mem → Option β)  : S74 lf cK args L m k = denF Tryz.prog fsT 2 K74 lf cK 74 args L m k := by kernel_rfl

/-- (vitola/heap.Heap).has -/
def K75 : Kat := []
noncomputable def S75 (lf : Nat) : FnK β := fun call args L m k => uc args fun t0 l1 => uc l1 fun t2 l3 => un0 l3 (oRes (abox m t0) fun t4 m5 => oOpt (fa 0 t4) fun t6 => oOpt (ld1 m5 t6) fun t7 => oOpt (fa 1 t4) fun t8 => oOpt (ld1 m5 t8) fun t9 => call 74 [t7, t2, t9] L m5 fun t10 m11 => k t10 m11)
theorem S75_ok (lf : Nat) (cK : CallK β) (args : List Value) (L : Nat) (m : Mem) (k : Value → Mem → Option β)  : S75 lf cK args L m k = denF Tryz.prog fsT 2 K75 lf cK 75 args L m k := by kernel_rfl

/-- slices.Clone[[]vitola/heap.Heap,vitola/heap.Heap] -/
def K76 : Kat := []
noncomputable def S76 (lf : Nat) : FnK β := fun call args L m k => uc args fun t0 l1 => un0 l1 (oOpt (abin Tryz.prog .eql 47 t0 (.slice none 0 0)) fun t2 => oIf t2 (k (.slice none 0 0) m) (oRes (bs Tryz.prog m 47 0 []) fun t3 m4 => oRes (aappend Tryz.prog L m4 47 t3 t0) fun t5 m6 => k t5 m6))
theorem S76_ok (lf : Nat) (cK : CallK β) (args : List Value) (L : Nat) (m : Mem) (k : Value → Mem → Option β)  : S76 lf cK args L m k = denF Tryz.prog fsT 2 K76 lf cK 76 args L m k := by kernel_rfl

/-- slices.DeleteFunc[[]vitola/heap.Heap,vitola/heap.Heap] -/
def K77 : Kat := [(185, (0, [5, 6])), (11922, (0, [5]))]
noncomputable def S77 (lf : Nat) : FnK β := fun call args L m k => uc args fun t0 l1 => uc l1 fun t2 l3 => un0 l3 (call 130 [t0, t2] L m fun t4 m5 => oInt .eql .i64 t4 (.int .i64 (.negSucc 0)) fun t6 => oIf t6 (k t0 m5) (oInt .add .i64 t4 (.int .i64 (.ofNat 1)) fun t7 => loopS (fun j10 l8 m9 => uc l8 fun t11 l12 => uc l12 fun t13 l14 => oOpt (ln t0) fun t15 => oInt .lss .i64 t13 t15 fun t16 => oIf t16 (oOpt (ia 2 t0 t13) fun t17 => oOpt (ldN m9 2 t17) fun t18 => oRes (anew m9 1 [(.int .i64 (.ofNat 0)), (.int .i64 (.ofNat 0))] ptrTo) fun t19 m20 => oRes (st1 2 L m20 t19 t18) fun t21 m22 => oOpt (ldN m22 2 t19) fun t23 => oCallV call t2 [t23] L m22 fun t24 m25 => oOpt (aun .not t24) fun t26 => join (fun l27 m28 => uc l27 fun t30 l31 => oInt .add .i64 t13 (.int .i64 (.ofNat 1)) fun t32 => j10 [t30, t32] m28) fun j29 => oIf t26 (oOpt (ldN m25 2 t19) fun t33 => oOpt (ia 2 t0 t11) fun t34 => oRes (st1 2 L m25 t34 t33) fun t35 m36 => oInt .add .i64 t11 (.int .i64 (.ofNat 1)) fun t37 => j29 [t37] m36) (j29 [t11] m25)) (oOpt (sl Tryz.prog 47 t0 (some t11) none none) fun t38 => oRes (aclear Tryz.prog L m9 47 t38) fun t39 m40 => oOpt (sl Tryz.prog 47 t0 none (some t11) none) fun t41 => k t41 m40)) lf [t4, t7] m5))
theorem S77_ok (lf : Nat) (cK : CallK β) (args : List Value) (L : Nat) (m : Mem) (k : Value → Mem → Option β)  : S77 lf cK args L m k = denF Tryz.prog fsT 2 K77 lf cK 77 args L m k := by kernel_rfl

/-- vitola/heap.Hours$1 -/
def K78 : Kat := []
noncomputable def S78 (lf : Nat) : FnK β := fun call args L m k => uc args fun t0 l1 => uc l1 fun t2 l3 => un0 l3 (oRes (abox m t0) fun t4 m5 => oOpt (ldN m5 2 t4) fun t6 => oOpt (ld1 m5 t2) fun t7 => call 75 [t6, t7] L m5 fun t8 m9 => k t8 m9)
theorem S78_ok (lf : Nat) (cK : CallK β) (args : List Value) (L : Nat) (m : Mem) (k : Value → Mem → Option β)  : S78 lf cK args L m k = denF Tryz.prog fsT 2 K78 lf cK 78 args L m k := by kernel_rfl

/-- vitola/heap.meeting -/
def K79 : Kat := [(91, (0, [3, 4])), (11817, (0, [19]))]
noncomputable def S79 (lf : Nat) : FnK β := fun call args L m k => uc args fun t0 l1 => un0 l1 (call 76 [t0] L m fun t2 m3 => loopS (fun j6 l4 m5 => uc l4 fun t7 l8 => uc l8 fun t9 l10 => oOpt (ln t7) fun t11 => oInt .gtr .i64 t11 (.int .i64 (.ofNat 0)) fun t12 => oIf t12 (oOpt (ia 2 t7 (.int .i64 (.ofNat 0))) fun t13 => oOpt (fa 1 t13) fun t14 => oOpt (ld1 m5 t14) fun t15 => oRes (anew m5 1 [(.int .i64 (.ofNat 0))] ptrTo) fun t16 m17 => oRes (st1 1 L m17 t16 t15) fun t18 m19 => oOpt (ln t7) fun t20 => loopS (fun j23 l21 m22 => uc l21 fun t24 l25 => oInt .lss .i64 t24 t20 fun t26 => oIf t26 (oOpt (ia 2 t7 t24) fun t27 => oOpt (ldN m22 2 t27) fun t28 => oRes (anew m22 1 [(.int .i64 (.ofNat 0)), (.int .i64 (.ofNat 0))] ptrTo) fun t29 m30 => oRes (st1 2 L m30 t29 t28) fun t31 m32 => oOpt (ld1 m32 t16) fun t33 => oOpt (fa 1 t29) fun t34 => oOpt (ld1 m32 t34) fun t35 => oOpt (abuiltin Tryz.prog .min #[3, 3] [t33, t35]) fun t36 => oRes (st1 1 L m32 t16 t36) fun t37 m38 => oInt .add .i64 t24 (.int .i64 (.ofNat 1)) fun t39 => j23 [t39] m38) (call 77 [t7, (.func (.func 131) #[] ⟨[t16]⟩)] L m22 fun t40 m41 => oInt .add .i64 t9 (.int .i64 (.ofNat 1)) fun t42 => j6 [t40, t42] m41)) lf [(.int .i64 (.ofNat 0))] m19) (k t9 m5)) lf [t2, (.int .i64 (.ofNat 0))] m3)
theorem S79_ok (lf : Nat) (cK : CallK β) (args : List Value) (L : Nat) (m : Mem) (k : Value → Mem → Option β)  : S79 lf cK args L m k = denF Tryz.prog fsT 2 K79 lf cK 79 args L m k := by kernel_rfl

/-- slices.ContainsFunc[[]vitola/heap.Heap,vitola/heap.Heap] -/
def K80 : Kat := []
noncomputable def S80 (lf : Nat) : FnK β := fun call args L m k => uc args fun t0 l1 => uc l1 fun t2 l3 => un0 l3 (call 130 [t0, t2] L m fun t4 m5 => oInt .geq .i64 t4 (.int .i64 (.ofNat 0)) fun t6 => k t6 m5)
theorem S80_ok (lf : Nat) (cK : CallK β) (args : List Value) (L : Nat) (m : Mem) (k : Value → Mem → Option β)  : S80 lf cK args L m k = denF Tryz.prog fsT 2 K80 lf cK 80 args L m k := by kernel_rfl

end
end Go.Vit
