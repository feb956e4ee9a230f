/- Shallow texts of the seat's functions, printed by a program: part 6. -/
import Derived.Test.YtppallabmjdolaaGreatDoorRows
import Derived.Test.YtppallabmjdolaaGreatDoorFs
set_option linter.unusedVariables false
set_option maxRecDepth 100000
namespace Go.Vit
open Go Go.Proofs
section
variable {β : Type}
/-- vitola/grade.moved -/
def K116 : Kat := [(761, (0, [6, 7, 23])), (97586, (0, [6, 7]))]
noncomputable def S116 (lf : Nat) : FnK β := fun call args L m k => uc args fun t0 l1 => uc l1 fun t2 l3 => un0 l3 (oOpt (ln t0) fun t4 => oInt .eql .i64 t4 (.int .i64 (.ofNat 0)) fun t5 => oIf t5 (k (.slice none 0 0) m) (oOpt (ln t0) fun t6 => oInt .sub .i64 t6 (.int .i64 (.ofNat 1)) fun t7 => oOpt (ia 1 t0 t7) fun t8 => oOpt (ld1 m t8) fun t9 => oInt .gtr .i64 t9 t2 fun t10 => oOpt (ln t0) fun t11 => loopS (fun j14 l12 m13 => uc l12 fun t15 l16 => uc l16 fun t17 l18 => uc l18 fun t19 l20 => oInt .lss .i64 t19 t11 fun t21 => oIf t21 (oOpt (ia 1 t0 t19) fun t22 => oOpt (ld1 m13 t22) fun t23 => oInt .gtr .i64 t23 t2 fun t24 => oOpt (abin Tryz.prog .eql 4 t24 t10) fun t25 => join (fun l26 m27 => uc l26 fun t29 l30 => uc l30 fun t31 l32 => oInt .add .i64 t19 (.int .i64 (.ofNat 1)) fun t33 => j14 [t29, t31, t33] m27) fun j28 => oIf t25 (oRes (bs Tryz.prog m13 22 1 [(0, t23)]) fun t34 m35 => oRes (aappend Tryz.prog L m35 22 t15 t34) fun t36 m37 => oOpt (sl Tryz.prog 22 t0 (some t17) (some t19) none) fun t38 => oRes (aappend Tryz.prog L m37 22 t36 t38) fun t39 m40 => oInt .add .i64 t19 (.int .i64 (.ofNat 1)) fun t41 => j28 [t39, t41] m40) (j28 [t15, t17] m13)) (k t15 m13)) lf [(.slice none 0 0), (.int .i64 (.ofNat 0)), (.int .i64 (.ofNat 0))] m))
theorem S116_ok (lf : Nat) (cK : CallK β) (args : List Value) (L : Nat) (m : Mem) (k : Value → Mem → Option β)  : S116 lf cK args L m k = denF Tryz.prog fsT 2 K116 lf cK 116 args L m k := by kernel_rfl

/-- slices.Clone[[]int,int] -/
def K117 : Kat := []
noncomputable def S117 (lf : Nat) : FnK β := fun call args L m k => uc args fun t0 l1 => un0 l1 (oOpt (abin Tryz.prog .eql 22 t0 (.slice none 0 0)) fun t2 => oIf t2 (k (.slice none 0 0) m) (oRes (bs Tryz.prog m 22 0 []) fun t3 m4 => oRes (aappend Tryz.prog L m4 22 t3 t0) fun t5 m6 => k t5 m6))
theorem S117_ok (lf : Nat) (cK : CallK β) (args : List Value) (L : Nat) (m : Mem) (k : Value → Mem → Option β)  : S117 lf cK args L m k = denF Tryz.prog fsT 2 K117 lf cK 117 args L m k := by kernel_rfl

/-- vitola/grade.unmoved -/
def K118 : Kat := [(761, (0, [6, 7, 24])), (12197, (0, [6, 7]))]
noncomputable def S118 (lf : Nat) : FnK β := fun call args L m k => uc args fun t0 l1 => uc l1 fun t2 l3 => un0 l3 (oOpt (ln t0) fun t4 => oInt .eql .i64 t4 (.int .i64 (.ofNat 0)) fun t5 => oIf t5 (k (.slice none 0 0) m) (oOpt (ia 1 t0 (.int .i64 (.ofNat 0))) fun t6 => oOpt (ld1 m t6) fun t7 => oInt .gtr .i64 t7 t2 fun t8 => oOpt (ia 1 t0 (.int .i64 (.ofNat 0))) fun t9 => oOpt (ld1 m t9) fun t10 => oOpt (sl Tryz.prog 22 t0 (some (.int .i64 (.ofNat 1))) none none) fun t11 => oOpt (ln t11) fun t12 => loopS (fun j15 l13 m14 => uc l13 fun t16 l17 => uc l17 fun t18 l19 => uc l19 fun t20 l21 => oInt .lss .i64 t20 t12 fun t22 => oIf t22 (join (fun l23 m24 => uc l23 fun t26 l27 => uc l27 fun t28 l29 => oInt .add .i64 t20 (.int .i64 (.ofNat 1)) fun t30 => j15 [t26, t28, t30] m24) fun j25 => oOpt (ia 1 t11 t20) fun t31 => oOpt (ld1 m14 t31) fun t32 => oInt .gtr .i64 t32 t2 fun t33 => oOpt (abin Tryz.prog .eql 4 t33 t8) fun t34 => oIf t34 (oRes (bs Tryz.prog m14 22 1 [(0, t18)]) fun t35 m36 => oRes (aappend Tryz.prog L m36 22 t16 t35) fun t37 m38 => j25 [t37, t32] m38) (oRes (bs Tryz.prog m14 22 1 [(0, t32)]) fun t39 m40 => oRes (aappend Tryz.prog L m40 22 t16 t39) fun t41 m42 => j25 [t41, t18] m42)) (oRes (bs Tryz.prog m14 22 1 [(0, t18)]) fun t43 m44 => oRes (aappend Tryz.prog L m44 22 t16 t43) fun t45 m46 => k t45 m46)) lf [(.slice none 0 0), t10, (.int .i64 (.ofNat 0))] m))
theorem S118_ok (lf : Nat) (cK : CallK β) (args : List Value) (L : Nat) (m : Mem) (k : Value → Mem → Option β)  : S118 lf cK args L m k = denF Tryz.prog fsT 2 K118 lf cK 118 args L m k := by kernel_rfl

/-- math/bits.OnesCount32 -/
def K119 : Kat := []
noncomputable def S119 (lf : Nat) : FnK β := fun call args L m k => uc args fun t0 l1 => un0 l1 (oOpt (abin Tryz.prog .shr 71 t0 (.int .u64 (.ofNat 24))) fun t2 => oOpt (aindex Tryz.prog 9 (.string ⟨#[0, 1, 1, 2, 1, 2, 2, 3, 1, 2, 2, 3, 2, 3, 3, 4, 1, 2, 2, 3, 2, 3, 3, 4, 2, 3, 3, 4, 3, 4, 4, 5, 1, 2, 2, 3, 2, 3, 3, 4, 2, 3, 3, 4, 3, 4, 4, 5, 2, 3, 3, 4, 3, 4, 4, 5, 3, 4, 4, 5, 4, 5, 5, 6, 1, 2, 2, 3, 2, 3, 3, 4, 2, 3, 3, 4, 3, 4, 4, 5, 2, 3, 3, 4, 3, 4, 4, 5, 3, 4, 4, 5, 4, 5, 5, 6, 2, 3, 3, 4, 3, 4, 4, 5, 3, 4, 4, 5, 4, 5, 5, 6, 3, 4, 4, 5, 4, 5, 5, 6, 4, 5, 5, 6, 5, 6, 6, 7, 1, 2, 2, 3, 2, 3, 3, 4, 2, 3, 3, 4, 3, 4, 4, 5, 2, 3, 3, 4, 3, 4, 4, 5, 3, 4, 4, 5, 4, 5, 5, 6, 2, 3, 3, 4, 3, 4, 4, 5, 3, 4, 4, 5, 4, 5, 5, 6, 3, 4, 4, 5, 4, 5, 5, 6, 4, 5, 5, 6, 5, 6, 6, 7, 2, 3, 3, 4, 3, 4, 4, 5, 3, 4, 4, 5, 4, 5, 5, 6, 3, 4, 4, 5, 4, 5, 5, 6, 4, 5, 5, 6, 5, 6, 6, 7, 3, 4, 4, 5, 4, 5, 5, 6, 4, 5, 5, 6, 5, 6, 6, 7, 4, 5, 5, 6, 5, 6, 6, 7, 5, 6, 6, 7, 6, 7, 7, 8]⟩) t2) fun t3 => oOpt (abin Tryz.prog .shr 71 t0 (.int .u64 (.ofNat 16))) fun t4 => oInt .and .u32 t4 (.int .u32 (.ofNat 255)) fun t5 => oOpt (aindex Tryz.prog 9 (.string ⟨#[0, 1, 1, 2, 1, 2, 2, 3, 1, 2, 2, 3, 2, 3, 3, 4, 1, 2, 2, 3, 2, 3, 3, 4, 2, 3, 3, 4, 3, 4, 4, 5, 1, 2, 2, 3, 2, 3, 3, 4, 2, 3, 3, 4, 3, 4, 4, 5, 2, 3, 3, 4, 3, 4, 4, 5, 3, 4, 4, 5, 4, 5, 5, 6, 1, 2, 2, 3, 2, 3, 3, 4, 2, 3, 3, 4, 3, 4, 4, 5, 2, 3, 3, 4, 3, 4, 4, 5, 3, 4, 4, 5, 4, 5, 5, 6, 2, 3, 3, 4, 3, 4, 4, 5, 3, 4, 4, 5, 4, 5, 5, 6, 3, 4, 4, 5, 4, 5, 5, 6, 4, 5, 5, 6, 5, 6, 6, 7, 1, 2, 2, 3, 2, 3, 3, 4, 2, 3, 3, 4, 3, 4, 4, 5, 2, 3, 3, 4, 3, 4, 4, 5, 3, 4, 4, 5, 4, 5, 5, 6, 2, 3, 3, 4, 3, 4, 4, 5, 3, 4, 4, 5, 4, 5, 5, 6, 3, 4, 4, 5, 4, 5, 5, 6, 4, 5, 5, 6, 5, 6, 6, 7, 2, 3, 3, 4, 3, 4, 4, 5, 3, 4, 4, 5, 4, 5, 5, 6, 3, 4, 4, 5, 4, 5, 5, 6, 4, 5, 5, 6, 5, 6, 6, 7, 3, 4, 4, 5, 4, 5, 5, 6, 4, 5, 5, 6, 5, 6, 6, 7, 4, 5, 5, 6, 5, 6, 6, 7, 5, 6, 6, 7, 6, 7, 7, 8]⟩) t5) fun t6 => oInt .add .u8 t3 t6 fun t7 => oOpt (abin Tryz.prog .shr 71 t0 (.int .u64 (.ofNat 8))) fun t8 => oInt .and .u32 t8 (.int .u32 (.ofNat 255)) fun t9 => oOpt (aindex Tryz.prog 9 (.string ⟨#[0, 1, 1, 2, 1, 2, 2, 3, 1, 2, 2, 3, 2, 3, 3, 4, 1, 2, 2, 3, 2, 3, 3, 4, 2, 3, 3, 4, 3, 4, 4, 5, 1, 2, 2, 3, 2, 3, 3, 4, 2, 3, 3, 4, 3, 4, 4, 5, 2, 3, 3, 4, 3, 4, 4, 5, 3, 4, 4, 5, 4, 5, 5, 6, 1, 2, 2, 3, 2, 3, 3, 4, 2, 3, 3, 4, 3, 4, 4, 5, 2, 3, 3, 4, 3, 4, 4, 5, 3, 4, 4, 5, 4, 5, 5, 6, 2, 3, 3, 4, 3, 4, 4, 5, 3, 4, 4, 5, 4, 5, 5, 6, 3, 4, 4, 5, 4, 5, 5, 6, 4, 5, 5, 6, 5, 6, 6, 7, 1, 2, 2, 3, 2, 3, 3, 4, 2, 3, 3, 4, 3, 4, 4, 5, 2, 3, 3, 4, 3, 4, 4, 5, 3, 4, 4, 5, 4, 5, 5, 6, 2, 3, 3, 4, 3, 4, 4, 5, 3, 4, 4, 5, 4, 5, 5, 6, 3, 4, 4, 5, 4, 5, 5, 6, 4, 5, 5, 6, 5, 6, 6, 7, 2, 3, 3, 4, 3, 4, 4, 5, 3, 4, 4, 5, 4, 5, 5, 6, 3, 4, 4, 5, 4, 5, 5, 6, 4, 5, 5, 6, 5, 6, 6, 7, 3, 4, 4, 5, 4, 5, 5, 6, 4, 5, 5, 6, 5, 6, 6, 7, 4, 5, 5, 6, 5, 6, 6, 7, 5, 6, 6, 7, 6, 7, 7, 8]⟩) t9) fun t10 => oInt .add .u8 t7 t10 fun t11 => oInt .and .u32 t0 (.int .u32 (.ofNat 255)) fun t12 => oOpt (aindex Tryz.prog 9 (.string ⟨#[0, 1, 1, 2, 1, 2, 2, 3, 1, 2, 2, 3, 2, 3, 3, 4, 1, 2, 2, 3, 2, 3, 3, 4, 2, 3, 3, 4, 3, 4, 4, 5, 1, 2, 2, 3, 2, 3, 3, 4, 2, 3, 3, 4, 3, 4, 4, 5, 2, 3, 3, 4, 3, 4, 4, 5, 3, 4, 4, 5, 4, 5, 5, 6, 1, 2, 2, 3, 2, 3, 3, 4, 2, 3, 3, 4, 3, 4, 4, 5, 2, 3, 3, 4, 3, 4, 4, 5, 3, 4, 4, 5, 4, 5, 5, 6, 2, 3, 3, 4, 3, 4, 4, 5, 3, 4, 4, 5, 4, 5, 5, 6, 3, 4, 4, 5, 4, 5, 5, 6, 4, 5, 5, 6, 5, 6, 6, 7, 1, 2, 2, 3, 2, 3, 3, 4, 2, 3, 3, 4, 3, 4, 4, 5, 2, 3, 3, 4, 3, 4, 4, 5, 3, 4, 4, 5, 4, 5, 5, 6, 2, 3, 3, 4, 3, 4, 4, 5, 3, 4, 4, 5, 4, 5, 5, 6, 3, 4, 4, 5, 4, 5, 5, 6, 4, 5, 5, 6, 5, 6, 6, 7, 2, 3, 3, 4, 3, 4, 4, 5, 3, 4, 4, 5, 4, 5, 5, 6, 3, 4, 4, 5, 4, 5, 5, 6, 4, 5, 5, 6, 5, 6, 6, 7, 3, 4, 4, 5, 4, 5, 5, 6, 4, 5, 5, 6, 5, 6, 6, 7, 4, 5, 5, 6, 5, 6, 6, 7, 5, 6, 6, 7, 6, 7, 7, 8]⟩) t12) fun t13 => oInt .add .u8 t11 t13 fun t14 => oCv .i64 t14 fun t15 => k t15 m)
theorem S119_ok (lf : Nat) (cK : CallK β) (args : List Value) (L : Nat) (m : Mem) (k : Value → Mem → Option β)  : S119 lf cK args L m k = denF Tryz.prog fsT 2 K119 lf cK 119 args L m k := by kernel_rfl

/-- math/bits.OnesCount64 -/
def K120 : Kat := []
noncomputable def S120 (lf : Nat) : FnK β := fun call args L m k => uc args fun t0 l1 => un0 l1 (oOpt (abin Tryz.prog .shr 168 t0 (.int .u64 (.ofNat 1))) fun t2 => oInt .and .u64 t2 (.int .u64 (.ofNat 6148914691236517205)) fun t3 => oInt .and .u64 t0 (.int .u64 (.ofNat 6148914691236517205)) fun t4 => oInt .add .u64 t3 t4 fun t5 => oOpt (abin Tryz.prog .shr 168 t5 (.int .u64 (.ofNat 2))) fun t6 => oInt .and .u64 t6 (.int .u64 (.ofNat 3689348814741910323)) fun t7 => oInt .and .u64 t5 (.int .u64 (.ofNat 3689348814741910323)) fun t8 => oInt .add .u64 t7 t8 fun t9 => oOpt (abin Tryz.prog .shr 168 t9 (.int .u64 (.ofNat 4))) fun t10 => oInt .add .u64 t10 t9 fun t11 => oInt .and .u64 t11 (.int .u64 (.ofNat 1085102592571150095)) fun t12 => oOpt (abin Tryz.prog .shr 168 t12 (.int .u64 (.ofNat 8))) fun t13 => oInt .add .u64 t12 t13 fun t14 => oOpt (abin Tryz.prog .shr 168 t14 (.int .u64 (.ofNat 16))) fun t15 => oInt .add .u64 t14 t15 fun t16 => oOpt (abin Tryz.prog .shr 168 t16 (.int .u64 (.ofNat 32))) fun t17 => oInt .add .u64 t16 t17 fun t18 => oCv .i64 t18 fun t19 => oInt .and .i64 t19 (.int .i64 (.ofNat 127)) fun t20 => k t20 m)
theorem S120_ok (lf : Nat) (cK : CallK β) (args : List Value) (L : Nat) (m : Mem) (k : Value → Mem → Option β)  : S120 lf cK args L m k = denF Tryz.prog fsT 2 K120 lf cK 120 args L m k := by kernel_rfl

/-- (vitola/bond.circle).check -/
def K121 : Kat := []
noncomputable def S121 (lf : Nat) : FnK β := fun call args L m k => uc args fun t0 l1 => un0 l1 (oRes (abox m t0) fun t2 m3 => oOpt (fa 0 t2) fun t4 => oOpt (ld1 m3 t4) fun t5 => call 54 [t5, (.int .i64 (.ofNat 1)), (.int .i64 (.ofNat 6))] L m3 fun t6 m7 => oOpt (aun .not t6) fun t8 => oIf t8 (k (.int .i64 (.ofNat 1)) m7) (oOpt (fa 1 t2) fun t9 => oOpt (ld1 m7 t9) fun t10 => oOpt (ln t10) fun t11 => oInt .gtr .i64 t11 (.int .i64 (.ofNat 64)) fun t12 => oIf t12 (k (.int .i64 (.ofNat 3)) m7) (oOpt (fa 1 t2) fun t13 => oOpt (ld1 m7 t13) fun t14 => call 43 [t14, (.func (.func 156) #[] ⟨[t2]⟩)] L m7 fun t15 m16 => oIf t15 (k (.int .i64 (.ofNat 2)) m16) (k (.int .i64 (.ofNat 0)) m16))))
theorem S121_ok (lf : Nat) (cK : CallK β) (args : List Value) (L : Nat) (m : Mem) (k : Value → Mem → Option β)  : S121 lf cK args L m k = denF Tryz.prog fsT 2 K121 lf cK 121 args L m k := by kernel_rfl

/-- math/bits.Len -/
def K123 : Kat := []
noncomputable def S123 (lf : Nat) : FnK β := fun call args L m k => uc args fun t0 l1 => un0 l1 (oIf (.bool false) (oCv .u32 t0 fun t2 => call 166 [t2] L m fun t3 m4 => k t3 m4) (call 167 [t0] L m fun t5 m6 => k t5 m6))
theorem S123_ok (lf : Nat) (cK : CallK β) (args : List Value) (L : Nat) (m : Mem) (k : Value → Mem → Option β)  : S123 lf cK args L m k = denF Tryz.prog fsT 2 K123 lf cK 123 args L m k := by kernel_rfl

/-- vitola/blend.sized -/
def K124 : Kat := [(19, (1, [12]))]
noncomputable def S124 (lf : Nat) : FnK β := fun call args L m k => uc args fun t0 l1 => uc l1 fun t2 l3 => un0 l3 (call 125 [t0, (.int .i64 (.ofNat 1)), (.int .i64 (.ofNat 10))] L m fun t4 m5 => oOpt (aun .not t4) fun t6 => join (fun l7 m8 => uc l7 fun t10 l11 => oPick t6 (.bool true) t10 fun t12 => oIf t12 (k (.int .i64 (.ofNat 1)) m8) (k (.int .i64 (.ofNat 0)) m8)) fun j9 => oGF t6 (call 125 [t2, (.int .i64 (.ofNat 0)), t0] L m5 fun t13 m14 => oOpt (aun .not t13) fun t15 => j9 [t15] m14) (j9 [Go.undef] m5))
theorem S124_ok (lf : Nat) (cK : CallK β) (args : List Value) (L : Nat) (m : Mem) (k : Value → Mem → Option β)  : S124 lf cK args L m k = denF Tryz.prog fsT 2 K124 lf cK 124 args L m k := by kernel_rfl

/-- vitola/blend.within -/
def K125 : Kat := [(9, (1, [13]))]
noncomputable def S125 (lf : Nat) : FnK β := fun call args L m k => uc args fun t0 l1 => uc l1 fun t2 l3 => uc l3 fun t4 l5 => un0 l5 (oInt .leq .i64 t2 t0 fun t6 => join (fun l7 m8 => uc l7 fun t10 l11 => oPick t6 t10 (.bool false) fun t12 => k t12 m8) fun j9 => oGT t6 (oInt .leq .i64 t0 t4 fun t13 => j9 [t13] m) (j9 [Go.undef] m))
theorem S125_ok (lf : Nat) (cK : CallK β) (args : List Value) (L : Nat) (m : Mem) (k : Value → Mem → Option β)  : S125 lf cK args L m k = denF Tryz.prog fsT 2 K125 lf cK 125 args L m k := by kernel_rfl

/-- vitola/band.Make -/
def K126 : Kat := [(377, (0, [8, 17])), (193738, (0, [8, 9]))]
noncomputable def S126 (lf : Nat) : FnK β := fun call args L m k => uc args fun t0 l1 => uc l1 fun t2 l3 => un0 l3 (call 168 [t0, t2] L m fun t4 m5 => oInt .neq .i64 t4 (.int .i64 (.ofNat 0)) fun t6 => oIf t6 (k (.tuple ⟨[(.string ⟨#[]⟩), t4]⟩) m5) (oRes (anew m5 1 [(.pointer none), (.slice none 0 0)] ptrTo) fun t7 m8 => loopS (fun j11 l9 m10 => uc l9 fun t12 l13 => uc l13 fun t14 l15 => oInt .lss .i64 t14 t0 fun t16 => oIf t16 (oInt .add .i64 t12 t2 fun t17 => oInt .geq .i64 t17 t0 fun t18 => join (fun l19 m20 => uc l19 fun t22 l23 => uc l23 fun t24 l25 => call 169 [t7, t24] L m20 fun t26 m27 => oInt .add .i64 t14 (.int .i64 (.ofNat 1)) fun t28 => j11 [t22, t28] m27) fun j21 => oIf t18 (oInt .sub .i64 t17 t0 fun t29 => j21 [t29, (.int .i32 (.ofNat 98))] m10) (j21 [t17, (.int .i32 (.ofNat 97))] m10)) (call 170 [t7] L m10 fun t30 m31 => k (.tuple ⟨[t30, (.int .i64 (.ofNat 0))]⟩) m31)) lf [(.int .i64 (.ofNat 0)), (.int .i64 (.ofNat 0))] m8))
theorem S126_ok (lf : Nat) (cK : CallK β) (args : List Value) (L : Nat) (m : Mem) (k : Value → Mem → Option β)  : S126 lf cK args L m k = denF Tryz.prog fsT 2 K126 lf cK 126 args L m k := by kernel_rfl

/-- vitola/vitolatop.benchWorks -/
def K127 : Kat := [(21, (1, [13])), (21, (3, [16]))]
noncomputable def S127 (lf : Nat) : FnK β := fun call args L m k => un0 args (call 171 [(.int .i64 (.ofNat 7)), (.int .i64 (.ofNat 3))] L m fun t0 m1 => oOpt (aextract t0 0) fun t2 => oOpt (aextract t0 1) fun t3 => oInt .eql .i64 t3 (.int .i64 (.ofNat 0)) fun t4 => join (fun l5 m6 => uc l5 fun t8 l9 => oPick t4 t8 (.bool false) fun t10 => join (fun l11 m12 => uc l11 fun t14 l15 => oPick t10 t14 (.bool false) fun t16 => k t16 m12) fun j13 => oGT t10 (call 172 [] L m6 fun t17 m18 => j13 [t17] m18) (j13 [Go.undef] m6)) fun j7 => oGT t4 (oRes (bs Tryz.prog m1 22 7 [(0, (.int .i64 (.ofNat 2))), (1, (.int .i64 (.ofNat 5))), (2, (.int .i64 (.ofNat 1))), (3, (.int .i64 (.ofNat 6))), (4, (.int .i64 (.ofNat 4))), (5, (.int .i64 (.ofNat 0))), (6, (.int .i64 (.ofNat 3)))]) fun t19 m20 => call 62 [t19] L m20 fun t21 m22 => call 13 [t2, t21] L m22 fun t23 m24 => j7 [t23] m24) (j7 [Go.undef] m1))
theorem S127_ok (lf : Nat) (cK : CallK β) (args : List Value) (L : Nat) (m : Mem) (k : Value → Mem → Option β)  : S127 lf cK args L m k = denF Tryz.prog fsT 2 K127 lf cK 127 args L m k := by kernel_rfl

/-- (vitola/bond.rule).may$1 -/
def K128 : Kat := []
noncomputable def S128 (lf : Nat) : FnK β := fun call args L m k => uc args fun t0 l1 => uc l1 fun t2 l3 => un0 l3 (oOpt (ld1 m t2) fun t4 => call 129 [t0, t4] L m fun t5 m6 => k t5 m6)
theorem S128_ok (lf : Nat) (cK : CallK β) (args : List Value) (L : Nat) (m : Mem) (k : Value → Mem → Option β)  : S128 lf cK args L m k = denF Tryz.prog fsT 2 K128 lf cK 128 args L m k := by kernel_rfl

/-- vitola/bond.lies -/
def K129 : Kat := []
noncomputable def S129 (lf : Nat) : FnK β := fun call args L m k => uc args fun t0 l1 => uc l1 fun t2 l3 => un0 l3 (oInt .andNot .i64 t0 t2 fun t4 => oInt .eql .i64 t4 (.int .i64 (.ofNat 0)) fun t5 => k t5 m)
theorem S129_ok (lf : Nat) (cK : CallK β) (args : List Value) (L : Nat) (m : Mem) (k : Value → Mem → Option β)  : S129 lf cK args L m k = denF Tryz.prog fsT 2 K129 lf cK 129 args L m k := by kernel_rfl

/-- slices.IndexFunc[[]vitola/heap.Heap,vitola/heap.Heap] -/
def K130 : Kat := [(41, (0, [8]))]
noncomputable def S130 (lf : Nat) : FnK β := fun call args L m k => uc args fun t0 l1 => uc l1 fun t2 l3 => un0 l3 (oOpt (ln t0) fun t4 => loopS (fun j7 l5 m6 => uc l5 fun t8 l9 => oInt .lss .i64 t8 t4 fun t10 => oIf t10 (oOpt (ia 2 t0 t8) fun t11 => oOpt (ldN m6 2 t11) fun t12 => oCallV call t2 [t12] L m6 fun t13 m14 => oIf t13 (k t8 m14) (oInt .add .i64 t8 (.int .i64 (.ofNat 1)) fun t15 => j7 [t15] m14)) (k (.int .i64 (.negSucc 0)) m6)) lf [(.int .i64 (.ofNat 0))] m)
theorem S130_ok (lf : Nat) (cK : CallK β) (args : List Value) (L : Nat) (m : Mem) (k : Value → Mem → Option β)  : S130 lf cK args L m k = denF Tryz.prog fsT 2 K130 lf cK 130 args L m k := by kernel_rfl

/-- vitola/heap.meeting$1 -/
def K131 : Kat := []
noncomputable def S131 (lf : Nat) : FnK β := fun call args L m k => uc args fun t0 l1 => uc l1 fun t2 l3 => un0 l3 (oRes (abox m t0) fun t4 m5 => oOpt (ldN m5 2 t4) fun t6 => oOpt (ld1 m5 t2) fun t7 => call 75 [t6, t7] L m5 fun t8 m9 => k t8 m9)
theorem S131_ok (lf : Nat) (cK : CallK β) (args : List Value) (L : Nat) (m : Mem) (k : Value → Mem → Option β)  : S131 lf cK args L m k = denF Tryz.prog fsT 2 K131 lf cK 131 args L m k := by kernel_rfl

/-- slices.Index[[]vitola/heap.Heap,vitola/heap.Heap] -/
def K132 : Kat := [(41, (0, [8]))]
noncomputable def S132 (lf : Nat) : FnK β := fun call args L m k => uc args fun t0 l1 => uc l1 fun t2 l3 => un0 l3 (oRes (abox m t2) fun t4 m5 => oOpt (ln t0) fun t6 => loopS (fun j9 l7 m8 => uc l7 fun t10 l11 => oInt .lss .i64 t10 t6 fun t12 => oIf t12 (oOpt (ldN m8 2 t4) fun t13 => oOpt (ia 2 t0 t10) fun t14 => oOpt (ldN m8 2 t14) fun t15 => oOpt (abin Tryz.prog .eql 49 t13 t15) fun t16 => oIf t16 (k t10 m8) (oInt .add .i64 t10 (.int .i64 (.ofNat 1)) fun t17 => j9 [t17] m8)) (k (.int .i64 (.negSucc 0)) m8)) lf [(.int .i64 (.ofNat 0))] m5)
theorem S132_ok (lf : Nat) (cK : CallK β) (args : List Value) (L : Nat) (m : Mem) (k : Value → Mem → Option β)  : S132 lf cK args L m k = denF Tryz.prog fsT 2 K132 lf cK 132 args L m k := by kernel_rfl

/-- cmp.isNaN[int] -/
def K133 : Kat := []
noncomputable def S133 (lf : Nat) : FnK β := fun call args L m k => uc args fun t0 l1 => un0 l1 (oInt .neq .i64 t0 t0 fun t2 => k t2 m)
theorem S133_ok (lf : Nat) (cK : CallK β) (args : List Value) (L : Nat) (m : Mem) (k : Value → Mem → Option β)  : S133 lf cK args L m k = denF Tryz.prog fsT 2 K133 lf cK 133 args L m k := by kernel_rfl

/-- vitola/wrap.opened -/
def K134 : Kat := [(91, (0, []))]
noncomputable def S134 (lf : Nat) : FnK β := fun call args L m k => uc args fun t0 l1 => un0 l1 (oRes (abox m t0) fun t2 m3 => oOpt (ldN m3 3 t2) fun t4 => call 173 [t4] L m3 fun t5 m6 => oInt .neq .i64 t5 (.int .i64 (.ofNat 0)) fun t7 => oIf t7 (k (.tuple ⟨[(.pointer none), t5]⟩) m6) (oOpt (fa 0 t2) fun t8 => oOpt (ld1 m6 t8) fun t9 => oOpt (fa 1 t2) fun t10 => oOpt (ld1 m6 t10) fun t11 => oOpt (bu Tryz.prog 57 [(0, t9), (1, t11), (2, (.int .i64 (.ofNat 1)))]) fun t12 => oOpt (bu Tryz.prog 179 [(0, t12)]) fun t13 => oRes (abox m6 t13) fun t14 m15 => loopS (fun j18 l16 m17 => oOpt (anil t14) fun t19 => oOpt (fa 0 t19) fun t20 => oOpt (fa 2 t20) fun t21 => oOpt (ld1 m17 t21) fun t22 => oOpt (fa 2 t2) fun t23 => oOpt (ld1 m17 t23) fun t24 => oInt .lss .i64 t22 t24 fun t25 => oIf t25 (call 174 [t14] L m17 fun t26 m27 => j18 [] m27) (k (.tuple ⟨[t14, (.int .i64 (.ofNat 0))]⟩) m17)) lf [] m15))
theorem S134_ok (lf : Nat) (cK : CallK β) (args : List Value) (L : Nat) (m : Mem) (k : Value → Mem → Option β)  : S134 lf cK args L m k = denF Tryz.prog fsT 2 K134 lf cK 134 args L m k := by kernel_rfl

/-- (*vitola/wrap.wound).next -/
def K135 : Kat := []
noncomputable def S135 (lf : Nat) : FnK β := fun call args L m k => uc args fun t0 l1 => uc l1 fun t2 l3 => un0 l3 (oOpt (anil t0) fun t4 => oOpt (fa 3 t4) fun t5 => oOpt (iaA 2 1 t5 (.int .i64 (.ofNat 0))) fun t6 => oOpt (ld1 m t6) fun t7 => oOpt (anil t0) fun t8 => oOpt (fa 3 t8) fun t9 => oOpt (iaA 2 1 t9 (.int .i64 (.ofNat 1))) fun t10 => oOpt (ld1 m t10) fun t11 => oOpt (anil t0) fun t12 => oOpt (fa 0 t12) fun t13 => oOpt (fa 2 t13) fun t14 => oOpt (ld1 m t14) fun t15 => oInt .sub .i64 t15 t7 fun t16 => oInt .lss .i64 t2 t16 fun t17 => oIf t17 (oInt .add .i64 t2 t7 fun t18 => k t18 m) (oInt .lss .i64 t2 t11 fun t19 => oIf t19 (oInt .add .i64 t2 t7 fun t20 => oInt .sub .i64 t20 t11 fun t21 => k t21 m) (oInt .sub .i64 t2 t11 fun t22 => k t22 m)))
theorem S135_ok (lf : Nat) (cK : CallK β) (args : List Value) (L : Nat) (m : Mem) (k : Value → Mem → Option β)  : S135 lf cK args L m k = denF Tryz.prog fsT 2 K135 lf cK 135 args L m k := by kernel_rfl

/-- (vitola/wrap.Wrapper).mark -/
def K136 : Kat := []
noncomputable def S136 (lf : Nat) : FnK β := fun call args L m k => uc args fun t0 l1 => uc l1 fun t2 l3 => un0 l3 (oRes (abox m t0) fun t4 m5 => oOpt (fa 1 t4) fun t6 => oOpt (ld1 m5 t6) fun t7 => oInt .mul .i64 t2 t7 fun t8 => oOpt (fa 0 t4) fun t9 => oOpt (ld1 m5 t9) fun t10 => oInt .rem .i64 t8 t10 fun t11 => k t11 m5)
theorem S136_ok (lf : Nat) (cK : CallK β) (args : List Value) (L : Nat) (m : Mem) (k : Value → Mem → Option β)  : S136 lf cK args L m k = denF Tryz.prog fsT 2 K136 lf cK 136 args L m k := by kernel_rfl

/-- vitola/shade.Check -/
def K137 : Kat := []
noncomputable def S137 (lf : Nat) : FnK β := fun call args L m k => uc args fun t0 l1 => un0 l1 (call 154 [t0, (.int .i64 (.ofNat 7)), (.func (.func 175) #[] #[])] L m fun t2 m3 => k t2 m3)
theorem S137_ok (lf : Nat) (cK : CallK β) (args : List Value) (L : Nat) (m : Mem) (k : Value → Mem → Option β)  : S137 lf cK args L m k = denF Tryz.prog fsT 2 K137 lf cK 137 args L m k := by kernel_rfl

/-- slices.Sorted[int] -/
def K138 : Kat := []
noncomputable def S138 (lf : Nat) : FnK β := fun call args L m k => uc args fun t0 l1 => un0 l1 (call 176 [t0] L m fun t2 m3 => call 59 [t2] L m3 fun t4 m5 => k t2 m5)
theorem S138_ok (lf : Nat) (cK : CallK β) (args : List Value) (L : Nat) (m : Mem) (k : Value → Mem → Option β)  : S138 lf cK args L m k = denF Tryz.prog fsT 2 K138 lf cK 138 args L m k := by kernel_rfl

/-- slices.Values[[]int,int] -/
def K139 : Kat := []
noncomputable def S139 (lf : Nat) : FnK β := fun call args L m k => uc args fun t0 l1 => un0 l1 (oRes (abox m t0) fun t2 m3 => k (.func (.func 177) #[] ⟨[t2]⟩) m3)
theorem S139_ok (lf : Nat) (cK : CallK β) (args : List Value) (L : Nat) (m : Mem) (k : Value → Mem → Option β)  : S139 lf cK args L m k = denF Tryz.prog fsT 2 K139 lf cK 139 args L m k := by kernel_rfl

end
end Go.Vit
