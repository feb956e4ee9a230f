/- Shallow texts of the seat's functions, printed by a program: part 5. -/
import Derived.Test.YtnmmjbclidbdbaaDoorRows
import Derived.Test.YtnmmjbclidbdbaaDoorFs
set_option linter.unusedVariables false
set_option maxRecDepth 100000
namespace Go.Vit
open Go Go.Proofs
section
variable {β : Type}
/-- vitola/dock.listed$1 -/
def K82 : Kat := []
noncomputable def S82 (lf : Nat) : FnK β := fun call args L m k =>
 uc args fun t0 l1 =>
 uc l1 fun t2 l3 =>
 un0 l3 (oOpt (ld1 m t2) fun t4 =>
 call 61 [t0, (.int .i64 (.ofNat 0)), t4] L m fun t5 m6 =>
 oOpt (aun .not t5) fun t7 =>
 k t7 m6)
theorem S82_ok (lf : Nat) (cK : CallK β) (args : List Value) (L : Nat) (m : Mem) (k : Value → Mem → Option β)  : S82 lf cK args L m k = denF Tryd.prog fsT 2 K82 lf cK 82 args L m k := by kernel_rfl

/-- vitola/vitolaref01.endings -/
def K83 : Kat := [(185, (0, [11, 12])), (5960, (0, [11])), (761, (0, [13, 14])), (24392, (0, [13]))]
noncomputable def S83 (lf : Nat) : FnK β := fun call args L m k =>
 uc args fun t0 l1 =>
 uc l1 fun t2 l3 =>
 uc l3 fun t4 l5 =>
 uc l5 fun t6 l7 =>
 uc l7 fun t8 l9 =>
 un0 l9 (oInt .lss .i64 t4 (.int .i64 (.ofNat 0)) fun t10 =>
 oIf t10 (oInt .gtr .i64 t8 (.int .i64 (.ofNat 0)) fun t11 =>
 oIf t11 (k (.int .i64 (.ofNat 0)) m) (k (.int .i64 (.ofNat 1)) m)) (loopS (fun j14 l12 m13 =>
 uc l12 fun t15 l16 =>
 uc l16 fun t17 l18 =>
 oOpt (ln t2) fun t19 =>
 oInt .lss .i64 t17 t19 fun t20 =>
 oIf t20 (oOpt (ia 1 t2 t17) fun t21 =>
 oOpt (ld1 m13 t21) fun t22 =>
 oInt .eql .i64 t22 t4 fun t23 =>
 join (fun l24 m25 =>
 uc l24 fun t27 l28 =>
 oInt .add .i64 t17 (.int .i64 (.ofNat 1)) fun t29 =>
 j14 [t27, t29] m25) fun j26 =>
 oIf t23 (oInt .add .i64 t15 (.int .i64 (.ofNat 1)) fun t30 =>
 j26 [t30] m13) (j26 [t15] m13)) (loopS (fun j33 l31 m32 =>
 uc l31 fun t34 l35 =>
 uc l35 fun t36 l37 =>
 oInt .leq .i64 t36 t8 fun t38 =>
 oIf t38 (oInt .add .i64 t6 t15 fun t39 =>
 oInt .add .i64 t39 t36 fun t40 =>
 oInt .sub .i64 t0 t4 fun t41 =>
 oInt .leq .i64 t40 t41 fun t42 =>
 join (fun l43 m44 =>
 uc l43 fun t46 l47 =>
 oInt .add .i64 t36 (.int .i64 (.ofNat 1)) fun t48 =>
 j33 [t46, t48] m44) fun j45 =>
 oIf t42 (call 91 [t8, t36] L m32 fun t49 m50 =>
 oInt .sub .i64 t4 (.int .i64 (.ofNat 1)) fun t51 =>
 oInt .add .i64 t6 t15 fun t52 =>
 oInt .add .i64 t52 t36 fun t53 =>
 oInt .sub .i64 t8 t36 fun t54 =>
 call 83 [t0, t2, t51, t53, t54] L m50 fun t55 m56 =>
 oInt .mul .i64 t49 t55 fun t57 =>
 oInt .add .i64 t34 t57 fun t58 =>
 j45 [t58] m56) (j45 [t34] m32)) (k t34 m32)) lf [(.int .i64 (.ofNat 0)), (.int .i64 (.ofNat 0))] m13)) lf [(.int .i64 (.ofNat 0)), (.int .i64 (.ofNat 0))] m))
theorem S83_ok (lf : Nat) (cK : CallK β) (args : List Value) (L : Nat) (m : Mem) (k : Value → Mem → Option β)  : S83 lf cK args L m k = denF Tryd.prog fsT 2 K83 lf cK 83 args L m k := by kernel_rfl

/-- slices.AppendSeq[[]int,int] -/
def K84 : Kat := []
noncomputable def S84 (lf : Nat) : FnK β := fun call args L m k =>
 uc args fun t0 l1 =>
 uc l1 fun t2 l3 =>
 un0 l3 (oRes (abox m t0) fun t4 m5 =>
 oRange call 84 t2 [t4] L m5 fun m6 =>
 oOpt (ld1 m6 t4) fun t7 =>
 k t7 m6)
theorem S84_ok (lf : Nat) (cK : CallK β) (args : List Value) (L : Nat) (m : Mem) (k : Value → Mem → Option β)  : S84 lf cK args L m k = denF Tryd.prog fsT 2 K84 lf cK 84 args L m k := by kernel_rfl

/-- math/bits.Len -/
def K86 : Kat := []
noncomputable def S86 (lf : Nat) : FnK β := fun call args L m k =>
 uc args fun t0 l1 =>
 un0 l1 (oIf (.bool false) (oCv .u32 t0 fun t2 =>
 call 101 [t2] L m fun t3 m4 =>
 k t3 m4) (call 102 [t0] L m fun t5 m6 =>
 k t5 m6))
theorem S86_ok (lf : Nat) (cK : CallK β) (args : List Value) (L : Nat) (m : Mem) (k : Value → Mem → Option β)  : S86 lf cK args L m k = denF Tryd.prog fsT 2 K86 lf cK 86 args L m k := by kernel_rfl

/-- slices.IndexFunc[[]vitola/dock.fate,vitola/dock.fate] -/
def K87 : Kat := [(41, (0, [8]))]
noncomputable def S87 (lf : Nat) : FnK β := fun call args L m k =>
 uc args fun t0 l1 =>
 uc l1 fun t2 l3 =>
 un0 l3 (oOpt (ln t0) fun t4 =>
 loopS (fun j7 l5 m6 =>
 uc l5 fun t8 l9 =>
 oInt .lss .i64 t8 t4 fun t10 =>
 oIf t10 (oOpt (ia 1 t0 t8) fun t11 =>
 oOpt (ld1 m6 t11) fun t12 =>
 oCallV call t2 [t12] L m6 fun t13 m14 =>
 oIf t13 (k t8 m14) (oInt .add .i64 t8 (.int .i64 (.ofNat 1)) fun t15 =>
 j7 [t15] m14)) (k (.int .i64 (.negSucc 0)) m6)) lf [(.int .i64 (.ofNat 0))] m)
theorem S87_ok (lf : Nat) (cK : CallK β) (args : List Value) (L : Nat) (m : Mem) (k : Value → Mem → Option β)  : S87 lf cK args L m k = denF Tryd.prog fsT 2 K87 lf cK 87 args L m k := by kernel_rfl

/-- math/bits.TrailingZeros32 -/
def K88 : Kat := []
noncomputable def S88 (lf : Nat) : FnK β := fun call args L m k =>
 uc args fun t0 l1 =>
 un0 l1 (oInt .eql .u32 t0 (.int .u32 (.ofNat 0)) fun t2 =>
 oIf t2 (k (.int .i64 (.ofNat 32)) m) (oOpt (aun .neg t0) fun t3 =>
 oInt .and .u32 t0 t3 fun t4 =>
 oInt .mul .u32 t4 (.int .u32 (.ofNat 125613361)) fun t5 =>
 oOpt (abin Tryd.prog .shr 106 t5 (.int .u64 (.ofNat 27))) fun t6 =>
 oOpt (iaA 32 1 (.pointer (some ⟨0, 0, none⟩)) t6) fun t7 =>
 oOpt (ld1 m t7) fun t8 =>
 oCv .i64 t8 fun t9 =>
 k t9 m))
theorem S88_ok (lf : Nat) (cK : CallK β) (args : List Value) (L : Nat) (m : Mem) (k : Value → Mem → Option β)  : S88 lf cK args L m k = denF Tryd.prog fsT 2 K88 lf cK 88 args L m k := by kernel_rfl

/-- math/bits.TrailingZeros64 -/
def K89 : Kat := []
noncomputable def S89 (lf : Nat) : FnK β := fun call args L m k =>
 uc args fun t0 l1 =>
 un0 l1 (oInt .eql .u64 t0 (.int .u64 (.ofNat 0)) fun t2 =>
 oIf t2 (k (.int .i64 (.ofNat 64)) m) (oOpt (aun .neg t0) fun t3 =>
 oInt .and .u64 t0 t3 fun t4 =>
 oInt .mul .u64 t4 (.int .u64 (.ofNat 285870213051353865)) fun t5 =>
 oOpt (abin Tryd.prog .shr 108 t5 (.int .u64 (.ofNat 58))) fun t6 =>
 oOpt (iaA 64 1 (.pointer (some ⟨1, 0, none⟩)) t6) fun t7 =>
 oOpt (ld1 m t7) fun t8 =>
 oCv .i64 t8 fun t9 =>
 k t9 m))
theorem S89_ok (lf : Nat) (cK : CallK β) (args : List Value) (L : Nat) (m : Mem) (k : Value → Mem → Option β)  : S89 lf cK args L m k = denF Tryd.prog fsT 2 K89 lf cK 89 args L m k := by kernel_rfl

/-- slices.IndexFunc[[]int,int] -/
def K90 : Kat := [(41, (0, [8]))]
noncomputable def S90 (lf : Nat) : FnK β := fun call args L m k =>
 uc args fun t0 l1 =>
 uc l1 fun t2 l3 =>
 un0 l3 (oOpt (ln t0) fun t4 =>
 loopS (fun j7 l5 m6 =>
 uc l5 fun t8 l9 =>
 oInt .lss .i64 t8 t4 fun t10 =>
 oIf t10 (oOpt (ia 1 t0 t8) fun t11 =>
 oOpt (ld1 m6 t11) fun t12 =>
 oCallV call t2 [t12] L m6 fun t13 m14 =>
 oIf t13 (k t8 m14) (oInt .add .i64 t8 (.int .i64 (.ofNat 1)) fun t15 =>
 j7 [t15] m14)) (k (.int .i64 (.negSucc 0)) m6)) lf [(.int .i64 (.ofNat 0))] m)
theorem S90_ok (lf : Nat) (cK : CallK β) (args : List Value) (L : Nat) (m : Mem) (k : Value → Mem → Option β)  : S90 lf cK args L m k = denF Tryd.prog fsT 2 K90 lf cK 90 args L m k := by kernel_rfl

/-- vitola/vitolaref01.choose -/
def K91 : Kat := [(89, (0, [5, 6]))]
noncomputable def S91 (lf : Nat) : FnK β := fun call args L m k =>
 uc args fun t0 l1 =>
 uc l1 fun t2 l3 =>
 un0 l3 (loopS (fun j6 l4 m5 =>
 uc l4 fun t7 l8 =>
 uc l8 fun t9 l10 =>
 oInt .lss .i64 t9 t2 fun t11 =>
 oIf t11 (oInt .sub .i64 t0 t9 fun t12 =>
 oInt .mul .i64 t7 t12 fun t13 =>
 oInt .add .i64 t9 (.int .i64 (.ofNat 1)) fun t14 =>
 oInt .quo .i64 t13 t14 fun t15 =>
 oInt .add .i64 t9 (.int .i64 (.ofNat 1)) fun t16 =>
 j6 [t15, t16] m5) (k t7 m5)) lf [(.int .i64 (.ofNat 1)), (.int .i64 (.ofNat 0))] m)
theorem S91_ok (lf : Nat) (cK : CallK β) (args : List Value) (L : Nat) (m : Mem) (k : Value → Mem → Option β)  : S91 lf cK args L m k = denF Tryd.prog fsT 2 K91 lf cK 91 args L m k := by kernel_rfl

/-- cmp.Less[int] -/
def K98 : Kat := [(9, (1, [10])), (9, (3, [15]))]
noncomputable def S98 (lf : Nat) : FnK β := fun call args L m k =>
 uc args fun t0 l1 =>
 uc l1 fun t2 l3 =>
 un0 l3 (call 108 [t0] L m fun t4 m5 =>
 join (fun l6 m7 =>
 uc l6 fun t9 l10 =>
 oPick t4 t9 (.bool false) fun t11 =>
 join (fun l12 m13 =>
 uc l12 fun t15 l16 =>
 oPick t11 (.bool true) t15 fun t17 =>
 k t17 m13) fun j14 =>
 oGF t11 (oInt .lss .i64 t0 t2 fun t18 =>
 j14 [t18] m7) (j14 [Go.undef] m7)) fun j8 =>
 oGT t4 (call 108 [t2] L m5 fun t19 m20 =>
 oOpt (aun .not t19) fun t21 =>
 j8 [t21] m20) (j8 [Go.undef] m5))
theorem S98_ok (lf : Nat) (cK : CallK β) (args : List Value) (L : Nat) (m : Mem) (k : Value → Mem → Option β)  : S98 lf cK args L m k = denF Tryd.prog fsT 2 K98 lf cK 98 args L m k := by kernel_rfl

/-- math/bits.Len32 -/
def K101 : Kat := [(20, (0, [0, 2])), (44, (0, [0, 2]))]
noncomputable def S101 (lf : Nat) : FnK β := fun call args L m k =>
 uc args fun t0 l1 =>
 un0 l1 (oInt .geq .u32 t0 (.int .u32 (.ofNat 65536)) fun t2 =>
 join (fun l3 m4 =>
 uc l3 fun t6 l7 =>
 uc l7 fun t8 l9 =>
 oInt .geq .u32 t6 (.int .u32 (.ofNat 256)) fun t10 =>
 join (fun l11 m12 =>
 uc l11 fun t14 l15 =>
 uc l15 fun t16 l17 =>
 oCv .u8 t14 fun t18 =>
 oOpt (aindex Tryd.prog 9 (.string ⟨#[0, 1, 2, 2, 3, 3, 3, 3, 4, 4, 4, 4, 4, 4, 4, 4, 5, 5, 5, 5, 5, 5, 5, 5, 5, 5, 5, 5, 5, 5, 5, 5, 6, 6, 6, 6, 6, 6, 6, 6, 6, 6, 6, 6, 6, 6, 6, 6, 6, 6, 6, 6, 6, 6, 6, 6, 6, 6, 6, 6, 6, 6, 6, 6, 7, 7, 7, 7, 7, 7, 7, 7, 7, 7, 7, 7, 7, 7, 7, 7, 7, 7, 7, 7, 7, 7, 7, 7, 7, 7, 7, 7, 7, 7, 7, 7, 7, 7, 7, 7, 7, 7, 7, 7, 7, 7, 7, 7, 7, 7, 7, 7, 7, 7, 7, 7, 7, 7, 7, 7, 7, 7, 7, 7, 7, 7, 7, 7, 8, 8, 8, 8, 8, 8, 8, 8, 8, 8, 8, 8, 8, 8, 8, 8, 8, 8, 8, 8, 8, 8, 8, 8, 8, 8, 8, 8, 8, 8, 8, 8, 8, 8, 8, 8, 8, 8, 8, 8, 8, 8, 8, 8, 8, 8, 8, 8, 8, 8, 8, 8, 8, 8, 8, 8, 8, 8, 8, 8, 8, 8, 8, 8, 8, 8, 8, 8, 8, 8, 8, 8, 8, 8, 8, 8, 8, 8, 8, 8, 8, 8, 8, 8, 8, 8, 8, 8, 8, 8, 8, 8, 8, 8, 8, 8, 8, 8, 8, 8, 8, 8, 8, 8, 8, 8, 8, 8, 8, 8, 8, 8, 8, 8, 8, 8, 8, 8, 8, 8, 8, 8, 8, 8, 8, 8, 8, 8]⟩) t18) fun t19 =>
 oCv .i64 t19 fun t20 =>
 oInt .add .i64 t16 t20 fun t21 =>
 k t21 m12) fun j13 =>
 oIf t10 (oOpt (abin Tryd.prog .shr 106 t6 (.int .u64 (.ofNat 8))) fun t22 =>
 oInt .add .i64 t8 (.int .i64 (.ofNat 8)) fun t23 =>
 j13 [t22, t23] m4) (j13 [t6, t8] m4)) fun j5 =>
 oIf t2 (oOpt (abin Tryd.prog .shr 106 t0 (.int .u64 (.ofNat 16))) fun t24 =>
 j5 [t24, (.int .i64 (.ofNat 16))] m) (j5 [t0, (.int .i64 (.ofNat 0))] m))
theorem S101_ok (lf : Nat) (cK : CallK β) (args : List Value) (L : Nat) (m : Mem) (k : Value → Mem → Option β)  : S101 lf cK args L m k = denF Tryd.prog fsT 2 K101 lf cK 101 args L m k := by kernel_rfl

/-- math/bits.Len64 -/
def K102 : Kat := [(20, (0, [0, 2])), (44, (0, [0, 2])), (92, (0, [0, 2]))]
noncomputable def S102 (lf : Nat) : FnK β := fun call args L m k =>
 uc args fun t0 l1 =>
 un0 l1 (oInt .geq .u64 t0 (.int .u64 (.ofNat 4294967296)) fun t2 =>
 join (fun l3 m4 =>
 uc l3 fun t6 l7 =>
 uc l7 fun t8 l9 =>
 oInt .geq .u64 t6 (.int .u64 (.ofNat 65536)) fun t10 =>
 join (fun l11 m12 =>
 uc l11 fun t14 l15 =>
 uc l15 fun t16 l17 =>
 oInt .geq .u64 t14 (.int .u64 (.ofNat 256)) fun t18 =>
 join (fun l19 m20 =>
 uc l19 fun t22 l23 =>
 uc l23 fun t24 l25 =>
 oCv .u8 t22 fun t26 =>
 oOpt (aindex Tryd.prog 9 (.string ⟨#[0, 1, 2, 2, 3, 3, 3, 3, 4, 4, 4, 4, 4, 4, 4, 4, 5, 5, 5, 5, 5, 5, 5, 5, 5, 5, 5, 5, 5, 5, 5, 5, 6, 6, 6, 6, 6, 6, 6, 6, 6, 6, 6, 6, 6, 6, 6, 6, 6, 6, 6, 6, 6, 6, 6, 6, 6, 6, 6, 6, 6, 6, 6, 6, 7, 7, 7, 7, 7, 7, 7, 7, 7, 7, 7, 7, 7, 7, 7, 7, 7, 7, 7, 7, 7, 7, 7, 7, 7, 7, 7, 7, 7, 7, 7, 7, 7, 7, 7, 7, 7, 7, 7, 7, 7, 7, 7, 7, 7, 7, 7, 7, 7, 7, 7, 7, 7, 7, 7, 7, 7, 7, 7, 7, 7, 7, 7, 7, 8, 8, 8, 8, 8, 8, 8, 8, 8, 8, 8, 8, 8, 8, 8, 8, 8, 8, 8, 8, 8, 8, 8, 8, 8, 8, 8, 8, 8, 8, 8, 8, 8, 8, 8, 8, 8, 8, 8, 8, 8, 8, 8, 8, 8, 8, 8, 8, 8, 8, 8, 8, 8, 8, 8, 8, 8, 8, 8, 8, 8, 8, 8, 8, 8, 8, 8, 8, 8, 8, 8, 8, 8, 8, 8, 8, 8, 8, 8, 8, 8, 8, 8, 8, 8, 8, 8, 8, 8, 8, 8, 8, 8, 8, 8, 8, 8, 8, 8, 8, 8, 8, 8, 8, 8, 8, 8, 8, 8, 8, 8, 8, 8, 8, 8, 8, 8, 8, 8, 8, 8, 8, 8, 8, 8, 8, 8, 8]⟩) t26) fun t27 =>
 oCv .i64 t27 fun t28 =>
 oInt .add .i64 t24 t28 fun t29 =>
 k t29 m20) fun j21 =>
 oIf t18 (oOpt (abin Tryd.prog .shr 108 t14 (.int .u64 (.ofNat 8))) fun t30 =>
 oInt .add .i64 t16 (.int .i64 (.ofNat 8)) fun t31 =>
 j21 [t30, t31] m12) (j21 [t14, t16] m12)) fun j13 =>
 oIf t10 (oOpt (abin Tryd.prog .shr 108 t6 (.int .u64 (.ofNat 16))) fun t32 =>
 oInt .add .i64 t8 (.int .i64 (.ofNat 16)) fun t33 =>
 j13 [t32, t33] m4) (j13 [t6, t8] m4)) fun j5 =>
 oIf t2 (oOpt (abin Tryd.prog .shr 108 t0 (.int .u64 (.ofNat 32))) fun t34 =>
 j5 [t34, (.int .i64 (.ofNat 32))] m) (j5 [t0, (.int .i64 (.ofNat 0))] m))
theorem S102_ok (lf : Nat) (cK : CallK β) (args : List Value) (L : Nat) (m : Mem) (k : Value → Mem → Option β)  : S102 lf cK args L m k = denF Tryd.prog fsT 2 K102 lf cK 102 args L m k := by kernel_rfl

/-- cmp.isNaN[int] -/
def K108 : Kat := []
noncomputable def S108 (lf : Nat) : FnK β := fun call args L m k =>
 uc args fun t0 l1 =>
 un0 l1 (oInt .neq .i64 t0 t0 fun t2 =>
 k t2 m)
theorem S108_ok (lf : Nat) (cK : CallK β) (args : List Value) (L : Nat) (m : Mem) (k : Value → Mem → Option β)  : S108 lf cK args L m k = denF Tryd.prog fsT 2 K108 lf cK 108 args L m k := by kernel_rfl

/-- (vitola/dock.stays).counts -/
def K125 : Kat := []
noncomputable def S125 (lf : Nat) : FnK β := fun call args L m k =>
 uc args fun t0 l1 =>
 un0 l1 (oRes (abox m t0) fun t2 m3 =>
 k (.bool true) m3)
theorem S125_ok (lf : Nat) (cK : CallK β) (args : List Value) (L : Nat) (m : Mem) (k : Value → Mem → Option β)  : S125 lf cK args L m k = denF Tryd.prog fsT 2 K125 lf cK 125 args L m k := by kernel_rfl

/-- (vitola/dock.leaves).counts -/
def K126 : Kat := []
noncomputable def S126 (lf : Nat) : FnK β := fun call args L m k =>
 uc args fun t0 l1 =>
 un0 l1 (oRes (abox m t0) fun t2 m3 =>
 k (.bool false) m3)
theorem S126_ok (lf : Nat) (cK : CallK β) (args : List Value) (L : Nat) (m : Mem) (k : Value → Mem → Option β)  : S126 lf cK args L m k = denF Tryd.prog fsT 2 K126 lf cK 126 args L m k := by kernel_rfl

/-- slices.AppendSeq[[]int,int]: a round of its range over a function -/
def KR84 : Kat := []
noncomputable def R84 (lf : Nat) : FnK β := fun call args L m k =>
 uc args fun yv args =>
 oYv yv L fun y =>
 uc args fun t0 l1 =>
 uc l1 fun t2 l3 =>
 un0 l3 (oBusy 84 y m fun m4 =>
 oOpt (ld1 m4 t0) fun t5 =>
 oRes (bs Tryd.prog m4 22 1 [(0, t2)]) fun t6 m7 =>
 oRes (aappend Tryd.prog L m7 22 t5 t6) fun t8 m9 =>
 oRes (st1 1 L m9 t0 t8) fun t10 m11 =>
 oReady 84 y m11 fun m12 =>
 k (.bool true) m12)
theorem R84_ok (lf : Nat) (cK : CallK β) (args : List Value) (L : Nat) (m : Mem) (k : Value → Mem → Option β)  : R84 lf cK args L m k = denR Tryd.prog (ltab Tryd.prog fsT) 2 KR84 lf cK 84 args L m k := by kernel_rfl

end
end Go.Vit
