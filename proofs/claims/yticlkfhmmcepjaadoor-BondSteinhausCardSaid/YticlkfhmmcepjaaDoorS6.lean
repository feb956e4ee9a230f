/- Shallow texts of the seat's functions, printed by a program: part 6. -/
import Derived.Test.YticlkfhmmcepjaaDoorRows
import Derived.Test.YticlkfhmmcepjaaDoorFs
set_option linter.unusedVariables false
set_option maxRecDepth 100000
namespace Go.Vit
open Go Go.Proofs
section
variable {β : Type}
/-- math/bits.OnesCount64 -/
def K82 : Kat := []
noncomputable def S82 (lf : Nat) : FnK β := fun call args L m k =>
 uc args fun t0 l1 =>
 un0 l1 (oOpt (abin Tryd.prog .shr 112 t0 (.int .u64 (.ofNat 1))) fun t2 =>
 oInt .and .u64 t2 (.int .u64 (.ofNat 6148914691236517205)) fun t3 =>
 oInt .and .u64 t0 (.int .u64 (.ofNat 6148914691236517205)) fun t4 =>
 oInt .add .u64 t3 t4 fun t5 =>
 oOpt (abin Tryd.prog .shr 112 t5 (.int .u64 (.ofNat 2))) fun t6 =>
 oInt .and .u64 t6 (.int .u64 (.ofNat 3689348814741910323)) fun t7 =>
 oInt .and .u64 t5 (.int .u64 (.ofNat 3689348814741910323)) fun t8 =>
 oInt .add .u64 t7 t8 fun t9 =>
 oOpt (abin Tryd.prog .shr 112 t9 (.int .u64 (.ofNat 4))) fun t10 =>
 oInt .add .u64 t10 t9 fun t11 =>
 oInt .and .u64 t11 (.int .u64 (.ofNat 1085102592571150095)) fun t12 =>
 oOpt (abin Tryd.prog .shr 112 t12 (.int .u64 (.ofNat 8))) fun t13 =>
 oInt .add .u64 t12 t13 fun t14 =>
 oOpt (abin Tryd.prog .shr 112 t14 (.int .u64 (.ofNat 16))) fun t15 =>
 oInt .add .u64 t14 t15 fun t16 =>
 oOpt (abin Tryd.prog .shr 112 t16 (.int .u64 (.ofNat 32))) fun t17 =>
 oInt .add .u64 t16 t17 fun t18 =>
 oCv .i64 t18 fun t19 =>
 oInt .and .i64 t19 (.int .i64 (.ofNat 127)) fun t20 =>
 k t20 m)
theorem S82_ok (lf : Nat) (cK : CallK β) (args : List Value) (L : Nat) (m : Mem) (k : Value → Mem → Option β)  : S82 lf cK args L m k = denF Tryd.prog fsT 2 K82 lf cK 82 args L m k := by kernel_rfl

/-- slices.IndexFunc[[]int,int] -/
def K83 : Kat := [(41, (0, [8]))]
noncomputable def S83 (lf : Nat) : FnK β := fun call args L m k =>
 uc args fun t0 l1 =>
 uc l1 fun t2 l3 =>
 un0 l3 (oOpt (ln t0) fun t4 =>
 loopS (fun j7 l5 m6 =>
 uc l5 fun t8 l9 =>
 oInt .lss .i64 t8 t4 fun t10 =>
 oIf t10 (oOpt (ia 1 t0 t8) fun t11 =>
 oOpt (ld1 m6 t11) fun t12 =>
 oCallV call t2 [t12] L m6 fun t13 m14 =>
 oIf t13 (k t8 m14) (oInt .add .i64 t8 (.int .i64 (.ofNat 1)) fun t15 =>
 j7 [t15] m14)) (k (.int .i64 (.negSucc 0)) m6)) lf [(.int .i64 (.ofNat 0))] m)
theorem S83_ok (lf : Nat) (cK : CallK β) (args : List Value) (L : Nat) (m : Mem) (k : Value → Mem → Option β)  : S83 lf cK args L m k = denF Tryd.prog fsT 2 K83 lf cK 83 args L m k := by kernel_rfl

/-- math/bits.Len -/
def K85 : Kat := []
noncomputable def S85 (lf : Nat) : FnK β := fun call args L m k =>
 uc args fun t0 l1 =>
 un0 l1 (oIf (.bool false) (oCv .u32 t0 fun t2 =>
 call 102 [t2] L m fun t3 m4 =>
 k t3 m4) (call 103 [t0] L m fun t5 m6 =>
 k t5 m6))
theorem S85_ok (lf : Nat) (cK : CallK β) (args : List Value) (L : Nat) (m : Mem) (k : Value → Mem → Option β)  : S85 lf cK args L m k = denF Tryd.prog fsT 2 K85 lf cK 85 args L m k := by kernel_rfl

/-- vitola/vitolaref10.groups -/
def K86 : Kat := [(185, (0, [5]))]
noncomputable def S86 (lf : Nat) : FnK β := fun call args L m k =>
 uc args fun t0 l1 =>
 uc l1 fun t2 l3 =>
 un0 l3 (call 75 [t0, (.int .i64 (.ofNat 1)), (.int .i64 (.ofNat 6))] L m fun t4 m5 =>
 oOpt (aun .not t4) fun t6 =>
 oIf t6 (k (.int .i64 (.ofNat 1)) m5) (oOpt (ln t2) fun t7 =>
 oInt .gtr .i64 t7 (.int .i64 (.ofNat 64)) fun t8 =>
 oIf t8 (k (.int .i64 (.ofNat 3)) m5) (loopS (fun j11 l9 m10 =>
 uc l9 fun t12 l13 =>
 oOpt (ln t2) fun t14 =>
 oInt .lss .i64 t12 t14 fun t15 =>
 oIf t15 (oOpt (ia 1 t2 t12) fun t16 =>
 oOpt (ld1 m10 t16) fun t17 =>
 oOpt (abin Tryd.prog .shl 3 (.int .i64 (.ofNat 1)) t0) fun t18 =>
 oInt .sub .i64 t18 (.int .i64 (.ofNat 1)) fun t19 =>
 call 75 [t17, (.int .i64 (.ofNat 0)), t19] L m10 fun t20 m21 =>
 oOpt (aun .not t20) fun t22 =>
 oIf t22 (k (.int .i64 (.ofNat 2)) m21) (oInt .add .i64 t12 (.int .i64 (.ofNat 1)) fun t23 =>
 j11 [t23] m21)) (k (.int .i64 (.ofNat 0)) m10)) lf [(.int .i64 (.ofNat 0))] m5)))
theorem S86_ok (lf : Nat) (cK : CallK β) (args : List Value) (L : Nat) (m : Mem) (k : Value → Mem → Option β)  : S86 lf cK args L m k = denF Tryd.prog fsT 2 K86 lf cK 86 args L m k := by kernel_rfl

/-- (vitola/bond.circle).check -/
def K87 : Kat := []
noncomputable def S87 (lf : Nat) : FnK β := fun call args L m k =>
 uc args fun t0 l1 =>
 un0 l1 (oRes (abox m t0) fun t2 m3 =>
 oOpt (fa 0 t2) fun t4 =>
 oOpt (ld1 m3 t4) fun t5 =>
 call 74 [t5, (.int .i64 (.ofNat 1)), (.int .i64 (.ofNat 6))] L m3 fun t6 m7 =>
 oOpt (aun .not t6) fun t8 =>
 oIf t8 (k (.int .i64 (.ofNat 1)) m7) (oOpt (fa 1 t2) fun t9 =>
 oOpt (ld1 m7 t9) fun t10 =>
 oOpt (ln t10) fun t11 =>
 oInt .gtr .i64 t11 (.int .i64 (.ofNat 64)) fun t12 =>
 oIf t12 (k (.int .i64 (.ofNat 3)) m7) (oOpt (fa 1 t2) fun t13 =>
 oOpt (ld1 m7 t13) fun t14 =>
 call 41 [t14, (.func (.func 104) #[] ⟨[t2]⟩)] L m7 fun t15 m16 =>
 oIf t15 (k (.int .i64 (.ofNat 2)) m16) (k (.int .i64 (.ofNat 0)) m16))))
theorem S87_ok (lf : Nat) (cK : CallK β) (args : List Value) (L : Nat) (m : Mem) (k : Value → Mem → Option β)  : S87 lf cK args L m k = denF Tryd.prog fsT 2 K87 lf cK 87 args L m k := by kernel_rfl

/-- (vitola/bond.rule).may$1 -/
def K88 : Kat := []
noncomputable def S88 (lf : Nat) : FnK β := fun call args L m k =>
 uc args fun t0 l1 =>
 uc l1 fun t2 l3 =>
 un0 l3 (oOpt (ld1 m t2) fun t4 =>
 call 89 [t0, t4] L m fun t5 m6 =>
 k t5 m6)
theorem S88_ok (lf : Nat) (cK : CallK β) (args : List Value) (L : Nat) (m : Mem) (k : Value → Mem → Option β)  : S88 lf cK args L m k = denF Tryd.prog fsT 2 K88 lf cK 88 args L m k := by kernel_rfl

/-- vitola/bond.lies -/
def K89 : Kat := []
noncomputable def S89 (lf : Nat) : FnK β := fun call args L m k =>
 uc args fun t0 l1 =>
 uc l1 fun t2 l3 =>
 un0 l3 (oInt .andNot .i64 t0 t2 fun t4 =>
 oInt .eql .i64 t4 (.int .i64 (.ofNat 0)) fun t5 =>
 k t5 m)
theorem S89_ok (lf : Nat) (cK : CallK β) (args : List Value) (L : Nat) (m : Mem) (k : Value → Mem → Option β)  : S89 lf cK args L m k = denF Tryd.prog fsT 2 K89 lf cK 89 args L m k := by kernel_rfl

/-- (vitola/bond.circle).inner$1 -/
def K90 : Kat := [(9, (1, [10]))]
noncomputable def S90 (lf : Nat) : FnK β := fun call args L m k =>
 uc args fun t0 l1 =>
 uc l1 fun t2 l3 =>
 un0 l3 (oOpt (ld1 m t2) fun t4 =>
 oInt .neq .i64 t0 t4 fun t5 =>
 join (fun l6 m7 =>
 uc l6 fun t9 l10 =>
 oPick t5 t9 (.bool false) fun t11 =>
 k t11 m7) fun j8 =>
 oGT t5 (oOpt (ld1 m t2) fun t12 =>
 call 89 [t0, t12] L m fun t13 m14 =>
 j8 [t13] m14) (j8 [Go.undef] m))
theorem S90_ok (lf : Nat) (cK : CallK β) (args : List Value) (L : Nat) (m : Mem) (k : Value → Mem → Option β)  : S90 lf cK args L m k = denF Tryd.prog fsT 2 K90 lf cK 90 args L m k := by kernel_rfl

/-- math/bits.TrailingZeros32 -/
def K91 : Kat := []
noncomputable def S91 (lf : Nat) : FnK β := fun call args L m k =>
 uc args fun t0 l1 =>
 un0 l1 (oInt .eql .u32 t0 (.int .u32 (.ofNat 0)) fun t2 =>
 oIf t2 (k (.int .i64 (.ofNat 32)) m) (oOpt (aun .neg t0) fun t3 =>
 oInt .and .u32 t0 t3 fun t4 =>
 oInt .mul .u32 t4 (.int .u32 (.ofNat 125613361)) fun t5 =>
 oOpt (abin Tryd.prog .shr 110 t5 (.int .u64 (.ofNat 27))) fun t6 =>
 oOpt (iaA 32 1 (.pointer (some ⟨0, 0, none⟩)) t6) fun t7 =>
 oOpt (ld1 m t7) fun t8 =>
 oCv .i64 t8 fun t9 =>
 k t9 m))
theorem S91_ok (lf : Nat) (cK : CallK β) (args : List Value) (L : Nat) (m : Mem) (k : Value → Mem → Option β)  : S91 lf cK args L m k = denF Tryd.prog fsT 2 K91 lf cK 91 args L m k := by kernel_rfl

/-- math/bits.TrailingZeros64 -/
def K92 : Kat := []
noncomputable def S92 (lf : Nat) : FnK β := fun call args L m k =>
 uc args fun t0 l1 =>
 un0 l1 (oInt .eql .u64 t0 (.int .u64 (.ofNat 0)) fun t2 =>
 oIf t2 (k (.int .i64 (.ofNat 64)) m) (oOpt (aun .neg t0) fun t3 =>
 oInt .and .u64 t0 t3 fun t4 =>
 oInt .mul .u64 t4 (.int .u64 (.ofNat 285870213051353865)) fun t5 =>
 oOpt (abin Tryd.prog .shr 112 t5 (.int .u64 (.ofNat 58))) fun t6 =>
 oOpt (iaA 64 1 (.pointer (some ⟨1, 0, none⟩)) t6) fun t7 =>
 oOpt (ld1 m t7) fun t8 =>
 oCv .i64 t8 fun t9 =>
 k t9 m))
theorem S92_ok (lf : Nat) (cK : CallK β) (args : List Value) (L : Nat) (m : Mem) (k : Value → Mem → Option β)  : S92 lf cK args L m k = denF Tryd.prog fsT 2 K92 lf cK 92 args L m k := by kernel_rfl

/-- cmp.Less[int] -/
def K99 : Kat := [(9, (1, [10])), (9, (3, [15]))]
noncomputable def S99 (lf : Nat) : FnK β := fun call args L m k =>
 uc args fun t0 l1 =>
 uc l1 fun t2 l3 =>
 un0 l3 (call 110 [t0] L m fun t4 m5 =>
 join (fun l6 m7 =>
 uc l6 fun t9 l10 =>
 oPick t4 t9 (.bool false) fun t11 =>
 join (fun l12 m13 =>
 uc l12 fun t15 l16 =>
 oPick t11 (.bool true) t15 fun t17 =>
 k t17 m13) fun j14 =>
 oGF t11 (oInt .lss .i64 t0 t2 fun t18 =>
 j14 [t18] m7) (j14 [Go.undef] m7)) fun j8 =>
 oGT t4 (call 110 [t2] L m5 fun t19 m20 =>
 oOpt (aun .not t19) fun t21 =>
 j8 [t21] m20) (j8 [Go.undef] m5))
theorem S99_ok (lf : Nat) (cK : CallK β) (args : List Value) (L : Nat) (m : Mem) (k : Value → Mem → Option β)  : S99 lf cK args L m k = denF Tryd.prog fsT 2 K99 lf cK 99 args L m k := by kernel_rfl

/-- math/bits.Len32 -/
def K102 : Kat := [(20, (0, [0, 2])), (44, (0, [0, 2]))]
noncomputable def S102 (lf : Nat) : FnK β := fun call args L m k =>
 uc args fun t0 l1 =>
 un0 l1 (oInt .geq .u32 t0 (.int .u32 (.ofNat 65536)) fun t2 =>
 join (fun l3 m4 =>
 uc l3 fun t6 l7 =>
 uc l7 fun t8 l9 =>
 oInt .geq .u32 t6 (.int .u32 (.ofNat 256)) fun t10 =>
 join (fun l11 m12 =>
 uc l11 fun t14 l15 =>
 uc l15 fun t16 l17 =>
 oCv .u8 t14 fun t18 =>
 oOpt (aindex Tryd.prog 9 (.string ⟨#[0, 1, 2, 2, 3, 3, 3, 3, 4, 4, 4, 4, 4, 4, 4, 4, 5, 5, 5, 5, 5, 5, 5, 5, 5, 5, 5, 5, 5, 5, 5, 5, 6, 6, 6, 6, 6, 6, 6, 6, 6, 6, 6, 6, 6, 6, 6, 6, 6, 6, 6, 6, 6, 6, 6, 6, 6, 6, 6, 6, 6, 6, 6, 6, 7, 7, 7, 7, 7, 7, 7, 7, 7, 7, 7, 7, 7, 7, 7, 7, 7, 7, 7, 7, 7, 7, 7, 7, 7, 7, 7, 7, 7, 7, 7, 7, 7, 7, 7, 7, 7, 7, 7, 7, 7, 7, 7, 7, 7, 7, 7, 7, 7, 7, 7, 7, 7, 7, 7, 7, 7, 7, 7, 7, 7, 7, 7, 7, 8, 8, 8, 8, 8, 8, 8, 8, 8, 8, 8, 8, 8, 8, 8, 8, 8, 8, 8, 8, 8, 8, 8, 8, 8, 8, 8, 8, 8, 8, 8, 8, 8, 8, 8, 8, 8, 8, 8, 8, 8, 8, 8, 8, 8, 8, 8, 8, 8, 8, 8, 8, 8, 8, 8, 8, 8, 8, 8, 8, 8, 8, 8, 8, 8, 8, 8, 8, 8, 8, 8, 8, 8, 8, 8, 8, 8, 8, 8, 8, 8, 8, 8, 8, 8, 8, 8, 8, 8, 8, 8, 8, 8, 8, 8, 8, 8, 8, 8, 8, 8, 8, 8, 8, 8, 8, 8, 8, 8, 8, 8, 8, 8, 8, 8, 8, 8, 8, 8, 8, 8, 8, 8, 8, 8, 8, 8, 8]⟩) t18) fun t19 =>
 oCv .i64 t19 fun t20 =>
 oInt .add .i64 t16 t20 fun t21 =>
 k t21 m12) fun j13 =>
 oIf t10 (oOpt (abin Tryd.prog .shr 110 t6 (.int .u64 (.ofNat 8))) fun t22 =>
 oInt .add .i64 t8 (.int .i64 (.ofNat 8)) fun t23 =>
 j13 [t22, t23] m4) (j13 [t6, t8] m4)) fun j5 =>
 oIf t2 (oOpt (abin Tryd.prog .shr 110 t0 (.int .u64 (.ofNat 16))) fun t24 =>
 j5 [t24, (.int .i64 (.ofNat 16))] m) (j5 [t0, (.int .i64 (.ofNat 0))] m))
theorem S102_ok (lf : Nat) (cK : CallK β) (args : List Value) (L : Nat) (m : Mem) (k : Value → Mem → Option β)  : S102 lf cK args L m k = denF Tryd.prog fsT 2 K102 lf cK 102 args L m k := by kernel_rfl

/-- math/bits.Len64 -/
def K103 : Kat := [(20, (0, [0, 2])), (44, (0, [0, 2])), (92, (0, [0, 2]))]
noncomputable def S103 (lf : Nat) : FnK β := fun call args L m k =>
 uc args fun t0 l1 =>
 un0 l1 (oInt .geq .u64 t0 (.int .u64 (.ofNat 4294967296)) fun t2 =>
 join (fun l3 m4 =>
 uc l3 fun t6 l7 =>
 uc l7 fun t8 l9 =>
 oInt .geq .u64 t6 (.int .u64 (.ofNat 65536)) fun t10 =>
 join (fun l11 m12 =>
 uc l11 fun t14 l15 =>
 uc l15 fun t16 l17 =>
 oInt .geq .u64 t14 (.int .u64 (.ofNat 256)) fun t18 =>
 join (fun l19 m20 =>
 uc l19 fun t22 l23 =>
 uc l23 fun t24 l25 =>
 oCv .u8 t22 fun t26 =>
 oOpt (aindex Tryd.prog 9 (.string ⟨#[0, 1, 2, 2, 3, 3, 3, 3, 4, 4, 4, 4, 4, 4, 4, 4, 5, 5, 5, 5, 5, 5, 5, 5, 5, 5, 5, 5, 5, 5, 5, 5, 6, 6, 6, 6, 6, 6, 6, 6, 6, 6, 6, 6, 6, 6, 6, 6, 6, 6, 6, 6, 6, 6, 6, 6, 6, 6, 6, 6, 6, 6, 6, 6, 7, 7, 7, 7, 7, 7, 7, 7, 7, 7, 7, 7, 7, 7, 7, 7, 7, 7, 7, 7, 7, 7, 7, 7, 7, 7, 7, 7, 7, 7, 7, 7, 7, 7, 7, 7, 7, 7, 7, 7, 7, 7, 7, 7, 7, 7, 7, 7, 7, 7, 7, 7, 7, 7, 7, 7, 7, 7, 7, 7, 7, 7, 7, 7, 8, 8, 8, 8, 8, 8, 8, 8, 8, 8, 8, 8, 8, 8, 8, 8, 8, 8, 8, 8, 8, 8, 8, 8, 8, 8, 8, 8, 8, 8, 8, 8, 8, 8, 8, 8, 8, 8, 8, 8, 8, 8, 8, 8, 8, 8, 8, 8, 8, 8, 8, 8, 8, 8, 8, 8, 8, 8, 8, 8, 8, 8, 8, 8, 8, 8, 8, 8, 8, 8, 8, 8, 8, 8, 8, 8, 8, 8, 8, 8, 8, 8, 8, 8, 8, 8, 8, 8, 8, 8, 8, 8, 8, 8, 8, 8, 8, 8, 8, 8, 8, 8, 8, 8, 8, 8, 8, 8, 8, 8, 8, 8, 8, 8, 8, 8, 8, 8, 8, 8, 8, 8, 8, 8, 8, 8, 8, 8]⟩) t26) fun t27 =>
 oCv .i64 t27 fun t28 =>
 oInt .add .i64 t24 t28 fun t29 =>
 k t29 m20) fun j21 =>
 oIf t18 (oOpt (abin Tryd.prog .shr 112 t14 (.int .u64 (.ofNat 8))) fun t30 =>
 oInt .add .i64 t16 (.int .i64 (.ofNat 8)) fun t31 =>
 j21 [t30, t31] m12) (j21 [t14, t16] m12)) fun j13 =>
 oIf t10 (oOpt (abin Tryd.prog .shr 112 t6 (.int .u64 (.ofNat 16))) fun t32 =>
 oInt .add .i64 t8 (.int .i64 (.ofNat 16)) fun t33 =>
 j13 [t32, t33] m4) (j13 [t6, t8] m4)) fun j5 =>
 oIf t2 (oOpt (abin Tryd.prog .shr 112 t0 (.int .u64 (.ofNat 32))) fun t34 =>
 j5 [t34, (.int .i64 (.ofNat 32))] m) (j5 [t0, (.int .i64 (.ofNat 0))] m))
theorem S103_ok (lf : Nat) (cK : CallK β) (args : List Value) (L : Nat) (m : Mem) (k : Value → Mem → Option β)  : S103 lf cK args L m k = denF Tryd.prog fsT 2 K103 lf cK 103 args L m k := by kernel_rfl

/-- (vitola/bond.circle).check$1 -/
def K104 : Kat := []
noncomputable def S104 (lf : Nat) : FnK β := fun call args L m k =>
 uc args fun t0 l1 =>
 uc l1 fun t2 l3 =>
 un0 l3 (oOpt (ldN m 2 t2) fun t4 =>
 call 79 [t4, t0] L m fun t5 m6 =>
 oOpt (aun .not t5) fun t7 =>
 k t7 m6)
theorem S104_ok (lf : Nat) (cK : CallK β) (args : List Value) (L : Nat) (m : Mem) (k : Value → Mem → Option β)  : S104 lf cK args L m k = denF Tryd.prog fsT 2 K104 lf cK 104 args L m k := by kernel_rfl

/-- cmp.isNaN[int] -/
def K110 : Kat := []
noncomputable def S110 (lf : Nat) : FnK β := fun call args L m k =>
 uc args fun t0 l1 =>
 un0 l1 (oInt .neq .i64 t0 t0 fun t2 =>
 k t2 m)
theorem S110_ok (lf : Nat) (cK : CallK β) (args : List Value) (L : Nat) (m : Mem) (k : Value → Mem → Option β)  : S110 lf cK args L m k = denF Tryd.prog fsT 2 K110 lf cK 110 args L m k := by kernel_rfl

end
end Go.Vit
