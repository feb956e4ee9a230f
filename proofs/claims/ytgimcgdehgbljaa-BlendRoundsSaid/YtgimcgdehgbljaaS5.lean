/- Shallow texts of the seat's functions, printed by a program: part 5. -/
import Derived.Test.YtgimcgdehgbljaaRows
import Derived.Test.YtgimcgdehgbljaaFs
set_option linter.unusedVariables false
set_option maxRecDepth 100000
namespace Go.Vit
open Go Go.Proofs
section
variable {β : Type}
/-- vitola/vitolalaw04.held -/
def K85 : Kat := [(89, (0, [5, 8])), (11570, (0, [5]))]
noncomputable def S85 (lf : Nat) : FnK β := fun call args L m k =>
 uc args fun t0 l1 =>
 uc l1 fun t2 l3 =>
 un0 l3 (loopS (fun j6 l4 m5 =>
 uc l4 fun t7 l8 =>
 uc l8 fun t9 l10 =>
 oInt .lss .i64 t9 t2 fun t11 =>
 oIf t11 (oOpt (abin Try.prog .shr 63 t0 t9) fun t12 =>
 oInt .and .u16 t12 (.int .u16 (.ofNat 1)) fun t13 =>
 oInt .eql .u16 t13 (.int .u16 (.ofNat 1)) fun t14 =>
 join (fun l15 m16 =>
 uc l15 fun t18 l19 =>
 oInt .add .i64 t9 (.int .i64 (.ofNat 1)) fun t20 =>
 j6 [t18, t20] m16) fun j17 =>
 oIf t14 (oRes (bs Try.prog m5 22 1 [(0, t9)]) fun t21 m22 =>
 oRes (aappend Try.prog L m22 22 t7 t21) fun t23 m24 =>
 j17 [t23] m24) (j17 [t7] m5)) (k t7 m5)) lf [(.slice none 0 0), (.int .i64 (.ofNat 0))] m)
theorem S85_ok (lf : Nat) (cK : CallK β) (args : List Value) (L : Nat) (m : Mem) (k : Value → Mem → Option β)  : S85 lf cK args L m k = denF Try.prog fsT 0 K85 lf cK 85 args L m k := by kernel_rfl

/-- math/bits.Len -/
def K87 : Kat := []
noncomputable def S87 (lf : Nat) : FnK β := fun call args L m k =>
 uc args fun t0 l1 =>
 un0 l1 (oIf (.bool false) (oCv .u32 t0 fun t2 =>
 call 102 [t2] L m fun t3 m4 =>
 k t3 m4) (call 103 [t0] L m fun t5 m6 =>
 k t5 m6))
theorem S87_ok (lf : Nat) (cK : CallK β) (args : List Value) (L : Nat) (m : Mem) (k : Value → Mem → Option β)  : S87 lf cK args L m k = denF Try.prog fsT 0 K87 lf cK 87 args L m k := by kernel_rfl

/-- cmp.Compare[int] -/
def K88 : Kat := []
noncomputable def S88 (lf : Nat) : FnK β := fun call args L m k =>
 uc args fun t0 l1 =>
 uc l1 fun t2 l3 =>
 un0 l3 (call 104 [t0] L m fun t4 m5 =>
 call 104 [t2] L m5 fun t6 m7 =>
 oIf t4 (oIf t6 (k (.int .i64 (.ofNat 0)) m7) (k (.int .i64 (.negSucc 0)) m7)) (oIf t6 (k (.int .i64 (.ofNat 1)) m7) (oInt .lss .i64 t0 t2 fun t8 =>
 oIf t8 (k (.int .i64 (.negSucc 0)) m7) (oInt .gtr .i64 t0 t2 fun t9 =>
 oIf t9 (k (.int .i64 (.ofNat 1)) m7) (k (.int .i64 (.ofNat 0)) m7)))))
theorem S88_ok (lf : Nat) (cK : CallK β) (args : List Value) (L : Nat) (m : Mem) (k : Value → Mem → Option β)  : S88 lf cK args L m k = denF Try.prog fsT 0 K88 lf cK 88 args L m k := by kernel_rfl

/-- vitola/vitolaref04.all -/
def K89 : Kat := [(89, (0, [3, 4]))]
noncomputable def S89 (lf : Nat) : FnK β := fun call args L m k =>
 uc args fun t0 l1 =>
 un0 l1 (loopS (fun j4 l2 m3 =>
 uc l2 fun t5 l6 =>
 uc l6 fun t7 l8 =>
 oInt .lss .i64 t7 t0 fun t9 =>
 oIf t9 (oRes (bs Try.prog m3 22 1 [(0, t7)]) fun t10 m11 =>
 oRes (aappend Try.prog L m11 22 t5 t10) fun t12 m13 =>
 oInt .add .i64 t7 (.int .i64 (.ofNat 1)) fun t14 =>
 j4 [t12, t14] m13) (k t5 m3)) lf [(.slice none 0 0), (.int .i64 (.ofNat 0))] m)
theorem S89_ok (lf : Nat) (cK : CallK β) (args : List Value) (L : Nat) (m : Mem) (k : Value → Mem → Option β)  : S89 lf cK args L m k = denF Try.prog fsT 0 K89 lf cK 89 args L m k := by kernel_rfl

/-- vitola/vitolaref04.has -/
def K90 : Kat := [(41, (0, [5]))]
noncomputable def S90 (lf : Nat) : FnK β := fun call args L m k =>
 uc args fun t0 l1 =>
 uc l1 fun t2 l3 =>
 un0 l3 (loopS (fun j6 l4 m5 =>
 uc l4 fun t7 l8 =>
 oOpt (ln t0) fun t9 =>
 oInt .lss .i64 t7 t9 fun t10 =>
 oIf t10 (oOpt (ia 1 t0 t7) fun t11 =>
 oOpt (ld1 m5 t11) fun t12 =>
 oInt .eql .i64 t12 t2 fun t13 =>
 oIf t13 (k (.bool true) m5) (oInt .add .i64 t7 (.int .i64 (.ofNat 1)) fun t14 =>
 j6 [t14] m5)) (k (.bool false) m5)) lf [(.int .i64 (.ofNat 0))] m)
theorem S90_ok (lf : Nat) (cK : CallK β) (args : List Value) (L : Nat) (m : Mem) (k : Value → Mem → Option β)  : S90 lf cK args L m k = denF Try.prog fsT 0 K90 lf cK 90 args L m k := by kernel_rfl

/-- (vitola/blend.Recipe).fitting$1 -/
def K91 : Kat := [(9, (0, [11])), (2661, (1, [29]))]
noncomputable def S91 (lf : Nat) : FnK β := fun call args L m k =>
 uc args fun t0 l1 =>
 uc l1 fun t2 l3 =>
 uc l3 fun t4 l5 =>
 un0 l5 (oOpt (fa 0 t2) fun t6 =>
 oOpt (ld1 m t6) fun t7 =>
 oOpt (ln t7) fun t8 =>
 oOpt (ld1 m t4) fun t9 =>
 call 60 [t8, t9] L m fun t10 m11 =>
 loopS (fun j14 l12 m13 =>
 uc l12 fun t15 l16 =>
 oInt .lss .i64 t15 t10 fun t17 =>
 oIf t17 (oOpt (ld1 m13 t4) fun t18 =>
 call 66 [t18, t15] L m13 fun t19 m20 =>
 oOpt (ldN m20 3 t2) fun t21 =>
 call 77 [t21, t19] m20.next m20 fun t22 m23 =>
 oOpt (fa 1 t2) fun t24 =>
 oOpt (ld1 m23 t24) fun t25 =>
 oOpt (fa 2 t2) fun t26 =>
 oOpt (ld1 m23 t26) fun t27 =>
 call 65 [t22, t25, t27] L m23 fun t28 m29 =>
 join (fun l30 m31 =>
 uc l30 fun t33 l34 =>
 oPick t28 t33 (.bool false) fun t35 =>
 oIf t35 (k (.tuple ⟨[]⟩) m31) (oInt .add .i64 t15 (.int .i64 (.ofNat 1)) fun t36 =>
 j14 [t36] m31)) fun j32 =>
 oGT t28 (oCallV call t0 [t19] L m29 fun t37 m38 =>
 oOpt (aun .not t37) fun t39 =>
 j32 [t39] m38) (j32 [Go.undef] m29)) (k (.tuple ⟨[]⟩) m13)) lf [(.int .i64 (.ofNat 0))] m11)
theorem S91_ok (lf : Nat) (cK : CallK β) (args : List Value) (L : Nat) (m : Mem) (k : Value → Mem → Option β)  : S91 lf cK args L m k = denF Try.prog fsT 0 K91 lf cK 91 args L m k := by kernel_rfl

/-- slices.IndexFunc[[]int,int] -/
def K92 : Kat := [(41, (0, [8]))]
noncomputable def S92 (lf : Nat) : FnK β := fun call args L m k =>
 uc args fun t0 l1 =>
 uc l1 fun t2 l3 =>
 un0 l3 (oOpt (ln t0) fun t4 =>
 loopS (fun j7 l5 m6 =>
 uc l5 fun t8 l9 =>
 oInt .lss .i64 t8 t4 fun t10 =>
 oIf t10 (oOpt (ia 1 t0 t8) fun t11 =>
 oOpt (ld1 m6 t11) fun t12 =>
 oCallV call t2 [t12] L m6 fun t13 m14 =>
 oIf t13 (k t8 m14) (oInt .add .i64 t8 (.int .i64 (.ofNat 1)) fun t15 =>
 j7 [t15] m14)) (k (.int .i64 (.negSucc 0)) m6)) lf [(.int .i64 (.ofNat 0))] m)
theorem S92_ok (lf : Nat) (cK : CallK β) (args : List Value) (L : Nat) (m : Mem) (k : Value → Mem → Option β)  : S92 lf cK args L m k = denF Try.prog fsT 0 K92 lf cK 92 args L m k := by kernel_rfl

/-- cmp.Less[int] -/
def K99 : Kat := [(9, (1, [10])), (9, (3, [15]))]
noncomputable def S99 (lf : Nat) : FnK β := fun call args L m k =>
 uc args fun t0 l1 =>
 uc l1 fun t2 l3 =>
 un0 l3 (call 104 [t0] L m fun t4 m5 =>
 join (fun l6 m7 =>
 uc l6 fun t9 l10 =>
 oPick t4 t9 (.bool false) fun t11 =>
 join (fun l12 m13 =>
 uc l12 fun t15 l16 =>
 oPick t11 (.bool true) t15 fun t17 =>
 k t17 m13) fun j14 =>
 oGF t11 (oInt .lss .i64 t0 t2 fun t18 =>
 j14 [t18] m7) (j14 [Go.undef] m7)) fun j8 =>
 oGT t4 (call 104 [t2] L m5 fun t19 m20 =>
 oOpt (aun .not t19) fun t21 =>
 j8 [t21] m20) (j8 [Go.undef] m5))
theorem S99_ok (lf : Nat) (cK : CallK β) (args : List Value) (L : Nat) (m : Mem) (k : Value → Mem → Option β)  : S99 lf cK args L m k = denF Try.prog fsT 0 K99 lf cK 99 args L m k := by kernel_rfl

/-- math/bits.Len32 -/
def K102 : Kat := [(20, (0, [0, 2])), (44, (0, [0, 2]))]
noncomputable def S102 (lf : Nat) : FnK β := fun call args L m k =>
 uc args fun t0 l1 =>
 un0 l1 (oInt .geq .u32 t0 (.int .u32 (.ofNat 65536)) fun t2 =>
 join (fun l3 m4 =>
 uc l3 fun t6 l7 =>
 uc l7 fun t8 l9 =>
 oInt .geq .u32 t6 (.int .u32 (.ofNat 256)) fun t10 =>
 join (fun l11 m12 =>
 uc l11 fun t14 l15 =>
 uc l15 fun t16 l17 =>
 oCv .u8 t14 fun t18 =>
 oOpt (aindex Try.prog 9 (.string ⟨#[0, 1, 2, 2, 3, 3, 3, 3, 4, 4, 4, 4, 4, 4, 4, 4, 5, 5, 5, 5, 5, 5, 5, 5, 5, 5, 5, 5, 5, 5, 5, 5, 6, 6, 6, 6, 6, 6, 6, 6, 6, 6, 6, 6, 6, 6, 6, 6, 6, 6, 6, 6, 6, 6, 6, 6, 6, 6, 6, 6, 6, 6, 6, 6, 7, 7, 7, 7, 7, 7, 7, 7, 7, 7, 7, 7, 7, 7, 7, 7, 7, 7, 7, 7, 7, 7, 7, 7, 7, 7, 7, 7, 7, 7, 7, 7, 7, 7, 7, 7, 7, 7, 7, 7, 7, 7, 7, 7, 7, 7, 7, 7, 7, 7, 7, 7, 7, 7, 7, 7, 7, 7, 7, 7, 7, 7, 7, 7, 8, 8, 8, 8, 8, 8, 8, 8, 8, 8, 8, 8, 8, 8, 8, 8, 8, 8, 8, 8, 8, 8, 8, 8, 8, 8, 8, 8, 8, 8, 8, 8, 8, 8, 8, 8, 8, 8, 8, 8, 8, 8, 8, 8, 8, 8, 8, 8, 8, 8, 8, 8, 8, 8, 8, 8, 8, 8, 8, 8, 8, 8, 8, 8, 8, 8, 8, 8, 8, 8, 8, 8, 8, 8, 8, 8, 8, 8, 8, 8, 8, 8, 8, 8, 8, 8, 8, 8, 8, 8, 8, 8, 8, 8, 8, 8, 8, 8, 8, 8, 8, 8, 8, 8, 8, 8, 8, 8, 8, 8, 8, 8, 8, 8, 8, 8, 8, 8, 8, 8, 8, 8, 8, 8, 8, 8, 8, 8]⟩) t18) fun t19 =>
 oCv .i64 t19 fun t20 =>
 oInt .add .i64 t16 t20 fun t21 =>
 k t21 m12) fun j13 =>
 oIf t10 (oOpt (abin Try.prog .shr 115 t6 (.int .u64 (.ofNat 8))) fun t22 =>
 oInt .add .i64 t8 (.int .i64 (.ofNat 8)) fun t23 =>
 j13 [t22, t23] m4) (j13 [t6, t8] m4)) fun j5 =>
 oIf t2 (oOpt (abin Try.prog .shr 115 t0 (.int .u64 (.ofNat 16))) fun t24 =>
 j5 [t24, (.int .i64 (.ofNat 16))] m) (j5 [t0, (.int .i64 (.ofNat 0))] m))
theorem S102_ok (lf : Nat) (cK : CallK β) (args : List Value) (L : Nat) (m : Mem) (k : Value → Mem → Option β)  : S102 lf cK args L m k = denF Try.prog fsT 0 K102 lf cK 102 args L m k := by kernel_rfl

/-- math/bits.Len64 -/
def K103 : Kat := [(20, (0, [0, 2])), (44, (0, [0, 2])), (92, (0, [0, 2]))]
noncomputable def S103 (lf : Nat) : FnK β := fun call args L m k =>
 uc args fun t0 l1 =>
 un0 l1 (oInt .geq .u64 t0 (.int .u64 (.ofNat 4294967296)) fun t2 =>
 join (fun l3 m4 =>
 uc l3 fun t6 l7 =>
 uc l7 fun t8 l9 =>
 oInt .geq .u64 t6 (.int .u64 (.ofNat 65536)) fun t10 =>
 join (fun l11 m12 =>
 uc l11 fun t14 l15 =>
 uc l15 fun t16 l17 =>
 oInt .geq .u64 t14 (.int .u64 (.ofNat 256)) fun t18 =>
 join (fun l19 m20 =>
 uc l19 fun t22 l23 =>
 uc l23 fun t24 l25 =>
 oCv .u8 t22 fun t26 =>
 oOpt (aindex Try.prog 9 (.string ⟨#[0, 1, 2, 2, 3, 3, 3, 3, 4, 4, 4, 4, 4, 4, 4, 4, 5, 5, 5, 5, 5, 5, 5, 5, 5, 5, 5, 5, 5, 5, 5, 5, 6, 6, 6, 6, 6, 6, 6, 6, 6, 6, 6, 6, 6, 6, 6, 6, 6, 6, 6, 6, 6, 6, 6, 6, 6, 6, 6, 6, 6, 6, 6, 6, 7, 7, 7, 7, 7, 7, 7, 7, 7, 7, 7, 7, 7, 7, 7, 7, 7, 7, 7, 7, 7, 7, 7, 7, 7, 7, 7, 7, 7, 7, 7, 7, 7, 7, 7, 7, 7, 7, 7, 7, 7, 7, 7, 7, 7, 7, 7, 7, 7, 7, 7, 7, 7, 7, 7, 7, 7, 7, 7, 7, 7, 7, 7, 7, 8, 8, 8, 8, 8, 8, 8, 8, 8, 8, 8, 8, 8, 8, 8, 8, 8, 8, 8, 8, 8, 8, 8, 8, 8, 8, 8, 8, 8, 8, 8, 8, 8, 8, 8, 8, 8, 8, 8, 8, 8, 8, 8, 8, 8, 8, 8, 8, 8, 8, 8, 8, 8, 8, 8, 8, 8, 8, 8, 8, 8, 8, 8, 8, 8, 8, 8, 8, 8, 8, 8, 8, 8, 8, 8, 8, 8, 8, 8, 8, 8, 8, 8, 8, 8, 8, 8, 8, 8, 8, 8, 8, 8, 8, 8, 8, 8, 8, 8, 8, 8, 8, 8, 8, 8, 8, 8, 8, 8, 8, 8, 8, 8, 8, 8, 8, 8, 8, 8, 8, 8, 8, 8, 8, 8, 8, 8, 8]⟩) t26) fun t27 =>
 oCv .i64 t27 fun t28 =>
 oInt .add .i64 t24 t28 fun t29 =>
 k t29 m20) fun j21 =>
 oIf t18 (oOpt (abin Try.prog .shr 117 t14 (.int .u64 (.ofNat 8))) fun t30 =>
 oInt .add .i64 t16 (.int .i64 (.ofNat 8)) fun t31 =>
 j21 [t30, t31] m12) (j21 [t14, t16] m12)) fun j13 =>
 oIf t10 (oOpt (abin Try.prog .shr 117 t6 (.int .u64 (.ofNat 16))) fun t32 =>
 oInt .add .i64 t8 (.int .i64 (.ofNat 16)) fun t33 =>
 j13 [t32, t33] m4) (j13 [t6, t8] m4)) fun j5 =>
 oIf t2 (oOpt (abin Try.prog .shr 117 t0 (.int .u64 (.ofNat 32))) fun t34 =>
 j5 [t34, (.int .i64 (.ofNat 32))] m) (j5 [t0, (.int .i64 (.ofNat 0))] m))
theorem S103_ok (lf : Nat) (cK : CallK β) (args : List Value) (L : Nat) (m : Mem) (k : Value → Mem → Option β)  : S103 lf cK args L m k = denF Try.prog fsT 0 K103 lf cK 103 args L m k := by kernel_rfl

/-- cmp.isNaN[int] -/
def K104 : Kat := []
noncomputable def S104 (lf : Nat) : FnK β := fun call args L m k =>
 uc args fun t0 l1 =>
 un0 l1 (oInt .neq .i64 t0 t0 fun t2 =>
 k t2 m)
theorem S104_ok (lf : Nat) (cK : CallK β) (args : List Value) (L : Nat) (m : Mem) (k : Value → Mem → Option β)  : S104 lf cK args L m k = denF Try.prog fsT 0 K104 lf cK 104 args L m k := by kernel_rfl

/-- vitola/blend.Fits: a round of its range over a function -/
def KR34 : Kat := []
noncomputable def R34 (lf : Nat) : FnK β := fun call args L m k =>
 uc args fun yv args =>
 oYv yv L fun y =>
 uc args fun t0 l1 =>
 uc l1 fun t2 l3 =>
 un0 l3 (oBusy 34 y m fun m4 =>
 oOpt (ld1 m4 t0) fun t5 =>
 oInt .add .i64 t5 (.int .i64 (.ofNat 1)) fun t6 =>
 oRes (st1 1 L m4 t0 t6) fun t7 m8 =>
 oReady 34 y m8 fun m9 =>
 k (.bool true) m9)
theorem R34_ok (lf : Nat) (cK : CallK β) (args : List Value) (L : Nat) (m : Mem) (k : Value → Mem → Option β)  : R34 lf cK args L m k = denR Try.prog (ltab Try.prog fsT) 0 KR34 lf cK 34 args L m k := by kernel_rfl

/-- vitola/blend.Nearest: a round of its range over a function -/
def KR38 : Kat := [(41, (1, [32])), (41, (2, [36])), (41, (3, [37])), (42, (0, []))]
noncomputable def R38 (lf : Nat) : FnK β := fun call args L m k =>
 uc args fun yv args =>
 oYv yv L fun y =>
 uc args fun t0 l1 =>
 uc l1 fun t2 l3 =>
 uc l3 fun t4 l5 =>
 uc l5 fun t6 l7 =>
 un0 l7 (oBusy 38 y m fun m8 =>
 oOpt (ld1 m8 t4) fun t9 =>
 call 71 [t6, t9] L m8 fun t10 m11 =>
 oOpt (ld1 m11 t0) fun t12 =>
 oInt .lss .i64 t10 t12 fun t13 =>
 join (fun l14 m15 =>
 uc l14 fun t17 l18 =>
 join (fun l19 m20 =>
 uc l19 fun t22 l23 =>
 join (fun l24 m25 =>
 uc l24 fun t27 l28 =>
 oPick t13 (.bool true) t27 fun t29 =>
 join (fun l30 m31 =>
 oReady 38 y m31 fun m33 =>
 k (.bool true) m33) fun j32 =>
 oIf t29 (oRes (st1 1 L m25 t2 t6) fun t34 m35 =>
 oRes (st1 1 L m35 t0 t10) fun t36 m37 =>
 j32 [] m37) (j32 [] m25)) fun j26 =>
 oGF t13 (oPick t17 t22 (.bool false) fun t38 =>
 j26 [t38] m20) (j26 [Go.undef] m20)) fun j21 =>
 oGT t17 (oOpt (ld1 m15 t2) fun t39 =>
 call 58 [t6, t39] L m15 fun t40 m41 =>
 oInt .lss .i64 t40 (.int .i64 (.ofNat 0)) fun t42 =>
 j21 [t42] m41) (j21 [Go.undef] m15)) fun j16 =>
 oGF t13 (oOpt (ld1 m11 t0) fun t43 =>
 oInt .eql .i64 t10 t43 fun t44 =>
 j16 [t44] m11) (j16 [Go.undef] m11))
theorem R38_ok (lf : Nat) (cK : CallK β) (args : List Value) (L : Nat) (m : Mem) (k : Value → Mem → Option β)  : R38 lf cK args L m k = denR Try.prog (ltab Try.prog fsT) 0 KR38 lf cK 38 args L m k := by kernel_rfl

end
end Go.Vit
