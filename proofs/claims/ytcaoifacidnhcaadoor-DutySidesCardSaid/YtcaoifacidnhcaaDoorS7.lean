/- Shallow texts of the seat's functions, printed by a program: part 7. -/
import Derived.Test.YtcaoifacidnhcaaDoorRows
import Derived.Test.YtcaoifacidnhcaaDoorCoreB
set_option linter.unusedVariables false
set_option maxRecDepth 100000
namespace Go.Vit
open Go Go.Proofs
section
variable {β : Type}
/-- slices.Index[[]int,int] -/
def K74 : Kat := [(41, (0, [8]))]
noncomputable def S74 (lf : Nat) : FnK β := fun call args L m k =>
 uc args fun t0 l1 =>
 uc l1 fun t2 l3 =>
 un0 l3 (oOpt (ln t0) fun t4 =>
 loopS (fun j7 l5 m6 =>
 uc l5 fun t8 l9 =>
 oInt .lss .i64 t8 t4 fun t10 =>
 oIf t10 (oOpt (ia 1 t0 t8) fun t11 =>
 oOpt (ld1 m6 t11) fun t12 =>
 oInt .eql .i64 t2 t12 fun t13 =>
 oIf t13 (k t8 m6) (oInt .add .i64 t8 (.int .i64 (.ofNat 1)) fun t14 =>
 j7 [t14] m6)) (k (.int .i64 (.negSucc 0)) m6)) lf [(.int .i64 (.ofNat 0))] m)
theorem S74_ok (lf : Nat) (cK : CallK β) (args : List Value) (L : Nat) (m : Mem) (k : Value → Mem → Option β)  : S74 lf cK args L m k = denF Tryd.prog 1 K74 lf cK 74 args L m k := by kernel_rfl

/-- cmp.Compare[int] -/
def K75 : Kat := []
noncomputable def S75 (lf : Nat) : FnK β := fun call args L m k =>
 uc args fun t0 l1 =>
 uc l1 fun t2 l3 =>
 un0 l3 (call 79 [t0] L m fun t4 m5 =>
 call 79 [t2] L m5 fun t6 m7 =>
 oIf t4 (oIf t6 (k (.int .i64 (.ofNat 0)) m7) (k (.int .i64 (.negSucc 0)) m7)) (oIf t6 (k (.int .i64 (.ofNat 1)) m7) (oInt .lss .i64 t0 t2 fun t8 =>
 oIf t8 (k (.int .i64 (.negSucc 0)) m7) (oInt .gtr .i64 t0 t2 fun t9 =>
 oIf t9 (k (.int .i64 (.ofNat 1)) m7) (k (.int .i64 (.ofNat 0)) m7)))))
theorem S75_ok (lf : Nat) (cK : CallK β) (args : List Value) (L : Nat) (m : Mem) (k : Value → Mem → Option β)  : S75 lf cK args L m k = denF Tryd.prog 1 K75 lf cK 75 args L m k := by kernel_rfl

/-- slices.Clip[[]int,int] -/
def K76 : Kat := []
noncomputable def S76 (lf : Nat) : FnK β := fun call args L m k =>
 uc args fun t0 l1 =>
 un0 l1 (oOpt (ln t0) fun t2 =>
 oOpt (ln t0) fun t3 =>
 oOpt (sl Tryd.prog 30 t0 none (some t2) (some t3)) fun t4 =>
 k t4 m)
theorem S76_ok (lf : Nat) (cK : CallK β) (args : List Value) (L : Nat) (m : Mem) (k : Value → Mem → Option β)  : S76 lf cK args L m k = denF Tryd.prog 1 K76 lf cK 76 args L m k := by kernel_rfl

/-- math/bits.Len -/
def K78 : Kat := []
noncomputable def S78 (lf : Nat) : FnK β := fun call args L m k =>
 uc args fun t0 l1 =>
 un0 l1 (oIf (.bool false) (oCv .u32 t0 fun t2 =>
 call 89 [t2] L m fun t3 m4 =>
 k t3 m4) (call 90 [t0] L m fun t5 m6 =>
 k t5 m6))
theorem S78_ok (lf : Nat) (cK : CallK β) (args : List Value) (L : Nat) (m : Mem) (k : Value → Mem → Option β)  : S78 lf cK args L m k = denF Tryd.prog 1 K78 lf cK 78 args L m k := by kernel_rfl

/-- cmp.isNaN[int] -/
def K79 : Kat := []
noncomputable def S79 (lf : Nat) : FnK β := fun call args L m k =>
 uc args fun t0 l1 =>
 un0 l1 (oInt .neq .i64 t0 t0 fun t2 =>
 k t2 m)
theorem S79_ok (lf : Nat) (cK : CallK β) (args : List Value) (L : Nat) (m : Mem) (k : Value → Mem → Option β)  : S79 lf cK args L m k = denF Tryd.prog 1 K79 lf cK 79 args L m k := by kernel_rfl

/-- cmp.Less[int] -/
def K86 : Kat := [(9, (1, [10])), (9, (3, [15]))]
noncomputable def S86 (lf : Nat) : FnK β := fun call args L m k =>
 uc args fun t0 l1 =>
 uc l1 fun t2 l3 =>
 un0 l3 (call 79 [t0] L m fun t4 m5 =>
 join (fun l6 m7 =>
 uc l6 fun t9 l10 =>
 oPick t4 t9 (.bool false) fun t11 =>
 join (fun l12 m13 =>
 uc l12 fun t15 l16 =>
 oPick t11 (.bool true) t15 fun t17 =>
 k t17 m13) fun j14 =>
 oGF t11 (oInt .lss .i64 t0 t2 fun t18 =>
 j14 [t18] m7) (j14 [Go.undef] m7)) fun j8 =>
 oGT t4 (call 79 [t2] L m5 fun t19 m20 =>
 oOpt (aun .not t19) fun t21 =>
 j8 [t21] m20) (j8 [Go.undef] m5))
theorem S86_ok (lf : Nat) (cK : CallK β) (args : List Value) (L : Nat) (m : Mem) (k : Value → Mem → Option β)  : S86 lf cK args L m k = denF Tryd.prog 1 K86 lf cK 86 args L m k := by kernel_rfl

/-- math/bits.Len32 -/
def K89 : Kat := [(20, (0, [0, 2])), (44, (0, [0, 2]))]
noncomputable def S89 (lf : Nat) : FnK β := fun call args L m k =>
 uc args fun t0 l1 =>
 un0 l1 (oInt .geq .u32 t0 (.int .u32 (.ofNat 65536)) fun t2 =>
 join (fun l3 m4 =>
 uc l3 fun t6 l7 =>
 uc l7 fun t8 l9 =>
 oInt .geq .u32 t6 (.int .u32 (.ofNat 256)) fun t10 =>
 join (fun l11 m12 =>
 uc l11 fun t14 l15 =>
 uc l15 fun t16 l17 =>
 oCv .u8 t14 fun t18 =>
 oOpt (aindex Tryd.prog 9 (.string ⟨#[0, 1, 2, 2, 3, 3, 3, 3, 4, 4, 4, 4, 4, 4, 4, 4, 5, 5, 5, 5, 5, 5, 5, 5, 5, 5, 5, 5, 5, 5, 5, 5, 6, 6, 6, 6, 6, 6, 6, 6, 6, 6, 6, 6, 6, 6, 6, 6, 6, 6, 6, 6, 6, 6, 6, 6, 6, 6, 6, 6, 6, 6, 6, 6, 7, 7, 7, 7, 7, 7, 7, 7, 7, 7, 7, 7, 7, 7, 7, 7, 7, 7, 7, 7, 7, 7, 7, 7, 7, 7, 7, 7, 7, 7, 7, 7, 7, 7, 7, 7, 7, 7, 7, 7, 7, 7, 7, 7, 7, 7, 7, 7, 7, 7, 7, 7, 7, 7, 7, 7, 7, 7, 7, 7, 7, 7, 7, 7, 8, 8, 8, 8, 8, 8, 8, 8, 8, 8, 8, 8, 8, 8, 8, 8, 8, 8, 8, 8, 8, 8, 8, 8, 8, 8, 8, 8, 8, 8, 8, 8, 8, 8, 8, 8, 8, 8, 8, 8, 8, 8, 8, 8, 8, 8, 8, 8, 8, 8, 8, 8, 8, 8, 8, 8, 8, 8, 8, 8, 8, 8, 8, 8, 8, 8, 8, 8, 8, 8, 8, 8, 8, 8, 8, 8, 8, 8, 8, 8, 8, 8, 8, 8, 8, 8, 8, 8, 8, 8, 8, 8, 8, 8, 8, 8, 8, 8, 8, 8, 8, 8, 8, 8, 8, 8, 8, 8, 8, 8, 8, 8, 8, 8, 8, 8, 8, 8, 8, 8, 8, 8, 8, 8, 8, 8, 8, 8]⟩) t18) fun t19 =>
 oCv .i64 t19 fun t20 =>
 oInt .add .i64 t16 t20 fun t21 =>
 k t21 m12) fun j13 =>
 oIf t10 (oOpt (abin Tryd.prog .shr 79 t6 (.int .u64 (.ofNat 8))) fun t22 =>
 oInt .add .i64 t8 (.int .i64 (.ofNat 8)) fun t23 =>
 j13 [t22, t23] m4) (j13 [t6, t8] m4)) fun j5 =>
 oIf t2 (oOpt (abin Tryd.prog .shr 79 t0 (.int .u64 (.ofNat 16))) fun t24 =>
 j5 [t24, (.int .i64 (.ofNat 16))] m) (j5 [t0, (.int .i64 (.ofNat 0))] m))
theorem S89_ok (lf : Nat) (cK : CallK β) (args : List Value) (L : Nat) (m : Mem) (k : Value → Mem → Option β)  : S89 lf cK args L m k = denF Tryd.prog 1 K89 lf cK 89 args L m k := by kernel_rfl

/-- math/bits.Len64 -/
def K90 : Kat := [(20, (0, [0, 2])), (44, (0, [0, 2])), (92, (0, [0, 2]))]
noncomputable def S90 (lf : Nat) : FnK β := fun call args L m k =>
 uc args fun t0 l1 =>
 un0 l1 (oInt .geq .u64 t0 (.int .u64 (.ofNat 4294967296)) fun t2 =>
 join (fun l3 m4 =>
 uc l3 fun t6 l7 =>
 uc l7 fun t8 l9 =>
 oInt .geq .u64 t6 (.int .u64 (.ofNat 65536)) fun t10 =>
 join (fun l11 m12 =>
 uc l11 fun t14 l15 =>
 uc l15 fun t16 l17 =>
 oInt .geq .u64 t14 (.int .u64 (.ofNat 256)) fun t18 =>
 join (fun l19 m20 =>
 uc l19 fun t22 l23 =>
 uc l23 fun t24 l25 =>
 oCv .u8 t22 fun t26 =>
 oOpt (aindex Tryd.prog 9 (.string ⟨#[0, 1, 2, 2, 3, 3, 3, 3, 4, 4, 4, 4, 4, 4, 4, 4, 5, 5, 5, 5, 5, 5, 5, 5, 5, 5, 5, 5, 5, 5, 5, 5, 6, 6, 6, 6, 6, 6, 6, 6, 6, 6, 6, 6, 6, 6, 6, 6, 6, 6, 6, 6, 6, 6, 6, 6, 6, 6, 6, 6, 6, 6, 6, 6, 7, 7, 7, 7, 7, 7, 7, 7, 7, 7, 7, 7, 7, 7, 7, 7, 7, 7, 7, 7, 7, 7, 7, 7, 7, 7, 7, 7, 7, 7, 7, 7, 7, 7, 7, 7, 7, 7, 7, 7, 7, 7, 7, 7, 7, 7, 7, 7, 7, 7, 7, 7, 7, 7, 7, 7, 7, 7, 7, 7, 7, 7, 7, 7, 8, 8, 8, 8, 8, 8, 8, 8, 8, 8, 8, 8, 8, 8, 8, 8, 8, 8, 8, 8, 8, 8, 8, 8, 8, 8, 8, 8, 8, 8, 8, 8, 8, 8, 8, 8, 8, 8, 8, 8, 8, 8, 8, 8, 8, 8, 8, 8, 8, 8, 8, 8, 8, 8, 8, 8, 8, 8, 8, 8, 8, 8, 8, 8, 8, 8, 8, 8, 8, 8, 8, 8, 8, 8, 8, 8, 8, 8, 8, 8, 8, 8, 8, 8, 8, 8, 8, 8, 8, 8, 8, 8, 8, 8, 8, 8, 8, 8, 8, 8, 8, 8, 8, 8, 8, 8, 8, 8, 8, 8, 8, 8, 8, 8, 8, 8, 8, 8, 8, 8, 8, 8, 8, 8, 8, 8, 8, 8]⟩) t26) fun t27 =>
 oCv .i64 t27 fun t28 =>
 oInt .add .i64 t24 t28 fun t29 =>
 k t29 m20) fun j21 =>
 oIf t18 (oOpt (abin Tryd.prog .shr 113 t14 (.int .u64 (.ofNat 8))) fun t30 =>
 oInt .add .i64 t16 (.int .i64 (.ofNat 8)) fun t31 =>
 j21 [t30, t31] m12) (j21 [t14, t16] m12)) fun j13 =>
 oIf t10 (oOpt (abin Tryd.prog .shr 113 t6 (.int .u64 (.ofNat 16))) fun t32 =>
 oInt .add .i64 t8 (.int .i64 (.ofNat 16)) fun t33 =>
 j13 [t32, t33] m4) (j13 [t6, t8] m4)) fun j5 =>
 oIf t2 (oOpt (abin Tryd.prog .shr 113 t0 (.int .u64 (.ofNat 32))) fun t34 =>
 j5 [t34, (.int .i64 (.ofNat 32))] m) (j5 [t0, (.int .i64 (.ofNat 0))] m))
theorem S90_ok (lf : Nat) (cK : CallK β) (args : List Value) (L : Nat) (m : Mem) (k : Value → Mem → Option β)  : S90 lf cK args L m k = denF Tryd.prog 1 K90 lf cK 90 args L m k := by kernel_rfl

end
end Go.Vit
