/- Shallow texts of the seat's functions, printed by a program: part 7. -/
import Derived.Test.YtffomiamkiakcaaRows
import Derived.Test.YtffomiamkiakcaaFs
set_option linter.unusedVariables false
set_option maxRecDepth 100000
namespace Go.Vit
open Go Go.Proofs
section
variable {β : Type}
/-- math/bits.Len64 -/
def K117 : Kat := [(20, (0, [0, 2])), (44, (0, [0, 2])), (92, (0, [0, 2]))]
noncomputable def S117 (lf : Nat) : FnK β := fun call args L m k =>
 uc args fun t0 l1 =>
 un0 l1 (oInt .geq .u64 t0 (.int .u64 (.ofNat 4294967296)) fun t2 =>
 join (fun l3 m4 =>
 uc l3 fun t6 l7 =>
 uc l7 fun t8 l9 =>
 oInt .geq .u64 t6 (.int .u64 (.ofNat 65536)) fun t10 =>
 join (fun l11 m12 =>
 uc l11 fun t14 l15 =>
 uc l15 fun t16 l17 =>
 oInt .geq .u64 t14 (.int .u64 (.ofNat 256)) fun t18 =>
 join (fun l19 m20 =>
 uc l19 fun t22 l23 =>
 uc l23 fun t24 l25 =>
 oCv .u8 t22 fun t26 =>
 oOpt (aindex Try.prog 9 (.string ⟨#[0, 1, 2, 2, 3, 3, 3, 3, 4, 4, 4, 4, 4, 4, 4, 4, 5, 5, 5, 5, 5, 5, 5, 5, 5, 5, 5, 5, 5, 5, 5, 5, 6, 6, 6, 6, 6, 6, 6, 6, 6, 6, 6, 6, 6, 6, 6, 6, 6, 6, 6, 6, 6, 6, 6, 6, 6, 6, 6, 6, 6, 6, 6, 6, 7, 7, 7, 7, 7, 7, 7, 7, 7, 7, 7, 7, 7, 7, 7, 7, 7, 7, 7, 7, 7, 7, 7, 7, 7, 7, 7, 7, 7, 7, 7, 7, 7, 7, 7, 7, 7, 7, 7, 7, 7, 7, 7, 7, 7, 7, 7, 7, 7, 7, 7, 7, 7, 7, 7, 7, 7, 7, 7, 7, 7, 7, 7, 7, 8, 8, 8, 8, 8, 8, 8, 8, 8, 8, 8, 8, 8, 8, 8, 8, 8, 8, 8, 8, 8, 8, 8, 8, 8, 8, 8, 8, 8, 8, 8, 8, 8, 8, 8, 8, 8, 8, 8, 8, 8, 8, 8, 8, 8, 8, 8, 8, 8, 8, 8, 8, 8, 8, 8, 8, 8, 8, 8, 8, 8, 8, 8, 8, 8, 8, 8, 8, 8, 8, 8, 8, 8, 8, 8, 8, 8, 8, 8, 8, 8, 8, 8, 8, 8, 8, 8, 8, 8, 8, 8, 8, 8, 8, 8, 8, 8, 8, 8, 8, 8, 8, 8, 8, 8, 8, 8, 8, 8, 8, 8, 8, 8, 8, 8, 8, 8, 8, 8, 8, 8, 8, 8, 8, 8, 8, 8, 8]⟩) t26) fun t27 =>
 oCv .i64 t27 fun t28 =>
 oInt .add .i64 t24 t28 fun t29 =>
 k t29 m20) fun j21 =>
 oIf t18 (oOpt (abin Try.prog .shr 123 t14 (.int .u64 (.ofNat 8))) fun t30 =>
 oInt .add .i64 t16 (.int .i64 (.ofNat 8)) fun t31 =>
 j21 [t30, t31] m12) (j21 [t14, t16] m12)) fun j13 =>
 oIf t10 (oOpt (abin Try.prog .shr 123 t6 (.int .u64 (.ofNat 16))) fun t32 =>
 oInt .add .i64 t8 (.int .i64 (.ofNat 16)) fun t33 =>
 j13 [t32, t33] m4) (j13 [t6, t8] m4)) fun j5 =>
 oIf t2 (oOpt (abin Try.prog .shr 123 t0 (.int .u64 (.ofNat 32))) fun t34 =>
 j5 [t34, (.int .i64 (.ofNat 32))] m) (j5 [t0, (.int .i64 (.ofNat 0))] m))
theorem S117_ok (lf : Nat) (cK : CallK β) (args : List Value) (L : Nat) (m : Mem) (k : Value → Mem → Option β)  : S117 lf cK args L m k = denF Try.prog fsT 0 K117 lf cK 117 args L m k := by kernel_rfl

/-- slices.Concat[[]int,int] -/
def K118 : Kat := [(89, (0, [3, 11])), (23142, (0, [])), (377, (0, [6, 27]))]
noncomputable def S118 (lf : Nat) : FnK β := fun call args L m k =>
 uc args fun t0 l1 =>
 un0 l1 (oOpt (ln t0) fun t2 =>
 loopS (fun j5 l3 m4 =>
 uc l3 fun t6 l7 =>
 uc l7 fun t8 l9 =>
 oInt .lss .i64 t8 t2 fun t10 =>
 oIf t10 (oOpt (ia 1 t0 t8) fun t11 =>
 oOpt (ld1 m4 t11) fun t12 =>
 oOpt (ln t12) fun t13 =>
 oInt .add .i64 t6 t13 fun t14 =>
 oInt .lss .i64 t14 (.int .i64 (.ofNat 0)) fun t15 =>
 join (fun l16 m17 =>
 oInt .add .i64 t8 (.int .i64 (.ofNat 1)) fun t19 =>
 j5 [t14, t19] m17) fun j18 =>
 oIf t15 (oOpt (aiface Try.prog 9 (.string ⟨#[108, 101, 110, 32, 111, 117, 116, 32, 111, 102, 32, 114, 97, 110, 103, 101]⟩)) fun t20 =>
 none) (j18 [] m4)) (call 125 [(.slice none 0 0), t6] L m4 fun t21 m22 =>
 oOpt (ln t0) fun t23 =>
 loopS (fun j26 l24 m25 =>
 uc l24 fun t27 l28 =>
 uc l28 fun t29 l30 =>
 oInt .lss .i64 t29 t23 fun t31 =>
 oIf t31 (oOpt (ia 1 t0 t29) fun t32 =>
 oOpt (ld1 m25 t32) fun t33 =>
 oRes (aappend Try.prog L m25 22 t27 t33) fun t34 m35 =>
 oInt .add .i64 t29 (.int .i64 (.ofNat 1)) fun t36 =>
 j26 [t34, t36] m35) (k t27 m25)) lf [t21, (.int .i64 (.ofNat 0))] m22)) lf [(.int .i64 (.ofNat 0)), (.int .i64 (.ofNat 0))] m)
theorem S118_ok (lf : Nat) (cK : CallK β) (args : List Value) (L : Nat) (m : Mem) (k : Value → Mem → Option β)  : S118 lf cK args L m k = denF Try.prog fsT 0 K118 lf cK 118 args L m k := by kernel_rfl

/-- cmp.isNaN[int] -/
def K124 : Kat := []
noncomputable def S124 (lf : Nat) : FnK β := fun call args L m k =>
 uc args fun t0 l1 =>
 un0 l1 (oInt .neq .i64 t0 t0 fun t2 =>
 k t2 m)
theorem S124_ok (lf : Nat) (cK : CallK β) (args : List Value) (L : Nat) (m : Mem) (k : Value → Mem → Option β)  : S124 lf cK args L m k = denF Try.prog fsT 0 K124 lf cK 124 args L m k := by kernel_rfl

/-- slices.Grow[[]int,int] -/
def K125 : Kat := [(20, (0, [])), (90, (0, [0]))]
noncomputable def S125 (lf : Nat) : FnK β := fun call args L m k =>
 uc args fun t0 l1 =>
 uc l1 fun t2 l3 =>
 un0 l3 (oInt .lss .i64 t2 (.int .i64 (.ofNat 0)) fun t4 =>
 join (fun l5 m6 =>
 oOpt (abuiltin Try.prog .cap #[22] [t0]) fun t8 =>
 oOpt (ln t0) fun t9 =>
 oInt .sub .i64 t8 t9 fun t10 =>
 oInt .sub .i64 t2 t10 fun t11 =>
 oInt .gtr .i64 t11 (.int .i64 (.ofNat 0)) fun t12 =>
 join (fun l13 m14 =>
 uc l13 fun t16 l17 =>
 k t16 m14) fun j15 =>
 oIf t12 (oOpt (abuiltin Try.prog .cap #[22] [t0]) fun t18 =>
 oOpt (sl Try.prog 22 t0 none (some t18) none) fun t19 =>
 oRes (aappendZ Try.prog m6 22 3 t19 t11) fun t20 m21 =>
 oOpt (ln t0) fun t22 =>
 oOpt (sl Try.prog 22 t20 none (some t22) none) fun t23 =>
 j15 [t23] m21) (j15 [t0] m6)) fun j7 =>
 oIf t4 (oOpt (aiface Try.prog 9 (.string ⟨#[99, 97, 110, 110, 111, 116, 32, 98, 101, 32, 110, 101, 103, 97, 116, 105, 118, 101]⟩)) fun t24 =>
 none) (j7 [] m))
theorem S125_ok (lf : Nat) (cK : CallK β) (args : List Value) (L : Nat) (m : Mem) (k : Value → Mem → Option β)  : S125 lf cK args L m k = denF Try.prog fsT 0 K125 lf cK 125 args L m k := by kernel_rfl

/-- slices.AppendSeq[[]int,int]: a round of its range over a function -/
def KR101 : Kat := []
noncomputable def R101 (lf : Nat) : FnK β := fun call args L m k =>
 uc args fun yv args =>
 oYv yv L fun y =>
 uc args fun t0 l1 =>
 uc l1 fun t2 l3 =>
 un0 l3 (oBusy 101 y m fun m4 =>
 oOpt (ld1 m4 t0) fun t5 =>
 oRes (bs Try.prog m4 22 1 [(0, t2)]) fun t6 m7 =>
 oRes (aappend Try.prog L m7 22 t5 t6) fun t8 m9 =>
 oRes (st1 1 L m9 t0 t8) fun t10 m11 =>
 oReady 101 y m11 fun m12 =>
 k (.bool true) m12)
theorem R101_ok (lf : Nat) (cK : CallK β) (args : List Value) (L : Nat) (m : Mem) (k : Value → Mem → Option β)  : R101 lf cK args L m k = denR Try.prog (ltab Try.prog fsT) 0 KR101 lf cK 101 args L m k := by kernel_rfl

end
end Go.Vit
