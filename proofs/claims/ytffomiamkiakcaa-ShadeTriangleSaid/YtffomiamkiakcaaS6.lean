/- Shallow texts of the seat's functions, printed by a program: part 6. -/
import Derived.Test.YtffomiamkiakcaaRows
import Derived.Test.YtffomiamkiakcaaFs
set_option linter.unusedVariables false
set_option maxRecDepth 100000
namespace Go.Vit
open Go Go.Proofs
section
variable {β : Type}
/-- slices.Clip[[]int,int] -/
def K91 : Kat := []
noncomputable def S91 (lf : Nat) : FnK β := fun call args L m k =>
 uc args fun t0 l1 =>
 un0 l1 (oOpt (ln t0) fun t2 =>
 oOpt (ln t0) fun t3 =>
 oOpt (sl Try.prog 22 t0 none (some t2) (some t3)) fun t4 =>
 k t4 m)
theorem S91_ok (lf : Nat) (cK : CallK β) (args : List Value) (L : Nat) (m : Mem) (k : Value → Mem → Option β)  : S91 lf cK args L m k = denF Try.prog fsT 0 K91 lf cK 91 args L m k := by kernel_rfl

/-- slices.Max[[]int,int] -/
def K92 : Kat := [(20, (0, [])), (185, (0, [3, 4]))]
noncomputable def S92 (lf : Nat) : FnK β := fun call args L m k =>
 uc args fun t0 l1 =>
 un0 l1 (oOpt (ln t0) fun t2 =>
 oInt .lss .i64 t2 (.int .i64 (.ofNat 1)) fun t3 =>
 join (fun l4 m5 =>
 oOpt (ia 1 t0 (.int .i64 (.ofNat 0))) fun t7 =>
 oOpt (ld1 m5 t7) fun t8 =>
 loopS (fun j11 l9 m10 =>
 uc l9 fun t12 l13 =>
 uc l13 fun t14 l15 =>
 oOpt (ln t0) fun t16 =>
 oInt .lss .i64 t14 t16 fun t17 =>
 oIf t17 (oOpt (ia 1 t0 t14) fun t18 =>
 oOpt (ld1 m10 t18) fun t19 =>
 oOpt (abuiltin Try.prog .max #[3, 3] [t12, t19]) fun t20 =>
 oInt .add .i64 t14 (.int .i64 (.ofNat 1)) fun t21 =>
 j11 [t20, t21] m10) (k t12 m10)) lf [t8, (.int .i64 (.ofNat 1))] m5) fun j6 =>
 oIf t3 (oOpt (aiface Try.prog 9 (.string ⟨#[115, 108, 105, 99, 101, 115, 46, 77, 97, 120, 58, 32, 101, 109, 112, 116, 121, 32, 108, 105, 115, 116]⟩)) fun t22 =>
 none) (j6 [] m))
theorem S92_ok (lf : Nat) (cK : CallK β) (args : List Value) (L : Nat) (m : Mem) (k : Value → Mem → Option β)  : S92 lf cK args L m k = denF Try.prog fsT 0 K92 lf cK 92 args L m k := by kernel_rfl

/-- vitola/shade.steps -/
def K93 : Kat := [(19, (1, [11])), (20, (0, [0])), (185, (0, [5, 6]))]
noncomputable def S93 (lf : Nat) : FnK β := fun call args L m k =>
 uc args fun t0 l1 =>
 uc l1 fun t2 l3 =>
 un0 l3 (join (fun l4 m5 =>
 uc l4 fun t7 l8 =>
 oPick t2 t7 (.bool false) fun t9 =>
 join (fun l10 m11 =>
 uc l10 fun t13 l14 =>
 loopS (fun j17 l15 m16 =>
 uc l15 fun t18 l19 =>
 uc l19 fun t20 l21 =>
 oOpt (ln t13) fun t22 =>
 oInt .lss .i64 t20 t22 fun t23 =>
 oIf t23 (oInt .sub .i64 t20 (.int .i64 (.ofNat 1)) fun t24 =>
 oOpt (ia 1 t13 t24) fun t25 =>
 oOpt (ld1 m16 t25) fun t26 =>
 oOpt (ia 1 t13 t20) fun t27 =>
 oOpt (ld1 m16 t27) fun t28 =>
 call 105 [t26, t28] L m16 fun t29 m30 =>
 oRes (bs Try.prog m30 22 1 [(0, t29)]) fun t31 m32 =>
 oRes (aappend Try.prog L m32 22 t18 t31) fun t33 m34 =>
 oInt .add .i64 t20 (.int .i64 (.ofNat 1)) fun t35 =>
 j17 [t33, t35] m34) (k t18 m16)) lf [(.slice none 0 0), (.int .i64 (.ofNat 1))] m11) fun j12 =>
 oIf t9 (oOpt (sl Try.prog 22 t0 none (some (.int .i64 (.ofNat 1))) none) fun t36 =>
 oRes (bs Try.prog m5 63 2 [(0, t0), (1, t36)]) fun t37 m38 =>
 call 104 [t37] L m38 fun t39 m40 =>
 j12 [t39] m40) (j12 [t0] m5)) fun j6 =>
 oGT t2 (oOpt (ln t0) fun t41 =>
 oInt .gtr .i64 t41 (.int .i64 (.ofNat 1)) fun t42 =>
 j6 [t42] m) (j6 [Go.undef] m))
theorem S93_ok (lf : Nat) (cK : CallK β) (args : List Value) (L : Nat) (m : Mem) (k : Value → Mem → Option β)  : S93 lf cK args L m k = denF Try.prog fsT 0 K93 lf cK 93 args L m k := by kernel_rfl

/-- vitola/vitolaref07.steps -/
def K94 : Kat := [(89, (0, [5, 6])), (91, (1, [42])), (92, (0, [5]))]
noncomputable def S94 (lf : Nat) : FnK β := fun call args L m k =>
 uc args fun t0 l1 =>
 uc l1 fun t2 l3 =>
 un0 l3 (loopS (fun j6 l4 m5 =>
 uc l4 fun t7 l8 =>
 uc l8 fun t9 l10 =>
 oInt .add .i64 t9 (.int .i64 (.ofNat 1)) fun t11 =>
 oOpt (ln t0) fun t12 =>
 oInt .lss .i64 t11 t12 fun t13 =>
 oIf t13 (oOpt (ia 1 t0 t9) fun t14 =>
 oOpt (ld1 m5 t14) fun t15 =>
 oInt .add .i64 t9 (.int .i64 (.ofNat 1)) fun t16 =>
 oOpt (ia 1 t0 t16) fun t17 =>
 oOpt (ld1 m5 t17) fun t18 =>
 oOpt (abuiltin Try.prog .max #[3, 3] [t15, t18]) fun t19 =>
 oOpt (ia 1 t0 t9) fun t20 =>
 oOpt (ld1 m5 t20) fun t21 =>
 oInt .add .i64 t9 (.int .i64 (.ofNat 1)) fun t22 =>
 oOpt (ia 1 t0 t22) fun t23 =>
 oOpt (ld1 m5 t23) fun t24 =>
 oOpt (abuiltin Try.prog .min #[3, 3] [t21, t24]) fun t25 =>
 oInt .sub .i64 t19 t25 fun t26 =>
 oRes (bs Try.prog m5 22 1 [(0, t26)]) fun t27 m28 =>
 oRes (aappend Try.prog L m28 22 t7 t27) fun t29 m30 =>
 oInt .add .i64 t9 (.int .i64 (.ofNat 1)) fun t31 =>
 j6 [t29, t31] m30) (join (fun l32 m33 =>
 uc l32 fun t35 l36 =>
 oPick t2 t35 (.bool false) fun t37 =>
 join (fun l38 m39 =>
 uc l38 fun t41 l42 =>
 k t41 m39) fun j40 =>
 oIf t37 (oOpt (ia 1 t0 (.int .i64 (.ofNat 0))) fun t43 =>
 oOpt (ld1 m33 t43) fun t44 =>
 oOpt (ln t0) fun t45 =>
 oInt .sub .i64 t45 (.int .i64 (.ofNat 1)) fun t46 =>
 oOpt (ia 1 t0 t46) fun t47 =>
 oOpt (ld1 m33 t47) fun t48 =>
 oOpt (abuiltin Try.prog .max #[3, 3] [t44, t48]) fun t49 =>
 oOpt (ia 1 t0 (.int .i64 (.ofNat 0))) fun t50 =>
 oOpt (ld1 m33 t50) fun t51 =>
 oOpt (ln t0) fun t52 =>
 oInt .sub .i64 t52 (.int .i64 (.ofNat 1)) fun t53 =>
 oOpt (ia 1 t0 t53) fun t54 =>
 oOpt (ld1 m33 t54) fun t55 =>
 oOpt (abuiltin Try.prog .min #[3, 3] [t51, t55]) fun t56 =>
 oInt .sub .i64 t49 t56 fun t57 =>
 oRes (bs Try.prog m33 22 1 [(0, t57)]) fun t58 m59 =>
 oRes (aappend Try.prog L m59 22 t7 t58) fun t60 m61 =>
 j40 [t60] m61) (j40 [t7] m33)) fun j34 =>
 oGT t2 (oOpt (ln t0) fun t62 =>
 oInt .gtr .i64 t62 (.int .i64 (.ofNat 1)) fun t63 =>
 j34 [t63] m5) (j34 [Go.undef] m5))) lf [(.slice none 0 0), (.int .i64 (.ofNat 0))] m)
theorem S94_ok (lf : Nat) (cK : CallK β) (args : List Value) (L : Nat) (m : Mem) (k : Value → Mem → Option β)  : S94 lf cK args L m k = denF Try.prog fsT 0 K94 lf cK 94 args L m k := by kernel_rfl

/-- vitola/vitolaref07.all -/
def K95 : Kat := [(185, (0, [5, 6])), (5960, (0, [5]))]
noncomputable def S95 (lf : Nat) : FnK β := fun call args L m k =>
 uc args fun t0 l1 =>
 uc l1 fun t2 l3 =>
 un0 l3 (oOpt (ln t2) fun t4 =>
 oInt .eql .i64 t4 (.int .i64 (.ofNat 0)) fun t5 =>
 oIf t5 (oRes (bs Try.prog m 63 1 [(0, t0)]) fun t6 m7 =>
 k t6 m7) (loopS (fun j10 l8 m9 =>
 uc l8 fun t11 l12 =>
 uc l12 fun t13 l14 =>
 oOpt (ln t2) fun t15 =>
 oInt .lss .i64 t13 t15 fun t16 =>
 oIf t16 (oOpt (sl Try.prog 22 t2 none (some t13) none) fun t17 =>
 oOpt (ia 1 t2 t13) fun t18 =>
 oOpt (ld1 m9 t18) fun t19 =>
 call 79 [t17, t19] L m9 fun t20 m21 =>
 oOpt (aun .not t20) fun t22 =>
 join (fun l23 m24 =>
 uc l23 fun t26 l27 =>
 oInt .add .i64 t13 (.int .i64 (.ofNat 1)) fun t28 =>
 j10 [t26, t28] m24) fun j25 =>
 oIf t22 (oRes (bs Try.prog m21 22 0 []) fun t29 m30 =>
 oRes (aappend Try.prog m30.next m30 22 t29 t0) fun t31 m32 =>
 oOpt (ia 1 t2 t13) fun t33 =>
 oOpt (ld1 m32 t33) fun t34 =>
 oRes (bs Try.prog m32 22 1 [(0, t34)]) fun t35 m36 =>
 oRes (aappend Try.prog L m36 22 t31 t35) fun t37 m38 =>
 call 106 [t2, t13] L m38 fun t39 m40 =>
 call 95 [t37, t39] L m40 fun t41 m42 =>
 oRes (aappend Try.prog L m42 63 t11 t41) fun t43 m44 =>
 j25 [t43] m44) (j25 [t11] m21)) (k t11 m9)) lf [(.slice none 0 0), (.int .i64 (.ofNat 0))] m))
theorem S95_ok (lf : Nat) (cK : CallK β) (args : List Value) (L : Nat) (m : Mem) (k : Value → Mem → Option β)  : S95 lf cK args L m k = denF Try.prog fsT 0 K95 lf cK 95 args L m k := by kernel_rfl

/-- vitola/vitolaref07.smaller -/
def K96 : Kat := [(41, (0, [5]))]
noncomputable def S96 (lf : Nat) : FnK β := fun call args L m k =>
 uc args fun t0 l1 =>
 uc l1 fun t2 l3 =>
 un0 l3 (loopS (fun j6 l4 m5 =>
 uc l4 fun t7 l8 =>
 oOpt (ln t0) fun t9 =>
 oInt .lss .i64 t7 t9 fun t10 =>
 oIf t10 (oOpt (ia 1 t0 t7) fun t11 =>
 oOpt (ld1 m5 t11) fun t12 =>
 oOpt (ia 1 t2 t7) fun t13 =>
 oOpt (ld1 m5 t13) fun t14 =>
 oInt .neq .i64 t12 t14 fun t15 =>
 oIf t15 (oOpt (ia 1 t0 t7) fun t16 =>
 oOpt (ld1 m5 t16) fun t17 =>
 oOpt (ia 1 t2 t7) fun t18 =>
 oOpt (ld1 m5 t18) fun t19 =>
 oInt .lss .i64 t17 t19 fun t20 =>
 k t20 m5) (oInt .add .i64 t7 (.int .i64 (.ofNat 1)) fun t21 =>
 j6 [t21] m5)) (k (.bool false) m5)) lf [(.int .i64 (.ofNat 0))] m)
theorem S96_ok (lf : Nat) (cK : CallK β) (args : List Value) (L : Nat) (m : Mem) (k : Value → Mem → Option β)  : S96 lf cK args L m k = denF Try.prog fsT 0 K96 lf cK 96 args L m k := by kernel_rfl

/-- (*vitola/shade.filler).ends -/
def K97 : Kat := [(761, (0, [12, 72])), (97586, (0, [12]))]
noncomputable def S97 (lf : Nat) : FnK β := fun call args L m k =>
 uc args fun t0 l1 =>
 uc l1 fun t2 l3 =>
 uc l3 fun t4 l5 =>
 uc l5 fun t6 l7 =>
 un0 l7 (oInt .eql .i64 t6 (.int .i64 (.ofNat 0)) fun t8 =>
 oIf t8 (oOpt (anil t0) fun t9 =>
 oOpt (fa 0 t9) fun t10 =>
 oOpt (ld1 m t10) fun t11 =>
 oOpt (anil t11) fun t12 =>
 oOpt (fa 1 t12) fun t13 =>
 oOpt (ld1 m t13) fun t14 =>
 oIf t14 (oOpt (anil t0) fun t15 =>
 oOpt (fa 1 t15) fun t16 =>
 oOpt (ld1 m t16) fun t17 =>
 oOpt (anil t0) fun t18 =>
 oOpt (fa 0 t18) fun t19 =>
 oOpt (ld1 m t19) fun t20 =>
 oOpt (anil t20) fun t21 =>
 oOpt (fa 0 t21) fun t22 =>
 oOpt (ld1 m t22) fun t23 =>
 oOpt (ia 1 t23 t4) fun t24 =>
 oOpt (ld1 m t24) fun t25 =>
 oOpt (anil t0) fun t26 =>
 oOpt (fa 0 t26) fun t27 =>
 oOpt (ld1 m t27) fun t28 =>
 oOpt (anil t28) fun t29 =>
 oOpt (fa 0 t29) fun t30 =>
 oOpt (ld1 m t30) fun t31 =>
 oOpt (ia 1 t31 t2) fun t32 =>
 oOpt (ld1 m t32) fun t33 =>
 call 105 [t25, t33] L m fun t34 m35 =>
 oSm m m35 t16 (
 oCallV call t17 [(.int .i64 (.ofNat 0)), t34] L m35 fun t36 m37 =>
 k t36 m37)) (k (.int .i64 (.ofNat 0)) m)) (oOpt (bu Try.prog 111 [(0, t2), (1, t4), (2, t6)]) fun t38 =>
 oRes (anew m 1 [(.int .i64 (.ofNat 0)), (.int .i64 (.ofNat 0)), (.int .i64 (.ofNat 0))] ptrTo) fun t39 m40 =>
 oRes (st1 3 L m40 t39 t38) fun t41 m42 =>
 oOpt (anil t0) fun t43 =>
 oOpt (fa 2 t43) fun t44 =>
 oOpt (ld1 m42 t44) fun t45 =>
 oOpt (ldN m42 3 t39) fun t46 =>
 oOpt (alookup Try.prog m42 100 t45 t46 true) fun t47 =>
 oOpt (aextract t47 0) fun t48 =>
 oOpt (aextract t47 1) fun t49 =>
 oIf t49 (k t48 m42) (oOpt (anil t0) fun t50 =>
 oOpt (fa 0 t50) fun t51 =>
 oOpt (ld1 m42 t51) fun t52 =>
 oOpt (anil t52) fun t53 =>
 oOpt (fa 0 t53) fun t54 =>
 oOpt (ld1 m42 t54) fun t55 =>
 oOpt (ln t55) fun t56 =>
 loopS (fun j59 l57 m58 =>
 uc l57 fun t60 l61 =>
 uc l61 fun t62 l63 =>
 oInt .lss .i64 t62 t56 fun t64 =>
 oIf t64 (oOpt (abin Try.prog .shr 3 t6 t62) fun t65 =>
 oInt .and .i64 t65 (.int .i64 (.ofNat 1)) fun t66 =>
 oInt .eql .i64 t66 (.int .i64 (.ofNat 1)) fun t67 =>
 join (fun l68 m69 =>
 uc l68 fun t71 l72 =>
 oInt .add .i64 t62 (.int .i64 (.ofNat 1)) fun t73 =>
 j59 [t71, t73] m69) fun j70 =>
 oIf t67 (oOpt (abin Try.prog .shl 3 (.int .i64 (.ofNat 1)) t62) fun t74 =>
 oInt .andNot .i64 t6 t74 fun t75 =>
 call 97 [t0, t2, t62, t75] L m58 fun t76 m77 =>
 call 98 [t0, t4, t62, t76] L m77 fun t78 m79 =>
 oOpt (abuiltin Try.prog .max #[3, 3] [t60, t78]) fun t80 =>
 j70 [t80] m79) (j70 [t60] m58)) (oOpt (anil t0) fun t81 =>
 oOpt (fa 2 t81) fun t82 =>
 oOpt (ld1 m58 t82) fun t83 =>
 oOpt (ldN m58 3 t39) fun t84 =>
 oRes (amapUpdate Try.prog L m58 100 t83 t84 t60) fun t85 m86 =>
 k t60 m86)) lf [(.int .i64 (.negSucc 0)), (.int .i64 (.ofNat 0))] m42)))
theorem S97_ok (lf : Nat) (cK : CallK β) (args : List Value) (L : Nat) (m : Mem) (k : Value → Mem → Option β)  : S97 lf cK args L m k = denF Try.prog fsT 0 K97 lf cK 97 args L m k := by kernel_rfl

/-- (*vitola/shade.filler).step -/
def K98 : Kat := []
noncomputable def S98 (lf : Nat) : FnK β := fun call args L m k =>
 uc args fun t0 l1 =>
 uc l1 fun t2 l3 =>
 uc l3 fun t4 l5 =>
 uc l5 fun t6 l7 =>
 un0 l7 (oInt .eql .i64 t6 (.int .i64 (.negSucc 0)) fun t8 =>
 oIf t8 (k (.int .i64 (.negSucc 0)) m) (oOpt (anil t0) fun t9 =>
 oOpt (fa 1 t9) fun t10 =>
 oOpt (ld1 m t10) fun t11 =>
 oOpt (anil t0) fun t12 =>
 oOpt (fa 0 t12) fun t13 =>
 oOpt (ld1 m t13) fun t14 =>
 oOpt (anil t14) fun t15 =>
 oOpt (fa 0 t15) fun t16 =>
 oOpt (ld1 m t16) fun t17 =>
 oOpt (ia 1 t17 t2) fun t18 =>
 oOpt (ld1 m t18) fun t19 =>
 oOpt (anil t0) fun t20 =>
 oOpt (fa 0 t20) fun t21 =>
 oOpt (ld1 m t21) fun t22 =>
 oOpt (anil t22) fun t23 =>
 oOpt (fa 0 t23) fun t24 =>
 oOpt (ld1 m t24) fun t25 =>
 oOpt (ia 1 t25 t4) fun t26 =>
 oOpt (ld1 m t26) fun t27 =>
 call 105 [t19, t27] L m fun t28 m29 =>
 oSm m m29 t10 (
 oCallV call t11 [t6, t28] L m29 fun t30 m31 =>
 k t30 m31)))
theorem S98_ok (lf : Nat) (cK : CallK β) (args : List Value) (L : Nat) (m : Mem) (k : Value → Mem → Option β)  : S98 lf cK args L m k = denF Try.prog fsT 0 K98 lf cK 98 args L m k := by kernel_rfl

/-- vitola/shade.order$1 -/
def K99 : Kat := []
noncomputable def S99 (lf : Nat) : FnK β := fun call args L m k =>
 uc args fun t0 l1 =>
 uc l1 fun t2 l3 =>
 uc l3 fun t4 l5 =>
 uc l5 fun t6 l7 =>
 un0 l7 (oOpt (ld1 m t4) fun t8 =>
 oOpt (ln t8) fun t9 =>
 oInt .sub .i64 t9 (.int .i64 (.ofNat 1)) fun t10 =>
 call 66 [t2, (.int .i64 (.ofNat 0)), t10] L m fun t11 m12 =>
 oOpt (aun .not t11) fun t13 =>
 oIf t13 (k (.int .i64 (.ofNat 2)) m12) (oOpt (iaA 9 1 t6 t2) fun t14 =>
 oOpt (ld1 m12 t14) fun t15 =>
 oIf t15 (k (.int .i64 (.ofNat 6)) m12) (oOpt (iaA 9 1 t6 t2) fun t16 =>
 oRes (st1 1 L m12 t16 (.bool true)) fun t17 m18 =>
 k (.int .i64 (.ofNat 0)) m18)))
theorem S99_ok (lf : Nat) (cK : CallK β) (args : List Value) (L : Nat) (m : Mem) (k : Value → Mem → Option β)  : S99 lf cK args L m k = denF Try.prog fsT 0 K99 lf cK 99 args L m k := by kernel_rfl

/-- slices.Delete[[]int,int] -/
def K100 : Kat := []
noncomputable def S100 (lf : Nat) : FnK β := fun call args L m k =>
 uc args fun t0 l1 =>
 uc l1 fun t2 l3 =>
 uc l3 fun t4 l5 =>
 un0 l5 (oOpt (ln t0) fun t6 =>
 oOpt (sl Try.prog 22 t0 (some t2) (some t4) (some t6)) fun t7 =>
 oInt .eql .i64 t2 t4 fun t8 =>
 oIf t8 (k t0 m) (oOpt (ln t0) fun t9 =>
 oOpt (sl Try.prog 22 t0 none (some t2) none) fun t10 =>
 oOpt (sl Try.prog 22 t0 (some t4) none none) fun t11 =>
 oRes (aappend Try.prog L m 22 t10 t11) fun t12 m13 =>
 oOpt (ln t12) fun t14 =>
 oOpt (sl Try.prog 22 t12 (some t14) (some t9) none) fun t15 =>
 oRes (aclear Try.prog L m13 22 t15) fun t16 m17 =>
 k t12 m17))
theorem S100_ok (lf : Nat) (cK : CallK β) (args : List Value) (L : Nat) (m : Mem) (k : Value → Mem → Option β)  : S100 lf cK args L m k = denF Try.prog fsT 0 K100 lf cK 100 args L m k := by kernel_rfl

/-- slices.AppendSeq[[]int,int] -/
def K101 : Kat := []
noncomputable def S101 (lf : Nat) : FnK β := fun call args L m k =>
 uc args fun t0 l1 =>
 uc l1 fun t2 l3 =>
 un0 l3 (oRes (abox m t0) fun t4 m5 =>
 oRange call 101 t2 [t4] L m5 fun m6 =>
 oOpt (ld1 m6 t4) fun t7 =>
 k t7 m6)
theorem S101_ok (lf : Nat) (cK : CallK β) (args : List Value) (L : Nat) (m : Mem) (k : Value → Mem → Option β)  : S101 lf cK args L m k = denF Try.prog fsT 0 K101 lf cK 101 args L m k := by kernel_rfl

/-- math/bits.Len -/
def K103 : Kat := []
noncomputable def S103 (lf : Nat) : FnK β := fun call args L m k =>
 uc args fun t0 l1 =>
 un0 l1 (oIf (.bool false) (oCv .u32 t0 fun t2 =>
 call 116 [t2] L m fun t3 m4 =>
 k t3 m4) (call 117 [t0] L m fun t5 m6 =>
 k t5 m6))
theorem S103_ok (lf : Nat) (cK : CallK β) (args : List Value) (L : Nat) (m : Mem) (k : Value → Mem → Option β)  : S103 lf cK args L m k = denF Try.prog fsT 0 K103 lf cK 103 args L m k := by kernel_rfl

/-- vitola/shade.joined[int] -/
def K104 : Kat := []
noncomputable def S104 (lf : Nat) : FnK β := fun call args L m k =>
 uc args fun t0 l1 =>
 un0 l1 (call 118 [t0] L m fun t2 m3 =>
 k t2 m3)
theorem S104_ok (lf : Nat) (cK : CallK β) (args : List Value) (L : Nat) (m : Mem) (k : Value → Mem → Option β)  : S104 lf cK args L m k = denF Try.prog fsT 0 K104 lf cK 104 args L m k := by kernel_rfl

/-- vitola/shade.apart -/
def K105 : Kat := []
noncomputable def S105 (lf : Nat) : FnK β := fun call args L m k =>
 uc args fun t0 l1 =>
 uc l1 fun t2 l3 =>
 un0 l3 (oInt .sub .i64 t0 t2 fun t4 =>
 oInt .sub .i64 t2 t0 fun t5 =>
 oOpt (abuiltin Try.prog .max #[3, 3] [t4, t5]) fun t6 =>
 k t6 m)
theorem S105_ok (lf : Nat) (cK : CallK β) (args : List Value) (L : Nat) (m : Mem) (k : Value → Mem → Option β)  : S105 lf cK args L m k = denF Try.prog fsT 0 K105 lf cK 105 args L m k := by kernel_rfl

/-- vitola/vitolaref07.without -/
def K106 : Kat := []
noncomputable def S106 (lf : Nat) : FnK β := fun call args L m k =>
 uc args fun t0 l1 =>
 uc l1 fun t2 l3 =>
 un0 l3 (oRes (bs Try.prog m 22 0 []) fun t4 m5 =>
 oOpt (sl Try.prog 22 t0 none (some t2) none) fun t6 =>
 oRes (aappend Try.prog L m5 22 t4 t6) fun t7 m8 =>
 oInt .add .i64 t2 (.int .i64 (.ofNat 1)) fun t9 =>
 oOpt (sl Try.prog 22 t0 (some t9) none none) fun t10 =>
 oRes (aappend Try.prog L m8 22 t7 t10) fun t11 m12 =>
 k t11 m12)
theorem S106_ok (lf : Nat) (cK : CallK β) (args : List Value) (L : Nat) (m : Mem) (k : Value → Mem → Option β)  : S106 lf cK args L m k = denF Try.prog fsT 0 K106 lf cK 106 args L m k := by kernel_rfl

/-- cmp.Less[int] -/
def K113 : Kat := [(9, (1, [10])), (9, (3, [15]))]
noncomputable def S113 (lf : Nat) : FnK β := fun call args L m k =>
 uc args fun t0 l1 =>
 uc l1 fun t2 l3 =>
 un0 l3 (call 124 [t0] L m fun t4 m5 =>
 join (fun l6 m7 =>
 uc l6 fun t9 l10 =>
 oPick t4 t9 (.bool false) fun t11 =>
 join (fun l12 m13 =>
 uc l12 fun t15 l16 =>
 oPick t11 (.bool true) t15 fun t17 =>
 k t17 m13) fun j14 =>
 oGF t11 (oInt .lss .i64 t0 t2 fun t18 =>
 j14 [t18] m7) (j14 [Go.undef] m7)) fun j8 =>
 oGT t4 (call 124 [t2] L m5 fun t19 m20 =>
 oOpt (aun .not t19) fun t21 =>
 j8 [t21] m20) (j8 [Go.undef] m5))
theorem S113_ok (lf : Nat) (cK : CallK β) (args : List Value) (L : Nat) (m : Mem) (k : Value → Mem → Option β)  : S113 lf cK args L m k = denF Try.prog fsT 0 K113 lf cK 113 args L m k := by kernel_rfl

/-- math/bits.Len32 -/
def K116 : Kat := [(20, (0, [0, 2])), (44, (0, [0, 2]))]
noncomputable def S116 (lf : Nat) : FnK β := fun call args L m k =>
 uc args fun t0 l1 =>
 un0 l1 (oInt .geq .u32 t0 (.int .u32 (.ofNat 65536)) fun t2 =>
 join (fun l3 m4 =>
 uc l3 fun t6 l7 =>
 uc l7 fun t8 l9 =>
 oInt .geq .u32 t6 (.int .u32 (.ofNat 256)) fun t10 =>
 join (fun l11 m12 =>
 uc l11 fun t14 l15 =>
 uc l15 fun t16 l17 =>
 oCv .u8 t14 fun t18 =>
 oOpt (aindex Try.prog 9 (.string ⟨#[0, 1, 2, 2, 3, 3, 3, 3, 4, 4, 4, 4, 4, 4, 4, 4, 5, 5, 5, 5, 5, 5, 5, 5, 5, 5, 5, 5, 5, 5, 5, 5, 6, 6, 6, 6, 6, 6, 6, 6, 6, 6, 6, 6, 6, 6, 6, 6, 6, 6, 6, 6, 6, 6, 6, 6, 6, 6, 6, 6, 6, 6, 6, 6, 7, 7, 7, 7, 7, 7, 7, 7, 7, 7, 7, 7, 7, 7, 7, 7, 7, 7, 7, 7, 7, 7, 7, 7, 7, 7, 7, 7, 7, 7, 7, 7, 7, 7, 7, 7, 7, 7, 7, 7, 7, 7, 7, 7, 7, 7, 7, 7, 7, 7, 7, 7, 7, 7, 7, 7, 7, 7, 7, 7, 7, 7, 7, 7, 8, 8, 8, 8, 8, 8, 8, 8, 8, 8, 8, 8, 8, 8, 8, 8, 8, 8, 8, 8, 8, 8, 8, 8, 8, 8, 8, 8, 8, 8, 8, 8, 8, 8, 8, 8, 8, 8, 8, 8, 8, 8, 8, 8, 8, 8, 8, 8, 8, 8, 8, 8, 8, 8, 8, 8, 8, 8, 8, 8, 8, 8, 8, 8, 8, 8, 8, 8, 8, 8, 8, 8, 8, 8, 8, 8, 8, 8, 8, 8, 8, 8, 8, 8, 8, 8, 8, 8, 8, 8, 8, 8, 8, 8, 8, 8, 8, 8, 8, 8, 8, 8, 8, 8, 8, 8, 8, 8, 8, 8, 8, 8, 8, 8, 8, 8, 8, 8, 8, 8, 8, 8, 8, 8, 8, 8, 8, 8]⟩) t18) fun t19 =>
 oCv .i64 t19 fun t20 =>
 oInt .add .i64 t16 t20 fun t21 =>
 k t21 m12) fun j13 =>
 oIf t10 (oOpt (abin Try.prog .shr 121 t6 (.int .u64 (.ofNat 8))) fun t22 =>
 oInt .add .i64 t8 (.int .i64 (.ofNat 8)) fun t23 =>
 j13 [t22, t23] m4) (j13 [t6, t8] m4)) fun j5 =>
 oIf t2 (oOpt (abin Try.prog .shr 121 t0 (.int .u64 (.ofNat 16))) fun t24 =>
 j5 [t24, (.int .i64 (.ofNat 16))] m) (j5 [t0, (.int .i64 (.ofNat 0))] m))
theorem S116_ok (lf : Nat) (cK : CallK β) (args : List Value) (L : Nat) (m : Mem) (k : Value → Mem → Option β)  : S116 lf cK args L m k = denF Try.prog fsT 0 K116 lf cK 116 args L m k := by kernel_rfl

end
end Go.Vit
