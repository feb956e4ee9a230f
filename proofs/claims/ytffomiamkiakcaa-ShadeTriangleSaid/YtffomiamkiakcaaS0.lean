/- Shallow texts of the seat's functions, printed by a program: part 0. -/
import Derived.Test.YtffomiamkiakcaaRows
import Derived.Test.YtffomiamkiakcaaFs
set_option linter.unusedVariables false
set_option maxRecDepth 100000
namespace Go.Vit
open Go Go.Proofs
section
variable {β : Type}
/-- vitola/vitolalaw07.ShadeSteps -/
def K3 : Kat := [(381, (1, [51])), (381, (3, [56])), (381, (5, [61])), (381, (7, [68])), (381, (9, [81])), (381, (11, [84]))]
noncomputable def S3 (lf : Nat) : FnK β := fun call args L m k =>
 uc args fun t0 l1 =>
 uc l1 fun t2 l3 =>
 uc l3 fun t4 l5 =>
 uc l5 fun t6 l7 =>
 un0 l7 (oOpt (ln t0) fun t8 =>
 oInt .gtr .i64 t8 (.int .i64 (.ofNat 60)) fun t9 =>
 oIf t9 (call 15 [] L m fun t10 m11 =>
 k t10 m11) (call 16 [t0, t2] L m fun t12 m13 =>
 oOpt (aextract t12 0) fun t14 =>
 oOpt (aextract t12 1) fun t15 =>
 call 17 [t0, t2] L m13 fun t16 m17 =>
 oOpt (aextract t16 0) fun t18 =>
 oOpt (aextract t16 1) fun t19 =>
 call 18 [t0, t2] L m17 fun t20 m21 =>
 oOpt (aextract t20 0) fun t22 =>
 oOpt (aextract t20 1) fun t23 =>
 call 19 [t0, t2] L m21 fun t24 m25 =>
 oOpt (aextract t24 0) fun t26 =>
 oOpt (aextract t24 1) fun t27 =>
 oInt .eql .i64 t14 t18 fun t28 =>
 join (fun l29 m30 =>
 uc l29 fun t32 l33 =>
 oPick t28 t32 (.bool false) fun t34 =>
 join (fun l35 m36 =>
 uc l35 fun t38 l39 =>
 oPick t34 t38 (.bool false) fun t40 =>
 join (fun l41 m42 =>
 uc l41 fun t44 l45 =>
 oPick t40 t44 (.bool false) fun t46 =>
 join (fun l47 m48 =>
 uc l47 fun t50 l51 =>
 oPick t46 t50 (.bool false) fun t52 =>
 join (fun l53 m54 =>
 uc l53 fun t56 l57 =>
 oPick t52 t56 (.bool false) fun t58 =>
 join (fun l59 m60 =>
 uc l59 fun t62 l63 =>
 oPick t58 t62 (.bool false) fun t64 =>
 k t64 m60) fun j61 =>
 oGT t58 (call 15 [] L m54 fun t65 m66 =>
 j61 [t65] m66) (j61 [Go.undef] m54)) fun j55 =>
 oGT t52 (call 22 [t0, t2, t4, t6] L m48 fun t67 m68 =>
 call 23 [t0, t2, t4, t6] L m68 fun t69 m70 =>
 oInt .eql .i64 t67 t69 fun t71 =>
 j55 [t71] m70) (j55 [Go.undef] m48)) fun j49 =>
 oGT t46 (call 20 [t0] L m42 fun t72 m73 =>
 call 21 [t0] L m73 fun t74 m75 =>
 oInt .eql .i64 t72 t74 fun t76 =>
 j49 [t76] m75) (j49 [Go.undef] m42)) fun j43 =>
 oGT t40 (oInt .eql .i64 t23 t27 fun t77 =>
 j43 [t77] m36) (j43 [Go.undef] m36)) fun j37 =>
 oGT t34 (oInt .eql .i64 t22 t26 fun t78 =>
 j37 [t78] m30) (j37 [Go.undef] m30)) fun j31 =>
 oGT t28 (oInt .eql .i64 t15 t19 fun t79 =>
 j31 [t79] m25) (j31 [Go.undef] m25)))
theorem S3_ok (lf : Nat) (cK : CallK β) (args : List Value) (L : Nat) (m : Mem) (k : Value → Mem → Option β)  : S3 lf cK args L m k = denF Try.prog fsT 0 K3 lf cK 3 args L m k := by kernel_rfl

/-- vitola/vitolalaw07.ShadeBoxes -/
def K4 : Kat := [(1533, (1, [63])), (1533, (3, [68])), (1533, (5, [73])), (1533, (7, [78])), (1533, (9, [83])), (1533, (11, [86]))]
noncomputable def S4 (lf : Nat) : FnK β := fun call args L m k =>
 uc args fun t0 l1 =>
 uc l1 fun t2 l3 =>
 un0 l3 (oOpt (ln t0) fun t4 =>
 oInt .gtr .i64 t4 (.int .i64 (.ofNat 60)) fun t5 =>
 oIf t5 (call 15 [] L m fun t6 m7 =>
 k t6 m7) (call 24 [t0, t2] L m fun t8 m9 =>
 oOpt (aextract t8 0) fun t10 =>
 oOpt (aextract t8 1) fun t11 =>
 call 25 [t0, t2] L m9 fun t12 m13 =>
 oOpt (aextract t12 0) fun t14 =>
 oOpt (aextract t12 1) fun t15 =>
 call 26 [t0, t2] L m13 fun t16 m17 =>
 oOpt (aextract t16 0) fun t18 =>
 oOpt (aextract t16 1) fun t19 =>
 call 27 [t0, t2] L m17 fun t20 m21 =>
 oOpt (aextract t20 0) fun t22 =>
 oOpt (aextract t20 1) fun t23 =>
 call 28 [t0, t2] L m21 fun t24 m25 =>
 oOpt (aextract t24 0) fun t26 =>
 oOpt (aextract t24 1) fun t27 =>
 call 29 [t0, t2] L m25 fun t28 m29 =>
 oOpt (aextract t28 0) fun t30 =>
 oOpt (aextract t28 1) fun t31 =>
 oInt .eql .i64 t10 t14 fun t32 =>
 join (fun l33 m34 =>
 uc l33 fun t36 l37 =>
 oPick t32 t36 (.bool false) fun t38 =>
 join (fun l39 m40 =>
 uc l39 fun t42 l43 =>
 oPick t38 t42 (.bool false) fun t44 =>
 join (fun l45 m46 =>
 uc l45 fun t48 l49 =>
 oPick t44 t48 (.bool false) fun t50 =>
 join (fun l51 m52 =>
 uc l51 fun t54 l55 =>
 oPick t50 t54 (.bool false) fun t56 =>
 join (fun l57 m58 =>
 uc l57 fun t60 l61 =>
 oPick t56 t60 (.bool false) fun t62 =>
 join (fun l63 m64 =>
 uc l63 fun t66 l67 =>
 oPick t62 t66 (.bool false) fun t68 =>
 k t68 m64) fun j65 =>
 oGT t62 (call 15 [] L m58 fun t69 m70 =>
 j65 [t69] m70) (j65 [Go.undef] m58)) fun j59 =>
 oGT t56 (oInt .eql .i64 t27 t31 fun t71 =>
 j59 [t71] m52) (j59 [Go.undef] m52)) fun j53 =>
 oGT t50 (oInt .eql .i64 t26 t30 fun t72 =>
 j53 [t72] m46) (j53 [Go.undef] m46)) fun j47 =>
 oGT t44 (oInt .eql .i64 t19 t23 fun t73 =>
 j47 [t73] m40) (j47 [Go.undef] m40)) fun j41 =>
 oGT t38 (call 30 [t18, t22] L m34 fun t74 m75 =>
 j41 [t74] m75) (j41 [Go.undef] m34)) fun j35 =>
 oGT t32 (oInt .eql .i64 t11 t15 fun t76 =>
 j35 [t76] m29) (j35 [Go.undef] m29)))
theorem S4_ok (lf : Nat) (cK : CallK β) (args : List Value) (L : Nat) (m : Mem) (k : Value → Mem → Option β)  : S4 lf cK args L m k = denF Try.prog fsT 0 K4 lf cK 4 args L m k := by kernel_rfl

/-- vitola/vitolalaw07.ShadeWides -/
def K5 : Kat := [(381, (1, [47])), (381, (3, [52])), (381, (5, [57])), (381, (7, [60]))]
noncomputable def S5 (lf : Nat) : FnK β := fun call args L m k =>
 uc args fun t0 l1 =>
 uc l1 fun t2 l3 =>
 un0 l3 (oOpt (ln t0) fun t4 =>
 oInt .gtr .i64 t4 (.int .i64 (.ofNat 60)) fun t5 =>
 oIf t5 (call 15 [] L m fun t6 m7 =>
 k t6 m7) (call 31 [t0, t2] L m fun t8 m9 =>
 oOpt (aextract t8 0) fun t10 =>
 oOpt (aextract t8 1) fun t11 =>
 call 32 [t0, t2] L m9 fun t12 m13 =>
 oOpt (aextract t12 0) fun t14 =>
 oOpt (aextract t12 1) fun t15 =>
 call 33 [t0, t2] L m13 fun t16 m17 =>
 oOpt (aextract t16 0) fun t18 =>
 oOpt (aextract t16 1) fun t19 =>
 call 34 [t0, t2] L m17 fun t20 m21 =>
 oOpt (aextract t20 0) fun t22 =>
 oOpt (aextract t20 1) fun t23 =>
 oInt .eql .i64 t10 t14 fun t24 =>
 join (fun l25 m26 =>
 uc l25 fun t28 l29 =>
 oPick t24 t28 (.bool false) fun t30 =>
 join (fun l31 m32 =>
 uc l31 fun t34 l35 =>
 oPick t30 t34 (.bool false) fun t36 =>
 join (fun l37 m38 =>
 uc l37 fun t40 l41 =>
 oPick t36 t40 (.bool false) fun t42 =>
 join (fun l43 m44 =>
 uc l43 fun t46 l47 =>
 oPick t42 t46 (.bool false) fun t48 =>
 k t48 m44) fun j45 =>
 oGT t42 (call 15 [] L m38 fun t49 m50 =>
 j45 [t49] m50) (j45 [Go.undef] m38)) fun j39 =>
 oGT t36 (oInt .eql .i64 t19 t23 fun t51 =>
 j39 [t51] m32) (j39 [Go.undef] m32)) fun j33 =>
 oGT t30 (call 30 [t18, t22] L m26 fun t52 m53 =>
 j33 [t52] m53) (j33 [Go.undef] m26)) fun j27 =>
 oGT t24 (oInt .eql .i64 t11 t15 fun t54 =>
 j27 [t54] m21) (j27 [Go.undef] m21)))
theorem S5_ok (lf : Nat) (cK : CallK β) (args : List Value) (L : Nat) (m : Mem) (k : Value → Mem → Option β)  : S5 lf cK args L m k = denF Try.prog fsT 0 K5 lf cK 5 args L m k := by kernel_rfl

/-- vitola/vitolalaw07.ShadeOrders -/
def K6 : Kat := [(763, (1, [53])), (763, (3, [58])), (763, (5, [63])), (49149, (1, [105])), (49149, (3, [110])), (49149, (5, [115])), (49149, (7, [120])), (49149, (9, [125])), (49149, (11, [128]))]
noncomputable def S6 (lf : Nat) : FnK β := fun call args L m k =>
 uc args fun t0 l1 =>
 uc l1 fun t2 l3 =>
 uc l3 fun t4 l5 =>
 uc l5 fun t6 l7 =>
 un0 l7 (oOpt (ln t0) fun t8 =>
 oInt .gtr .i64 t8 (.int .i64 (.ofNat 60)) fun t9 =>
 oIf t9 (call 15 [] L m fun t10 m11 =>
 k t10 m11) (call 35 [t0] L m fun t12 m13 =>
 oOpt (aextract t12 0) fun t14 =>
 oOpt (aextract t12 1) fun t15 =>
 call 36 [t0] L m13 fun t16 m17 =>
 oOpt (aextract t16 0) fun t18 =>
 oOpt (aextract t16 1) fun t19 =>
 call 37 [t2] L m17 fun t20 m21 =>
 oOpt (aextract t20 0) fun t22 =>
 oOpt (aextract t20 1) fun t23 =>
 call 38 [t2] L m21 fun t24 m25 =>
 oOpt (aextract t24 0) fun t26 =>
 oOpt (aextract t24 1) fun t27 =>
 oOpt (abin Try.prog .neq 4 t14 t18) fun t28 =>
 join (fun l29 m30 =>
 uc l29 fun t32 l33 =>
 oPick t28 (.bool true) t32 fun t34 =>
 join (fun l35 m36 =>
 uc l35 fun t38 l39 =>
 oPick t34 (.bool true) t38 fun t40 =>
 join (fun l41 m42 =>
 uc l41 fun t44 l45 =>
 oPick t40 (.bool true) t44 fun t46 =>
 oIf t46 (k (.bool false) m42) (call 39 [t2, t4] L m42 fun t47 m48 =>
 oOpt (aextract t47 0) fun t49 =>
 oOpt (aextract t47 1) fun t50 =>
 call 40 [t2, t4] L m48 fun t51 m52 =>
 oOpt (aextract t51 0) fun t53 =>
 oOpt (aextract t51 1) fun t54 =>
 call 41 [t2, t6] L m52 fun t55 m56 =>
 oOpt (aextract t55 0) fun t57 =>
 oOpt (aextract t55 1) fun t58 =>
 call 42 [t2, t6] L m56 fun t59 m60 =>
 oOpt (aextract t59 0) fun t61 =>
 oOpt (aextract t59 1) fun t62 =>
 call 43 [t0] L m60 fun t63 m64 =>
 oOpt (aextract t63 0) fun t65 =>
 oOpt (aextract t63 1) fun t66 =>
 call 44 [t0] L m64 fun t67 m68 =>
 oOpt (aextract t67 0) fun t69 =>
 oOpt (aextract t67 1) fun t70 =>
 oInt .eql .i64 t49 t53 fun t71 =>
 join (fun l72 m73 =>
 uc l72 fun t75 l76 =>
 oPick t71 t75 (.bool false) fun t77 =>
 join (fun l78 m79 =>
 uc l78 fun t81 l82 =>
 oPick t77 t81 (.bool false) fun t83 =>
 join (fun l84 m85 =>
 uc l84 fun t87 l88 =>
 oPick t83 t87 (.bool false) fun t89 =>
 join (fun l90 m91 =>
 uc l90 fun t93 l94 =>
 oPick t89 t93 (.bool false) fun t95 =>
 join (fun l96 m97 =>
 uc l96 fun t99 l100 =>
 oPick t95 t99 (.bool false) fun t101 =>
 join (fun l102 m103 =>
 uc l102 fun t105 l106 =>
 oPick t101 t105 (.bool false) fun t107 =>
 k t107 m103) fun j104 =>
 oGT t101 (call 15 [] L m97 fun t108 m109 =>
 j104 [t108] m109) (j104 [Go.undef] m97)) fun j98 =>
 oGT t95 (oInt .eql .i64 t66 t70 fun t110 =>
 j98 [t110] m91) (j98 [Go.undef] m91)) fun j92 =>
 oGT t89 (oInt .eql .i64 t65 t69 fun t111 =>
 j92 [t111] m85) (j92 [Go.undef] m85)) fun j86 =>
 oGT t83 (oInt .eql .i64 t58 t62 fun t112 =>
 j86 [t112] m79) (j86 [Go.undef] m79)) fun j80 =>
 oGT t77 (call 30 [t57, t61] L m73 fun t113 m114 =>
 j80 [t113] m114) (j80 [Go.undef] m73)) fun j74 =>
 oGT t71 (oInt .eql .i64 t50 t54 fun t115 =>
 j74 [t115] m68) (j74 [Go.undef] m68))) fun j43 =>
 oGF t40 (oInt .neq .i64 t23 t27 fun t116 =>
 j43 [t116] m36) (j43 [Go.undef] m36)) fun j37 =>
 oGF t34 (oInt .neq .i64 t22 t26 fun t117 =>
 j37 [t117] m30) (j37 [Go.undef] m30)) fun j31 =>
 oGF t28 (oInt .neq .i64 t15 t19 fun t118 =>
 j31 [t118] m25) (j31 [Go.undef] m25)))
theorem S6_ok (lf : Nat) (cK : CallK β) (args : List Value) (L : Nat) (m : Mem) (k : Value → Mem → Option β)  : S6 lf cK args L m k = denF Try.prog fsT 0 K6 lf cK 6 args L m k := by kernel_rfl

/-- vitola/vitolalaw07.ShadeTriangle -/
def K7 : Kat := [(1523, (1, [36])), (1533, (1, [59])), (1533, (3, [66])), (1533, (5, [69]))]
noncomputable def S7 (lf : Nat) : FnK β := fun call args L m k =>
 uc args fun t0 l1 =>
 uc l1 fun t2 l3 =>
 un0 l3 (oCv .i64 t0 fun t4 =>
 oInt .rem .i64 t4 (.int .i64 (.ofNat 8)) fun t5 =>
 oInt .add .i64 (.int .i64 (.ofNat 2)) t5 fun t6 =>
 oCv .i64 t2 fun t7 =>
 oInt .rem .i64 t7 t6 fun t8 =>
 call 39 [t6, t8] L m fun t9 m10 =>
 oOpt (aextract t9 0) fun t11 =>
 oOpt (aextract t9 1) fun t12 =>
 oInt .neq .i64 t12 (.int .i64 (.ofNat 0)) fun t13 =>
 oIf t13 (k (.bool false) m10) (oInt .sub .i64 t6 (.int .i64 (.ofNat 1)) fun t14 =>
 oInt .eql .i64 t8 t14 fun t15 =>
 oIf t15 (oInt .eql .i64 t11 (.int .i64 (.ofNat 0)) fun t16 =>
 join (fun l17 m18 =>
 uc l17 fun t20 l21 =>
 oPick t16 t20 (.bool false) fun t22 =>
 k t22 m18) fun j19 =>
 oGT t16 (call 15 [] L m10 fun t23 m24 =>
 j19 [t23] m24) (j19 [Go.undef] m10)) (oInt .add .i64 t8 (.int .i64 (.ofNat 1)) fun t25 =>
 call 39 [t6, t25] L m10 fun t26 m27 =>
 oOpt (aextract t26 0) fun t28 =>
 oOpt (aextract t26 1) fun t29 =>
 oInt .sub .i64 t6 (.int .i64 (.ofNat 1)) fun t30 =>
 oInt .sub .i64 t6 (.int .i64 (.ofNat 2)) fun t31 =>
 oInt .sub .i64 t31 t8 fun t32 =>
 call 39 [t30, t32] L m27 fun t33 m34 =>
 oOpt (aextract t33 0) fun t35 =>
 oOpt (aextract t33 1) fun t36 =>
 oInt .eql .i64 t29 (.int .i64 (.ofNat 0)) fun t37 =>
 join (fun l38 m39 =>
 uc l38 fun t41 l42 =>
 oPick t37 t41 (.bool false) fun t43 =>
 join (fun l44 m45 =>
 uc l44 fun t47 l48 =>
 oPick t43 t47 (.bool false) fun t49 =>
 join (fun l50 m51 =>
 uc l50 fun t53 l54 =>
 oPick t49 t53 (.bool false) fun t55 =>
 k t55 m51) fun j52 =>
 oGT t49 (call 15 [] L m45 fun t56 m57 =>
 j52 [t56] m57) (j52 [Go.undef] m45)) fun j46 =>
 oGT t43 (oInt .add .i64 t28 t35 fun t58 =>
 oInt .eql .i64 t11 t58 fun t59 =>
 j46 [t59] m39) (j46 [Go.undef] m39)) fun j40 =>
 oGT t37 (oInt .eql .i64 t36 (.int .i64 (.ofNat 0)) fun t60 =>
 j40 [t60] m34) (j40 [Go.undef] m34))))
theorem S7_ok (lf : Nat) (cK : CallK β) (args : List Value) (L : Nat) (m : Mem) (k : Value → Mem → Option β)  : S7 lf cK args L m k = denF Try.prog fsT 0 K7 lf cK 7 args L m k := by kernel_rfl

/-- vitola/vitolalaw07.ShadeMore -/
def K8 : Kat := [(381, (1, [65])), (381, (3, [69])), (381, (5, [73])), (381, (7, [78])), (381, (9, [83])), (381, (11, [86]))]
noncomputable def S8 (lf : Nat) : FnK β := fun call args L m k =>
 uc args fun t0 l1 =>
 uc l1 fun t2 l3 =>
 uc l3 fun t4 l5 =>
 uc l5 fun t6 l7 =>
 un0 l7 (oRes (abox m t0) fun t8 m9 =>
 oOpt (ldN m9 8 t8) fun t10 =>
 call 45 [t10, (.int .i64 (.ofNat 6))] L m9 fun t11 m12 =>
 call 31 [t11, t2] L m12 fun t13 m14 =>
 oOpt (aextract t13 0) fun t15 =>
 oOpt (aextract t13 1) fun t16 =>
 call 46 [t11] L m14 fun t17 m18 =>
 oCv .i64 t4 fun t19 =>
 oInt .rem .i64 t19 (.int .i64 (.ofNat 61)) fun t20 =>
 oRes (bs Try.prog m18 22 1 [(0, t20)]) fun t21 m22 =>
 oRes (aappend Try.prog L m22 22 t17 t21) fun t23 m24 =>
 call 31 [t23, t2] L m24 fun t25 m26 =>
 oOpt (aextract t25 0) fun t27 =>
 oOpt (aextract t25 1) fun t28 =>
 call 24 [t11, t2] L m26 fun t29 m30 =>
 oOpt (aextract t29 0) fun t31 =>
 oOpt (aextract t29 1) fun t32 =>
 call 46 [t11] m30.next m30 fun t33 m34 =>
 oCv .i64 t6 fun t35 =>
 oOpt (ln t11) fun t36 =>
 oInt .rem .i64 t35 t36 fun t37 =>
 oOpt (ia 1 t11 t37) fun t38 =>
 oOpt (ld1 m34 t38) fun t39 =>
 oRes (bs Try.prog m34 22 1 [(0, t39)]) fun t40 m41 =>
 oRes (aappend Try.prog L m41 22 t33 t40) fun t42 m43 =>
 call 24 [t42, t2] L m43 fun t44 m45 =>
 oOpt (aextract t44 0) fun t46 =>
 oOpt (aextract t44 1) fun t47 =>
 oInt .eql .i64 t16 (.int .i64 (.ofNat 0)) fun t48 =>
 join (fun l49 m50 =>
 uc l49 fun t52 l53 =>
 oPick t48 t52 (.bool false) fun t54 =>
 join (fun l55 m56 =>
 uc l55 fun t58 l59 =>
 oPick t54 t58 (.bool false) fun t60 =>
 join (fun l61 m62 =>
 uc l61 fun t64 l65 =>
 oPick t60 t64 (.bool false) fun t66 =>
 join (fun l67 m68 =>
 uc l67 fun t70 l71 =>
 oPick t66 t70 (.bool false) fun t72 =>
 join (fun l73 m74 =>
 uc l73 fun t76 l77 =>
 oPick t72 t76 (.bool false) fun t78 =>
 join (fun l79 m80 =>
 uc l79 fun t82 l83 =>
 oPick t78 t82 (.bool false) fun t84 =>
 k t84 m80) fun j81 =>
 oGT t78 (call 15 [] L m74 fun t85 m86 =>
 j81 [t85] m86) (j81 [Go.undef] m74)) fun j75 =>
 oGT t72 (oInt .leq .i64 t46 t31 fun t87 =>
 j75 [t87] m68) (j75 [Go.undef] m68)) fun j69 =>
 oGT t66 (oInt .geq .i64 t27 t15 fun t88 =>
 j69 [t88] m62) (j69 [Go.undef] m62)) fun j63 =>
 oGT t60 (oInt .eql .i64 t47 (.int .i64 (.ofNat 0)) fun t89 =>
 j63 [t89] m56) (j63 [Go.undef] m56)) fun j57 =>
 oGT t54 (oInt .eql .i64 t32 (.int .i64 (.ofNat 0)) fun t90 =>
 j57 [t90] m50) (j57 [Go.undef] m50)) fun j51 =>
 oGT t48 (oInt .eql .i64 t28 (.int .i64 (.ofNat 0)) fun t91 =>
 j51 [t91] m45) (j51 [Go.undef] m45))
theorem S8_ok (lf : Nat) (cK : CallK β) (args : List Value) (L : Nat) (m : Mem) (k : Value → Mem → Option β)  : S8 lf cK args L m k = denF Try.prog fsT 0 K8 lf cK 8 args L m k := by kernel_rfl

/-- vitola/vitolalaw07.ShadeKnown: the general reading itself -/
def K9 : Kat := [(3067, (1, [59])), (3067, (3, [63])), (3067, (5, [67])), (3067, (7, [71])), (3067, (9, [75])), (3067, (11, [79])), (393213, (1, [117])), (393213, (3, [121])), (393213, (5, [125])), (393213, (7, [129])), (393213, (9, [133])), (393213, (11, [137])), (393213, (13, [141])), (393213, (15, [145])), (393213, (17, [149])), (393213, (19, [155])), (393213, (21, [159])), (393213, (23, [163])), (393213, (25, [169])), (393213, (27, [173])), (393213, (29, [177])), (393213, (31, [181])), (393213, (33, [185])), (393213, (35, [191])), (393213, (37, [196])), (393213, (39, [201])), (393213, (41, [205])), (393213, (43, [211])), (393213, (45, [216])), (393213, (47, [219]))]
noncomputable def S9 (lf : Nat) : FnK β := fun cK args L m k => denF Try.prog fsT 0 K9 lf cK 9 args L m k
theorem S9_ok (lf : Nat) (cK : CallK β) (args : List Value) (L : Nat) (m : Mem) (k : Value → Mem → Option β)  : S9 lf cK args L m k = denF Try.prog fsT 0 K9 lf cK 9 args L m k := rfl

/-- vitola/vitolalaw07.ShadeWidest -/
def K10 : Kat := [(377, (0, [5, 24])), (1529, (0, [45])), (12537083, (1, [69])), (12537083, (3, [74])), (12537083, (5, [80])), (765, (1, [96])), (765, (3, [114])), (765, (5, [117]))]
noncomputable def S10 (lf : Nat) : FnK β := fun call args L m k =>
 uc args fun t0 l1 =>
 un0 l1 (oRes (abox m t0) fun t2 m3 =>
 oOpt (ldN m3 8 t2) fun t4 =>
 call 45 [t4, (.int .i64 (.ofNat 6))] L m3 fun t5 m6 =>
 call 50 [t5] L m6 fun t7 m8 =>
 call 49 [t7] L m8 fun t9 m10 =>
 oOpt (ln t5) fun t11 =>
 oInt .quo .i64 t11 (.int .i64 (.ofNat 2)) fun t12 =>
 loopS (fun j15 l13 m14 =>
 uc l13 fun t16 l17 =>
 uc l17 fun t18 l19 =>
 oInt .lss .i64 t18 t12 fun t20 =>
 oIf t20 (oOpt (ln t5) fun t21 =>
 oInt .sub .i64 t21 (.int .i64 (.ofNat 1)) fun t22 =>
 oInt .sub .i64 t22 t18 fun t23 =>
 oOpt (ia 1 t9 t23) fun t24 =>
 oOpt (ld1 m14 t24) fun t25 =>
 oOpt (ia 1 t9 t18) fun t26 =>
 oOpt (ld1 m14 t26) fun t27 =>
 oInt .sub .i64 t25 t27 fun t28 =>
 oInt .add .i64 t16 t28 fun t29 =>
 oInt .add .i64 t18 (.int .i64 (.ofNat 1)) fun t30 =>
 j15 [t29, t30] m14) (oRes (anew m14 1 [(.int .i64 (.ofNat 0)), (.int .i64 (.ofNat 0))] ptrTo) fun t31 m32 =>
 oRes (bs Try.prog m32 55 2 [(0, (.bool false)), (1, (.bool true))]) fun t33 m34 =>
 oOpt (ln t33) fun t35 =>
 loopS (fun j38 l36 m37 =>
 uc l36 fun t39 l40 =>
 oInt .lss .i64 t39 t35 fun t41 =>
 oIf t41 (oOpt (ia 1 t33 t39) fun t42 =>
 oOpt (ld1 m37 t42) fun t43 =>
 oRes (anew m37 1 [(.bool false)] ptrTo) fun t44 m45 =>
 oRes (st1 1 L m45 t44 t43) fun t46 m47 =>
 oRes (anew m47 1 [(.int .i64 (.ofNat 0))] ptrTo) fun t48 m49 =>
 oRes (st1 1 L m49 t48 (.int .i64 (.negSucc 0))) fun t50 m51 =>
 oRes (anew m51 1 [(.slice none 0 0)] ptrTo) fun t52 m53 =>
 call 51 [t9, (.func (.func 52) #[] ⟨[t44, t48, t52]⟩)] L m53 fun t54 m55 =>
 oOpt (ld1 m55 t44) fun t56 =>
 call 31 [t5, t56] L m55 fun t57 m58 =>
 oOpt (aextract t57 0) fun t59 =>
 oOpt (aextract t57 1) fun t60 =>
 oOpt (ld1 m58 t44) fun t61 =>
 call 33 [t5, t61] L m58 fun t62 m63 =>
 oOpt (aextract t62 0) fun t64 =>
 oOpt (aextract t62 1) fun t65 =>
 oInt .neq .i64 t60 (.int .i64 (.ofNat 0)) fun t66 =>
 join (fun l67 m68 =>
 uc l67 fun t70 l71 =>
 oPick t66 (.bool true) t70 fun t72 =>
 join (fun l73 m74 =>
 uc l73 fun t76 l77 =>
 oPick t72 (.bool true) t76 fun t78 =>
 join (fun l79 m80 =>
 uc l79 fun t82 l83 =>
 oPick t78 (.bool true) t82 fun t84 =>
 oIf t84 (k (.bool false) m80) (oOpt (iaA 2 1 t31 t39) fun t85 =>
 oRes (st1 1 L m80 t85 t59) fun t86 m87 =>
 oInt .add .i64 t39 (.int .i64 (.ofNat 1)) fun t88 =>
 j38 [t88] m87)) fun j81 =>
 oGF t78 (oOpt (ld1 m74 t52) fun t89 =>
 call 30 [t64, t89] L m74 fun t90 m91 =>
 oOpt (aun .not t90) fun t92 =>
 j81 [t92] m91) (j81 [Go.undef] m74)) fun j75 =>
 oGF t72 (oOpt (ld1 m68 t48) fun t93 =>
 oInt .neq .i64 t59 t93 fun t94 =>
 j75 [t94] m68) (j75 [Go.undef] m68)) fun j69 =>
 oGF t66 (oInt .neq .i64 t65 (.int .i64 (.ofNat 0)) fun t95 =>
 j69 [t95] m63) (j69 [Go.undef] m63)) (oOpt (iaA 2 1 t31 (.int .i64 (.ofNat 1))) fun t96 =>
 oOpt (ld1 m37 t96) fun t97 =>
 oInt .mul .i64 (.int .i64 (.ofNat 2)) t16 fun t98 =>
 oInt .eql .i64 t97 t98 fun t99 =>
 join (fun l100 m101 =>
 uc l100 fun t103 l104 =>
 oPick t99 t103 (.bool false) fun t105 =>
 join (fun l106 m107 =>
 uc l106 fun t109 l110 =>
 oPick t105 t109 (.bool false) fun t111 =>
 join (fun l112 m113 =>
 uc l112 fun t115 l116 =>
 oPick t111 t115 (.bool false) fun t117 =>
 k t117 m113) fun j114 =>
 oGT t111 (call 15 [] L m107 fun t118 m119 =>
 j114 [t118] m119) (j114 [Go.undef] m107)) fun j108 =>
 oGT t105 (oOpt (iaA 2 1 t31 (.int .i64 (.ofNat 0))) fun t120 =>
 oOpt (ld1 m101 t120) fun t121 =>
 oOpt (iaA 2 1 t31 (.int .i64 (.ofNat 1))) fun t122 =>
 oOpt (ld1 m101 t122) fun t123 =>
 oOpt (ln t5) fun t124 =>
 oInt .sub .i64 t124 (.int .i64 (.ofNat 1)) fun t125 =>
 oOpt (ia 1 t9 t125) fun t126 =>
 oOpt (ld1 m101 t126) fun t127 =>
 oOpt (ia 1 t9 (.int .i64 (.ofNat 0))) fun t128 =>
 oOpt (ld1 m101 t128) fun t129 =>
 oInt .sub .i64 t127 t129 fun t130 =>
 oInt .sub .i64 t123 t130 fun t131 =>
 oInt .geq .i64 t121 t131 fun t132 =>
 j108 [t132] m101) (j108 [Go.undef] m101)) fun j102 =>
 oGT t99 (oOpt (iaA 2 1 t31 (.int .i64 (.ofNat 0))) fun t133 =>
 oOpt (ld1 m37 t133) fun t134 =>
 oOpt (iaA 2 1 t31 (.int .i64 (.ofNat 1))) fun t135 =>
 oOpt (ld1 m37 t135) fun t136 =>
 oInt .leq .i64 t134 t136 fun t137 =>
 j102 [t137] m37) (j102 [Go.undef] m37))) lf [(.int .i64 (.ofNat 0))] m34)) lf [(.int .i64 (.ofNat 0)), (.int .i64 (.ofNat 0))] m10)
theorem S10_ok (lf : Nat) (cK : CallK β) (args : List Value) (L : Nat) (m : Mem) (k : Value → Mem → Option β)  : S10 lf cK args L m k = denF Try.prog fsT 0 K10 lf cK 10 args L m k := by kernel_rfl

end
end Go.Vit
