/- Shallow texts of the seat's functions, printed by a program: part 0. -/
import Derived.Test.YtnmmjbclidbdbaaDoorRows
import Derived.Test.YtnmmjbclidbdbaaDoorFs
set_option linter.unusedVariables false
set_option maxRecDepth 100000
namespace Go.Vit
open Go Go.Proofs
section
variable {β : Type}
/-- vitola/vitolalaw01.DockParks -/
def K3 : Kat := [(3067, (1, [70])), (3067, (3, [75])), (3067, (5, [80])), (3067, (7, [85])), (3067, (9, [90])), (49149, (1, [122])), (49149, (3, [127])), (49149, (5, [132])), (49149, (7, [141])), (49149, (9, [144]))]
noncomputable def S3 (lf : Nat) : FnK β := fun call args L m k =>
 uc args fun t0 l1 =>
 uc l1 fun t2 l3 =>
 uc l3 fun t4 l5 =>
 un0 l5 (oOpt (ln t2) fun t6 =>
 oInt .gtr .i64 t6 (.int .i64 (.ofNat 60)) fun t7 =>
 oIf t7 (call 15 [] L m fun t8 m9 =>
 k t8 m9) (call 16 [t0, t2] L m fun t10 m11 =>
 oOpt (aextract t10 0) fun t12 =>
 oOpt (aextract t10 1) fun t13 =>
 call 17 [t0, t2] L m11 fun t14 m15 =>
 oOpt (aextract t14 0) fun t16 =>
 oOpt (aextract t14 1) fun t17 =>
 call 18 [t0, t2] L m15 fun t18 m19 =>
 oOpt (aextract t18 0) fun t20 =>
 oOpt (aextract t18 1) fun t21 =>
 call 19 [t0, t2] L m19 fun t22 m23 =>
 oOpt (aextract t22 0) fun t24 =>
 oOpt (aextract t22 1) fun t25 =>
 call 20 [t0, t2, t4] L m23 fun t26 m27 =>
 oOpt (aextract t26 0) fun t28 =>
 oOpt (aextract t26 1) fun t29 =>
 call 21 [t0, t2, t4] L m27 fun t30 m31 =>
 oOpt (aextract t30 0) fun t32 =>
 oOpt (aextract t30 1) fun t33 =>
 call 22 [t12, t16] L m31 fun t34 m35 =>
 oOpt (aun .not t34) fun t36 =>
 join (fun l37 m38 =>
 uc l37 fun t40 l41 =>
 oPick t36 (.bool true) t40 fun t42 =>
 join (fun l43 m44 =>
 uc l43 fun t46 l47 =>
 oPick t42 (.bool true) t46 fun t48 =>
 join (fun l49 m50 =>
 uc l49 fun t52 l53 =>
 oPick t48 (.bool true) t52 fun t54 =>
 join (fun l55 m56 =>
 uc l55 fun t58 l59 =>
 oPick t54 (.bool true) t58 fun t60 =>
 join (fun l61 m62 =>
 uc l61 fun t64 l65 =>
 oPick t60 (.bool true) t64 fun t66 =>
 oIf t66 (k (.bool false) m62) (call 23 [t0, t2] L m62 fun t67 m68 =>
 oOpt (aextract t67 0) fun t69 =>
 oOpt (aextract t67 1) fun t70 =>
 call 24 [t0, t2] L m68 fun t71 m72 =>
 oOpt (aextract t71 0) fun t73 =>
 oOpt (aextract t71 1) fun t74 =>
 call 25 [t0, t2] L m72 fun t75 m76 =>
 oOpt (aextract t75 0) fun t77 =>
 oOpt (aextract t75 1) fun t78 =>
 call 26 [t0, t2] L m76 fun t79 m80 =>
 oOpt (aextract t79 0) fun t81 =>
 oOpt (aextract t79 1) fun t82 =>
 oInt .eql .i64 t69 t73 fun t83 =>
 join (fun l84 m85 =>
 uc l84 fun t87 l88 =>
 oPick t83 t87 (.bool false) fun t89 =>
 join (fun l90 m91 =>
 uc l90 fun t93 l94 =>
 oPick t89 t93 (.bool false) fun t95 =>
 join (fun l96 m97 =>
 uc l96 fun t99 l100 =>
 oPick t95 t99 (.bool false) fun t101 =>
 join (fun l102 m103 =>
 uc l102 fun t105 l106 =>
 oPick t101 t105 (.bool false) fun t107 =>
 join (fun l108 m109 =>
 uc l108 fun t111 l112 =>
 oPick t107 t111 (.bool false) fun t113 =>
 k t113 m109) fun j110 =>
 oGT t107 (call 15 [] L m103 fun t114 m115 =>
 j110 [t114] m115) (j110 [Go.undef] m103)) fun j104 =>
 oGT t101 (call 27 [t0, t2] L m97 fun t116 m117 =>
 call 28 [t0, t2] L m117 fun t118 m119 =>
 oInt .eql .i64 t116 t118 fun t120 =>
 j104 [t120] m119) (j104 [Go.undef] m97)) fun j98 =>
 oGT t95 (oInt .eql .i64 t78 t82 fun t121 =>
 j98 [t121] m91) (j98 [Go.undef] m91)) fun j92 =>
 oGT t89 (oInt .eql .i64 t77 t81 fun t122 =>
 j92 [t122] m85) (j92 [Go.undef] m85)) fun j86 =>
 oGT t83 (oInt .eql .i64 t70 t74 fun t123 =>
 j86 [t123] m80) (j86 [Go.undef] m80))) fun j63 =>
 oGF t60 (oInt .neq .i64 t29 t33 fun t124 =>
 j63 [t124] m56) (j63 [Go.undef] m56)) fun j57 =>
 oGF t54 (oInt .neq .i64 t28 t32 fun t125 =>
 j57 [t125] m50) (j57 [Go.undef] m50)) fun j51 =>
 oGF t48 (oInt .neq .i64 t21 t25 fun t126 =>
 j51 [t126] m44) (j51 [Go.undef] m44)) fun j45 =>
 oGF t42 (oOpt (abin Tryd.prog .neq 4 t20 t24) fun t127 =>
 j45 [t127] m38) (j45 [Go.undef] m38)) fun j39 =>
 oGF t36 (oInt .neq .i64 t13 t17 fun t128 =>
 j39 [t128] m35) (j39 [Go.undef] m35)))
theorem S3_ok (lf : Nat) (cK : CallK β) (args : List Value) (L : Nat) (m : Mem) (k : Value → Mem → Option β)  : S3 lf cK args L m k = denF Tryd.prog fsT 2 K3 lf cK 3 args L m k := by kernel_rfl

/-- vitola/vitolalaw01.DockProves -/
def K4 : Kat := [(93, (1, [33])), (93, (3, [44])), (93, (5, [47]))]
noncomputable def S4 (lf : Nat) : FnK β := fun call args L m k =>
 uc args fun t0 l1 =>
 uc l1 fun t2 l3 =>
 uc l3 fun t4 l5 =>
 un0 l5 (oOpt (ln t2) fun t6 =>
 oInt .gtr .i64 t6 (.int .i64 (.ofNat 60)) fun t7 =>
 oIf t7 (call 15 [] L m fun t8 m9 =>
 k t8 m9) (call 29 [t0, t2] L m fun t10 m11 =>
 oOpt (aextract t10 0) fun t12 =>
 oOpt (aextract t10 1) fun t13 =>
 call 30 [t0, t2] L m11 fun t14 m15 =>
 oOpt (aextract t14 0) fun t16 =>
 oOpt (aextract t14 1) fun t17 =>
 oInt .eql .i64 t12 t16 fun t18 =>
 join (fun l19 m20 =>
 uc l19 fun t22 l23 =>
 oPick t18 t22 (.bool false) fun t24 =>
 join (fun l25 m26 =>
 uc l25 fun t28 l29 =>
 oPick t24 t28 (.bool false) fun t30 =>
 join (fun l31 m32 =>
 uc l31 fun t34 l35 =>
 oPick t30 t34 (.bool false) fun t36 =>
 k t36 m32) fun j33 =>
 oGT t30 (call 15 [] L m26 fun t37 m38 =>
 j33 [t37] m38) (j33 [Go.undef] m26)) fun j27 =>
 oGT t24 (call 31 [t0, t2, t4] L m20 fun t39 m40 =>
 call 32 [t0, t2, t4] L m40 fun t41 m42 =>
 oInt .eql .i64 t39 t41 fun t43 =>
 j27 [t43] m42) (j27 [Go.undef] m20)) fun j21 =>
 oGT t18 (oInt .eql .i64 t13 t17 fun t44 =>
 j21 [t44] m15) (j21 [Go.undef] m15)))
theorem S4_ok (lf : Nat) (cK : CallK β) (args : List Value) (L : Nat) (m : Mem) (k : Value → Mem → Option β)  : S4 lf cK args L m k = denF Tryd.prog fsT 2 K4 lf cK 4 args L m k := by kernel_rfl

/-- vitola/vitolalaw01.DockCounts -/
def K5 : Kat := [(1533, (1, [69])), (1533, (3, [74])), (1533, (5, [79])), (1533, (7, [84])), (1533, (9, [89])), (1533, (11, [92]))]
noncomputable def S5 (lf : Nat) : FnK β := fun call args L m k =>
 uc args fun t0 l1 =>
 uc l1 fun t2 l3 =>
 uc l3 fun t4 l5 =>
 uc l5 fun t6 l7 =>
 un0 l7 (oOpt (ln t6) fun t8 =>
 oInt .gtr .i64 t8 (.int .i64 (.ofNat 60)) fun t9 =>
 oIf t9 (call 15 [] L m fun t10 m11 =>
 k t10 m11) (call 33 [t0, t2] L m fun t12 m13 =>
 oOpt (aextract t12 0) fun t14 =>
 oOpt (aextract t12 1) fun t15 =>
 call 34 [t0, t2] L m13 fun t16 m17 =>
 oOpt (aextract t16 0) fun t18 =>
 oOpt (aextract t16 1) fun t19 =>
 call 35 [t0, t2, t4] L m17 fun t20 m21 =>
 oOpt (aextract t20 0) fun t22 =>
 oOpt (aextract t20 1) fun t23 =>
 call 36 [t0, t2, t4] L m21 fun t24 m25 =>
 oOpt (aextract t24 0) fun t26 =>
 oOpt (aextract t24 1) fun t27 =>
 call 37 [t0, t6] L m25 fun t28 m29 =>
 oOpt (aextract t28 0) fun t30 =>
 oOpt (aextract t28 1) fun t31 =>
 call 38 [t0, t6] L m29 fun t32 m33 =>
 oOpt (aextract t32 0) fun t34 =>
 oOpt (aextract t32 1) fun t35 =>
 oInt .eql .i64 t14 t18 fun t36 =>
 join (fun l37 m38 =>
 uc l37 fun t40 l41 =>
 oPick t36 t40 (.bool false) fun t42 =>
 join (fun l43 m44 =>
 uc l43 fun t46 l47 =>
 oPick t42 t46 (.bool false) fun t48 =>
 join (fun l49 m50 =>
 uc l49 fun t52 l53 =>
 oPick t48 t52 (.bool false) fun t54 =>
 join (fun l55 m56 =>
 uc l55 fun t58 l59 =>
 oPick t54 t58 (.bool false) fun t60 =>
 join (fun l61 m62 =>
 uc l61 fun t64 l65 =>
 oPick t60 t64 (.bool false) fun t66 =>
 join (fun l67 m68 =>
 uc l67 fun t70 l71 =>
 oPick t66 t70 (.bool false) fun t72 =>
 k t72 m68) fun j69 =>
 oGT t66 (call 15 [] L m62 fun t73 m74 =>
 j69 [t73] m74) (j69 [Go.undef] m62)) fun j63 =>
 oGT t60 (oInt .eql .i64 t31 t35 fun t75 =>
 j63 [t75] m56) (j63 [Go.undef] m56)) fun j57 =>
 oGT t54 (oInt .eql .i64 t30 t34 fun t76 =>
 j57 [t76] m50) (j57 [Go.undef] m50)) fun j51 =>
 oGT t48 (oInt .eql .i64 t23 t27 fun t77 =>
 j51 [t77] m44) (j51 [Go.undef] m44)) fun j45 =>
 oGT t42 (call 22 [t22, t26] L m38 fun t78 m79 =>
 j45 [t78] m79) (j45 [Go.undef] m38)) fun j39 =>
 oGT t36 (oInt .eql .i64 t15 t19 fun t80 =>
 j39 [t80] m33) (j39 [Go.undef] m33)))
theorem S5_ok (lf : Nat) (cK : CallK β) (args : List Value) (L : Nat) (m : Mem) (k : Value → Mem → Option β)  : S5 lf cK args L m k = denF Tryd.prog fsT 2 K5 lf cK 5 args L m k := by kernel_rfl

/-- vitola/vitolalaw01.DockTurns -/
def K6 : Kat := [(381, (1, [47])), (381, (3, [52])), (381, (5, [57])), (381, (7, [60]))]
noncomputable def S6 (lf : Nat) : FnK β := fun call args L m k =>
 uc args fun t0 l1 =>
 uc l1 fun t2 l3 =>
 un0 l3 (oOpt (ln t2) fun t4 =>
 oInt .gtr .i64 t4 (.int .i64 (.ofNat 60)) fun t5 =>
 oIf t5 (call 15 [] L m fun t6 m7 =>
 k t6 m7) (call 39 [t0, t2] L m fun t8 m9 =>
 oOpt (aextract t8 0) fun t10 =>
 oOpt (aextract t8 1) fun t11 =>
 call 40 [t0, t2] L m9 fun t12 m13 =>
 oOpt (aextract t12 0) fun t14 =>
 oOpt (aextract t12 1) fun t15 =>
 call 41 [t0, t2] L m13 fun t16 m17 =>
 oOpt (aextract t16 0) fun t18 =>
 oOpt (aextract t16 1) fun t19 =>
 call 42 [t0, t2] L m17 fun t20 m21 =>
 oOpt (aextract t20 0) fun t22 =>
 oOpt (aextract t20 1) fun t23 =>
 call 22 [t10, t14] L m21 fun t24 m25 =>
 join (fun l26 m27 =>
 uc l26 fun t29 l30 =>
 oPick t24 t29 (.bool false) fun t31 =>
 join (fun l32 m33 =>
 uc l32 fun t35 l36 =>
 oPick t31 t35 (.bool false) fun t37 =>
 join (fun l38 m39 =>
 uc l38 fun t41 l42 =>
 oPick t37 t41 (.bool false) fun t43 =>
 join (fun l44 m45 =>
 uc l44 fun t47 l48 =>
 oPick t43 t47 (.bool false) fun t49 =>
 k t49 m45) fun j46 =>
 oGT t43 (call 15 [] L m39 fun t50 m51 =>
 j46 [t50] m51) (j46 [Go.undef] m39)) fun j40 =>
 oGT t37 (oInt .eql .i64 t19 t23 fun t52 =>
 j40 [t52] m33) (j40 [Go.undef] m33)) fun j34 =>
 oGT t31 (oInt .eql .i64 t18 t22 fun t53 =>
 j34 [t53] m27) (j34 [Go.undef] m27)) fun j28 =>
 oGT t24 (oInt .eql .i64 t11 t15 fun t54 =>
 j28 [t54] m25) (j28 [Go.undef] m25)))
theorem S6_ok (lf : Nat) (cK : CallK β) (args : List Value) (L : Nat) (m : Mem) (k : Value → Mem → Option β)  : S6 lf cK args L m k = denF Tryd.prog fsT 2 K6 lf cK 6 args L m k := by kernel_rfl

/-- vitola/vitolalaw01.DockNext -/
def K7 : Kat := [(377, (0, [9, 10])), (12104, (0, [9])), (763, (0, [11])), (6111, (1, [46])), (12275, (1, [64])), (12275, (3, [67])), (3069, (1, [74])), (3069, (3, [77]))]
noncomputable def S7 (lf : Nat) : FnK β := fun call args L m k =>
 uc args fun t0 l1 =>
 uc l1 fun t2 l3 =>
 uc l3 fun t4 l5 =>
 un0 l5 (oCv .i64 t0 fun t6 =>
 oInt .rem .i64 t6 (.int .i64 (.ofNat 8)) fun t7 =>
 oInt .add .i64 (.int .i64 (.ofNat 1)) t7 fun t8 =>
 oCv .i64 t4 fun t9 =>
 oInt .rem .i64 t9 t8 fun t10 =>
 oInt .sub .i64 t8 (.int .i64 (.ofNat 1)) fun t11 =>
 loopS (fun j14 l12 m13 =>
 uc l12 fun t15 l16 =>
 uc l16 fun t17 l18 =>
 oInt .geq .i64 t17 (.int .i64 (.ofNat 0)) fun t19 =>
 oIf t19 (oOpt (abin Tryd.prog .shr 5 t2 t17) fun t20 =>
 oInt .and .u8 t20 (.int .u8 (.ofNat 1)) fun t21 =>
 oInt .eql .u8 t21 (.int .u8 (.ofNat 1)) fun t22 =>
 join (fun l23 m24 =>
 uc l23 fun t26 l27 =>
 oInt .sub .i64 t17 (.int .i64 (.ofNat 1)) fun t28 =>
 j14 [t26, t28] m24) fun j25 =>
 oIf t22 (oRes (bs Tryd.prog m13 22 1 [(0, t17)]) fun t29 m30 =>
 oRes (aappend Tryd.prog L m30 22 t15 t29) fun t31 m32 =>
 j25 [t31] m32) (j25 [t15] m13)) (loopS (fun j35 l33 m34 =>
 uc l33 fun t36 l37 =>
 oInt .lss .i64 t36 t8 fun t38 =>
 join (fun l39 m40 =>
 uc l39 fun t42 l43 =>
 oPick t38 t42 (.bool false) fun t44 =>
 oIf t44 (oInt .add .i64 t36 (.int .i64 (.ofNat 1)) fun t45 =>
 j35 [t45] m40) (call 20 [t8, t15, t10] L m40 fun t46 m47 =>
 oOpt (aextract t46 0) fun t48 =>
 oOpt (aextract t46 1) fun t49 =>
 oInt .eql .i64 t36 t8 fun t50 =>
 oIf t50 (oInt .eql .i64 t49 (.int .i64 (.ofNat 12)) fun t51 =>
 join (fun l52 m53 =>
 uc l52 fun t55 l56 =>
 oPick t51 t55 (.bool false) fun t57 =>
 join (fun l58 m59 =>
 uc l58 fun t61 l62 =>
 oPick t57 t61 (.bool false) fun t63 =>
 k t63 m59) fun j60 =>
 oGT t57 (call 15 [] L m53 fun t64 m65 =>
 j60 [t64] m65) (j60 [Go.undef] m53)) fun j54 =>
 oGT t51 (oInt .eql .i64 t48 (.int .i64 (.ofNat 0)) fun t66 =>
 j54 [t66] m47) (j54 [Go.undef] m47)) (oInt .eql .i64 t49 (.int .i64 (.ofNat 0)) fun t67 =>
 join (fun l68 m69 =>
 uc l68 fun t71 l72 =>
 oPick t67 t71 (.bool false) fun t73 =>
 join (fun l74 m75 =>
 uc l74 fun t77 l78 =>
 oPick t73 t77 (.bool false) fun t79 =>
 k t79 m75) fun j76 =>
 oGT t73 (call 15 [] L m69 fun t80 m81 =>
 j76 [t80] m81) (j76 [Go.undef] m69)) fun j70 =>
 oGT t67 (oInt .eql .i64 t48 t36 fun t82 =>
 j70 [t82] m47) (j70 [Go.undef] m47)))) fun j41 =>
 oGT t38 (oOpt (abin Tryd.prog .shr 5 t2 t36) fun t83 =>
 oInt .and .u8 t83 (.int .u8 (.ofNat 1)) fun t84 =>
 oInt .eql .u8 t84 (.int .u8 (.ofNat 1)) fun t85 =>
 j41 [t85] m34) (j41 [Go.undef] m34)) lf [t10] m13)) lf [(.slice none 0 0), t11] m)
theorem S7_ok (lf : Nat) (cK : CallK β) (args : List Value) (L : Nat) (m : Mem) (k : Value → Mem → Option β)  : S7 lf cK args L m k = denF Tryd.prog fsT 2 K7 lf cK 7 args L m k := by kernel_rfl

/-- vitola/vitolalaw01.DockKnown: the general reading itself -/
def K8 : Kat := [(24573, (1, [81])), (24573, (3, [85])), (24573, (5, [89])), (24573, (7, [93])), (24573, (9, [97])), (24573, (11, [101])), (24573, (13, [105])), (24573, (15, [109])), (24573, (17, [113])), (24573, (19, [117])), (24573, (21, [123])), (24573, (23, [127])), (24573, (25, [131])), (24573, (27, [135])), (24573, (29, [141])), (24573, (31, [147])), (24573, (33, [153])), (24573, (35, [159])), (24573, (37, [163])), (24573, (39, [169])), (24573, (41, [175])), (24573, (43, [178]))]
noncomputable def S8 (lf : Nat) : FnK β := fun cK args L m k => denF Tryd.prog fsT 2 K8 lf cK 8 args L m k
theorem S8_ok (lf : Nat) (cK : CallK β) (args : List Value) (L : Nat) (m : Mem) (k : Value → Mem → Option β)  : S8 lf cK args L m k = denF Tryd.prog fsT 2 K8 lf cK 8 args L m k := rfl

/-- vitola/vitolalaw01.DockWeiss -/
def K9 : Kat := [(6140, (0, [13])), (6141, (1, [55])), (6141, (3, [60])), (6141, (5, [65])), (6141, (7, [69])), (6141, (9, [72]))]
noncomputable def S9 (lf : Nat) : FnK β := fun call args L m k =>
 uc args fun t0 l1 =>
 uc l1 fun t2 l3 =>
 un0 l3 (oCv .i64 t0 fun t4 =>
 oInt .rem .i64 t4 (.int .i64 (.ofNat 5)) fun t5 =>
 oInt .add .i64 (.int .i64 (.ofNat 1)) t5 fun t6 =>
 oRes (anew m 1 [(.int .i64 (.ofNat 0))] ptrTo) fun t7 m8 =>
 oRes (st1 1 L m8 t7 t6) fun t9 m10 =>
 oCv .i64 t2 fun t11 =>
 oOpt (ld1 m10 t7) fun t12 =>
 oInt .add .i64 t12 (.int .i64 (.ofNat 1)) fun t13 =>
 oInt .rem .i64 t11 t13 fun t14 =>
 oRes (anew m10 1 [(.int .i64 (.ofNat 0))] ptrTo) fun t15 m16 =>
 oRes (st1 1 L m16 t15 t14) fun t17 m18 =>
 oRes (anew m18 1 [(.int .i64 (.ofNat 0))] ptrTo) fun t19 m20 =>
 oRes (st1 1 L m20 t19 (.int .i64 (.ofNat 0))) fun t21 m22 =>
 oRes (anew m22 1 [(.bool false)] ptrTo) fun t23 m24 =>
 oRes (st1 1 L m24 t23 (.bool true)) fun t25 m26 =>
 oOpt (ld1 m26 t15) fun t27 =>
 oOpt (ld1 m26 t7) fun t28 =>
 call 44 [t27, t28, (.func (.func 45) #[] ⟨[t23, t7, t19, t15]⟩)] L m26 fun t29 m30 =>
 oOpt (ld1 m30 t7) fun t31 =>
 oOpt (ld1 m30 t15) fun t32 =>
 call 33 [t31, t32] L m30 fun t33 m34 =>
 oOpt (aextract t33 0) fun t35 =>
 oOpt (aextract t33 1) fun t36 =>
 oOpt (ld1 m34 t7) fun t37 =>
 oOpt (ld1 m34 t15) fun t38 =>
 oOpt (ld1 m34 t19) fun t39 =>
 call 35 [t37, t38, t39] L m34 fun t40 m41 =>
 oOpt (aextract t40 0) fun t42 =>
 oOpt (aextract t40 1) fun t43 =>
 oOpt (ld1 m41 t15) fun t44 =>
 oInt .gtr .i64 t44 (.int .i64 (.ofNat 0)) fun t45 =>
 join (fun l46 m47 =>
 uc l46 fun t49 l50 =>
 oOpt (ld1 m47 t23) fun t51 =>
 join (fun l52 m53 =>
 uc l52 fun t55 l56 =>
 oPick t51 t55 (.bool false) fun t57 =>
 join (fun l58 m59 =>
 uc l58 fun t61 l62 =>
 oPick t57 t61 (.bool false) fun t63 =>
 join (fun l64 m65 =>
 uc l64 fun t67 l68 =>
 oPick t63 t67 (.bool false) fun t69 =>
 join (fun l70 m71 =>
 uc l70 fun t73 l74 =>
 oPick t69 t73 (.bool false) fun t75 =>
 join (fun l76 m77 =>
 uc l76 fun t79 l80 =>
 oPick t75 t79 (.bool false) fun t81 =>
 k t81 m77) fun j78 =>
 oGT t75 (call 15 [] L m71 fun t82 m83 =>
 j78 [t82] m83) (j78 [Go.undef] m71)) fun j72 =>
 oGT t69 (oInt .eql .i64 t43 (.int .i64 (.ofNat 1)) fun t84 =>
 j72 [t84] m65) (j72 [Go.undef] m65)) fun j66 =>
 oGT t63 (oInt .eql .i64 t35 t49 fun t85 =>
 j66 [t85] m59) (j66 [Go.undef] m59)) fun j60 =>
 oGT t57 (oOpt (ld1 m53 t19) fun t86 =>
 oInt .eql .i64 t35 t86 fun t87 =>
 j60 [t87] m53) (j60 [Go.undef] m53)) fun j54 =>
 oGT t51 (oInt .eql .i64 t36 (.int .i64 (.ofNat 0)) fun t88 =>
 j54 [t88] m47) (j54 [Go.undef] m47)) fun j48 =>
 oIf t45 (oOpt (ld1 m41 t7) fun t89 =>
 oInt .add .i64 t89 (.int .i64 (.ofNat 1)) fun t90 =>
 oOpt (ld1 m41 t15) fun t91 =>
 oInt .sub .i64 t90 t91 fun t92 =>
 oOpt (ld1 m41 t7) fun t93 =>
 oInt .add .i64 t93 (.int .i64 (.ofNat 1)) fun t94 =>
 oOpt (ld1 m41 t15) fun t95 =>
 oInt .sub .i64 t95 (.int .i64 (.ofNat 1)) fun t96 =>
 call 48 [t94, t96] L m41 fun t97 m98 =>
 oSm m41 m98 t7 (
 oSm m41 m98 t15 (
 oInt .mul .i64 t92 t97 fun t99 =>
 j48 [t99] m98))) (j48 [(.int .i64 (.ofNat 1))] m41))
theorem S9_ok (lf : Nat) (cK : CallK β) (args : List Value) (L : Nat) (m : Mem) (k : Value → Mem → Option β)  : S9 lf cK args L m k = denF Tryd.prog fsT 2 K9 lf cK 9 args L m k := by kernel_rfl

/-- vitola/vitolalaw01.DockPollak -/
def K10 : Kat := [(91, (1, [33])), (761, (0, [7, 37])), (780697, (0, [9, 42])), (390349, (1, [65])), (390350, (0, [7])), (381, (1, [76]))]
noncomputable def S10 (lf : Nat) : FnK β := fun call args L m k =>
 uc args fun t0 l1 =>
 un0 l1 (oRes (abox m t0) fun t2 m3 =>
 oOpt (ldN m3 10 t2) fun t4 =>
 call 49 [t4, (.int .i64 (.ofNat 8)), (.int .i64 (.ofNat 1))] L m3 fun t5 m6 =>
 oOpt (aextract t5 0) fun t7 =>
 oOpt (aextract t5 1) fun t8 =>
 call 39 [t7, t8] L m6 fun t9 m10 =>
 oOpt (aextract t9 0) fun t11 =>
 oOpt (aextract t9 1) fun t12 =>
 oInt .neq .i64 t12 (.int .i64 (.ofNat 0)) fun t13 =>
 join (fun l14 m15 =>
 uc l14 fun t17 l18 =>
 oPick t13 (.bool true) t17 fun t19 =>
 oIf t19 (k (.bool false) m15) (oInt .add .i64 t7 (.int .i64 (.ofNat 1)) fun t20 =>
 loopS (fun j23 l21 m22 =>
 uc l21 fun t24 l25 =>
 uc l25 fun t26 l27 =>
 oInt .lss .i64 t26 t20 fun t28 =>
 oIf t28 (oOpt (ln t8) fun t29 =>
 loopS (fun j32 l30 m31 =>
 uc l30 fun t33 l34 =>
 uc l34 fun t35 l36 =>
 oInt .lss .i64 t35 t29 fun t37 =>
 oIf t37 (oOpt (ia 1 t8 t35) fun t38 =>
 oOpt (ld1 m31 t38) fun t39 =>
 oInt .add .i64 t39 t26 fun t40 =>
 oInt .add .i64 t7 (.int .i64 (.ofNat 1)) fun t41 =>
 oInt .rem .i64 t40 t41 fun t42 =>
 oRes (bs Tryd.prog m31 22 1 [(0, t42)]) fun t43 m44 =>
 oRes (aappend Tryd.prog L m44 22 t33 t43) fun t45 m46 =>
 oInt .add .i64 t35 (.int .i64 (.ofNat 1)) fun t47 =>
 j32 [t45, t47] m46) (call 46 [t33, t7] L m31 fun t48 m49 =>
 oOpt (aun .not t48) fun t50 =>
 join (fun l51 m52 =>
 uc l51 fun t54 l55 =>
 oPick t50 t54 (.bool false) fun t56 =>
 join (fun l57 m58 =>
 uc l57 fun t60 l61 =>
 oInt .add .i64 t26 (.int .i64 (.ofNat 1)) fun t62 =>
 j23 [t60, t62] m58) fun j59 =>
 oIf t56 (oRes (bs Tryd.prog m52 22 1 [(0, t26)]) fun t63 m64 =>
 oRes (aappend Tryd.prog L m64 22 t24 t63) fun t65 m66 =>
 j59 [t65] m66) (j59 [t24] m52)) fun j53 =>
 oGT t50 (call 47 [t7, t33] L m49 fun t67 m68 =>
 call 46 [t67, (.int .i64 (.negSucc 0))] L m68 fun t69 m70 =>
 oOpt (aun .not t69) fun t71 =>
 j53 [t71] m70) (j53 [Go.undef] m49))) lf [(.slice none 0 0), (.int .i64 (.ofNat 0))] m22) (call 22 [t11, t24] L m22 fun t72 m73 =>
 join (fun l74 m75 =>
 uc l74 fun t77 l78 =>
 oPick t72 t77 (.bool false) fun t79 =>
 k t79 m75) fun j76 =>
 oGT t72 (call 15 [] L m73 fun t80 m81 =>
 j76 [t80] m81) (j76 [Go.undef] m73))) lf [(.slice none 0 0), (.int .i64 (.ofNat 0))] m15)) fun j16 =>
 oGF t13 (oOpt (ln t11) fun t82 =>
 oInt .add .i64 t7 (.int .i64 (.ofNat 1)) fun t83 =>
 oOpt (ln t8) fun t84 =>
 oInt .sub .i64 t83 t84 fun t85 =>
 oInt .neq .i64 t82 t85 fun t86 =>
 j16 [t86] m10) (j16 [Go.undef] m10))
theorem S10_ok (lf : Nat) (cK : CallK β) (args : List Value) (L : Nat) (m : Mem) (k : Value → Mem → Option β)  : S10 lf cK args L m k = denF Tryd.prog fsT 2 K10 lf cK 10 args L m k := by kernel_rfl

/-- vitola/vitolalaw01.DockProved -/
def K11 : Kat := [(91, (1, [34])), (761, (0, [7, 8])), (195145, (0, [9, 43])), (24978738, (0, [9])), (390299, (1, [68])), (390299, (2, [70])), (390299, (3, [71])), (390302, (0, [7])), (12275, (1, [94])), (12275, (3, [97])), (3069, (1, [104])), (3069, (3, [107]))]
noncomputable def S11 (lf : Nat) : FnK β := fun call args L m k =>
 uc args fun t0 l1 =>
 un0 l1 (oRes (abox m t0) fun t2 m3 =>
 oOpt (ldN m3 10 t2) fun t4 =>
 call 49 [t4, (.int .i64 (.ofNat 8)), (.int .i64 (.ofNat 0))] L m3 fun t5 m6 =>
 oOpt (aextract t5 0) fun t7 =>
 oOpt (aextract t5 1) fun t8 =>
 call 16 [t7, t8] L m6 fun t9 m10 =>
 oOpt (aextract t9 0) fun t11 =>
 oOpt (aextract t9 1) fun t12 =>
 oInt .neq .i64 t12 (.int .i64 (.ofNat 0)) fun t13 =>
 join (fun l14 m15 =>
 uc l14 fun t17 l18 =>
 oPick t13 (.bool true) t17 fun t19 =>
 oIf t19 (k (.bool false) m15) (loopS (fun j22 l20 m21 =>
 uc l20 fun t23 l24 =>
 uc l24 fun t25 l26 =>
 oInt .geq .i64 t25 (.int .i64 (.ofNat 1)) fun t27 =>
 oIf t27 (oOpt (ln t8) fun t28 =>
 loopS (fun j31 l29 m30 =>
 uc l29 fun t32 l33 =>
 uc l33 fun t34 l35 =>
 oInt .lss .i64 t34 t28 fun t36 =>
 oIf t36 (oOpt (ia 1 t8 t34) fun t37 =>
 oOpt (ld1 m30 t37) fun t38 =>
 oInt .sub .i64 t7 t25 fun t39 =>
 oInt .geq .i64 t38 t39 fun t40 =>
 join (fun l41 m42 =>
 uc l41 fun t44 l45 =>
 oInt .add .i64 t34 (.int .i64 (.ofNat 1)) fun t46 =>
 j31 [t44, t46] m42) fun j43 =>
 oIf t40 (oInt .add .i64 t32 (.int .i64 (.ofNat 1)) fun t47 =>
 j43 [t47] m30) (j43 [t32] m30)) (call 31 [t7, t8, t25] L m30 fun t48 m49 =>
 oInt .eql .i64 t48 (.int .i64 (.ofNat 0)) fun t50 =>
 oInt .gtr .i64 t32 t25 fun t51 =>
 oOpt (abin Tryd.prog .neq 4 t50 t51) fun t52 =>
 join (fun l53 m54 =>
 uc l53 fun t56 l57 =>
 join (fun l58 m59 =>
 uc l58 fun t61 l62 =>
 join (fun l63 m64 =>
 uc l63 fun t66 l67 =>
 oPick t52 (.bool true) t66 fun t68 =>
 oIf t68 (k (.bool false) m64) (oInt .gtr .i64 t32 t25 fun t69 =>
 join (fun l70 m71 =>
 uc l70 fun t73 l74 =>
 oInt .sub .i64 t25 (.int .i64 (.ofNat 1)) fun t75 =>
 j22 [t73, t75] m71) fun j72 =>
 oIf t69 (j72 [t25] m64) (j72 [t23] m64))) fun j65 =>
 oGF t52 (oPick t56 t61 (.bool false) fun t76 =>
 j65 [t76] m59) (j65 [Go.undef] m59)) fun j60 =>
 oGT t56 (oInt .neq .i64 t48 (.int .i64 (.ofNat 14)) fun t77 =>
 j60 [t77] m54) (j60 [Go.undef] m54)) fun j55 =>
 oGF t52 (oInt .neq .i64 t48 (.int .i64 (.ofNat 0)) fun t78 =>
 j55 [t78] m49) (j55 [Go.undef] m49))) lf [(.int .i64 (.ofNat 0)), (.int .i64 (.ofNat 0))] m21) (call 29 [t7, t8] L m21 fun t79 m80 =>
 oOpt (aextract t79 0) fun t81 =>
 oOpt (aextract t79 1) fun t82 =>
 oInt .gtr .i64 t23 (.int .i64 (.ofNat 0)) fun t83 =>
 call 46 [t11, (.int .i64 (.negSucc 0))] L m80 fun t84 m85 =>
 oOpt (abin Tryd.prog .neq 4 t83 t84) fun t86 =>
 oIf t86 (k (.bool false) m85) (oInt .eql .i64 t23 (.int .i64 (.ofNat 0)) fun t87 =>
 oIf t87 (oInt .eql .i64 t82 (.int .i64 (.ofNat 13)) fun t88 =>
 join (fun l89 m90 =>
 uc l89 fun t92 l93 =>
 oPick t88 t92 (.bool false) fun t94 =>
 join (fun l95 m96 =>
 uc l95 fun t98 l99 =>
 oPick t94 t98 (.bool false) fun t100 =>
 k t100 m96) fun j97 =>
 oGT t94 (call 15 [] L m90 fun t101 m102 =>
 j97 [t101] m102) (j97 [Go.undef] m90)) fun j91 =>
 oGT t88 (oInt .eql .i64 t81 (.int .i64 (.ofNat 0)) fun t103 =>
 j91 [t103] m85) (j91 [Go.undef] m85)) (oInt .eql .i64 t82 (.int .i64 (.ofNat 0)) fun t104 =>
 join (fun l105 m106 =>
 uc l105 fun t108 l109 =>
 oPick t104 t108 (.bool false) fun t110 =>
 join (fun l111 m112 =>
 uc l111 fun t114 l115 =>
 oPick t110 t114 (.bool false) fun t116 =>
 k t116 m112) fun j113 =>
 oGT t110 (call 15 [] L m106 fun t117 m118 =>
 j113 [t117] m118) (j113 [Go.undef] m106)) fun j107 =>
 oGT t104 (oInt .eql .i64 t81 t23 fun t119 =>
 j107 [t119] m85) (j107 [Go.undef] m85))))) lf [(.int .i64 (.ofNat 0)), t7] m15)) fun j16 =>
 oGF t13 (call 47 [t7, t8] L m10 fun t120 m121 =>
 call 22 [t11, t120] L m121 fun t122 m123 =>
 oOpt (aun .not t122) fun t124 =>
 j16 [t124] m123) (j16 [Go.undef] m10))
theorem S11_ok (lf : Nat) (cK : CallK β) (args : List Value) (L : Nat) (m : Mem) (k : Value → Mem → Option β)  : S11 lf cK args L m k = denF Tryd.prog fsT 2 K11 lf cK 11 args L m k := by kernel_rfl

end
end Go.Vit
