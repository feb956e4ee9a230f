/- Shallow texts of the seat's functions, printed by a program: part 11. -/
import Derived.Test.YtppallabmjdolaaGreatDoorRows
import Derived.Test.YtppallabmjdolaaGreatDoorFs
set_option linter.unusedVariables false
set_option maxRecDepth 100000
namespace Go.Vit
open Go Go.Proofs
section
variable {β : Type}
/-- slices.partialInsertionSortCmpFunc[vitola/heap.Heap] -/
def K236 : Kat := [(89, (0, [9, 10])), (5775, (0, [9])), (46207, (1, [35])), (92476, (0, [])), (92478, (0, [])), (369916, (0, [])), (739833, (0, [12])), (369908, (0, [])), (739817, (0, [11]))]
noncomputable def S236 (lf : Nat) : FnK β := fun call args L m k =>
 uc args fun t0 l1 =>
 uc l1 fun t2 l3 =>
 uc l3 fun t4 l5 =>
 uc l5 fun t6 l7 =>
 un0 l7 (oInt .add .i64 t2 (.int .i64 (.ofNat 1)) fun t8 =>
 loopS (fun j11 l9 m10 =>
 uc l9 fun t12 l13 =>
 uc l13 fun t14 l15 =>
 oInt .lss .i64 t14 (.int .i64 (.ofNat 5)) fun t16 =>
 oIf t16 (loopS (fun j19 l17 m18 =>
 uc l17 fun t20 l21 =>
 oInt .lss .i64 t20 t4 fun t22 =>
 join (fun l23 m24 =>
 uc l23 fun t26 l27 =>
 oPick t22 t26 (.bool false) fun t28 =>
 oIf t28 (oInt .add .i64 t20 (.int .i64 (.ofNat 1)) fun t29 =>
 j19 [t29] m24) (oInt .eql .i64 t20 t4 fun t30 =>
 oIf t30 (k (.bool true) m24) (oInt .sub .i64 t4 t2 fun t31 =>
 oInt .lss .i64 t31 (.int .i64 (.ofNat 50)) fun t32 =>
 oIf t32 (k (.bool false) m24) (oInt .sub .i64 t20 (.int .i64 (.ofNat 1)) fun t33 =>
 oInt .sub .i64 t20 (.int .i64 (.ofNat 1)) fun t34 =>
 oOpt (ia 2 t0 t34) fun t35 =>
 oOpt (ldN m24 2 t35) fun t36 =>
 oOpt (ia 2 t0 t20) fun t37 =>
 oOpt (ldN m24 2 t37) fun t38 =>
 oOpt (ia 2 t0 t20) fun t39 =>
 oRes (st1 2 L m24 t39 t36) fun t40 m41 =>
 oOpt (ia 2 t0 t33) fun t42 =>
 oRes (st1 2 L m41 t42 t38) fun t43 m44 =>
 oInt .sub .i64 t20 t2 fun t45 =>
 oInt .geq .i64 t45 (.int .i64 (.ofNat 2)) fun t46 =>
 join (fun l47 m48 =>
 oInt .sub .i64 t4 t20 fun t50 =>
 oInt .geq .i64 t50 (.int .i64 (.ofNat 2)) fun t51 =>
 join (fun l52 m53 =>
 oInt .add .i64 t14 (.int .i64 (.ofNat 1)) fun t55 =>
 j11 [t20, t55] m53) fun j54 =>
 oIf t51 (oInt .add .i64 t20 (.int .i64 (.ofNat 1)) fun t56 =>
 join (fun l57 m58 =>
 j54 [] m58) fun j59 =>
 loopS (fun j62 l60 m61 =>
 uc l60 fun t63 l64 =>
 oInt .lss .i64 t63 t4 fun t65 =>
 oIf t65 (oOpt (ia 2 t0 t63) fun t66 =>
 oOpt (ldN m61 2 t66) fun t67 =>
 oInt .sub .i64 t63 (.int .i64 (.ofNat 1)) fun t68 =>
 oOpt (ia 2 t0 t68) fun t69 =>
 oOpt (ldN m61 2 t69) fun t70 =>
 oCallV call t6 [t67, t70] L m61 fun t71 m72 =>
 oInt .lss .i64 t71 (.int .i64 (.ofNat 0)) fun t73 =>
 oOpt (aun .not t73) fun t74 =>
 oIf t74 (j59 [] m72) (oInt .sub .i64 t63 (.int .i64 (.ofNat 1)) fun t75 =>
 oInt .sub .i64 t63 (.int .i64 (.ofNat 1)) fun t76 =>
 oOpt (ia 2 t0 t76) fun t77 =>
 oOpt (ldN m72 2 t77) fun t78 =>
 oOpt (ia 2 t0 t63) fun t79 =>
 oOpt (ldN m72 2 t79) fun t80 =>
 oOpt (ia 2 t0 t63) fun t81 =>
 oRes (st1 2 L m72 t81 t78) fun t82 m83 =>
 oOpt (ia 2 t0 t75) fun t84 =>
 oRes (st1 2 L m83 t84 t80) fun t85 m86 =>
 oInt .add .i64 t63 (.int .i64 (.ofNat 1)) fun t87 =>
 j62 [t87] m86)) (j59 [] m61)) lf [t56] m48) (j54 [] m48)) fun j49 =>
 oIf t46 (oInt .sub .i64 t20 (.int .i64 (.ofNat 1)) fun t88 =>
 join (fun l89 m90 =>
 j49 [] m90) fun j91 =>
 loopS (fun j94 l92 m93 =>
 uc l92 fun t95 l96 =>
 oInt .geq .i64 t95 (.int .i64 (.ofNat 1)) fun t97 =>
 oIf t97 (oOpt (ia 2 t0 t95) fun t98 =>
 oOpt (ldN m93 2 t98) fun t99 =>
 oInt .sub .i64 t95 (.int .i64 (.ofNat 1)) fun t100 =>
 oOpt (ia 2 t0 t100) fun t101 =>
 oOpt (ldN m93 2 t101) fun t102 =>
 oCallV call t6 [t99, t102] L m93 fun t103 m104 =>
 oInt .lss .i64 t103 (.int .i64 (.ofNat 0)) fun t105 =>
 oOpt (aun .not t105) fun t106 =>
 oIf t106 (j91 [] m104) (oInt .sub .i64 t95 (.int .i64 (.ofNat 1)) fun t107 =>
 oInt .sub .i64 t95 (.int .i64 (.ofNat 1)) fun t108 =>
 oOpt (ia 2 t0 t108) fun t109 =>
 oOpt (ldN m104 2 t109) fun t110 =>
 oOpt (ia 2 t0 t95) fun t111 =>
 oOpt (ldN m104 2 t111) fun t112 =>
 oOpt (ia 2 t0 t95) fun t113 =>
 oRes (st1 2 L m104 t113 t110) fun t114 m115 =>
 oOpt (ia 2 t0 t107) fun t116 =>
 oRes (st1 2 L m115 t116 t112) fun t117 m118 =>
 oInt .sub .i64 t95 (.int .i64 (.ofNat 1)) fun t119 =>
 j94 [t119] m118)) (j91 [] m93)) lf [t88] m44) (j49 [] m44))))) fun j25 =>
 oGT t22 (oOpt (ia 2 t0 t20) fun t120 =>
 oOpt (ldN m18 2 t120) fun t121 =>
 oInt .sub .i64 t20 (.int .i64 (.ofNat 1)) fun t122 =>
 oOpt (ia 2 t0 t122) fun t123 =>
 oOpt (ldN m18 2 t123) fun t124 =>
 oCallV call t6 [t121, t124] L m18 fun t125 m126 =>
 oInt .lss .i64 t125 (.int .i64 (.ofNat 0)) fun t127 =>
 oOpt (aun .not t127) fun t128 =>
 j25 [t128] m126) (j25 [Go.undef] m18)) lf [t12] m10) (k (.bool false) m10)) lf [t8, (.int .i64 (.ofNat 0))] m)
theorem S236_ok (lf : Nat) (cK : CallK β) (args : List Value) (L : Nat) (m : Mem) (k : Value → Mem → Option β)  : S236 lf cK args L m k = denF Tryz.prog fsT 2 K236 lf cK 236 args L m k := by kernel_rfl

/-- slices.partitionEqualCmpFunc[vitola/heap.Heap] -/
def K237 : Kat := [(91, (0, [11, 12])), (1471, (0, [11])), (11775, (1, [46])), (2947, (0, [12])), (23583, (1, [64]))]
noncomputable def S237 (lf : Nat) : FnK β := fun call args L m k =>
 uc args fun t0 l1 =>
 uc l1 fun t2 l3 =>
 uc l3 fun t4 l5 =>
 uc l5 fun t6 l7 =>
 uc l7 fun t8 l9 =>
 un0 l9 (oOpt (ia 2 t0 t6) fun t10 =>
 oOpt (ldN m 2 t10) fun t11 =>
 oOpt (ia 2 t0 t2) fun t12 =>
 oOpt (ldN m 2 t12) fun t13 =>
 oOpt (ia 2 t0 t2) fun t14 =>
 oRes (st1 2 L m t14 t11) fun t15 m16 =>
 oOpt (ia 2 t0 t6) fun t17 =>
 oRes (st1 2 L m16 t17 t13) fun t18 m19 =>
 oInt .add .i64 t2 (.int .i64 (.ofNat 1)) fun t20 =>
 oInt .sub .i64 t4 (.int .i64 (.ofNat 1)) fun t21 =>
 loopS (fun j24 l22 m23 =>
 uc l22 fun t25 l26 =>
 uc l26 fun t27 l28 =>
 loopS (fun j31 l29 m30 =>
 uc l29 fun t32 l33 =>
 oInt .leq .i64 t32 t27 fun t34 =>
 join (fun l35 m36 =>
 uc l35 fun t38 l39 =>
 oPick t34 t38 (.bool false) fun t40 =>
 oIf t40 (oInt .add .i64 t32 (.int .i64 (.ofNat 1)) fun t41 =>
 j31 [t41] m36) (loopS (fun j44 l42 m43 =>
 uc l42 fun t45 l46 =>
 oInt .leq .i64 t32 t45 fun t47 =>
 join (fun l48 m49 =>
 uc l48 fun t51 l52 =>
 oPick t47 t51 (.bool false) fun t53 =>
 oIf t53 (oInt .sub .i64 t45 (.int .i64 (.ofNat 1)) fun t54 =>
 j44 [t54] m49) (oInt .gtr .i64 t32 t45 fun t55 =>
 oIf t55 (k t32 m49) (oOpt (ia 2 t0 t45) fun t56 =>
 oOpt (ldN m49 2 t56) fun t57 =>
 oOpt (ia 2 t0 t32) fun t58 =>
 oOpt (ldN m49 2 t58) fun t59 =>
 oOpt (ia 2 t0 t32) fun t60 =>
 oRes (st1 2 L m49 t60 t57) fun t61 m62 =>
 oOpt (ia 2 t0 t45) fun t63 =>
 oRes (st1 2 L m62 t63 t59) fun t64 m65 =>
 oInt .add .i64 t32 (.int .i64 (.ofNat 1)) fun t66 =>
 oInt .sub .i64 t45 (.int .i64 (.ofNat 1)) fun t67 =>
 j24 [t66, t67] m65))) fun j50 =>
 oGT t47 (oOpt (ia 2 t0 t2) fun t68 =>
 oOpt (ldN m43 2 t68) fun t69 =>
 oOpt (ia 2 t0 t45) fun t70 =>
 oOpt (ldN m43 2 t70) fun t71 =>
 oCallV call t8 [t69, t71] L m43 fun t72 m73 =>
 oInt .lss .i64 t72 (.int .i64 (.ofNat 0)) fun t74 =>
 j50 [t74] m73) (j50 [Go.undef] m43)) lf [t27] m36)) fun j37 =>
 oGT t34 (oOpt (ia 2 t0 t2) fun t75 =>
 oOpt (ldN m30 2 t75) fun t76 =>
 oOpt (ia 2 t0 t32) fun t77 =>
 oOpt (ldN m30 2 t77) fun t78 =>
 oCallV call t8 [t76, t78] L m30 fun t79 m80 =>
 oInt .lss .i64 t79 (.int .i64 (.ofNat 0)) fun t81 =>
 oOpt (aun .not t81) fun t82 =>
 j37 [t82] m80) (j37 [Go.undef] m30)) lf [t25] m23) lf [t20, t21] m19)
theorem S237_ok (lf : Nat) (cK : CallK β) (args : List Value) (L : Nat) (m : Mem) (k : Value → Mem → Option β)  : S237 lf cK args L m k = denF Tryz.prog fsT 2 K237 lf cK 237 args L m k := by kernel_rfl

/-- slices.partitionCmpFunc[vitola/heap.Heap] -/
def K238 : Kat := [(91, (0, [12])), (735, (1, [46])), (187, (0, [13])), (1503, (1, [65])), (6139, (0, [12, 13])), (98239, (0, [12])), (785919, (1, [119])), (196483, (0, [13])), (1571871, (1, [138]))]
noncomputable def S238 (lf : Nat) : FnK β := fun call args L m k =>
 uc args fun t0 l1 =>
 uc l1 fun t2 l3 =>
 uc l3 fun t4 l5 =>
 uc l5 fun t6 l7 =>
 uc l7 fun t8 l9 =>
 un0 l9 (oOpt (ia 2 t0 t6) fun t10 =>
 oOpt (ldN m 2 t10) fun t11 =>
 oOpt (ia 2 t0 t2) fun t12 =>
 oOpt (ldN m 2 t12) fun t13 =>
 oOpt (ia 2 t0 t2) fun t14 =>
 oRes (st1 2 L m t14 t11) fun t15 m16 =>
 oOpt (ia 2 t0 t6) fun t17 =>
 oRes (st1 2 L m16 t17 t13) fun t18 m19 =>
 oInt .add .i64 t2 (.int .i64 (.ofNat 1)) fun t20 =>
 oInt .sub .i64 t4 (.int .i64 (.ofNat 1)) fun t21 =>
 loopS (fun j24 l22 m23 =>
 uc l22 fun t25 l26 =>
 oInt .leq .i64 t25 t21 fun t27 =>
 join (fun l28 m29 =>
 uc l28 fun t31 l32 =>
 oPick t27 t31 (.bool false) fun t33 =>
 oIf t33 (oInt .add .i64 t25 (.int .i64 (.ofNat 1)) fun t34 =>
 j24 [t34] m29) (loopS (fun j37 l35 m36 =>
 uc l35 fun t38 l39 =>
 oInt .leq .i64 t25 t38 fun t40 =>
 join (fun l41 m42 =>
 uc l41 fun t44 l45 =>
 oPick t40 t44 (.bool false) fun t46 =>
 oIf t46 (oInt .sub .i64 t38 (.int .i64 (.ofNat 1)) fun t47 =>
 j37 [t47] m42) (oInt .gtr .i64 t25 t38 fun t48 =>
 oIf t48 (oOpt (ia 2 t0 t2) fun t49 =>
 oOpt (ldN m42 2 t49) fun t50 =>
 oOpt (ia 2 t0 t38) fun t51 =>
 oOpt (ldN m42 2 t51) fun t52 =>
 oOpt (ia 2 t0 t38) fun t53 =>
 oRes (st1 2 L m42 t53 t50) fun t54 m55 =>
 oOpt (ia 2 t0 t2) fun t56 =>
 oRes (st1 2 L m55 t56 t52) fun t57 m58 =>
 k (.tuple ⟨[t38, (.bool true)]⟩) m58) (oOpt (ia 2 t0 t38) fun t59 =>
 oOpt (ldN m42 2 t59) fun t60 =>
 oOpt (ia 2 t0 t25) fun t61 =>
 oOpt (ldN m42 2 t61) fun t62 =>
 oOpt (ia 2 t0 t25) fun t63 =>
 oRes (st1 2 L m42 t63 t60) fun t64 m65 =>
 oOpt (ia 2 t0 t38) fun t66 =>
 oRes (st1 2 L m65 t66 t62) fun t67 m68 =>
 oInt .add .i64 t25 (.int .i64 (.ofNat 1)) fun t69 =>
 oInt .sub .i64 t38 (.int .i64 (.ofNat 1)) fun t70 =>
 loopS (fun j73 l71 m72 =>
 uc l71 fun t74 l75 =>
 uc l75 fun t76 l77 =>
 loopS (fun j80 l78 m79 =>
 uc l78 fun t81 l82 =>
 oInt .leq .i64 t81 t76 fun t83 =>
 join (fun l84 m85 =>
 uc l84 fun t87 l88 =>
 oPick t83 t87 (.bool false) fun t89 =>
 oIf t89 (oInt .add .i64 t81 (.int .i64 (.ofNat 1)) fun t90 =>
 j80 [t90] m85) (loopS (fun j93 l91 m92 =>
 uc l91 fun t94 l95 =>
 oInt .leq .i64 t81 t94 fun t96 =>
 join (fun l97 m98 =>
 uc l97 fun t100 l101 =>
 oPick t96 t100 (.bool false) fun t102 =>
 oIf t102 (oInt .sub .i64 t94 (.int .i64 (.ofNat 1)) fun t103 =>
 j93 [t103] m98) (oInt .gtr .i64 t81 t94 fun t104 =>
 oIf t104 (oOpt (ia 2 t0 t2) fun t105 =>
 oOpt (ldN m98 2 t105) fun t106 =>
 oOpt (ia 2 t0 t94) fun t107 =>
 oOpt (ldN m98 2 t107) fun t108 =>
 oOpt (ia 2 t0 t94) fun t109 =>
 oRes (st1 2 L m98 t109 t106) fun t110 m111 =>
 oOpt (ia 2 t0 t2) fun t112 =>
 oRes (st1 2 L m111 t112 t108) fun t113 m114 =>
 k (.tuple ⟨[t94, (.bool false)]⟩) m114) (oOpt (ia 2 t0 t94) fun t115 =>
 oOpt (ldN m98 2 t115) fun t116 =>
 oOpt (ia 2 t0 t81) fun t117 =>
 oOpt (ldN m98 2 t117) fun t118 =>
 oOpt (ia 2 t0 t81) fun t119 =>
 oRes (st1 2 L m98 t119 t116) fun t120 m121 =>
 oOpt (ia 2 t0 t94) fun t122 =>
 oRes (st1 2 L m121 t122 t118) fun t123 m124 =>
 oInt .add .i64 t81 (.int .i64 (.ofNat 1)) fun t125 =>
 oInt .sub .i64 t94 (.int .i64 (.ofNat 1)) fun t126 =>
 j73 [t125, t126] m124))) fun j99 =>
 oGT t96 (oOpt (ia 2 t0 t94) fun t127 =>
 oOpt (ldN m92 2 t127) fun t128 =>
 oOpt (ia 2 t0 t2) fun t129 =>
 oOpt (ldN m92 2 t129) fun t130 =>
 oCallV call t8 [t128, t130] L m92 fun t131 m132 =>
 oInt .lss .i64 t131 (.int .i64 (.ofNat 0)) fun t133 =>
 oOpt (aun .not t133) fun t134 =>
 j99 [t134] m132) (j99 [Go.undef] m92)) lf [t76] m85)) fun j86 =>
 oGT t83 (oOpt (ia 2 t0 t81) fun t135 =>
 oOpt (ldN m79 2 t135) fun t136 =>
 oOpt (ia 2 t0 t2) fun t137 =>
 oOpt (ldN m79 2 t137) fun t138 =>
 oCallV call t8 [t136, t138] L m79 fun t139 m140 =>
 oInt .lss .i64 t139 (.int .i64 (.ofNat 0)) fun t141 =>
 j86 [t141] m140) (j86 [Go.undef] m79)) lf [t74] m72) lf [t69, t70] m68))) fun j43 =>
 oGT t40 (oOpt (ia 2 t0 t38) fun t142 =>
 oOpt (ldN m36 2 t142) fun t143 =>
 oOpt (ia 2 t0 t2) fun t144 =>
 oOpt (ldN m36 2 t144) fun t145 =>
 oCallV call t8 [t143, t145] L m36 fun t146 m147 =>
 oInt .lss .i64 t146 (.int .i64 (.ofNat 0)) fun t148 =>
 oOpt (aun .not t148) fun t149 =>
 j43 [t149] m147) (j43 [Go.undef] m36)) lf [t21] m29)) fun j30 =>
 oGT t27 (oOpt (ia 2 t0 t25) fun t150 =>
 oOpt (ldN m23 2 t150) fun t151 =>
 oOpt (ia 2 t0 t2) fun t152 =>
 oOpt (ldN m23 2 t152) fun t153 =>
 oCallV call t8 [t151, t153] L m23 fun t154 m155 =>
 oInt .lss .i64 t154 (.int .i64 (.ofNat 0)) fun t156 =>
 j30 [t156] m155) (j30 [Go.undef] m23)) lf [t20] m19)
theorem S238_ok (lf : Nat) (cK : CallK β) (args : List Value) (L : Nat) (m : Mem) (k : Value → Mem → Option β)  : S238 lf cK args L m k = denF Tryz.prog fsT 2 K238 lf cK 238 args L m k := by kernel_rfl

/-- slices.siftDownCmpFunc[vitola/heap.Heap] -/
def K239 : Kat := [(9, (0, [10])), (651, (1, [39])), (652, (0, [11]))]
noncomputable def S239 (lf : Nat) : FnK β := fun call args L m k =>
 uc args fun t0 l1 =>
 uc l1 fun t2 l3 =>
 uc l3 fun t4 l5 =>
 uc l5 fun t6 l7 =>
 uc l7 fun t8 l9 =>
 un0 l9 (loopS (fun j12 l10 m11 =>
 uc l10 fun t13 l14 =>
 oInt .mul .i64 (.int .i64 (.ofNat 2)) t13 fun t15 =>
 oInt .add .i64 t15 (.int .i64 (.ofNat 1)) fun t16 =>
 oInt .geq .i64 t16 t4 fun t17 =>
 oIf t17 (k (.tuple ⟨[]⟩) m11) (oInt .add .i64 t16 (.int .i64 (.ofNat 1)) fun t18 =>
 oInt .lss .i64 t18 t4 fun t19 =>
 join (fun l20 m21 =>
 uc l20 fun t23 l24 =>
 oPick t19 t23 (.bool false) fun t25 =>
 join (fun l26 m27 =>
 uc l26 fun t29 l30 =>
 oInt .add .i64 t6 t13 fun t31 =>
 oOpt (ia 2 t0 t31) fun t32 =>
 oOpt (ldN m27 2 t32) fun t33 =>
 oInt .add .i64 t6 t29 fun t34 =>
 oOpt (ia 2 t0 t34) fun t35 =>
 oOpt (ldN m27 2 t35) fun t36 =>
 oCallV call t8 [t33, t36] L m27 fun t37 m38 =>
 oInt .lss .i64 t37 (.int .i64 (.ofNat 0)) fun t39 =>
 oOpt (aun .not t39) fun t40 =>
 oIf t40 (k (.tuple ⟨[]⟩) m38) (oInt .add .i64 t6 t13 fun t41 =>
 oInt .add .i64 t6 t29 fun t42 =>
 oInt .add .i64 t6 t29 fun t43 =>
 oOpt (ia 2 t0 t43) fun t44 =>
 oOpt (ldN m38 2 t44) fun t45 =>
 oInt .add .i64 t6 t13 fun t46 =>
 oOpt (ia 2 t0 t46) fun t47 =>
 oOpt (ldN m38 2 t47) fun t48 =>
 oOpt (ia 2 t0 t41) fun t49 =>
 oRes (st1 2 L m38 t49 t45) fun t50 m51 =>
 oOpt (ia 2 t0 t42) fun t52 =>
 oRes (st1 2 L m51 t52 t48) fun t53 m54 =>
 j12 [t29] m54)) fun j28 =>
 oIf t25 (oInt .add .i64 t16 (.int .i64 (.ofNat 1)) fun t55 =>
 j28 [t55] m21) (j28 [t16] m21)) fun j22 =>
 oGT t19 (oInt .add .i64 t6 t16 fun t56 =>
 oOpt (ia 2 t0 t56) fun t57 =>
 oOpt (ldN m11 2 t57) fun t58 =>
 oInt .add .i64 t6 t16 fun t59 =>
 oInt .add .i64 t59 (.int .i64 (.ofNat 1)) fun t60 =>
 oOpt (ia 2 t0 t60) fun t61 =>
 oOpt (ldN m11 2 t61) fun t62 =>
 oCallV call t8 [t58, t62] L m11 fun t63 m64 =>
 oInt .lss .i64 t63 (.int .i64 (.ofNat 0)) fun t65 =>
 j22 [t65] m64) (j22 [Go.undef] m11))) lf [t2] m)
theorem S239_ok (lf : Nat) (cK : CallK β) (args : List Value) (L : Nat) (m : Mem) (k : Value → Mem → Option β)  : S239 lf cK args L m k = denF Tryz.prog fsT 2 K239 lf cK 239 args L m k := by kernel_rfl

/-- slices.medianAdjacentCmpFunc[vitola/heap.Heap] -/
def K240 : Kat := []
noncomputable def S240 (lf : Nat) : FnK β := fun call args L m k =>
 uc args fun t0 l1 =>
 uc l1 fun t2 l3 =>
 uc l3 fun t4 l5 =>
 uc l5 fun t6 l7 =>
 un0 l7 (oInt .sub .i64 t2 (.int .i64 (.ofNat 1)) fun t8 =>
 oInt .add .i64 t2 (.int .i64 (.ofNat 1)) fun t9 =>
 call 241 [t0, t8, t2, t9, t4, t6] L m fun t10 m11 =>
 k t10 m11)
theorem S240_ok (lf : Nat) (cK : CallK β) (args : List Value) (L : Nat) (m : Mem) (k : Value → Mem → Option β)  : S240 lf cK args L m k = denF Tryz.prog fsT 2 K240 lf cK 240 args L m k := by kernel_rfl

/-- slices.medianCmpFunc[vitola/heap.Heap] -/
def K241 : Kat := []
noncomputable def S241 (lf : Nat) : FnK β := fun call args L m k =>
 uc args fun t0 l1 =>
 uc l1 fun t2 l3 =>
 uc l3 fun t4 l5 =>
 uc l5 fun t6 l7 =>
 uc l7 fun t8 l9 =>
 uc l9 fun t10 l11 =>
 un0 l11 (call 242 [t0, t2, t4, t8, t10] L m fun t12 m13 =>
 oOpt (aextract t12 0) fun t14 =>
 oOpt (aextract t12 1) fun t15 =>
 call 242 [t0, t15, t6, t8, t10] L m13 fun t16 m17 =>
 oOpt (aextract t16 0) fun t18 =>
 oOpt (aextract t16 1) fun t19 =>
 call 242 [t0, t14, t18, t8, t10] L m17 fun t20 m21 =>
 oOpt (aextract t20 0) fun t22 =>
 oOpt (aextract t20 1) fun t23 =>
 k t23 m21)
theorem S241_ok (lf : Nat) (cK : CallK β) (args : List Value) (L : Nat) (m : Mem) (k : Value → Mem → Option β)  : S241 lf cK args L m k = denF Tryz.prog fsT 2 K241 lf cK 241 args L m k := by kernel_rfl

/-- slices.order2CmpFunc[vitola/heap.Heap] -/
def K242 : Kat := []
noncomputable def S242 (lf : Nat) : FnK β := fun call args L m k =>
 uc args fun t0 l1 =>
 uc l1 fun t2 l3 =>
 uc l3 fun t4 l5 =>
 uc l5 fun t6 l7 =>
 uc l7 fun t8 l9 =>
 un0 l9 (oOpt (ia 2 t0 t4) fun t10 =>
 oOpt (ldN m 2 t10) fun t11 =>
 oOpt (ia 2 t0 t2) fun t12 =>
 oOpt (ldN m 2 t12) fun t13 =>
 oCallV call t8 [t11, t13] L m fun t14 m15 =>
 oInt .lss .i64 t14 (.int .i64 (.ofNat 0)) fun t16 =>
 oIf t16 (oOpt (anil t6) fun t17 =>
 oOpt (ld1 m15 t17) fun t18 =>
 oInt .add .i64 t18 (.int .i64 (.ofNat 1)) fun t19 =>
 oOpt (anil t6) fun t20 =>
 oRes (st1 1 L m15 t20 t19) fun t21 m22 =>
 k (.tuple ⟨[t4, t2]⟩) m22) (k (.tuple ⟨[t2, t4]⟩) m15))
theorem S242_ok (lf : Nat) (cK : CallK β) (args : List Value) (L : Nat) (m : Mem) (k : Value → Mem → Option β)  : S242 lf cK args L m k = denF Tryz.prog fsT 2 K242 lf cK 242 args L m k := by kernel_rfl

/-- slices.AppendSeq[[]int,int]: a round of its range over a function -/
def KR201 : Kat := []
noncomputable def R201 (lf : Nat) : FnK β := fun call args L m k =>
 uc args fun yv args =>
 oYv yv L fun y =>
 uc args fun t0 l1 =>
 uc l1 fun t2 l3 =>
 un0 l3 (oBusy 201 y m fun m4 =>
 oOpt (ld1 m4 t0) fun t5 =>
 oRes (bs Tryz.prog m4 22 1 [(0, t2)]) fun t6 m7 =>
 oRes (aappend Tryz.prog L m7 22 t5 t6) fun t8 m9 =>
 oRes (st1 1 L m9 t0 t8) fun t10 m11 =>
 oReady 201 y m11 fun m12 =>
 k (.bool true) m12)
theorem R201_ok (lf : Nat) (cK : CallK β) (args : List Value) (L : Nat) (m : Mem) (k : Value → Mem → Option β)  : R201 lf cK args L m k = denR Tryz.prog (ltab Tryz.prog fsT) 2 KR201 lf cK 201 args L m k := by kernel_rfl

end
end Go.Vit
