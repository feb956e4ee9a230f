/- The law TopKeys in plain steps: printed by a program. -/
import Derived.Test.YtppallabmjdolaaGreatDoorS0
import Derived.Test.YtppallabmjdolaaGreatDoorFs
set_option linter.unusedVariables false
set_option maxRecDepth 100000
namespace Go.Vit
open Go Go.Proofs
section
variable {β : Type}
noncomputable def S3p (lf : Nat) : FnK β := fun call args L m k =>
 uc args fun t0 l1 =>
 uc l1 fun t2 l3 =>
 un0 l3 (oCv .i64 t0 fun t4 =>
 oInt .rem .i64 t4 (.int .i64 (.ofNat 6)) fun t5 =>
 oInt .add .i64 (.int .i64 (.ofNat 1)) t5 fun t6 =>
 oCv .i64 t2 fun t7 =>
 oInt .rem .i64 t7 t6 fun t8 =>
 oInt .add .i64 (.int .i64 (.ofNat 1)) t8 fun t9 =>
 call 9 [t6, t9] L m fun t10 m11 =>
 oOpt (aextract t10 0) fun t12 =>
 oOpt (aextract t10 1) fun t13 =>
 oRes (anew m11 1 [(.int .i64 (.ofNat 0)), (.slice none 0 0)] ptrTo) fun t14 m15 =>
 oRes (st1 2 L m15 t14 t12) fun t16 m17 =>
 oOpt (ldN m17 2 t14) fun t18 =>
 call 10 [t18] L m17 fun t19 m20 =>
 oOpt (aextract t19 0) fun t21 =>
 oOpt (aextract t19 1) fun t22 =>
 oRes (anew m20 1 [(.int .i64 (.ofNat 0)), (.slice none 0 0)] ptrTo) fun t23 m24 =>
 oRes (st1 2 L m24 t23 t21) fun t25 m26 =>
 oOpt (ldN m26 2 t14) fun t27 =>
 call 11 [t27] L m26 fun t28 m29 =>
 oOpt (aextract t28 0) fun t30 =>
 oOpt (aextract t28 1) fun t31 =>
 oInt .sub .i64 t9 (.int .i64 (.ofNat 1)) fun t32 =>
 call 12 [t6, t32] L m29 fun t33 m34 =>
 oOpt (aextract t33 0) fun t35 =>
 oOpt (aextract t33 1) fun t36 =>
 oInt .sub .i64 t6 t9 fun t37 =>
 oInt .add .i64 t37 (.int .i64 (.ofNat 1)) fun t38 =>
 call 12 [t6, t38] L m34 fun t39 m40 =>
 oOpt (aextract t39 0) fun t41 =>
 oOpt (aextract t39 1) fun t42 =>
 call 12 [t6, t9] L m40 fun t43 m44 =>
 oOpt (aextract t43 0) fun t45 =>
 oOpt (aextract t43 1) fun t46 =>
 oInt .neq .i64 t13 (.int .i64 (.ofNat 0)) fun t47 =>
 join (fun l48 m49 =>
 uc l48 fun t51 l52 =>
 oPick t47 (.bool true) t51 fun t53 =>
 join (fun l54 m55 =>
 uc l54 fun t57 l58 =>
 oPick t53 (.bool true) t57 fun t59 =>
 join (fun l60 m61 =>
 uc l60 fun t63 l64 =>
 oPick t59 (.bool true) t63 fun t65 =>
 join (fun l66 m67 =>
 uc l66 fun t69 l70 =>
 oPick t65 (.bool true) t69 fun t71 =>
 join (fun l72 m73 =>
 uc l72 fun t75 l76 =>
 oPick t71 (.bool true) t75 fun t77 =>
 join (fun l78 m79 =>
 uc l78 fun t81 l82 =>
 oPick t77 (.bool true) t81 fun t83 =>
 join (fun l84 m85 =>
 uc l84 fun t87 l88 =>
 oPick t83 (.bool true) t87 fun t89 =>
 join (fun l90 m91 =>
 uc l90 fun t93 l94 =>
 oPick t89 (.bool true) t93 fun t95 =>
 join (fun l96 m97 =>
 uc l96 fun t99 l100 =>
 oPick t95 (.bool true) t99 fun t101 =>
 oIf t101 (k (.bool false) m97) (oOpt (ln t35) fun t102 =>
 oInt .eql .i64 t102 (.int .i64 (.ofNat 1)) fun t103 =>
 oIf t103 (call 14 [] L m97 fun t104 m105 =>
 k t104 m105) (oOpt (ln t35) fun t106 =>
 loopS (fun j109 l107 m108 =>
 uc l107 fun t110 l111 =>
 oInt .lss .i64 t110 t106 fun t112 =>
 oIf t112 (oOpt (ia 1 t35 t110) fun t113 =>
 oOpt (ld1 m108 t113) fun t114 =>
 call 16 [t114, t6] L m108 fun t115 m116 =>
 call 15 [t6, t115] L m116 fun t117 m118 =>
 oOpt (aextract t117 0) fun t119 =>
 oOpt (aextract t117 1) fun t120 =>
 oOpt (aextract t117 2) fun t121 =>
 oOpt (aextract t117 3) fun t122 =>
 oInt .neq .i64 t122 (.int .i64 (.ofNat 0)) fun t123 =>
 join (fun l124 m125 =>
 uc l124 fun t127 l128 =>
 oPick t123 (.bool true) t127 fun t129 =>
 oIf t129 (k (.bool false) m125) (oOpt (ldN m125 2 t14) fun t130 =>
 call 18 [t130, t114] L m125 fun t131 m132 =>
 oOpt (aextract t131 0) fun t133 =>
 oOpt (aextract t131 1) fun t134 =>
 oOpt (ldN m132 2 t14) fun t135 =>
 call 19 [t119] L m132 fun t136 m137 =>
 oSm m132 m137 t14 (
 oInt .or .i64 t114 t136 fun t138 =>
 call 18 [t135, t138] L m137 fun t139 m140 =>
 oOpt (aextract t139 0) fun t141 =>
 oOpt (aextract t139 1) fun t142 =>
 oInt .neq .i64 t134 (.int .i64 (.ofNat 0)) fun t143 =>
 join (fun l144 m145 =>
 uc l144 fun t147 l148 =>
 oPick t143 (.bool true) t147 fun t149 =>
 join (fun l150 m151 =>
 uc l150 fun t153 l154 =>
 oPick t149 (.bool true) t153 fun t155 =>
 join (fun l156 m157 =>
 uc l156 fun t159 l160 =>
 oPick t155 (.bool true) t159 fun t161 =>
 oIf t161 (k (.bool false) m157) (oInt .add .i64 t110 (.int .i64 (.ofNat 1)) fun t162 =>
 j109 [t162] m157)) fun j158 =>
 oGF t155 (oOpt (aun .not t141) fun t163 =>
 j158 [t163] m151) (j158 [Go.undef] m151)) fun j152 =>
 oGF t149 (j152 [t133] m145) (j152 [Go.undef] m145)) fun j146 =>
 oGF t143 (oInt .neq .i64 t142 (.int .i64 (.ofNat 0)) fun t164 =>
 j146 [t164] m140) (j146 [Go.undef] m140)))) fun j126 =>
 oGF t123 (oInt .sub .i64 t9 (.int .i64 (.ofNat 1)) fun t165 =>
 call 17 [t119, t6, t165] L m118 fun t166 m167 =>
 oOpt (aun .not t166) fun t168 =>
 j126 [t168] m167) (j126 [Go.undef] m118)) (call 14 [] L m108 fun t169 m170 =>
 k t169 m170)) lf [(.int .i64 (.ofNat 0))] m97))) fun j98 =>
 oGF t95 (oOpt (fa 1 t23) fun t171 =>
 oOpt (ld1 m91 t171) fun t172 =>
 call 13 [t172, t41] L m91 fun t173 m174 =>
 oOpt (aun .not t173) fun t175 =>
 j98 [t175] m174) (j98 [Go.undef] m91)) fun j92 =>
 oGF t89 (call 13 [t30, t35] L m85 fun t176 m177 =>
 oOpt (aun .not t176) fun t178 =>
 j92 [t178] m177) (j92 [Go.undef] m85)) fun j86 =>
 oGF t83 (oOpt (fa 1 t14) fun t179 =>
 oOpt (ld1 m79 t179) fun t180 =>
 call 13 [t180, t45] L m79 fun t181 m182 =>
 oOpt (aun .not t181) fun t183 =>
 j86 [t183] m182) (j86 [Go.undef] m79)) fun j80 =>
 oGF t77 (oOpt (fa 0 t14) fun t184 =>
 oOpt (ld1 m73 t184) fun t185 =>
 oInt .neq .i64 t185 t6 fun t186 =>
 j80 [t186] m73) (j80 [Go.undef] m73)) fun j74 =>
 oGF t71 (oOpt (aun .not t46) fun t187 =>
 j74 [t187] m67) (j74 [Go.undef] m67)) fun j68 =>
 oGF t65 (oOpt (aun .not t42) fun t188 =>
 j68 [t188] m61) (j68 [Go.undef] m61)) fun j62 =>
 oGF t59 (oOpt (aun .not t36) fun t189 =>
 j62 [t189] m55) (j62 [Go.undef] m55)) fun j56 =>
 oGF t53 (oInt .neq .i64 t31 (.int .i64 (.ofNat 0)) fun t190 =>
 j56 [t190] m49) (j56 [Go.undef] m49)) fun j50 =>
 oGF t47 (oInt .neq .i64 t22 (.int .i64 (.ofNat 0)) fun t191 =>
 j50 [t191] m44) (j50 [Go.undef] m44))
theorem S3p_ok (lf : Nat) (cK : CallK β) (args : List Value) (L : Nat) (m : Mem) (k : Value → Mem → Option β)  : S3p lf cK args L m k = denF Tryz.prog fsT 2 K3 lf cK 3 args L m k := by kernel_rfl
end
end Go.Vit
