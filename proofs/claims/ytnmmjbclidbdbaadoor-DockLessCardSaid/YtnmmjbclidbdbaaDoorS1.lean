/- Shallow texts of the seat's functions, printed by a program: part 1. -/
import Derived.Test.YtnmmjbclidbdbaaDoorRows
import Derived.Test.YtnmmjbclidbdbaaDoorFs
set_option linter.unusedVariables false
set_option maxRecDepth 100000
namespace Go.Vit
open Go Go.Proofs
section
variable {β : Type}
/-- vitola/vitolalaw01.DockOrders -/
def K12 : Kat := [(185, (0, [35])), (6139, (1, [94])), (6139, (3, [98])), (6139, (5, [102])), (6139, (7, [106])), (6139, (9, [113])), (6139, (11, [120])), (49145, (0, [20, 21, 124])), (12581475, (1, [134])), (12581475, (3, [139])), (12581475, (4, [145])), (12581475, (5, [146])), (25162956, (0, [20])), (25162958, (0, [21])), (49147, (1, [173])), (49147, (3, [177])), (98301, (1, [191])), (98301, (2, [194])), (98301, (3, [195])), (98301, (5, [198]))]
noncomputable def S12 (lf : Nat) : FnK β := fun call args L m k =>
 uc args fun t0 l1 =>
 uc l1 fun t2 l3 =>
 un0 l3 (oRes (abox m t0) fun t4 m5 =>
 oRes (abox m5 t2) fun t6 m7 =>
 oOpt (ldN m7 10 t4) fun t8 =>
 call 49 [t8, (.int .i64 (.ofNat 8)), (.int .i64 (.ofNat 0))] L m7 fun t9 m10 =>
 oOpt (aextract t9 0) fun t11 =>
 oOpt (aextract t9 1) fun t12 =>
 call 50 [t12] L m10 fun t13 m14 =>
 oOpt (ln t13) fun t15 =>
 loopS (fun j18 l16 m17 =>
 uc l16 fun t19 l20 =>
 oInt .lss .i64 t19 t15 fun t21 =>
 oIf t21 (oOpt (iaA 8 1 t6 t19) fun t22 =>
 oOpt (ld1 m17 t22) fun t23 =>
 oCv .i64 t23 fun t24 =>
 oInt .add .i64 t19 (.int .i64 (.ofNat 1)) fun t25 =>
 oInt .rem .i64 t24 t25 fun t26 =>
 oOpt (ia 1 t13 t26) fun t27 =>
 oOpt (ld1 m17 t27) fun t28 =>
 oOpt (ia 1 t13 t19) fun t29 =>
 oOpt (ld1 m17 t29) fun t30 =>
 oOpt (ia 1 t13 t19) fun t31 =>
 oRes (st1 1 L m17 t31 t28) fun t32 m33 =>
 oOpt (ia 1 t13 t26) fun t34 =>
 oRes (st1 1 L m33 t34 t30) fun t35 m36 =>
 oInt .add .i64 t19 (.int .i64 (.ofNat 1)) fun t37 =>
 j18 [t37] m36) (call 16 [t11, t12] L m17 fun t38 m39 =>
 oOpt (aextract t38 0) fun t40 =>
 oOpt (aextract t38 1) fun t41 =>
 call 16 [t11, t13] L m39 fun t42 m43 =>
 oOpt (aextract t42 0) fun t44 =>
 oOpt (aextract t42 1) fun t45 =>
 call 23 [t11, t12] L m43 fun t46 m47 =>
 oOpt (aextract t46 0) fun t48 =>
 oOpt (aextract t46 1) fun t49 =>
 call 23 [t11, t13] L m47 fun t50 m51 =>
 oOpt (aextract t50 0) fun t52 =>
 oOpt (aextract t50 1) fun t53 =>
 call 25 [t11, t12] L m51 fun t54 m55 =>
 oOpt (aextract t54 0) fun t56 =>
 oOpt (aextract t54 1) fun t57 =>
 oInt .neq .i64 t41 (.int .i64 (.ofNat 0)) fun t58 =>
 join (fun l59 m60 =>
 uc l59 fun t62 l63 =>
 oPick t58 (.bool true) t62 fun t64 =>
 join (fun l65 m66 =>
 uc l65 fun t68 l69 =>
 oPick t64 (.bool true) t68 fun t70 =>
 join (fun l71 m72 =>
 uc l71 fun t74 l75 =>
 oPick t70 (.bool true) t74 fun t76 =>
 join (fun l77 m78 =>
 uc l77 fun t80 l81 =>
 oPick t76 (.bool true) t80 fun t82 =>
 join (fun l83 m84 =>
 uc l83 fun t86 l87 =>
 oPick t82 (.bool true) t86 fun t88 =>
 join (fun l89 m90 =>
 uc l89 fun t92 l93 =>
 oPick t88 (.bool true) t92 fun t94 =>
 oIf t94 (k (.bool false) m90) (oOpt (ln t40) fun t95 =>
 loopS (fun j98 l96 m97 =>
 uc l96 fun t99 l100 =>
 uc l100 fun t101 l102 =>
 uc l102 fun t103 l104 =>
 oInt .lss .i64 t103 t95 fun t105 =>
 oIf t105 (oOpt (ia 1 t40 t103) fun t106 =>
 oOpt (ld1 m97 t106) fun t107 =>
 oInt .lss .i64 t107 (.int .i64 (.negSucc 0)) fun t108 =>
 join (fun l109 m110 =>
 uc l109 fun t112 l113 =>
 oPick t108 (.bool true) t112 fun t114 =>
 join (fun l115 m116 =>
 uc l115 fun t118 l119 =>
 join (fun l120 m121 =>
 uc l120 fun t123 l124 =>
 join (fun l125 m126 =>
 uc l125 fun t128 l129 =>
 oPick t114 (.bool true) t128 fun t130 =>
 oIf t130 (k (.bool false) m126) (oInt .geq .i64 t107 (.int .i64 (.ofNat 0)) fun t131 =>
 join (fun l132 m133 =>
 uc l132 fun t135 l136 =>
 oOpt (ia 1 t12 t103) fun t137 =>
 oOpt (ld1 m133 t137) fun t138 =>
 oInt .eql .i64 t107 t138 fun t139 =>
 join (fun l140 m141 =>
 uc l140 fun t143 l144 =>
 oInt .add .i64 t103 (.int .i64 (.ofNat 1)) fun t145 =>
 j98 [t135, t143, t145] m141) fun j142 =>
 oIf t139 (oInt .add .i64 t101 (.int .i64 (.ofNat 1)) fun t146 =>
 j142 [t146] m133) (j142 [t101] m133)) fun j134 =>
 oIf t131 (oOpt (ia 1 t12 t103) fun t147 =>
 oOpt (ld1 m126 t147) fun t148 =>
 oInt .sub .i64 t107 t148 fun t149 =>
 oInt .add .i64 t99 t149 fun t150 =>
 j134 [t150] m126) (j134 [t99] m126))) fun j127 =>
 oGF t114 (oPick t118 t123 (.bool false) fun t151 =>
 j127 [t151] m121) (j127 [Go.undef] m121)) fun j122 =>
 oGT t118 (oOpt (ia 1 t12 t103) fun t152 =>
 oOpt (ld1 m116 t152) fun t153 =>
 oInt .lss .i64 t107 t153 fun t154 =>
 j122 [t154] m116) (j122 [Go.undef] m116)) fun j117 =>
 oGF t114 (oInt .geq .i64 t107 (.int .i64 (.ofNat 0)) fun t155 =>
 j117 [t155] m110) (j117 [Go.undef] m110)) fun j111 =>
 oGF t108 (oInt .geq .i64 t107 t11 fun t156 =>
 j111 [t156] m97) (j111 [Go.undef] m97)) (oInt .neq .i64 t48 t99 fun t157 =>
 join (fun l158 m159 =>
 uc l158 fun t161 l162 =>
 oPick t157 (.bool true) t161 fun t163 =>
 join (fun l164 m165 =>
 uc l164 fun t167 l168 =>
 oPick t163 (.bool true) t167 fun t169 =>
 oIf t169 (k (.bool false) m165) (call 52 [t40] L m165 fun t170 m171 =>
 call 51 [t170] L m171 fun t172 m173 =>
 call 52 [t44] L m173 fun t174 m175 =>
 call 51 [t174] L m175 fun t176 m177 =>
 call 22 [t172, t176] L m177 fun t178 m179 =>
 join (fun l180 m181 =>
 uc l180 fun t183 l184 =>
 join (fun l185 m186 =>
 uc l185 fun t188 l189 =>
 join (fun l190 m191 =>
 uc l190 fun t193 l194 =>
 oPick t178 t193 (.bool false) fun t195 =>
 join (fun l196 m197 =>
 uc l196 fun t199 l200 =>
 oPick t195 t199 (.bool false) fun t201 =>
 k t201 m197) fun j198 =>
 oGT t195 (call 15 [] L m191 fun t202 m203 =>
 j198 [t202] m203) (j198 [Go.undef] m191)) fun j192 =>
 oGT t178 (oPick t183 (.bool true) t188 fun t204 =>
 j192 [t204] m186) (j192 [Go.undef] m186)) fun j187 =>
 oGF t183 (oInt .eql .i64 t48 t52 fun t205 =>
 j187 [t205] m181) (j187 [Go.undef] m181)) fun j182 =>
 oGT t178 (call 46 [t40, (.int .i64 (.negSucc 0))] L m179 fun t206 m207 =>
 j182 [t206] m207) (j182 [Go.undef] m179))) fun j166 =>
 oGF t163 (oInt .lss .i64 t52 (.int .i64 (.ofNat 0)) fun t208 =>
 j166 [t208] m159) (j166 [Go.undef] m159)) fun j160 =>
 oGF t157 (oInt .neq .i64 t56 t101 fun t209 =>
 j160 [t209] m97) (j160 [Go.undef] m97))) lf [(.int .i64 (.ofNat 0)), (.int .i64 (.ofNat 0)), (.int .i64 (.ofNat 0))] m90)) fun j91 =>
 oGF t88 (oOpt (ln t44) fun t210 =>
 oOpt (ln t13) fun t211 =>
 oInt .neq .i64 t210 t211 fun t212 =>
 j91 [t212] m84) (j91 [Go.undef] m84)) fun j85 =>
 oGF t82 (oOpt (ln t40) fun t213 =>
 oOpt (ln t12) fun t214 =>
 oInt .neq .i64 t213 t214 fun t215 =>
 j85 [t215] m78) (j85 [Go.undef] m78)) fun j79 =>
 oGF t76 (oInt .neq .i64 t57 (.int .i64 (.ofNat 0)) fun t216 =>
 j79 [t216] m72) (j79 [Go.undef] m72)) fun j73 =>
 oGF t70 (oInt .neq .i64 t53 (.int .i64 (.ofNat 0)) fun t217 =>
 j73 [t217] m66) (j73 [Go.undef] m66)) fun j67 =>
 oGF t64 (oInt .neq .i64 t49 (.int .i64 (.ofNat 0)) fun t218 =>
 j67 [t218] m60) (j67 [Go.undef] m60)) fun j61 =>
 oGF t58 (oInt .neq .i64 t45 (.int .i64 (.ofNat 0)) fun t219 =>
 j61 [t219] m55) (j61 [Go.undef] m55))) lf [(.int .i64 (.ofNat 0))] m14)
theorem S12_ok (lf : Nat) (cK : CallK β) (args : List Value) (L : Nat) (m : Mem) (k : Value → Mem → Option β)  : S12 lf cK args L m k = denF Tryd.prog fsT 2 K12 lf cK 12 args L m k := by kernel_rfl

/-- vitola/vitolalaw01.DockLess -/
def K14 : Kat := [(91, (1, [38])), (755, (1, [45])), (6141, (1, [87])), (6141, (3, [92])), (6141, (4, [94])), (6141, (5, [95])), (6141, (6, [96])), (6141, (7, [97])), (6141, (9, [100]))]
noncomputable def S14 (lf : Nat) : FnK β := fun call args L m k =>
 uc args fun t0 l1 =>
 uc l1 fun t2 l3 =>
 uc l3 fun t4 l5 =>
 un0 l5 (oRes (abox m t0) fun t6 m7 =>
 oOpt (ldN m7 10 t6) fun t8 =>
 call 49 [t8, (.int .i64 (.ofNat 8)), (.int .i64 (.ofNat 0))] L m7 fun t9 m10 =>
 oOpt (aextract t9 0) fun t11 =>
 oOpt (aextract t9 1) fun t12 =>
 call 18 [t11, t12] L m10 fun t13 m14 =>
 oOpt (aextract t13 0) fun t15 =>
 oOpt (aextract t13 1) fun t16 =>
 oInt .neq .i64 t16 (.int .i64 (.ofNat 0)) fun t17 =>
 join (fun l18 m19 =>
 uc l18 fun t21 l22 =>
 oPick t17 (.bool true) t21 fun t23 =>
 oIf t23 (k (.bool false) m19) (oOpt (ln t12) fun t24 =>
 oInt .eql .i64 t24 (.int .i64 (.ofNat 0)) fun t25 =>
 oIf t25 (join (fun l26 m27 =>
 uc l26 fun t29 l30 =>
 oPick t15 t29 (.bool false) fun t31 =>
 k t31 m27) fun j28 =>
 oGT t15 (call 15 [] L m19 fun t32 m33 =>
 j28 [t32] m33) (j28 [Go.undef] m19)) (oCv .i64 t2 fun t34 =>
 oOpt (ln t12) fun t35 =>
 oInt .rem .i64 t34 t35 fun t36 =>
 call 50 [t12] L m19 fun t37 m38 =>
 call 50 [t12] L m38 fun t39 m40 =>
 oInt .add .i64 t36 (.int .i64 (.ofNat 1)) fun t41 =>
 call 55 [t39, t36, t41] L m40 fun t42 m43 =>
 oCv .i64 t4 fun t44 =>
 oOpt (ia 1 t12 t36) fun t45 =>
 oOpt (ld1 m43 t45) fun t46 =>
 oInt .add .i64 t46 (.int .i64 (.ofNat 1)) fun t47 =>
 oInt .rem .i64 t44 t47 fun t48 =>
 oOpt (ia 1 t37 t36) fun t49 =>
 oRes (st1 1 L m43 t49 t48) fun t50 m51 =>
 call 18 [t11, t37] L m51 fun t52 m53 =>
 oOpt (aextract t52 0) fun t54 =>
 oOpt (aextract t52 1) fun t55 =>
 call 18 [t11, t42] L m53 fun t56 m57 =>
 oOpt (aextract t56 0) fun t58 =>
 oOpt (aextract t56 1) fun t59 =>
 oInt .eql .i64 t55 (.int .i64 (.ofNat 0)) fun t60 =>
 join (fun l61 m62 =>
 uc l61 fun t64 l65 =>
 oPick t60 t64 (.bool false) fun t66 =>
 join (fun l67 m68 =>
 uc l67 fun t70 l71 =>
 join (fun l72 m73 =>
 uc l72 fun t75 l76 =>
 join (fun l77 m78 =>
 uc l77 fun t80 l81 =>
 join (fun l82 m83 =>
 uc l82 fun t85 l86 =>
 join (fun l87 m88 =>
 uc l87 fun t90 l91 =>
 oPick t66 t90 (.bool false) fun t92 =>
 join (fun l93 m94 =>
 uc l93 fun t96 l97 =>
 oPick t92 t96 (.bool false) fun t98 =>
 k t98 m94) fun j95 =>
 oGT t92 (call 15 [] L m88 fun t99 m100 =>
 j95 [t99] m100) (j95 [Go.undef] m88)) fun j89 =>
 oGT t66 (oPick t70 (.bool true) t85 fun t101 =>
 j89 [t101] m83) (j89 [Go.undef] m83)) fun j84 =>
 oGF t70 (oPick t75 t80 (.bool false) fun t102 =>
 j84 [t102] m78) (j84 [Go.undef] m78)) fun j79 =>
 oGT t75 (j79 [t58] m73) (j79 [Go.undef] m73)) fun j74 =>
 oGF t70 (j74 [t54] m68) (j74 [Go.undef] m68)) fun j69 =>
 oGT t66 (oOpt (aun .not t15) fun t103 =>
 j69 [t103] m62) (j69 [Go.undef] m62)) fun j63 =>
 oGT t60 (oInt .eql .i64 t59 (.int .i64 (.ofNat 0)) fun t104 =>
 j63 [t104] m57) (j63 [Go.undef] m57)))) fun j20 =>
 oGF t17 (call 47 [t11, t12] L m14 fun t105 m106 =>
 call 46 [t105, (.int .i64 (.negSucc 0))] L m106 fun t107 m108 =>
 oOpt (aun .not t107) fun t109 =>
 oOpt (abin Tryd.prog .neq 4 t15 t109) fun t110 =>
 j20 [t110] m108) (j20 [Go.undef] m14))
theorem S14_ok (lf : Nat) (cK : CallK β) (args : List Value) (L : Nat) (m : Mem) (k : Value → Mem → Option β)  : S14 lf cK args L m k = denF Tryd.prog fsT 2 K14 lf cK 14 args L m k := by kernel_rfl

/-- vitola/vitolalaw01.works: the general reading itself -/
def K15 : Kat := [(3067, (1, [61])), (3067, (3, [65])), (3067, (5, [69])), (3067, (7, [73])), (3067, (9, [77])), (3067, (11, [81])), (393213, (1, [129])), (393213, (3, [133])), (393213, (5, [137])), (393213, (7, [141])), (393213, (9, [145])), (393213, (11, [149])), (393213, (13, [153])), (393213, (15, [159])), (393213, (17, [163])), (393213, (19, [167])), (393213, (21, [171])), (393213, (23, [175])), (393213, (25, [181])), (393213, (27, [185])), (393213, (29, [191])), (393213, (31, [195])), (393213, (33, [198])), (393213, (35, [204])), (393213, (37, [210]))]
noncomputable def S15 (lf : Nat) : FnK β := fun cK args L m k => denF Tryd.prog fsT 2 K15 lf cK 15 args L m k
theorem S15_ok (lf : Nat) (cK : CallK β) (args : List Value) (L : Nat) (m : Mem) (k : Value → Mem → Option β)  : S15 lf cK args L m k = denF Tryd.prog fsT 2 K15 lf cK 15 args L m k := rfl

/-- vitola/dock.Park -/
def K16 : Kat := [(185, (0, [8, 21])), (95436, (0, [8])), (381750, (0, [8]))]
noncomputable def S16 (lf : Nat) : FnK β := fun call args L m k =>
 uc args fun t0 l1 =>
 uc l1 fun t2 l3 =>
 un0 l3 (call 56 [t0, t2] L m fun t4 m5 =>
 oOpt (aextract t4 0) fun t6 =>
 oOpt (aextract t4 1) fun t7 =>
 oOpt (ln t6) fun t8 =>
 loopS (fun j11 l9 m10 =>
 uc l9 fun t12 l13 =>
 uc l13 fun t14 l15 =>
 oInt .lss .i64 t14 t8 fun t16 =>
 oIf t16 (oOpt (ia 1 t6 t14) fun t17 =>
 oOpt (ld1 m10 t17) fun t18 =>
 oOpt (aassert Tryd.prog t18 70 true) fun t19 =>
 oOpt (aextract t19 1) fun t20 =>
 oOpt (aextract t19 0) fun t21 =>
 join (fun l22 m23 =>
 uc l22 fun t25 l26 =>
 oInt .add .i64 t14 (.int .i64 (.ofNat 1)) fun t27 =>
 j11 [t25, t27] m23) fun j24 =>
 oIf t20 (oRes (anew m10 1 [(.int .i64 (.ofNat 0)), (.int .i64 (.ofNat 0))] ptrTo) fun t28 m29 =>
 oRes (st1 2 L m29 t28 t21) fun t30 m31 =>
 oOpt (fa 0 t28) fun t32 =>
 oOpt (ld1 m31 t32) fun t33 =>
 oRes (bs Tryd.prog m31 22 1 [(0, t33)]) fun t34 m35 =>
 oRes (aappend Tryd.prog L m35 22 t12 t34) fun t36 m37 =>
 j24 [t36] m37) (oOpt (aassert Tryd.prog t18 72 true) fun t38 =>
 oOpt (aextract t38 1) fun t39 =>
 oOpt (aextract t38 0) fun t40 =>
 join (fun l41 m42 =>
 uc l41 fun t44 l45 =>
 j24 [t44] m42) fun j43 =>
 oIf t39 (oRes (anew m10 1 [] ptrTo) fun t46 m47 =>
 oRes (st1 0 L m47 t46 t40) fun t48 m49 =>
 oRes (bs Tryd.prog m49 22 1 [(0, (.int .i64 (.negSucc 0)))]) fun t50 m51 =>
 oRes (aappend Tryd.prog L m51 22 t12 t50) fun t52 m53 =>
 j43 [t52] m53) (j43 [t12] m10))) (k (.tuple ⟨[t12, t7]⟩) m10)) lf [(.slice none 0 0), (.int .i64 (.ofNat 0))] m5)
theorem S16_ok (lf : Nat) (cK : CallK β) (args : List Value) (L : Nat) (m : Mem) (k : Value → Mem → Option β)  : S16 lf cK args L m k = denF Tryd.prog fsT 2 K16 lf cK 16 args L m k := by kernel_rfl

/-- vitola/vitolaref01.Park -/
def K17 : Kat := []
noncomputable def S17 (lf : Nat) : FnK β := fun call args L m k =>
 uc args fun t0 l1 =>
 uc l1 fun t2 l3 =>
 un0 l3 (call 28 [t0, t2] L m fun t4 m5 =>
 oInt .neq .i64 t4 (.int .i64 (.ofNat 0)) fun t6 =>
 oIf t6 (k (.tuple ⟨[(.slice none 0 0), t4]⟩) m5) (call 57 [t0, t2] L m5 fun t7 m8 =>
 k (.tuple ⟨[t7, (.int .i64 (.ofNat 0))]⟩) m8))
theorem S17_ok (lf : Nat) (cK : CallK β) (args : List Value) (L : Nat) (m : Mem) (k : Value → Mem → Option β)  : S17 lf cK args L m k = denF Tryd.prog fsT 2 K17 lf cK 17 args L m k := by kernel_rfl

/-- vitola/dock.Serves -/
def K18 : Kat := [(21, (1, [18]))]
noncomputable def S18 (lf : Nat) : FnK β := fun call args L m k =>
 uc args fun t0 l1 =>
 uc l1 fun t2 l3 =>
 un0 l3 (call 56 [t0, t2] L m fun t4 m5 =>
 oOpt (aextract t4 0) fun t6 =>
 oOpt (aextract t4 1) fun t7 =>
 oInt .eql .i64 t7 (.int .i64 (.ofNat 0)) fun t8 =>
 join (fun l9 m10 =>
 uc l9 fun t12 l13 =>
 oPick t8 t12 (.bool false) fun t14 =>
 k (.tuple ⟨[t14, t7]⟩) m10) fun j11 =>
 oGT t8 (call 58 [t6] L m5 fun t15 m16 =>
 j11 [t15] m16) (j11 [Go.undef] m5))
theorem S18_ok (lf : Nat) (cK : CallK β) (args : List Value) (L : Nat) (m : Mem) (k : Value → Mem → Option β)  : S18 lf cK args L m k = denF Tryd.prog fsT 2 K18 lf cK 18 args L m k := by kernel_rfl

/-- vitola/vitolaref01.Serves -/
def K19 : Kat := []
noncomputable def S19 (lf : Nat) : FnK β := fun call args L m k =>
 uc args fun t0 l1 =>
 uc l1 fun t2 l3 =>
 un0 l3 (call 28 [t0, t2] L m fun t4 m5 =>
 oInt .neq .i64 t4 (.int .i64 (.ofNat 0)) fun t6 =>
 oIf t6 (k (.tuple ⟨[(.bool false), t4]⟩) m5) (call 59 [t0, t2] L m5 fun t7 m8 =>
 k (.tuple ⟨[t7, (.int .i64 (.ofNat 0))]⟩) m8))
theorem S19_ok (lf : Nat) (cK : CallK β) (args : List Value) (L : Nat) (m : Mem) (k : Value → Mem → Option β)  : S19 lf cK args L m k = denF Tryd.prog fsT 2 K19 lf cK 19 args L m k := by kernel_rfl

/-- vitola/dock.Next -/
def K20 : Kat := []
noncomputable def S20 (lf : Nat) : FnK β := fun call args L m k =>
 uc args fun t0 l1 =>
 uc l1 fun t2 l3 =>
 uc l3 fun t4 l5 =>
 un0 l5 (call 60 [t0, t2] L m fun t6 m7 =>
 oOpt (aextract t6 0) fun t8 =>
 oOpt (aextract t6 1) fun t9 =>
 oRes (anew m7 1 [(.int .i64 (.ofNat 0)), (.int .u64 (.ofNat 0))] ptrTo) fun t10 m11 =>
 oRes (st1 2 L m11 t10 t8) fun t12 m13 =>
 oInt .neq .i64 t9 (.int .i64 (.ofNat 0)) fun t14 =>
 oIf t14 (k (.tuple ⟨[(.int .i64 (.ofNat 0)), t9]⟩) m13) (oInt .sub .i64 t0 (.int .i64 (.ofNat 1)) fun t15 =>
 call 61 [t4, (.int .i64 (.ofNat 0)), t15] L m13 fun t16 m17 =>
 oOpt (aun .not t16) fun t18 =>
 oIf t18 (k (.tuple ⟨[(.int .i64 (.ofNat 0)), (.int .i64 (.ofNat 2))]⟩) m17) (call 62 [t10, t4] L m17 fun t19 m20 =>
 oOpt (aassert Tryd.prog t19 70 true) fun t21 =>
 oOpt (aextract t21 0) fun t22 =>
 oOpt (aextract t21 1) fun t23 =>
 oRes (anew m20 1 [(.int .i64 (.ofNat 0)), (.int .i64 (.ofNat 0))] ptrTo) fun t24 m25 =>
 oRes (st1 2 L m25 t24 t22) fun t26 m27 =>
 oIf t23 (oOpt (fa 0 t24) fun t28 =>
 oOpt (ld1 m27 t28) fun t29 =>
 k (.tuple ⟨[t29, (.int .i64 (.ofNat 0))]⟩) m27) (k (.tuple ⟨[(.int .i64 (.ofNat 0)), (.int .i64 (.ofNat 12))]⟩) m27))))
theorem S20_ok (lf : Nat) (cK : CallK β) (args : List Value) (L : Nat) (m : Mem) (k : Value → Mem → Option β)  : S20 lf cK args L m k = denF Tryd.prog fsT 2 K20 lf cK 20 args L m k := by kernel_rfl

/-- vitola/vitolaref01.Next -/
def K21 : Kat := [(91, (1, [22])), (92, (0, [8])), (187, (1, [31])), (188, (0, [8]))]
noncomputable def S21 (lf : Nat) : FnK β := fun call args L m k =>
 uc args fun t0 l1 =>
 uc l1 fun t2 l3 =>
 uc l3 fun t4 l5 =>
 un0 l5 (call 63 [t0, (.int .i64 (.ofNat 1)), (.int .i64 (.ofNat 8))] L m fun t6 m7 =>
 oOpt (aun .not t6) fun t8 =>
 oIf t8 (k (.tuple ⟨[(.int .i64 (.ofNat 0)), (.int .i64 (.ofNat 1))]⟩) m7) (call 64 [t0, t2] L m7 fun t9 m10 =>
 oInt .eql .i64 t9 (.int .i64 (.ofNat 0)) fun t11 =>
 join (fun l12 m13 =>
 uc l12 fun t15 l16 =>
 oPick t11 t15 (.bool false) fun t17 =>
 join (fun l18 m19 =>
 uc l18 fun t21 l22 =>
 oInt .eql .i64 t21 (.int .i64 (.ofNat 0)) fun t23 =>
 join (fun l24 m25 =>
 uc l24 fun t27 l28 =>
 oPick t23 t27 (.bool false) fun t29 =>
 join (fun l30 m31 =>
 uc l30 fun t33 l34 =>
 oInt .neq .i64 t33 (.int .i64 (.ofNat 0)) fun t35 =>
 oIf t35 (k (.tuple ⟨[(.int .i64 (.ofNat 0)), t33]⟩) m31) (call 65 [t0, t2, t4] L m31 fun t36 m37 =>
 k (.tuple ⟨[t36, (.int .i64 (.ofNat 0))]⟩) m37)) fun j32 =>
 oIf t29 (j32 [(.int .i64 (.ofNat 12))] m25) (j32 [t21] m25)) fun j26 =>
 oGT t23 (call 65 [t0, t2, t4] L m19 fun t38 m39 =>
 oInt .lss .i64 t38 (.int .i64 (.ofNat 0)) fun t40 =>
 j26 [t40] m39) (j26 [Go.undef] m19)) fun j20 =>
 oIf t17 (j20 [(.int .i64 (.ofNat 2))] m13) (j20 [t9] m13)) fun j14 =>
 oGT t11 (oInt .sub .i64 t0 (.int .i64 (.ofNat 1)) fun t41 =>
 call 63 [t4, (.int .i64 (.ofNat 0)), t41] L m10 fun t42 m43 =>
 oOpt (aun .not t42) fun t44 =>
 j14 [t44] m43) (j14 [Go.undef] m10)))
theorem S21_ok (lf : Nat) (cK : CallK β) (args : List Value) (L : Nat) (m : Mem) (k : Value → Mem → Option β)  : S21 lf cK args L m k = denF Tryd.prog fsT 2 K21 lf cK 21 args L m k := by kernel_rfl

/-- vitola/vitolalaw01.same -/
def K22 : Kat := [(89, (0, [5]))]
noncomputable def S22 (lf : Nat) : FnK β := fun call args L m k =>
 uc args fun t0 l1 =>
 uc l1 fun t2 l3 =>
 un0 l3 (oOpt (ln t0) fun t4 =>
 oOpt (ln t2) fun t5 =>
 oInt .neq .i64 t4 t5 fun t6 =>
 oIf t6 (k (.bool false) m) (loopS (fun j9 l7 m8 =>
 uc l7 fun t10 l11 =>
 oOpt (ln t0) fun t12 =>
 oInt .lss .i64 t10 t12 fun t13 =>
 oIf t13 (oOpt (ia 1 t0 t10) fun t14 =>
 oOpt (ld1 m8 t14) fun t15 =>
 oOpt (ia 1 t2 t10) fun t16 =>
 oOpt (ld1 m8 t16) fun t17 =>
 oInt .neq .i64 t15 t17 fun t18 =>
 oIf t18 (k (.bool false) m8) (oInt .add .i64 t10 (.int .i64 (.ofNat 1)) fun t19 =>
 j9 [t19] m8)) (k (.bool true) m8)) lf [(.int .i64 (.ofNat 0))] m))
theorem S22_ok (lf : Nat) (cK : CallK β) (args : List Value) (L : Nat) (m : Mem) (k : Value → Mem → Option β)  : S22 lf cK args L m k = denF Tryd.prog fsT 2 K22 lf cK 22 args L m k := by kernel_rfl

/-- vitola/dock.Way -/
def K23 : Kat := [(185, (0, [8, 21])), (47718, (0, [8]))]
noncomputable def S23 (lf : Nat) : FnK β := fun call args L m k =>
 uc args fun t0 l1 =>
 uc l1 fun t2 l3 =>
 un0 l3 (call 56 [t0, t2] L m fun t4 m5 =>
 oOpt (aextract t4 0) fun t6 =>
 oOpt (aextract t4 1) fun t7 =>
 oOpt (ln t6) fun t8 =>
 loopS (fun j11 l9 m10 =>
 uc l9 fun t12 l13 =>
 uc l13 fun t14 l15 =>
 oInt .lss .i64 t14 t8 fun t16 =>
 oIf t16 (oOpt (ia 1 t6 t14) fun t17 =>
 oOpt (ld1 m10 t17) fun t18 =>
 oOpt (aassert Tryd.prog t18 70 true) fun t19 =>
 oOpt (aextract t19 0) fun t20 =>
 oOpt (aextract t19 1) fun t21 =>
 oRes (anew m10 1 [(.int .i64 (.ofNat 0)), (.int .i64 (.ofNat 0))] ptrTo) fun t22 m23 =>
 oRes (st1 2 L m23 t22 t20) fun t24 m25 =>
 join (fun l26 m27 =>
 uc l26 fun t29 l30 =>
 oInt .add .i64 t14 (.int .i64 (.ofNat 1)) fun t31 =>
 j11 [t29, t31] m27) fun j28 =>
 oIf t21 (oOpt (fa 1 t22) fun t32 =>
 oOpt (ld1 m25 t32) fun t33 =>
 oInt .add .i64 t12 t33 fun t34 =>
 j28 [t34] m25) (j28 [t12] m25)) (k (.tuple ⟨[t12, t7]⟩) m10)) lf [(.int .i64 (.ofNat 0)), (.int .i64 (.ofNat 0))] m5)
theorem S23_ok (lf : Nat) (cK : CallK β) (args : List Value) (L : Nat) (m : Mem) (k : Value → Mem → Option β)  : S23 lf cK args L m k = denF Tryd.prog fsT 2 K23 lf cK 23 args L m k := by kernel_rfl

/-- vitola/vitolaref01.Way -/
def K24 : Kat := [(761, (0, [7, 9])), (24392, (0, [7]))]
noncomputable def S24 (lf : Nat) : FnK β := fun call args L m k =>
 uc args fun t0 l1 =>
 uc l1 fun t2 l3 =>
 un0 l3 (call 28 [t0, t2] L m fun t4 m5 =>
 oInt .neq .i64 t4 (.int .i64 (.ofNat 0)) fun t6 =>
 oIf t6 (k (.tuple ⟨[(.int .i64 (.ofNat 0)), t4]⟩) m5) (call 57 [t0, t2] L m5 fun t7 m8 =>
 loopS (fun j11 l9 m10 =>
 uc l9 fun t12 l13 =>
 uc l13 fun t14 l15 =>
 oOpt (ln t7) fun t16 =>
 oInt .lss .i64 t14 t16 fun t17 =>
 oIf t17 (oOpt (ia 1 t7 t14) fun t18 =>
 oOpt (ld1 m10 t18) fun t19 =>
 oInt .geq .i64 t19 (.int .i64 (.ofNat 0)) fun t20 =>
 join (fun l21 m22 =>
 uc l21 fun t24 l25 =>
 oInt .add .i64 t14 (.int .i64 (.ofNat 1)) fun t26 =>
 j11 [t24, t26] m22) fun j23 =>
 oIf t20 (oOpt (ia 1 t7 t14) fun t27 =>
 oOpt (ld1 m10 t27) fun t28 =>
 oOpt (ia 1 t2 t14) fun t29 =>
 oOpt (ld1 m10 t29) fun t30 =>
 oInt .sub .i64 t28 t30 fun t31 =>
 oInt .add .i64 t12 t31 fun t32 =>
 j23 [t32] m10) (j23 [t12] m10)) (k (.tuple ⟨[t12, (.int .i64 (.ofNat 0))]⟩) m10)) lf [(.int .i64 (.ofNat 0)), (.int .i64 (.ofNat 0))] m8))
theorem S24_ok (lf : Nat) (cK : CallK β) (args : List Value) (L : Nat) (m : Mem) (k : Value → Mem → Option β)  : S24 lf cK args L m k = denF Tryd.prog fsT 2 K24 lf cK 24 args L m k := by kernel_rfl

end
end Go.Vit
