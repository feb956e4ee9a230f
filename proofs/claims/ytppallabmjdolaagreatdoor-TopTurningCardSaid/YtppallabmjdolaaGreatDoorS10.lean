/- Shallow texts of the seat's functions, printed by a program: part 10. -/
import Derived.Test.YtppallabmjdolaaGreatDoorRows
import Derived.Test.YtppallabmjdolaaGreatDoorFs
set_option linter.unusedVariables false
set_option maxRecDepth 100000
namespace Go.Vit
open Go Go.Proofs
section
variable {β : Type}
/-- slices.ContainsFunc[[][]int,[]int] -/
def K219 : Kat := []
noncomputable def S219 (lf : Nat) : FnK β := fun call args L m k =>
 uc args fun t0 l1 =>
 uc l1 fun t2 l3 =>
 un0 l3 (call 224 [t0, t2] L m fun t4 m5 =>
 oInt .geq .i64 t4 (.int .i64 (.ofNat 0)) fun t6 =>
 k t6 m5)
theorem S219_ok (lf : Nat) (cK : CallK β) (args : List Value) (L : Nat) (m : Mem) (k : Value → Mem → Option β)  : S219 lf cK args L m k = denF Tryz.prog fsT 2 K219 lf cK 219 args L m k := by kernel_rfl

/-- vitola/grade.checked$1 -/
def K220 : Kat := []
noncomputable def S220 (lf : Nat) : FnK β := fun call args L m k =>
 uc args fun t0 l1 =>
 uc l1 fun t2 l3 =>
 un0 l3 (oOpt (ln t0) fun t4 =>
 oOpt (ld1 m t2) fun t5 =>
 oOpt (ia 1 t5 (.int .i64 (.ofNat 0))) fun t6 =>
 oOpt (ld1 m t6) fun t7 =>
 oOpt (ln t7) fun t8 =>
 oInt .neq .i64 t4 t8 fun t9 =>
 k t9 m)
theorem S220_ok (lf : Nat) (cK : CallK β) (args : List Value) (L : Nat) (m : Mem) (k : Value → Mem → Option β)  : S220 lf cK args L m k = denF Tryz.prog fsT 2 K220 lf cK 220 args L m k := by kernel_rfl

/-- vitola/dock.come -/
def K221 : Kat := [(377, (0, [8, 21]))]
noncomputable def S221 (lf : Nat) : FnK β := fun call args L m k =>
 uc args fun t0 l1 =>
 uc l1 fun t2 l3 =>
 un0 l3 (call 225 [t0, t2] L m fun t4 m5 =>
 oInt .neq .i64 t4 (.int .i64 (.ofNat 0)) fun t6 =>
 oIf t6 (k (.tuple ⟨[(.slice none 0 0), t4]⟩) m5) (oOpt (bu Tryz.prog 258 [(0, t0)]) fun t7 =>
 oRes (anew m5 1 [(.int .i64 (.ofNat 0)), (.int .u64 (.ofNat 0))] ptrTo) fun t8 m9 =>
 oRes (st1 2 L m9 t8 t7) fun t10 m11 =>
 oOpt (ln t2) fun t12 =>
 loopS (fun j15 l13 m14 =>
 uc l13 fun t16 l17 =>
 uc l17 fun t18 l19 =>
 oInt .lss .i64 t18 t12 fun t20 =>
 oIf t20 (oOpt (ia 1 t2 t18) fun t21 =>
 oOpt (ld1 m14 t21) fun t22 =>
 call 226 [t8, t22] L m14 fun t23 m24 =>
 oRes (bs Tryz.prog m24 244 1 [(0, t23)]) fun t25 m26 =>
 oRes (aappend Tryz.prog L m26 244 t16 t25) fun t27 m28 =>
 oInt .add .i64 t18 (.int .i64 (.ofNat 1)) fun t29 =>
 j15 [t27, t29] m28) (k (.tuple ⟨[t16, (.int .i64 (.ofNat 0))]⟩) m14)) lf [(.slice none 0 0), (.int .i64 (.ofNat 0))] m11))
theorem S221_ok (lf : Nat) (cK : CallK β) (args : List Value) (L : Nat) (m : Mem) (k : Value → Mem → Option β)  : S221 lf cK args L m k = denF Tryz.prog fsT 2 K221 lf cK 221 args L m k := by kernel_rfl

/-- vitola/heap.handed -/
def K222 : Kat := [(43, (1, [13])), (44, (0, [5]))]
noncomputable def S222 (lf : Nat) : FnK β := fun call args L m k =>
 uc args fun t0 l1 =>
 uc l1 fun t2 l3 =>
 un0 l3 (call 73 [t0] L m fun t4 m5 =>
 oInt .eql .i64 t4 (.int .i64 (.ofNat 0)) fun t6 =>
 join (fun l7 m8 =>
 uc l7 fun t10 l11 =>
 oPick t6 t10 (.bool false) fun t12 =>
 join (fun l13 m14 =>
 uc l13 fun t16 l17 =>
 k t16 m14) fun j15 =>
 oIf t12 (j15 [(.int .i64 (.ofNat 1))] m8) (j15 [t4] m8)) fun j9 =>
 oGT t6 (call 74 [(.int .i64 (.ofNat 1)), t2, (.int .i64 (.ofNat 10))] L m5 fun t18 m19 =>
 oOpt (aun .not t18) fun t20 =>
 j9 [t20] m19) (j9 [Go.undef] m5))
theorem S222_ok (lf : Nat) (cK : CallK β) (args : List Value) (L : Nat) (m : Mem) (k : Value → Mem → Option β)  : S222 lf cK args L m k = denF Tryz.prog fsT 2 K222 lf cK 222 args L m k := by kernel_rfl

/-- vitola/heap.possible -/
def K223 : Kat := [(185, (0, [5, 6])), (23845, (1, [29]))]
noncomputable def S223 (lf : Nat) : FnK β := fun call args L m k =>
 uc args fun t0 l1 =>
 uc l1 fun t2 l3 =>
 un0 l3 (oRes (abox m t2) fun t4 m5 =>
 call 76 [t0] L m5 fun t6 m7 =>
 call 227 [t6, (.func (.func 228) #[] #[])] L m7 fun t8 m9 =>
 oRes (anew m9 1 [(.int .i64 (.ofNat 0))] ptrTo) fun t10 m11 =>
 oRes (st1 1 L m11 t10 (.int .i64 (.ofNat 0))) fun t12 m13 =>
 loopS (fun j16 l14 m15 =>
 uc l14 fun t17 l18 =>
 uc l18 fun t19 l20 =>
 oOpt (ln t17) fun t21 =>
 oInt .gtr .i64 t21 (.int .i64 (.ofNat 0)) fun t22 =>
 oIf t22 (oRes (anew m15 1 [(.int .i64 (.ofNat 0))] ptrTo) fun t23 m24 =>
 oRes (st1 1 L m24 t23 (.int .i64 (.ofNat 0))) fun t25 m26 =>
 call 77 [t17, (.func (.func 229) #[] ⟨[t19, t23, t4]⟩)] L m26 fun t27 m28 =>
 oOpt (ln t27) fun t29 =>
 oInt .gtr .i64 t29 (.int .i64 (.ofNat 0)) fun t30 =>
 join (fun l31 m32 =>
 uc l31 fun t34 l35 =>
 oPick t30 t34 (.bool false) fun t36 =>
 oIf t36 (k (.bool false) m32) (oOpt (ld1 m32 t19) fun t37 =>
 oRes (anew m32 1 [(.int .i64 (.ofNat 0))] ptrTo) fun t38 m39 =>
 oRes (st1 1 L m39 t38 t37) fun t40 m41 =>
 oOpt (ld1 m41 t38) fun t42 =>
 oInt .add .i64 t42 (.int .i64 (.ofNat 1)) fun t43 =>
 oRes (st1 1 L m41 t38 t43) fun t44 m45 =>
 j16 [t27, t38] m45)) fun j33 =>
 oGT t30 (oOpt (ia 2 t27 (.int .i64 (.ofNat 0))) fun t46 =>
 oOpt (fa 1 t46) fun t47 =>
 oOpt (ld1 m28 t47) fun t48 =>
 oOpt (ld1 m28 t19) fun t49 =>
 oInt .leq .i64 t48 t49 fun t50 =>
 j33 [t50] m28) (j33 [Go.undef] m28)) (k (.bool true) m15)) lf [t6, t10] m13)
theorem S223_ok (lf : Nat) (cK : CallK β) (args : List Value) (L : Nat) (m : Mem) (k : Value → Mem → Option β)  : S223 lf cK args L m k = denF Tryz.prog fsT 2 K223 lf cK 223 args L m k := by kernel_rfl

/-- slices.IndexFunc[[][]int,[]int] -/
def K224 : Kat := [(41, (0, [8]))]
noncomputable def S224 (lf : Nat) : FnK β := fun call args L m k =>
 uc args fun t0 l1 =>
 uc l1 fun t2 l3 =>
 un0 l3 (oOpt (ln t0) fun t4 =>
 loopS (fun j7 l5 m6 =>
 uc l5 fun t8 l9 =>
 oInt .lss .i64 t8 t4 fun t10 =>
 oIf t10 (oOpt (ia 1 t0 t8) fun t11 =>
 oOpt (ld1 m6 t11) fun t12 =>
 oCallV call t2 [t12] L m6 fun t13 m14 =>
 oIf t13 (k t8 m14) (oInt .add .i64 t8 (.int .i64 (.ofNat 1)) fun t15 =>
 j7 [t15] m14)) (k (.int .i64 (.negSucc 0)) m6)) lf [(.int .i64 (.ofNat 0))] m)
theorem S224_ok (lf : Nat) (cK : CallK β) (args : List Value) (L : Nat) (m : Mem) (k : Value → Mem → Option β)  : S224 lf cK args L m k = denF Tryz.prog fsT 2 K224 lf cK 224 args L m k := by kernel_rfl

/-- vitola/dock.Check -/
def K225 : Kat := []
noncomputable def S225 (lf : Nat) : FnK β := fun call args L m k =>
 uc args fun t0 l1 =>
 uc l1 fun t2 l3 =>
 un0 l3 (oInt .sub .i64 t0 (.int .i64 (.ofNat 1)) fun t4 =>
 call 179 [t0, t4, t2] L m fun t5 m6 =>
 k t5 m6)
theorem S225_ok (lf : Nat) (cK : CallK β) (args : List Value) (L : Nat) (m : Mem) (k : Value → Mem → Option β)  : S225 lf cK args L m k = denF Tryz.prog fsT 2 K225 lf cK 225 args L m k := by kernel_rfl

/-- (*vitola/dock.row).come -/
def K226 : Kat := []
noncomputable def S226 (lf : Nat) : FnK β := fun call args L m k =>
 uc args fun t0 l1 =>
 uc l1 fun t2 l3 =>
 un0 l3 (oOpt (anil t0) fun t4 =>
 oOpt (fa 1 t4) fun t5 =>
 oOpt (ld1 m t5) fun t6 =>
 oOpt (aun .xor t6) fun t7 =>
 oOpt (abin Tryz.prog .shr 95 t7 t2) fun t8 =>
 oOpt (abin Tryz.prog .shl 95 t8 t2) fun t9 =>
 oOpt (anil t0) fun t10 =>
 oOpt (fa 0 t10) fun t11 =>
 oOpt (ld1 m t11) fun t12 =>
 oOpt (abin Tryz.prog .shl 95 (.int .u64 (.ofNat 1)) t12) fun t13 =>
 oInt .sub .u64 t13 (.int .u64 (.ofNat 1)) fun t14 =>
 oInt .and .u64 t9 t14 fun t15 =>
 oInt .eql .u64 t15 (.int .u64 (.ofNat 0)) fun t16 =>
 oIf t16 (oOpt (bu Tryz.prog 252 []) fun t17 =>
 oOpt (aiface Tryz.prog 252 t17) fun t18 =>
 k t18 m) (call 187 [t15] L m fun t19 m20 =>
 oOpt (anil t0) fun t21 =>
 oOpt (fa 1 t21) fun t22 =>
 oOpt (ld1 m20 t22) fun t23 =>
 oOpt (abin Tryz.prog .shl 95 (.int .u64 (.ofNat 1)) t19) fun t24 =>
 oInt .or .u64 t23 t24 fun t25 =>
 oOpt (anil t0) fun t26 =>
 oOpt (fa 1 t26) fun t27 =>
 oRes (st1 1 L m20 t27 t25) fun t28 m29 =>
 oInt .sub .i64 t19 t2 fun t30 =>
 oOpt (bu Tryz.prog 250 [(0, t19), (1, t30)]) fun t31 =>
 oOpt (aiface Tryz.prog 250 t31) fun t32 =>
 k t32 m29))
theorem S226_ok (lf : Nat) (cK : CallK β) (args : List Value) (L : Nat) (m : Mem) (k : Value → Mem → Option β)  : S226 lf cK args L m k = denF Tryz.prog fsT 2 K226 lf cK 226 args L m k := by kernel_rfl

/-- slices.SortFunc[[]vitola/heap.Heap,vitola/heap.Heap] -/
def K227 : Kat := []
noncomputable def S227 (lf : Nat) : FnK β := fun call args L m k =>
 uc args fun t0 l1 =>
 uc l1 fun t2 l3 =>
 un0 l3 (oOpt (ln t0) fun t4 =>
 oCv .u64 t4 fun t5 =>
 call 123 [t5] L m fun t6 m7 =>
 call 230 [t0, (.int .i64 (.ofNat 0)), t4, t6, t2] L m7 fun t8 m9 =>
 k (.tuple ⟨[]⟩) m9)
theorem S227_ok (lf : Nat) (cK : CallK β) (args : List Value) (L : Nat) (m : Mem) (k : Value → Mem → Option β)  : S227 lf cK args L m k = denF Tryz.prog fsT 2 K227 lf cK 227 args L m k := by kernel_rfl

/-- vitola/heap.possible$1 -/
def K228 : Kat := []
noncomputable def S228 (lf : Nat) : FnK β := fun call args L m k =>
 uc args fun t0 l1 =>
 uc l1 fun t2 l3 =>
 un0 l3 (oRes (abox m t0) fun t4 m5 =>
 oRes (abox m5 t2) fun t6 m7 =>
 oOpt (fa 1 t4) fun t8 =>
 oOpt (ld1 m7 t8) fun t9 =>
 oOpt (fa 1 t6) fun t10 =>
 oOpt (ld1 m7 t10) fun t11 =>
 oInt .sub .i64 t9 t11 fun t12 =>
 k t12 m7)
theorem S228_ok (lf : Nat) (cK : CallK β) (args : List Value) (L : Nat) (m : Mem) (k : Value → Mem → Option β)  : S228 lf cK args L m k = denF Tryz.prog fsT 2 K228 lf cK 228 args L m k := by kernel_rfl

/-- vitola/heap.possible$2 -/
def K229 : Kat := [(9, (1, [14])), (44, (0, []))]
noncomputable def S229 (lf : Nat) : FnK β := fun call args L m k =>
 uc args fun t0 l1 =>
 uc l1 fun t2 l3 =>
 uc l3 fun t4 l5 =>
 uc l5 fun t6 l7 =>
 un0 l7 (oRes (abox m t0) fun t8 m9 =>
 oOpt (fa 0 t8) fun t10 =>
 oOpt (ld1 m9 t10) fun t11 =>
 oOpt (ld1 m9 t2) fun t12 =>
 oInt .leq .i64 t11 t12 fun t13 =>
 join (fun l14 m15 =>
 uc l14 fun t17 l18 =>
 oPick t13 t17 (.bool false) fun t19 =>
 join (fun l20 m21 =>
 k t19 m21) fun j22 =>
 oIf t19 (oOpt (ld1 m15 t4) fun t23 =>
 oInt .add .i64 t23 (.int .i64 (.ofNat 1)) fun t24 =>
 oRes (st1 1 L m15 t4 t24) fun t25 m26 =>
 j22 [] m26) (j22 [] m15)) fun j16 =>
 oGT t13 (oOpt (ld1 m9 t4) fun t27 =>
 oOpt (ld1 m9 t6) fun t28 =>
 oInt .lss .i64 t27 t28 fun t29 =>
 j16 [t29] m9) (j16 [Go.undef] m9))
theorem S229_ok (lf : Nat) (cK : CallK β) (args : List Value) (L : Nat) (m : Mem) (k : Value → Mem → Option β)  : S229 lf cK args L m k = denF Tryz.prog fsT 2 K229 lf cK 229 args L m k := by kernel_rfl

/-- slices.pdqsortCmpFunc[vitola/heap.Heap] -/
def K230 : Kat := [(21, (0, [3, 1, 11, 10, 2])), (43, (0, [3, 1, 11, 10, 2])), (2844, (0, [3])), (11388, (0, [13, 14])), (22779, (1, [70])), (22779, (3, [74])), (22780, (0, [])), (45563, (1, [96])), (729086, (0, [10, 1, 2]))]
noncomputable def S230 (lf : Nat) : FnK β := fun call args L m k =>
 uc args fun t0 l1 =>
 uc l1 fun t2 l3 =>
 uc l3 fun t4 l5 =>
 uc l5 fun t6 l7 =>
 uc l7 fun t8 l9 =>
 un0 l9 (loopS (fun j12 l10 m11 =>
 uc l10 fun t13 l14 =>
 uc l14 fun t15 l16 =>
 uc l16 fun t17 l18 =>
 uc l18 fun t19 l20 =>
 uc l20 fun t21 l22 =>
 join (fun l23 m24 =>
 uc l23 fun t26 l27 =>
 uc l27 fun t28 l29 =>
 uc l29 fun t30 l31 =>
 uc l31 fun t32 l33 =>
 uc l33 fun t34 l35 =>
 j12 [t26, t28, t30, t32, t34] m24) fun j25 =>
 oInt .sub .i64 t21 t15 fun t36 =>
 oInt .leq .i64 t36 (.int .i64 (.ofNat 12)) fun t37 =>
 oIf t37 (call 231 [t0, t15, t21, t8] L m11 fun t38 m39 =>
 k (.tuple ⟨[]⟩) m39) (oInt .eql .i64 t13 (.int .i64 (.ofNat 0)) fun t40 =>
 oIf t40 (call 232 [t0, t15, t21, t8] L m11 fun t41 m42 =>
 k (.tuple ⟨[]⟩) m42) (oOpt (aun .not t19) fun t43 =>
 join (fun l44 m45 =>
 uc l44 fun t47 l48 =>
 call 234 [t0, t15, t21, t8] L m45 fun t49 m50 =>
 oOpt (aextract t49 0) fun t51 =>
 oOpt (aextract t49 1) fun t52 =>
 oInt .eql .i64 t52 (.int .i64 (.ofNat 2)) fun t53 =>
 join (fun l54 m55 =>
 uc l54 fun t57 l58 =>
 uc l58 fun t59 l60 =>
 join (fun l61 m62 =>
 uc l61 fun t64 l65 =>
 oPick t19 t64 (.bool false) fun t66 =>
 join (fun l67 m68 =>
 uc l67 fun t70 l71 =>
 oPick t66 t70 (.bool false) fun t72 =>
 join (fun l73 m74 =>
 oInt .gtr .i64 t15 (.int .i64 (.ofNat 0)) fun t76 =>
 join (fun l77 m78 =>
 uc l77 fun t80 l81 =>
 oPick t76 t80 (.bool false) fun t82 =>
 oIf t82 (call 237 [t0, t15, t21, t57, t8] L m78 fun t83 m84 =>
 j25 [t47, t83, t17, t19, t21] m84) (call 238 [t0, t15, t21, t57, t8] L m78 fun t85 m86 =>
 oOpt (aextract t85 0) fun t87 =>
 oOpt (aextract t85 1) fun t88 =>
 oInt .sub .i64 t87 t15 fun t89 =>
 oInt .sub .i64 t21 t87 fun t90 =>
 oInt .quo .i64 t36 (.int .i64 (.ofNat 8)) fun t91 =>
 oInt .lss .i64 t89 t90 fun t92 =>
 join (fun l93 m94 =>
 uc l93 fun t96 l97 =>
 uc l97 fun t98 l99 =>
 uc l99 fun t100 l101 =>
 j25 [t47, t98, t88, t96, t100] m94) fun j95 =>
 oIf t92 (oInt .geq .i64 t89 t91 fun t102 =>
 call 230 [t0, t15, t87, t47, t8] L m86 fun t103 m104 =>
 oInt .add .i64 t87 (.int .i64 (.ofNat 1)) fun t105 =>
 j95 [t102, t105, t21] m104) (oInt .geq .i64 t90 t91 fun t106 =>
 oInt .add .i64 t87 (.int .i64 (.ofNat 1)) fun t107 =>
 call 230 [t0, t107, t21, t47, t8] L m86 fun t108 m109 =>
 j95 [t106, t15, t87] m109))) fun j79 =>
 oGT t76 (oInt .sub .i64 t15 (.int .i64 (.ofNat 1)) fun t110 =>
 oOpt (ia 2 t0 t110) fun t111 =>
 oOpt (ldN m74 2 t111) fun t112 =>
 oOpt (ia 2 t0 t57) fun t113 =>
 oOpt (ldN m74 2 t113) fun t114 =>
 oCallV call t8 [t112, t114] L m74 fun t115 m116 =>
 oInt .lss .i64 t115 (.int .i64 (.ofNat 0)) fun t117 =>
 oOpt (aun .not t117) fun t118 =>
 j79 [t118] m116) (j79 [Go.undef] m74)) fun j75 =>
 oIf t72 (call 236 [t0, t15, t21, t8] L m68 fun t119 m120 =>
 oIf t119 (k (.tuple ⟨[]⟩) m120) (j75 [] m120)) (j75 [] m68)) fun j69 =>
 oGT t66 (oInt .eql .i64 t59 (.int .i64 (.ofNat 1)) fun t121 =>
 j69 [t121] m62) (j69 [Go.undef] m62)) fun j63 =>
 oGT t19 (j63 [t17] m55) (j63 [Go.undef] m55)) fun j56 =>
 oIf t53 (call 235 [t0, t15, t21, t8] L m50 fun t122 m123 =>
 oInt .sub .i64 t21 (.int .i64 (.ofNat 1)) fun t124 =>
 oInt .sub .i64 t51 t15 fun t125 =>
 oInt .sub .i64 t124 t125 fun t126 =>
 j56 [t126, (.int .i64 (.ofNat 1))] m123) (j56 [t51, t52] m50)) fun j46 =>
 oIf t43 (call 233 [t0, t15, t21, t8] L m11 fun t127 m128 =>
 oInt .sub .i64 t13 (.int .i64 (.ofNat 1)) fun t129 =>
 j46 [t129] m128) (j46 [t13] m11)))) lf [t6, t2, (.bool true), (.bool true), t4] m)
theorem S230_ok (lf : Nat) (cK : CallK β) (args : List Value) (L : Nat) (m : Mem) (k : Value → Mem → Option β)  : S230 lf cK args L m k = denF Tryz.prog fsT 2 K230 lf cK 230 args L m k := by kernel_rfl

/-- slices.insertionSortCmpFunc[vitola/heap.Heap] -/
def K231 : Kat := [(9, (0, [8])), (657, (0, [9])), (5263, (1, [33]))]
noncomputable def S231 (lf : Nat) : FnK β := fun call args L m k =>
 uc args fun t0 l1 =>
 uc l1 fun t2 l3 =>
 uc l3 fun t4 l5 =>
 uc l5 fun t6 l7 =>
 un0 l7 (oInt .add .i64 t2 (.int .i64 (.ofNat 1)) fun t8 =>
 loopS (fun j11 l9 m10 =>
 uc l9 fun t12 l13 =>
 oInt .lss .i64 t12 t4 fun t14 =>
 oIf t14 (loopS (fun j17 l15 m16 =>
 uc l15 fun t18 l19 =>
 oInt .gtr .i64 t18 t2 fun t20 =>
 join (fun l21 m22 =>
 uc l21 fun t24 l25 =>
 oPick t20 t24 (.bool false) fun t26 =>
 oIf t26 (oInt .sub .i64 t18 (.int .i64 (.ofNat 1)) fun t27 =>
 oInt .sub .i64 t18 (.int .i64 (.ofNat 1)) fun t28 =>
 oOpt (ia 2 t0 t28) fun t29 =>
 oOpt (ldN m22 2 t29) fun t30 =>
 oOpt (ia 2 t0 t18) fun t31 =>
 oOpt (ldN m22 2 t31) fun t32 =>
 oOpt (ia 2 t0 t18) fun t33 =>
 oRes (st1 2 L m22 t33 t30) fun t34 m35 =>
 oOpt (ia 2 t0 t27) fun t36 =>
 oRes (st1 2 L m35 t36 t32) fun t37 m38 =>
 oInt .sub .i64 t18 (.int .i64 (.ofNat 1)) fun t39 =>
 j17 [t39] m38) (oInt .add .i64 t12 (.int .i64 (.ofNat 1)) fun t40 =>
 j11 [t40] m22)) fun j23 =>
 oGT t20 (oOpt (ia 2 t0 t18) fun t41 =>
 oOpt (ldN m16 2 t41) fun t42 =>
 oInt .sub .i64 t18 (.int .i64 (.ofNat 1)) fun t43 =>
 oOpt (ia 2 t0 t43) fun t44 =>
 oOpt (ldN m16 2 t44) fun t45 =>
 oCallV call t6 [t42, t45] L m16 fun t46 m47 =>
 oInt .lss .i64 t46 (.int .i64 (.ofNat 0)) fun t48 =>
 j23 [t48] m47) (j23 [Go.undef] m16)) lf [t12] m10) (k (.tuple ⟨[]⟩) m10)) lf [t8] m)
theorem S231_ok (lf : Nat) (cK : CallK β) (args : List Value) (L : Nat) (m : Mem) (k : Value → Mem → Option β)  : S231 lf cK args L m k = denF Tryz.prog fsT 2 K231 lf cK 231 args L m k := by kernel_rfl

/-- slices.heapSortCmpFunc[vitola/heap.Heap] -/
def K232 : Kat := [(185, (0, [11])), (189, (0, [12]))]
noncomputable def S232 (lf : Nat) : FnK β := fun call args L m k =>
 uc args fun t0 l1 =>
 uc l1 fun t2 l3 =>
 uc l3 fun t4 l5 =>
 uc l5 fun t6 l7 =>
 un0 l7 (oInt .sub .i64 t4 t2 fun t8 =>
 oInt .sub .i64 t8 (.int .i64 (.ofNat 1)) fun t9 =>
 oInt .quo .i64 t9 (.int .i64 (.ofNat 2)) fun t10 =>
 loopS (fun j13 l11 m12 =>
 uc l11 fun t14 l15 =>
 oInt .geq .i64 t14 (.int .i64 (.ofNat 0)) fun t16 =>
 oIf t16 (call 239 [t0, t14, t8, t2, t6] L m12 fun t17 m18 =>
 oInt .sub .i64 t14 (.int .i64 (.ofNat 1)) fun t19 =>
 j13 [t19] m18) (oInt .sub .i64 t8 (.int .i64 (.ofNat 1)) fun t20 =>
 loopS (fun j23 l21 m22 =>
 uc l21 fun t24 l25 =>
 oInt .geq .i64 t24 (.int .i64 (.ofNat 0)) fun t26 =>
 oIf t26 (oInt .add .i64 t2 t24 fun t27 =>
 oInt .add .i64 t2 t24 fun t28 =>
 oOpt (ia 2 t0 t28) fun t29 =>
 oOpt (ldN m22 2 t29) fun t30 =>
 oOpt (ia 2 t0 t2) fun t31 =>
 oOpt (ldN m22 2 t31) fun t32 =>
 oOpt (ia 2 t0 t2) fun t33 =>
 oRes (st1 2 L m22 t33 t30) fun t34 m35 =>
 oOpt (ia 2 t0 t27) fun t36 =>
 oRes (st1 2 L m35 t36 t32) fun t37 m38 =>
 call 239 [t0, (.int .i64 (.ofNat 0)), t24, t2, t6] L m38 fun t39 m40 =>
 oInt .sub .i64 t24 (.int .i64 (.ofNat 1)) fun t41 =>
 j23 [t41] m40) (k (.tuple ⟨[]⟩) m22)) lf [t20] m12)) lf [t10] m)
theorem S232_ok (lf : Nat) (cK : CallK β) (args : List Value) (L : Nat) (m : Mem) (k : Value → Mem → Option β)  : S232 lf cK args L m k = denF Tryz.prog fsT 2 K232 lf cK 232 args L m k := by kernel_rfl

/-- slices.breakPatternsCmpFunc[vitola/heap.Heap] -/
def K233 : Kat := [(10, (0, [])), (365, (0, [11])), (46884, (0, [12]))]
noncomputable def S233 (lf : Nat) : FnK β := fun call args L m k =>
 uc args fun t0 l1 =>
 uc l1 fun t2 l3 =>
 uc l3 fun t4 l5 =>
 uc l5 fun t6 l7 =>
 un0 l7 (oInt .sub .i64 t4 t2 fun t8 =>
 oInt .geq .i64 t8 (.int .i64 (.ofNat 8)) fun t9 =>
 join (fun l10 m11 =>
 k (.tuple ⟨[]⟩) m11) fun j12 =>
 oIf t9 (oCv .u64 t8 fun t13 =>
 oRes (anew m 1 [(.int .u64 (.ofNat 0))] ptrTo) fun t14 m15 =>
 oRes (st1 1 L m15 t14 t13) fun t16 m17 =>
 call 190 [t8] L m17 fun t18 m19 =>
 oInt .quo .i64 t8 (.int .i64 (.ofNat 4)) fun t20 =>
 oInt .mul .i64 t20 (.int .i64 (.ofNat 2)) fun t21 =>
 oInt .add .i64 t2 t21 fun t22 =>
 oInt .sub .i64 t22 (.int .i64 (.ofNat 1)) fun t23 =>
 loopS (fun j26 l24 m25 =>
 uc l24 fun t27 l28 =>
 oInt .quo .i64 t8 (.int .i64 (.ofNat 4)) fun t29 =>
 oInt .mul .i64 t29 (.int .i64 (.ofNat 2)) fun t30 =>
 oInt .add .i64 t2 t30 fun t31 =>
 oInt .add .i64 t31 (.int .i64 (.ofNat 1)) fun t32 =>
 oInt .leq .i64 t27 t32 fun t33 =>
 oIf t33 (call 191 [t14] L m25 fun t34 m35 =>
 oInt .sub .u64 t18 (.int .u64 (.ofNat 1)) fun t36 =>
 oInt .and .u64 t34 t36 fun t37 =>
 oCv .i64 t37 fun t38 =>
 oInt .geq .i64 t38 t8 fun t39 =>
 join (fun l40 m41 =>
 uc l40 fun t43 l44 =>
 oInt .add .i64 t2 t43 fun t45 =>
 oInt .add .i64 t2 t43 fun t46 =>
 oOpt (ia 2 t0 t46) fun t47 =>
 oOpt (ldN m41 2 t47) fun t48 =>
 oOpt (ia 2 t0 t27) fun t49 =>
 oOpt (ldN m41 2 t49) fun t50 =>
 oOpt (ia 2 t0 t27) fun t51 =>
 oRes (st1 2 L m41 t51 t48) fun t52 m53 =>
 oOpt (ia 2 t0 t45) fun t54 =>
 oRes (st1 2 L m53 t54 t50) fun t55 m56 =>
 oInt .add .i64 t27 (.int .i64 (.ofNat 1)) fun t57 =>
 j26 [t57] m56) fun j42 =>
 oIf t39 (oInt .sub .i64 t38 t8 fun t58 =>
 j42 [t58] m35) (j42 [t38] m35)) (j12 [] m25)) lf [t23] m19) (j12 [] m))
theorem S233_ok (lf : Nat) (cK : CallK β) (args : List Value) (L : Nat) (m : Mem) (k : Value → Mem → Option β)  : S233 lf cK args L m k = denF Tryz.prog fsT 2 K233 lf cK 233 args L m k := by kernel_rfl

/-- slices.choosePivotCmpFunc[vitola/heap.Heap] -/
def K234 : Kat := [(764, (0, [13])), (6120, (0, [12, 13, 14]))]
noncomputable def S234 (lf : Nat) : FnK β := fun call args L m k =>
 uc args fun t0 l1 =>
 uc l1 fun t2 l3 =>
 uc l3 fun t4 l5 =>
 uc l5 fun t6 l7 =>
 un0 l7 (oInt .sub .i64 t4 t2 fun t8 =>
 oRes (anew m 1 [(.int .i64 (.ofNat 0))] ptrTo) fun t9 m10 =>
 oInt .quo .i64 t8 (.int .i64 (.ofNat 4)) fun t11 =>
 oInt .mul .i64 t11 (.int .i64 (.ofNat 1)) fun t12 =>
 oInt .add .i64 t2 t12 fun t13 =>
 oInt .quo .i64 t8 (.int .i64 (.ofNat 4)) fun t14 =>
 oInt .mul .i64 t14 (.int .i64 (.ofNat 2)) fun t15 =>
 oInt .add .i64 t2 t15 fun t16 =>
 oInt .quo .i64 t8 (.int .i64 (.ofNat 4)) fun t17 =>
 oInt .mul .i64 t17 (.int .i64 (.ofNat 3)) fun t18 =>
 oInt .add .i64 t2 t18 fun t19 =>
 oInt .geq .i64 t8 (.int .i64 (.ofNat 8)) fun t20 =>
 join (fun l21 m22 =>
 uc l21 fun t24 l25 =>
 oOpt (ld1 m22 t9) fun t26 =>
 oInt .eql .i64 t26 (.int .i64 (.ofNat 0)) fun t27 =>
 oIf t27 (k (.tuple ⟨[t24, (.int .i64 (.ofNat 1))]⟩) m22) (oInt .eql .i64 t26 (.int .i64 (.ofNat 12)) fun t28 =>
 oIf t28 (k (.tuple ⟨[t24, (.int .i64 (.ofNat 2))]⟩) m22) (k (.tuple ⟨[t24, (.int .i64 (.ofNat 0))]⟩) m22))) fun j23 =>
 oIf t20 (oInt .geq .i64 t8 (.int .i64 (.ofNat 50)) fun t29 =>
 join (fun l30 m31 =>
 uc l30 fun t33 l34 =>
 uc l34 fun t35 l36 =>
 uc l36 fun t37 l38 =>
 call 241 [t0, t33, t35, t37, t9, t6] L m31 fun t39 m40 =>
 j23 [t39] m40) fun j32 =>
 oIf t29 (call 240 [t0, t13, t9, t6] L m10 fun t41 m42 =>
 call 240 [t0, t16, t9, t6] L m42 fun t43 m44 =>
 call 240 [t0, t19, t9, t6] L m44 fun t45 m46 =>
 j32 [t41, t43, t45] m46) (j32 [t13, t16, t19] m10)) (j23 [t16] m10))
theorem S234_ok (lf : Nat) (cK : CallK β) (args : List Value) (L : Nat) (m : Mem) (k : Value → Mem → Option β)  : S234 lf cK args L m k = denF Tryz.prog fsT 2 K234 lf cK 234 args L m k := by kernel_rfl

/-- slices.reverseRangeCmpFunc[vitola/heap.Heap] -/
def K235 : Kat := [(21, (0, [8, 9]))]
noncomputable def S235 (lf : Nat) : FnK β := fun call args L m k =>
 uc args fun t0 l1 =>
 uc l1 fun t2 l3 =>
 uc l3 fun t4 l5 =>
 uc l5 fun t6 l7 =>
 un0 l7 (oInt .sub .i64 t4 (.int .i64 (.ofNat 1)) fun t8 =>
 loopS (fun j11 l9 m10 =>
 uc l9 fun t12 l13 =>
 uc l13 fun t14 l15 =>
 oInt .lss .i64 t12 t14 fun t16 =>
 oIf t16 (oOpt (ia 2 t0 t14) fun t17 =>
 oOpt (ldN m10 2 t17) fun t18 =>
 oOpt (ia 2 t0 t12) fun t19 =>
 oOpt (ldN m10 2 t19) fun t20 =>
 oOpt (ia 2 t0 t12) fun t21 =>
 oRes (st1 2 L m10 t21 t18) fun t22 m23 =>
 oOpt (ia 2 t0 t14) fun t24 =>
 oRes (st1 2 L m23 t24 t20) fun t25 m26 =>
 oInt .add .i64 t12 (.int .i64 (.ofNat 1)) fun t27 =>
 oInt .sub .i64 t14 (.int .i64 (.ofNat 1)) fun t28 =>
 j11 [t27, t28] m26) (k (.tuple ⟨[]⟩) m10)) lf [t2, t8] m)
theorem S235_ok (lf : Nat) (cK : CallK β) (args : List Value) (L : Nat) (m : Mem) (k : Value → Mem → Option β)  : S235 lf cK args L m k = denF Tryz.prog fsT 2 K235 lf cK 235 args L m k := by kernel_rfl

end
end Go.Vit
