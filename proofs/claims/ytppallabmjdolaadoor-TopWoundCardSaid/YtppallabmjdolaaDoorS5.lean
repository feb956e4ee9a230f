/- Shallow texts of the seat's functions, printed by a program: part 5. -/
import Derived.Test.YtppallabmjdolaaDoorRows
import Derived.Test.YtppallabmjdolaaDoorFs
set_option linter.unusedVariables false
set_option maxRecDepth 100000
namespace Go.Vit
open Go Go.Proofs
section
variable {β : Type}
/-- vitola/bench.bounded -/
def K98 : Kat := [(19, (1, [11]))]
noncomputable def S98 (lf : Nat) : FnK β := fun call args L m k =>
 uc args fun t0 l1 =>
 uc l1 fun t2 l3 =>
 un0 l3 (call 114 [t0, (.int .i64 (.ofNat 1)), (.int .i64 (.ofNat 20))] L m fun t4 m5 =>
 oOpt (aun .not t4) fun t6 =>
 join (fun l7 m8 =>
 uc l7 fun t10 l11 =>
 oPick t6 (.bool true) t10 fun t12 =>
 oIf t12 (k (.int .i64 (.ofNat 1)) m8) (k (.int .i64 (.ofNat 0)) m8)) fun j9 =>
 oGF t6 (call 114 [t2, (.int .i64 (.ofNat 1)), (.int .i64 (.ofNat 1000000000))] L m5 fun t13 m14 =>
 oOpt (aun .not t13) fun t15 =>
 j9 [t15] m14) (j9 [Go.undef] m5))
theorem S98_ok (lf : Nat) (cK : CallK β) (args : List Value) (L : Nat) (m : Mem) (k : Value → Mem → Option β)  : S98 lf cK args L m k = denF Tryd.prog fsT 2 K98 lf cK 98 args L m k := by kernel_rfl

/-- vitola/bench.ordered -/
def K99 : Kat := [(91, (0, [6, 5]))]
noncomputable def S99 (lf : Nat) : FnK β := fun call args L m k =>
 uc args fun t0 l1 =>
 uc l1 fun t2 l3 =>
 un0 l3 (call 115 [t0] L m fun t4 m5 =>
 loopS (fun j8 l6 m7 =>
 uc l6 fun t9 l10 =>
 uc l10 fun t11 l12 =>
 oOpt (ln t11) fun t13 =>
 oInt .gtr .i64 t13 (.int .i64 (.ofNat 0)) fun t14 =>
 oIf t14 (oInt .sub .i64 t2 (.int .i64 (.ofNat 1)) fun t15 =>
 oOpt (ln t11) fun t16 =>
 oInt .rem .i64 t15 t16 fun t17 =>
 oOpt (ia 1 t11 t17) fun t18 =>
 oOpt (ld1 m7 t18) fun t19 =>
 oRes (bs Tryd.prog m7 25 1 [(0, t19)]) fun t20 m21 =>
 oRes (aappend Tryd.prog L m21 25 t9 t20) fun t22 m23 =>
 call 116 [t11, t17] L m23 fun t24 m25 =>
 j8 [t22, t24] m25) (k t9 m7)) lf [(.slice none 0 0), t4] m5)
theorem S99_ok (lf : Nat) (cK : CallK β) (args : List Value) (L : Nat) (m : Mem) (k : Value → Mem → Option β)  : S99 lf cK args L m k = denF Tryd.prog fsT 2 K99 lf cK 99 args L m k := by kernel_rfl

/-- vitola/blend.Nth -/
def K100 : Kat := []
noncomputable def S100 (lf : Nat) : FnK β := fun call args L m k =>
 uc args fun t0 l1 =>
 uc l1 fun t2 l3 =>
 uc l3 fun t4 l5 =>
 un0 l5 (call 117 [t0, t2] L m fun t6 m7 =>
 oInt .neq .i64 t6 (.int .i64 (.ofNat 0)) fun t8 =>
 oIf t8 (k (.tuple ⟨[(.slice none 0 0), t6]⟩) m7) (call 119 [t0, t2] L m7 fun t9 m10 =>
 oInt .sub .i64 t9 (.int .i64 (.ofNat 1)) fun t11 =>
 call 118 [t4, (.int .i64 (.ofNat 0)), t11] L m10 fun t12 m13 =>
 oOpt (aun .not t12) fun t14 =>
 oIf t14 (k (.tuple ⟨[(.slice none 0 0), (.int .i64 (.ofNat 2))]⟩) m13) (call 120 [t2, t4] L m13 fun t15 m16 =>
 k (.tuple ⟨[t15, (.int .i64 (.ofNat 0))]⟩) m16)))
theorem S100_ok (lf : Nat) (cK : CallK β) (args : List Value) (L : Nat) (m : Mem) (k : Value → Mem → Option β)  : S100 lf cK args L m k = denF Tryd.prog fsT 2 K100 lf cK 100 args L m k := by kernel_rfl

/-- slices.IndexFunc[[]vitola/dock.fate,vitola/dock.fate] -/
def K101 : Kat := [(41, (0, [8]))]
noncomputable def S101 (lf : Nat) : FnK β := fun call args L m k =>
 uc args fun t0 l1 =>
 uc l1 fun t2 l3 =>
 un0 l3 (oOpt (ln t0) fun t4 =>
 loopS (fun j7 l5 m6 =>
 uc l5 fun t8 l9 =>
 oInt .lss .i64 t8 t4 fun t10 =>
 oIf t10 (oOpt (ia 1 t0 t8) fun t11 =>
 oOpt (ld1 m6 t11) fun t12 =>
 oCallV call t2 [t12] L m6 fun t13 m14 =>
 oIf t13 (k t8 m14) (oInt .add .i64 t8 (.int .i64 (.ofNat 1)) fun t15 =>
 j7 [t15] m14)) (k (.int .i64 (.negSucc 0)) m6)) lf [(.int .i64 (.ofNat 0))] m)
theorem S101_ok (lf : Nat) (cK : CallK β) (args : List Value) (L : Nat) (m : Mem) (k : Value → Mem → Option β)  : S101 lf cK args L m k = denF Tryd.prog fsT 2 K101 lf cK 101 args L m k := by kernel_rfl

/-- slices.pdqsortCmpFunc[vitola/heap.Heap] -/
def K102 : Kat := [(21, (0, [3, 1, 11, 10, 2])), (43, (0, [3, 1, 11, 10, 2])), (2844, (0, [3])), (11388, (0, [13, 14])), (22779, (1, [70])), (22779, (3, [74])), (22780, (0, [])), (45563, (1, [96])), (729086, (0, [10, 1, 2]))]
noncomputable def S102 (lf : Nat) : FnK β := fun call args L m k =>
 uc args fun t0 l1 =>
 uc l1 fun t2 l3 =>
 uc l3 fun t4 l5 =>
 uc l5 fun t6 l7 =>
 uc l7 fun t8 l9 =>
 un0 l9 (loopS (fun j12 l10 m11 =>
 uc l10 fun t13 l14 =>
 uc l14 fun t15 l16 =>
 uc l16 fun t17 l18 =>
 uc l18 fun t19 l20 =>
 uc l20 fun t21 l22 =>
 join (fun l23 m24 =>
 uc l23 fun t26 l27 =>
 uc l27 fun t28 l29 =>
 uc l29 fun t30 l31 =>
 uc l31 fun t32 l33 =>
 uc l33 fun t34 l35 =>
 j12 [t26, t28, t30, t32, t34] m24) fun j25 =>
 oInt .sub .i64 t21 t15 fun t36 =>
 oInt .leq .i64 t36 (.int .i64 (.ofNat 12)) fun t37 =>
 oIf t37 (call 121 [t0, t15, t21, t8] L m11 fun t38 m39 =>
 k (.tuple ⟨[]⟩) m39) (oInt .eql .i64 t13 (.int .i64 (.ofNat 0)) fun t40 =>
 oIf t40 (call 122 [t0, t15, t21, t8] L m11 fun t41 m42 =>
 k (.tuple ⟨[]⟩) m42) (oOpt (aun .not t19) fun t43 =>
 join (fun l44 m45 =>
 uc l44 fun t47 l48 =>
 call 124 [t0, t15, t21, t8] L m45 fun t49 m50 =>
 oOpt (aextract t49 0) fun t51 =>
 oOpt (aextract t49 1) fun t52 =>
 oInt .eql .i64 t52 (.int .i64 (.ofNat 2)) fun t53 =>
 join (fun l54 m55 =>
 uc l54 fun t57 l58 =>
 uc l58 fun t59 l60 =>
 join (fun l61 m62 =>
 uc l61 fun t64 l65 =>
 oPick t19 t64 (.bool false) fun t66 =>
 join (fun l67 m68 =>
 uc l67 fun t70 l71 =>
 oPick t66 t70 (.bool false) fun t72 =>
 join (fun l73 m74 =>
 oInt .gtr .i64 t15 (.int .i64 (.ofNat 0)) fun t76 =>
 join (fun l77 m78 =>
 uc l77 fun t80 l81 =>
 oPick t76 t80 (.bool false) fun t82 =>
 oIf t82 (call 127 [t0, t15, t21, t57, t8] L m78 fun t83 m84 =>
 j25 [t47, t83, t17, t19, t21] m84) (call 128 [t0, t15, t21, t57, t8] L m78 fun t85 m86 =>
 oOpt (aextract t85 0) fun t87 =>
 oOpt (aextract t85 1) fun t88 =>
 oInt .sub .i64 t87 t15 fun t89 =>
 oInt .sub .i64 t21 t87 fun t90 =>
 oInt .quo .i64 t36 (.int .i64 (.ofNat 8)) fun t91 =>
 oInt .lss .i64 t89 t90 fun t92 =>
 join (fun l93 m94 =>
 uc l93 fun t96 l97 =>
 uc l97 fun t98 l99 =>
 uc l99 fun t100 l101 =>
 j25 [t47, t98, t88, t96, t100] m94) fun j95 =>
 oIf t92 (oInt .geq .i64 t89 t91 fun t102 =>
 call 102 [t0, t15, t87, t47, t8] L m86 fun t103 m104 =>
 oInt .add .i64 t87 (.int .i64 (.ofNat 1)) fun t105 =>
 j95 [t102, t105, t21] m104) (oInt .geq .i64 t90 t91 fun t106 =>
 oInt .add .i64 t87 (.int .i64 (.ofNat 1)) fun t107 =>
 call 102 [t0, t107, t21, t47, t8] L m86 fun t108 m109 =>
 j95 [t106, t15, t87] m109))) fun j79 =>
 oGT t76 (oInt .sub .i64 t15 (.int .i64 (.ofNat 1)) fun t110 =>
 oOpt (ia 2 t0 t110) fun t111 =>
 oOpt (ldN m74 2 t111) fun t112 =>
 oOpt (ia 2 t0 t57) fun t113 =>
 oOpt (ldN m74 2 t113) fun t114 =>
 oCallV call t8 [t112, t114] L m74 fun t115 m116 =>
 oInt .lss .i64 t115 (.int .i64 (.ofNat 0)) fun t117 =>
 oOpt (aun .not t117) fun t118 =>
 j79 [t118] m116) (j79 [Go.undef] m74)) fun j75 =>
 oIf t72 (call 126 [t0, t15, t21, t8] L m68 fun t119 m120 =>
 oIf t119 (k (.tuple ⟨[]⟩) m120) (j75 [] m120)) (j75 [] m68)) fun j69 =>
 oGT t66 (oInt .eql .i64 t59 (.int .i64 (.ofNat 1)) fun t121 =>
 j69 [t121] m62) (j69 [Go.undef] m62)) fun j63 =>
 oGT t19 (j63 [t17] m55) (j63 [Go.undef] m55)) fun j56 =>
 oIf t53 (call 125 [t0, t15, t21, t8] L m50 fun t122 m123 =>
 oInt .sub .i64 t21 (.int .i64 (.ofNat 1)) fun t124 =>
 oInt .sub .i64 t51 t15 fun t125 =>
 oInt .sub .i64 t124 t125 fun t126 =>
 j56 [t126, (.int .i64 (.ofNat 1))] m123) (j56 [t51, t52] m50)) fun j46 =>
 oIf t43 (call 123 [t0, t15, t21, t8] L m11 fun t127 m128 =>
 oInt .sub .i64 t13 (.int .i64 (.ofNat 1)) fun t129 =>
 j46 [t129] m128) (j46 [t13] m11)))) lf [t6, t2, (.bool true), (.bool true), t4] m)
theorem S102_ok (lf : Nat) (cK : CallK β) (args : List Value) (L : Nat) (m : Mem) (k : Value → Mem → Option β)  : S102 lf cK args L m k = denF Tryd.prog fsT 2 K102 lf cK 102 args L m k := by kernel_rfl

/-- math/bits.Len -/
def K103 : Kat := []
noncomputable def S103 (lf : Nat) : FnK β := fun call args L m k =>
 uc args fun t0 l1 =>
 un0 l1 (oIf (.bool false) (oCv .u32 t0 fun t2 =>
 call 129 [t2] L m fun t3 m4 =>
 k t3 m4) (call 130 [t0] L m fun t5 m6 =>
 k t5 m6))
theorem S103_ok (lf : Nat) (cK : CallK β) (args : List Value) (L : Nat) (m : Mem) (k : Value → Mem → Option β)  : S103 lf cK args L m k = denF Tryd.prog fsT 2 K103 lf cK 103 args L m k := by kernel_rfl

/-- slices.IndexFunc[[]vitola/heap.Heap,vitola/heap.Heap] -/
def K104 : Kat := [(41, (0, [8]))]
noncomputable def S104 (lf : Nat) : FnK β := fun call args L m k =>
 uc args fun t0 l1 =>
 uc l1 fun t2 l3 =>
 un0 l3 (oOpt (ln t0) fun t4 =>
 loopS (fun j7 l5 m6 =>
 uc l5 fun t8 l9 =>
 oInt .lss .i64 t8 t4 fun t10 =>
 oIf t10 (oOpt (ia 2 t0 t8) fun t11 =>
 oOpt (ldN m6 2 t11) fun t12 =>
 oCallV call t2 [t12] L m6 fun t13 m14 =>
 oIf t13 (k t8 m14) (oInt .add .i64 t8 (.int .i64 (.ofNat 1)) fun t15 =>
 j7 [t15] m14)) (k (.int .i64 (.negSucc 0)) m6)) lf [(.int .i64 (.ofNat 0))] m)
theorem S104_ok (lf : Nat) (cK : CallK β) (args : List Value) (L : Nat) (m : Mem) (k : Value → Mem → Option β)  : S104 lf cK args L m k = denF Tryd.prog fsT 2 K104 lf cK 104 args L m k := by kernel_rfl

/-- slices.AppendSeq[[]int,int] -/
def K106 : Kat := []
noncomputable def S106 (lf : Nat) : FnK β := fun call args L m k =>
 uc args fun t0 l1 =>
 uc l1 fun t2 l3 =>
 un0 l3 (oRes (abox m t0) fun t4 m5 =>
 oRange call 106 t2 [t4] L m5 fun m6 =>
 oOpt (ld1 m6 t4) fun t7 =>
 k t7 m6)
theorem S106_ok (lf : Nat) (cK : CallK β) (args : List Value) (L : Nat) (m : Mem) (k : Value → Mem → Option β)  : S106 lf cK args L m k = denF Tryd.prog fsT 2 K106 lf cK 106 args L m k := by kernel_rfl

/-- math/bits.TrailingZeros32 -/
def K107 : Kat := []
noncomputable def S107 (lf : Nat) : FnK β := fun call args L m k =>
 uc args fun t0 l1 =>
 un0 l1 (oInt .eql .u32 t0 (.int .u32 (.ofNat 0)) fun t2 =>
 oIf t2 (k (.int .i64 (.ofNat 32)) m) (oOpt (aun .neg t0) fun t3 =>
 oInt .and .u32 t0 t3 fun t4 =>
 oInt .mul .u32 t4 (.int .u32 (.ofNat 125613361)) fun t5 =>
 oOpt (abin Tryd.prog .shr 141 t5 (.int .u64 (.ofNat 27))) fun t6 =>
 oOpt (iaA 32 1 (.pointer (some ⟨0, 0, none⟩)) t6) fun t7 =>
 oOpt (ld1 m t7) fun t8 =>
 oCv .i64 t8 fun t9 =>
 k t9 m))
theorem S107_ok (lf : Nat) (cK : CallK β) (args : List Value) (L : Nat) (m : Mem) (k : Value → Mem → Option β)  : S107 lf cK args L m k = denF Tryd.prog fsT 2 K107 lf cK 107 args L m k := by kernel_rfl

/-- math/bits.TrailingZeros64 -/
def K108 : Kat := []
noncomputable def S108 (lf : Nat) : FnK β := fun call args L m k =>
 uc args fun t0 l1 =>
 un0 l1 (oInt .eql .u64 t0 (.int .u64 (.ofNat 0)) fun t2 =>
 oIf t2 (k (.int .i64 (.ofNat 64)) m) (oOpt (aun .neg t0) fun t3 =>
 oInt .and .u64 t0 t3 fun t4 =>
 oInt .mul .u64 t4 (.int .u64 (.ofNat 285870213051353865)) fun t5 =>
 oOpt (abin Tryd.prog .shr 151 t5 (.int .u64 (.ofNat 58))) fun t6 =>
 oOpt (iaA 64 1 (.pointer (some ⟨1, 0, none⟩)) t6) fun t7 =>
 oOpt (ld1 m t7) fun t8 =>
 oCv .i64 t8 fun t9 =>
 k t9 m))
theorem S108_ok (lf : Nat) (cK : CallK β) (args : List Value) (L : Nat) (m : Mem) (k : Value → Mem → Option β)  : S108 lf cK args L m k = denF Tryd.prog fsT 2 K108 lf cK 108 args L m k := by kernel_rfl

/-- (*vitola/wrap.wound).more -/
def K109 : Kat := [(188, (0, [])), (758, (0, []))]
noncomputable def S109 (lf : Nat) : FnK β := fun call args L m k =>
 uc args fun t0 l1 =>
 un0 l1 (oOpt (anil t0) fun t2 =>
 oOpt (fa 0 t2) fun t3 =>
 oOpt (fa 2 t3) fun t4 =>
 oOpt (ld1 m t4) fun t5 =>
 oOpt (anil t0) fun t6 =>
 oOpt (fa 0 t6) fun t7 =>
 oOpt (fa 2 t7) fun t8 =>
 oOpt (ld1 m t8) fun t9 =>
 oInt .add .i64 t9 (.int .i64 (.ofNat 1)) fun t10 =>
 oOpt (anil t0) fun t11 =>
 oOpt (fa 0 t11) fun t12 =>
 oOpt (fa 2 t12) fun t13 =>
 oRes (st1 1 L m t13 t10) fun t14 m15 =>
 oInt .eql .i64 t5 (.int .i64 (.ofNat 1)) fun t16 =>
 oIf t16 (oOpt (bu Tryd.prog 129 [(0, (.int .i64 (.ofNat 1))), (1, (.int .i64 (.ofNat 1)))]) fun t17 =>
 oOpt (anil t0) fun t18 =>
 oOpt (fa 3 t18) fun t19 =>
 oRes (st1 2 L m15 t19 t17) fun t20 m21 =>
 k (.tuple ⟨[]⟩) m21) (oOpt (anil t0) fun t22 =>
 oOpt (fa 0 t22) fun t23 =>
 oOpt (ldN m15 3 t23) fun t24 =>
 call 30 [t24, t5] L m15 fun t25 m26 =>
 oOpt (anil t0) fun t27 =>
 oOpt (fa 0 t27) fun t28 =>
 oOpt (ldN m26 3 t28) fun t29 =>
 oOpt (anil t0) fun t30 =>
 oOpt (fa 3 t30) fun t31 =>
 oOpt (iaA 2 1 t31 (.int .i64 (.ofNat 0))) fun t32 =>
 oOpt (ld1 m26 t32) fun t33 =>
 call 30 [t29, t33] L m26 fun t34 m35 =>
 oInt .lss .i64 t25 t34 fun t36 =>
 join (fun l37 m38 =>
 k (.tuple ⟨[]⟩) m38) fun j39 =>
 oIf t36 (oOpt (anil t0) fun t40 =>
 oOpt (fa 3 t40) fun t41 =>
 oOpt (iaA 2 1 t41 (.int .i64 (.ofNat 0))) fun t42 =>
 oRes (st1 1 L m35 t42 t5) fun t43 m44 =>
 j39 [] m44) (oOpt (anil t0) fun t45 =>
 oOpt (fa 0 t45) fun t46 =>
 oOpt (ldN m35 3 t46) fun t47 =>
 oOpt (anil t0) fun t48 =>
 oOpt (fa 3 t48) fun t49 =>
 oOpt (iaA 2 1 t49 (.int .i64 (.ofNat 1))) fun t50 =>
 oOpt (ld1 m35 t50) fun t51 =>
 call 30 [t47, t51] L m35 fun t52 m53 =>
 oInt .gtr .i64 t25 t52 fun t54 =>
 join (fun l55 m56 =>
 j39 [] m56) fun j57 =>
 oIf t54 (oOpt (anil t0) fun t58 =>
 oOpt (fa 3 t58) fun t59 =>
 oOpt (iaA 2 1 t59 (.int .i64 (.ofNat 1))) fun t60 =>
 oRes (st1 1 L m53 t60 t5) fun t61 m62 =>
 j57 [] m62) (j57 [] m53))))
theorem S109_ok (lf : Nat) (cK : CallK β) (args : List Value) (L : Nat) (m : Mem) (k : Value → Mem → Option β)  : S109 lf cK args L m k = denF Tryd.prog fsT 2 K109 lf cK 109 args L m k := by kernel_rfl

/-- math/bits.OnesCount32 -/
def K110 : Kat := []
noncomputable def S110 (lf : Nat) : FnK β := fun call args L m k =>
 uc args fun t0 l1 =>
 un0 l1 (oOpt (abin Tryd.prog .shr 141 t0 (.int .u64 (.ofNat 24))) fun t2 =>
 oOpt (aindex Tryd.prog 9 (.string ⟨#[0, 1, 1, 2, 1, 2, 2, 3, 1, 2, 2, 3, 2, 3, 3, 4, 1, 2, 2, 3, 2, 3, 3, 4, 2, 3, 3, 4, 3, 4, 4, 5, 1, 2, 2, 3, 2, 3, 3, 4, 2, 3, 3, 4, 3, 4, 4, 5, 2, 3, 3, 4, 3, 4, 4, 5, 3, 4, 4, 5, 4, 5, 5, 6, 1, 2, 2, 3, 2, 3, 3, 4, 2, 3, 3, 4, 3, 4, 4, 5, 2, 3, 3, 4, 3, 4, 4, 5, 3, 4, 4, 5, 4, 5, 5, 6, 2, 3, 3, 4, 3, 4, 4, 5, 3, 4, 4, 5, 4, 5, 5, 6, 3, 4, 4, 5, 4, 5, 5, 6, 4, 5, 5, 6, 5, 6, 6, 7, 1, 2, 2, 3, 2, 3, 3, 4, 2, 3, 3, 4, 3, 4, 4, 5, 2, 3, 3, 4, 3, 4, 4, 5, 3, 4, 4, 5, 4, 5, 5, 6, 2, 3, 3, 4, 3, 4, 4, 5, 3, 4, 4, 5, 4, 5, 5, 6, 3, 4, 4, 5, 4, 5, 5, 6, 4, 5, 5, 6, 5, 6, 6, 7, 2, 3, 3, 4, 3, 4, 4, 5, 3, 4, 4, 5, 4, 5, 5, 6, 3, 4, 4, 5, 4, 5, 5, 6, 4, 5, 5, 6, 5, 6, 6, 7, 3, 4, 4, 5, 4, 5, 5, 6, 4, 5, 5, 6, 5, 6, 6, 7, 4, 5, 5, 6, 5, 6, 6, 7, 5, 6, 6, 7, 6, 7, 7, 8]⟩) t2) fun t3 =>
 oOpt (abin Tryd.prog .shr 141 t0 (.int .u64 (.ofNat 16))) fun t4 =>
 oInt .and .u32 t4 (.int .u32 (.ofNat 255)) fun t5 =>
 oOpt (aindex Tryd.prog 9 (.string ⟨#[0, 1, 1, 2, 1, 2, 2, 3, 1, 2, 2, 3, 2, 3, 3, 4, 1, 2, 2, 3, 2, 3, 3, 4, 2, 3, 3, 4, 3, 4, 4, 5, 1, 2, 2, 3, 2, 3, 3, 4, 2, 3, 3, 4, 3, 4, 4, 5, 2, 3, 3, 4, 3, 4, 4, 5, 3, 4, 4, 5, 4, 5, 5, 6, 1, 2, 2, 3, 2, 3, 3, 4, 2, 3, 3, 4, 3, 4, 4, 5, 2, 3, 3, 4, 3, 4, 4, 5, 3, 4, 4, 5, 4, 5, 5, 6, 2, 3, 3, 4, 3, 4, 4, 5, 3, 4, 4, 5, 4, 5, 5, 6, 3, 4, 4, 5, 4, 5, 5, 6, 4, 5, 5, 6, 5, 6, 6, 7, 1, 2, 2, 3, 2, 3, 3, 4, 2, 3, 3, 4, 3, 4, 4, 5, 2, 3, 3, 4, 3, 4, 4, 5, 3, 4, 4, 5, 4, 5, 5, 6, 2, 3, 3, 4, 3, 4, 4, 5, 3, 4, 4, 5, 4, 5, 5, 6, 3, 4, 4, 5, 4, 5, 5, 6, 4, 5, 5, 6, 5, 6, 6, 7, 2, 3, 3, 4, 3, 4, 4, 5, 3, 4, 4, 5, 4, 5, 5, 6, 3, 4, 4, 5, 4, 5, 5, 6, 4, 5, 5, 6, 5, 6, 6, 7, 3, 4, 4, 5, 4, 5, 5, 6, 4, 5, 5, 6, 5, 6, 6, 7, 4, 5, 5, 6, 5, 6, 6, 7, 5, 6, 6, 7, 6, 7, 7, 8]⟩) t5) fun t6 =>
 oInt .add .u8 t3 t6 fun t7 =>
 oOpt (abin Tryd.prog .shr 141 t0 (.int .u64 (.ofNat 8))) fun t8 =>
 oInt .and .u32 t8 (.int .u32 (.ofNat 255)) fun t9 =>
 oOpt (aindex Tryd.prog 9 (.string ⟨#[0, 1, 1, 2, 1, 2, 2, 3, 1, 2, 2, 3, 2, 3, 3, 4, 1, 2, 2, 3, 2, 3, 3, 4, 2, 3, 3, 4, 3, 4, 4, 5, 1, 2, 2, 3, 2, 3, 3, 4, 2, 3, 3, 4, 3, 4, 4, 5, 2, 3, 3, 4, 3, 4, 4, 5, 3, 4, 4, 5, 4, 5, 5, 6, 1, 2, 2, 3, 2, 3, 3, 4, 2, 3, 3, 4, 3, 4, 4, 5, 2, 3, 3, 4, 3, 4, 4, 5, 3, 4, 4, 5, 4, 5, 5, 6, 2, 3, 3, 4, 3, 4, 4, 5, 3, 4, 4, 5, 4, 5, 5, 6, 3, 4, 4, 5, 4, 5, 5, 6, 4, 5, 5, 6, 5, 6, 6, 7, 1, 2, 2, 3, 2, 3, 3, 4, 2, 3, 3, 4, 3, 4, 4, 5, 2, 3, 3, 4, 3, 4, 4, 5, 3, 4, 4, 5, 4, 5, 5, 6, 2, 3, 3, 4, 3, 4, 4, 5, 3, 4, 4, 5, 4, 5, 5, 6, 3, 4, 4, 5, 4, 5, 5, 6, 4, 5, 5, 6, 5, 6, 6, 7, 2, 3, 3, 4, 3, 4, 4, 5, 3, 4, 4, 5, 4, 5, 5, 6, 3, 4, 4, 5, 4, 5, 5, 6, 4, 5, 5, 6, 5, 6, 6, 7, 3, 4, 4, 5, 4, 5, 5, 6, 4, 5, 5, 6, 5, 6, 6, 7, 4, 5, 5, 6, 5, 6, 6, 7, 5, 6, 6, 7, 6, 7, 7, 8]⟩) t9) fun t10 =>
 oInt .add .u8 t7 t10 fun t11 =>
 oInt .and .u32 t0 (.int .u32 (.ofNat 255)) fun t12 =>
 oOpt (aindex Tryd.prog 9 (.string ⟨#[0, 1, 1, 2, 1, 2, 2, 3, 1, 2, 2, 3, 2, 3, 3, 4, 1, 2, 2, 3, 2, 3, 3, 4, 2, 3, 3, 4, 3, 4, 4, 5, 1, 2, 2, 3, 2, 3, 3, 4, 2, 3, 3, 4, 3, 4, 4, 5, 2, 3, 3, 4, 3, 4, 4, 5, 3, 4, 4, 5, 4, 5, 5, 6, 1, 2, 2, 3, 2, 3, 3, 4, 2, 3, 3, 4, 3, 4, 4, 5, 2, 3, 3, 4, 3, 4, 4, 5, 3, 4, 4, 5, 4, 5, 5, 6, 2, 3, 3, 4, 3, 4, 4, 5, 3, 4, 4, 5, 4, 5, 5, 6, 3, 4, 4, 5, 4, 5, 5, 6, 4, 5, 5, 6, 5, 6, 6, 7, 1, 2, 2, 3, 2, 3, 3, 4, 2, 3, 3, 4, 3, 4, 4, 5, 2, 3, 3, 4, 3, 4, 4, 5, 3, 4, 4, 5, 4, 5, 5, 6, 2, 3, 3, 4, 3, 4, 4, 5, 3, 4, 4, 5, 4, 5, 5, 6, 3, 4, 4, 5, 4, 5, 5, 6, 4, 5, 5, 6, 5, 6, 6, 7, 2, 3, 3, 4, 3, 4, 4, 5, 3, 4, 4, 5, 4, 5, 5, 6, 3, 4, 4, 5, 4, 5, 5, 6, 4, 5, 5, 6, 5, 6, 6, 7, 3, 4, 4, 5, 4, 5, 5, 6, 4, 5, 5, 6, 5, 6, 6, 7, 4, 5, 5, 6, 5, 6, 6, 7, 5, 6, 6, 7, 6, 7, 7, 8]⟩) t12) fun t13 =>
 oInt .add .u8 t11 t13 fun t14 =>
 oCv .i64 t14 fun t15 =>
 k t15 m)
theorem S110_ok (lf : Nat) (cK : CallK β) (args : List Value) (L : Nat) (m : Mem) (k : Value → Mem → Option β)  : S110 lf cK args L m k = denF Tryd.prog fsT 2 K110 lf cK 110 args L m k := by kernel_rfl

/-- math/bits.OnesCount64 -/
def K111 : Kat := []
noncomputable def S111 (lf : Nat) : FnK β := fun call args L m k =>
 uc args fun t0 l1 =>
 un0 l1 (oOpt (abin Tryd.prog .shr 151 t0 (.int .u64 (.ofNat 1))) fun t2 =>
 oInt .and .u64 t2 (.int .u64 (.ofNat 6148914691236517205)) fun t3 =>
 oInt .and .u64 t0 (.int .u64 (.ofNat 6148914691236517205)) fun t4 =>
 oInt .add .u64 t3 t4 fun t5 =>
 oOpt (abin Tryd.prog .shr 151 t5 (.int .u64 (.ofNat 2))) fun t6 =>
 oInt .and .u64 t6 (.int .u64 (.ofNat 3689348814741910323)) fun t7 =>
 oInt .and .u64 t5 (.int .u64 (.ofNat 3689348814741910323)) fun t8 =>
 oInt .add .u64 t7 t8 fun t9 =>
 oOpt (abin Tryd.prog .shr 151 t9 (.int .u64 (.ofNat 4))) fun t10 =>
 oInt .add .u64 t10 t9 fun t11 =>
 oInt .and .u64 t11 (.int .u64 (.ofNat 1085102592571150095)) fun t12 =>
 oOpt (abin Tryd.prog .shr 151 t12 (.int .u64 (.ofNat 8))) fun t13 =>
 oInt .add .u64 t12 t13 fun t14 =>
 oOpt (abin Tryd.prog .shr 151 t14 (.int .u64 (.ofNat 16))) fun t15 =>
 oInt .add .u64 t14 t15 fun t16 =>
 oOpt (abin Tryd.prog .shr 151 t16 (.int .u64 (.ofNat 32))) fun t17 =>
 oInt .add .u64 t16 t17 fun t18 =>
 oCv .i64 t18 fun t19 =>
 oInt .and .i64 t19 (.int .i64 (.ofNat 127)) fun t20 =>
 k t20 m)
theorem S111_ok (lf : Nat) (cK : CallK β) (args : List Value) (L : Nat) (m : Mem) (k : Value → Mem → Option β)  : S111 lf cK args L m k = denF Tryd.prog fsT 2 K111 lf cK 111 args L m k := by kernel_rfl

/-- slices.ContainsFunc[[][]int,[]int] -/
def K112 : Kat := []
noncomputable def S112 (lf : Nat) : FnK β := fun call args L m k =>
 uc args fun t0 l1 =>
 uc l1 fun t2 l3 =>
 un0 l3 (call 140 [t0, t2] L m fun t4 m5 =>
 oInt .geq .i64 t4 (.int .i64 (.ofNat 0)) fun t6 =>
 k t6 m5)
theorem S112_ok (lf : Nat) (cK : CallK β) (args : List Value) (L : Nat) (m : Mem) (k : Value → Mem → Option β)  : S112 lf cK args L m k = denF Tryd.prog fsT 2 K112 lf cK 112 args L m k := by kernel_rfl

/-- vitola/grade.checked$1 -/
def K113 : Kat := []
noncomputable def S113 (lf : Nat) : FnK β := fun call args L m k =>
 uc args fun t0 l1 =>
 uc l1 fun t2 l3 =>
 un0 l3 (oOpt (ln t0) fun t4 =>
 oOpt (ld1 m t2) fun t5 =>
 oOpt (ia 1 t5 (.int .i64 (.ofNat 0))) fun t6 =>
 oOpt (ld1 m t6) fun t7 =>
 oOpt (ln t7) fun t8 =>
 oInt .neq .i64 t4 t8 fun t9 =>
 k t9 m)
theorem S113_ok (lf : Nat) (cK : CallK β) (args : List Value) (L : Nat) (m : Mem) (k : Value → Mem → Option β)  : S113 lf cK args L m k = denF Tryd.prog fsT 2 K113 lf cK 113 args L m k := by kernel_rfl

/-- vitola/bench.within -/
def K114 : Kat := [(9, (1, [13]))]
noncomputable def S114 (lf : Nat) : FnK β := fun call args L m k =>
 uc args fun t0 l1 =>
 uc l1 fun t2 l3 =>
 uc l3 fun t4 l5 =>
 un0 l5 (oInt .leq .i64 t2 t0 fun t6 =>
 join (fun l7 m8 =>
 uc l7 fun t10 l11 =>
 oPick t6 t10 (.bool false) fun t12 =>
 k t12 m8) fun j9 =>
 oGT t6 (oInt .leq .i64 t0 t4 fun t13 =>
 j9 [t13] m) (j9 [Go.undef] m))
theorem S114_ok (lf : Nat) (cK : CallK β) (args : List Value) (L : Nat) (m : Mem) (k : Value → Mem → Option β)  : S114 lf cK args L m k = denF Tryd.prog fsT 2 K114 lf cK 114 args L m k := by kernel_rfl

/-- vitola/bench.full -/
def K115 : Kat := [(89, (0, [3, 6]))]
noncomputable def S115 (lf : Nat) : FnK β := fun call args L m k =>
 uc args fun t0 l1 =>
 un0 l1 (loopS (fun j4 l2 m3 =>
 uc l2 fun t5 l6 =>
 uc l6 fun t7 l8 =>
 oInt .lss .i64 t7 t0 fun t9 =>
 oIf t9 (oRes (bs Tryd.prog m3 158 1 [(0, t7)]) fun t10 m11 =>
 oRes (aappend Tryd.prog L m11 158 t5 t10) fun t12 m13 =>
 oInt .add .i64 t7 (.int .i64 (.ofNat 1)) fun t14 =>
 j4 [t12, t14] m13) (k t5 m3)) lf [(.slice none 0 0), (.int .i64 (.ofNat 0))] m)
theorem S115_ok (lf : Nat) (cK : CallK β) (args : List Value) (L : Nat) (m : Mem) (k : Value → Mem → Option β)  : S115 lf cK args L m k = denF Tryd.prog fsT 2 K115 lf cK 115 args L m k := by kernel_rfl

/-- (vitola/bench.bench).gone -/
def K116 : Kat := []
noncomputable def S116 (lf : Nat) : FnK β := fun call args L m k =>
 uc args fun t0 l1 =>
 uc l1 fun t2 l3 =>
 un0 l3 (oInt .add .i64 t2 (.int .i64 (.ofNat 1)) fun t4 =>
 oOpt (ln t0) fun t5 =>
 oOpt (ln t0) fun t6 =>
 oOpt (sl Tryd.prog 158 t0 (some t4) (some t5) (some t6)) fun t7 =>
 oOpt (sl Tryd.prog 158 t0 none (some t2) (some t2)) fun t8 =>
 oRes (aappend Tryd.prog L m 158 t7 t8) fun t9 m10 =>
 k t9 m10)
theorem S116_ok (lf : Nat) (cK : CallK β) (args : List Value) (L : Nat) (m : Mem) (k : Value → Mem → Option β)  : S116 lf cK args L m k = denF Tryd.prog fsT 2 K116 lf cK 116 args L m k := by kernel_rfl

end
end Go.Vit
