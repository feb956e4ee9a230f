/- Shallow texts of the seat's functions, printed by a program: part 4. -/
import Derived.Test.YticlkfhmmcepjaaDoorRows
import Derived.Test.YticlkfhmmcepjaaDoorVitU
set_option linter.unusedVariables false
set_option maxRecDepth 100000
namespace Go.Vit
open Go Go.Proofs
section
variable {β : Type}
/-- slices.breakPatternsOrdered[int] -/
def K95 : Kat := [(10, (0, [])), (365, (0, [9])), (46884, (0, [10]))]
noncomputable def S95 (lf : Nat) : FnK β := fun call args L m k =>
 uc args fun t0 l1 =>
 uc l1 fun t2 l3 =>
 uc l3 fun t4 l5 =>
 un0 l5 (oInt .sub .i64 t4 t2 fun t6 =>
 oInt .geq .i64 t6 (.int .i64 (.ofNat 8)) fun t7 =>
 join (fun l8 m9 =>
 k (.tuple ⟨[]⟩) m9) fun j10 =>
 oIf t7 (oCv .u64 t6 fun t11 =>
 oRes (anew m 1 [(.int .u64 (.ofNat 0))] ptrTo) fun t12 m13 =>
 oRes (st1 1 L m13 t12 t11) fun t14 m15 =>
 call 106 [t6] L m15 fun t16 m17 =>
 oInt .quo .i64 t6 (.int .i64 (.ofNat 4)) fun t18 =>
 oInt .mul .i64 t18 (.int .i64 (.ofNat 2)) fun t19 =>
 oInt .add .i64 t2 t19 fun t20 =>
 oInt .sub .i64 t20 (.int .i64 (.ofNat 1)) fun t21 =>
 loopS (fun j24 l22 m23 =>
 uc l22 fun t25 l26 =>
 oInt .quo .i64 t6 (.int .i64 (.ofNat 4)) fun t27 =>
 oInt .mul .i64 t27 (.int .i64 (.ofNat 2)) fun t28 =>
 oInt .add .i64 t2 t28 fun t29 =>
 oInt .add .i64 t29 (.int .i64 (.ofNat 1)) fun t30 =>
 oInt .leq .i64 t25 t30 fun t31 =>
 oIf t31 (call 107 [t12] L m23 fun t32 m33 =>
 oInt .sub .u64 t16 (.int .u64 (.ofNat 1)) fun t34 =>
 oInt .and .u64 t32 t34 fun t35 =>
 oCv .i64 t35 fun t36 =>
 oInt .geq .i64 t36 t6 fun t37 =>
 join (fun l38 m39 =>
 uc l38 fun t41 l42 =>
 oInt .add .i64 t2 t41 fun t43 =>
 oInt .add .i64 t2 t41 fun t44 =>
 oOpt (ia 1 t0 t44) fun t45 =>
 oOpt (ld1 m39 t45) fun t46 =>
 oOpt (ia 1 t0 t25) fun t47 =>
 oOpt (ld1 m39 t47) fun t48 =>
 oOpt (ia 1 t0 t25) fun t49 =>
 oRes (st1 1 L m39 t49 t46) fun t50 m51 =>
 oOpt (ia 1 t0 t43) fun t52 =>
 oRes (st1 1 L m51 t52 t48) fun t53 m54 =>
 oInt .add .i64 t25 (.int .i64 (.ofNat 1)) fun t55 =>
 j24 [t55] m54) fun j40 =>
 oIf t37 (oInt .sub .i64 t36 t6 fun t56 =>
 j40 [t56] m33) (j40 [t36] m33)) (j10 [] m23)) lf [t21] m17) (j10 [] m))
theorem S95_ok (lf : Nat) (cK : CallK β) (args : List Value) (L : Nat) (m : Mem) (k : Value → Mem → Option β)  : S95 lf cK args L m k = denF Tryd.prog 2 K95 lf cK 95 args L m k := by kernel_rfl

/-- slices.choosePivotOrdered[int] -/
def K96 : Kat := [(764, (0, [11])), (6120, (0, [10, 11, 12]))]
noncomputable def S96 (lf : Nat) : FnK β := fun call args L m k =>
 uc args fun t0 l1 =>
 uc l1 fun t2 l3 =>
 uc l3 fun t4 l5 =>
 un0 l5 (oInt .sub .i64 t4 t2 fun t6 =>
 oRes (anew m 1 [(.int .i64 (.ofNat 0))] ptrTo) fun t7 m8 =>
 oInt .quo .i64 t6 (.int .i64 (.ofNat 4)) fun t9 =>
 oInt .mul .i64 t9 (.int .i64 (.ofNat 1)) fun t10 =>
 oInt .add .i64 t2 t10 fun t11 =>
 oInt .quo .i64 t6 (.int .i64 (.ofNat 4)) fun t12 =>
 oInt .mul .i64 t12 (.int .i64 (.ofNat 2)) fun t13 =>
 oInt .add .i64 t2 t13 fun t14 =>
 oInt .quo .i64 t6 (.int .i64 (.ofNat 4)) fun t15 =>
 oInt .mul .i64 t15 (.int .i64 (.ofNat 3)) fun t16 =>
 oInt .add .i64 t2 t16 fun t17 =>
 oInt .geq .i64 t6 (.int .i64 (.ofNat 8)) fun t18 =>
 join (fun l19 m20 =>
 uc l19 fun t22 l23 =>
 oOpt (ld1 m20 t7) fun t24 =>
 oInt .eql .i64 t24 (.int .i64 (.ofNat 0)) fun t25 =>
 oIf t25 (k (.tuple ⟨[t22, (.int .i64 (.ofNat 1))]⟩) m20) (oInt .eql .i64 t24 (.int .i64 (.ofNat 12)) fun t26 =>
 oIf t26 (k (.tuple ⟨[t22, (.int .i64 (.ofNat 2))]⟩) m20) (k (.tuple ⟨[t22, (.int .i64 (.ofNat 0))]⟩) m20))) fun j21 =>
 oIf t18 (oInt .geq .i64 t6 (.int .i64 (.ofNat 50)) fun t27 =>
 join (fun l28 m29 =>
 uc l28 fun t31 l32 =>
 uc l32 fun t33 l34 =>
 uc l34 fun t35 l36 =>
 call 109 [t0, t31, t33, t35, t7] L m29 fun t37 m38 =>
 j21 [t37] m38) fun j30 =>
 oIf t27 (call 108 [t0, t11, t7] L m8 fun t39 m40 =>
 call 108 [t0, t14, t7] L m40 fun t41 m42 =>
 call 108 [t0, t17, t7] L m42 fun t43 m44 =>
 j30 [t39, t41, t43] m44) (j30 [t11, t14, t17] m8)) (j21 [t14] m8))
theorem S96_ok (lf : Nat) (cK : CallK β) (args : List Value) (L : Nat) (m : Mem) (k : Value → Mem → Option β)  : S96 lf cK args L m k = denF Tryd.prog 2 K96 lf cK 96 args L m k := by kernel_rfl

/-- slices.reverseRangeOrdered[int] -/
def K97 : Kat := [(21, (0, [6, 7]))]
noncomputable def S97 (lf : Nat) : FnK β := fun call args L m k =>
 uc args fun t0 l1 =>
 uc l1 fun t2 l3 =>
 uc l3 fun t4 l5 =>
 un0 l5 (oInt .sub .i64 t4 (.int .i64 (.ofNat 1)) fun t6 =>
 loopS (fun j9 l7 m8 =>
 uc l7 fun t10 l11 =>
 uc l11 fun t12 l13 =>
 oInt .lss .i64 t10 t12 fun t14 =>
 oIf t14 (oOpt (ia 1 t0 t12) fun t15 =>
 oOpt (ld1 m8 t15) fun t16 =>
 oOpt (ia 1 t0 t10) fun t17 =>
 oOpt (ld1 m8 t17) fun t18 =>
 oOpt (ia 1 t0 t10) fun t19 =>
 oRes (st1 1 L m8 t19 t16) fun t20 m21 =>
 oOpt (ia 1 t0 t12) fun t22 =>
 oRes (st1 1 L m21 t22 t18) fun t23 m24 =>
 oInt .add .i64 t10 (.int .i64 (.ofNat 1)) fun t25 =>
 oInt .sub .i64 t12 (.int .i64 (.ofNat 1)) fun t26 =>
 j9 [t25, t26] m24) (k (.tuple ⟨[]⟩) m8)) lf [t2, t6] m)
theorem S97_ok (lf : Nat) (cK : CallK β) (args : List Value) (L : Nat) (m : Mem) (k : Value → Mem → Option β)  : S97 lf cK args L m k = denF Tryd.prog 2 K97 lf cK 97 args L m k := by kernel_rfl

/-- slices.partialInsertionSortOrdered[int] -/
def K98 : Kat := [(89, (0, [7, 8])), (5775, (0, [7])), (46207, (1, [31])), (92476, (0, [])), (92478, (0, [])), (369916, (0, [])), (739833, (0, [10])), (369908, (0, [])), (739817, (0, [9]))]
noncomputable def S98 (lf : Nat) : FnK β := fun call args L m k =>
 uc args fun t0 l1 =>
 uc l1 fun t2 l3 =>
 uc l3 fun t4 l5 =>
 un0 l5 (oInt .add .i64 t2 (.int .i64 (.ofNat 1)) fun t6 =>
 loopS (fun j9 l7 m8 =>
 uc l7 fun t10 l11 =>
 uc l11 fun t12 l13 =>
 oInt .lss .i64 t12 (.int .i64 (.ofNat 5)) fun t14 =>
 oIf t14 (loopS (fun j17 l15 m16 =>
 uc l15 fun t18 l19 =>
 oInt .lss .i64 t18 t4 fun t20 =>
 join (fun l21 m22 =>
 uc l21 fun t24 l25 =>
 oPick t20 t24 (.bool false) fun t26 =>
 oIf t26 (oInt .add .i64 t18 (.int .i64 (.ofNat 1)) fun t27 =>
 j17 [t27] m22) (oInt .eql .i64 t18 t4 fun t28 =>
 oIf t28 (k (.bool true) m22) (oInt .sub .i64 t4 t2 fun t29 =>
 oInt .lss .i64 t29 (.int .i64 (.ofNat 50)) fun t30 =>
 oIf t30 (k (.bool false) m22) (oInt .sub .i64 t18 (.int .i64 (.ofNat 1)) fun t31 =>
 oInt .sub .i64 t18 (.int .i64 (.ofNat 1)) fun t32 =>
 oOpt (ia 1 t0 t32) fun t33 =>
 oOpt (ld1 m22 t33) fun t34 =>
 oOpt (ia 1 t0 t18) fun t35 =>
 oOpt (ld1 m22 t35) fun t36 =>
 oOpt (ia 1 t0 t18) fun t37 =>
 oRes (st1 1 L m22 t37 t34) fun t38 m39 =>
 oOpt (ia 1 t0 t31) fun t40 =>
 oRes (st1 1 L m39 t40 t36) fun t41 m42 =>
 oInt .sub .i64 t18 t2 fun t43 =>
 oInt .geq .i64 t43 (.int .i64 (.ofNat 2)) fun t44 =>
 join (fun l45 m46 =>
 oInt .sub .i64 t4 t18 fun t48 =>
 oInt .geq .i64 t48 (.int .i64 (.ofNat 2)) fun t49 =>
 join (fun l50 m51 =>
 oInt .add .i64 t12 (.int .i64 (.ofNat 1)) fun t53 =>
 j9 [t18, t53] m51) fun j52 =>
 oIf t49 (oInt .add .i64 t18 (.int .i64 (.ofNat 1)) fun t54 =>
 join (fun l55 m56 =>
 j52 [] m56) fun j57 =>
 loopS (fun j60 l58 m59 =>
 uc l58 fun t61 l62 =>
 oInt .lss .i64 t61 t4 fun t63 =>
 oIf t63 (oOpt (ia 1 t0 t61) fun t64 =>
 oOpt (ld1 m59 t64) fun t65 =>
 oInt .sub .i64 t61 (.int .i64 (.ofNat 1)) fun t66 =>
 oOpt (ia 1 t0 t66) fun t67 =>
 oOpt (ld1 m59 t67) fun t68 =>
 call 99 [t65, t68] L m59 fun t69 m70 =>
 oOpt (aun .not t69) fun t71 =>
 oIf t71 (j57 [] m70) (oInt .sub .i64 t61 (.int .i64 (.ofNat 1)) fun t72 =>
 oInt .sub .i64 t61 (.int .i64 (.ofNat 1)) fun t73 =>
 oOpt (ia 1 t0 t73) fun t74 =>
 oOpt (ld1 m70 t74) fun t75 =>
 oOpt (ia 1 t0 t61) fun t76 =>
 oOpt (ld1 m70 t76) fun t77 =>
 oOpt (ia 1 t0 t61) fun t78 =>
 oRes (st1 1 L m70 t78 t75) fun t79 m80 =>
 oOpt (ia 1 t0 t72) fun t81 =>
 oRes (st1 1 L m80 t81 t77) fun t82 m83 =>
 oInt .add .i64 t61 (.int .i64 (.ofNat 1)) fun t84 =>
 j60 [t84] m83)) (j57 [] m59)) lf [t54] m46) (j52 [] m46)) fun j47 =>
 oIf t44 (oInt .sub .i64 t18 (.int .i64 (.ofNat 1)) fun t85 =>
 join (fun l86 m87 =>
 j47 [] m87) fun j88 =>
 loopS (fun j91 l89 m90 =>
 uc l89 fun t92 l93 =>
 oInt .geq .i64 t92 (.int .i64 (.ofNat 1)) fun t94 =>
 oIf t94 (oOpt (ia 1 t0 t92) fun t95 =>
 oOpt (ld1 m90 t95) fun t96 =>
 oInt .sub .i64 t92 (.int .i64 (.ofNat 1)) fun t97 =>
 oOpt (ia 1 t0 t97) fun t98 =>
 oOpt (ld1 m90 t98) fun t99 =>
 call 99 [t96, t99] L m90 fun t100 m101 =>
 oOpt (aun .not t100) fun t102 =>
 oIf t102 (j88 [] m101) (oInt .sub .i64 t92 (.int .i64 (.ofNat 1)) fun t103 =>
 oInt .sub .i64 t92 (.int .i64 (.ofNat 1)) fun t104 =>
 oOpt (ia 1 t0 t104) fun t105 =>
 oOpt (ld1 m101 t105) fun t106 =>
 oOpt (ia 1 t0 t92) fun t107 =>
 oOpt (ld1 m101 t107) fun t108 =>
 oOpt (ia 1 t0 t92) fun t109 =>
 oRes (st1 1 L m101 t109 t106) fun t110 m111 =>
 oOpt (ia 1 t0 t103) fun t112 =>
 oRes (st1 1 L m111 t112 t108) fun t113 m114 =>
 oInt .sub .i64 t92 (.int .i64 (.ofNat 1)) fun t115 =>
 j91 [t115] m114)) (j88 [] m90)) lf [t85] m42) (j47 [] m42))))) fun j23 =>
 oGT t20 (oOpt (ia 1 t0 t18) fun t116 =>
 oOpt (ld1 m16 t116) fun t117 =>
 oInt .sub .i64 t18 (.int .i64 (.ofNat 1)) fun t118 =>
 oOpt (ia 1 t0 t118) fun t119 =>
 oOpt (ld1 m16 t119) fun t120 =>
 call 99 [t117, t120] L m16 fun t121 m122 =>
 oOpt (aun .not t121) fun t123 =>
 j23 [t123] m122) (j23 [Go.undef] m16)) lf [t10] m8) (k (.bool false) m8)) lf [t6, (.int .i64 (.ofNat 0))] m)
theorem S98_ok (lf : Nat) (cK : CallK β) (args : List Value) (L : Nat) (m : Mem) (k : Value → Mem → Option β)  : S98 lf cK args L m k = denF Tryd.prog 2 K98 lf cK 98 args L m k := by kernel_rfl

/-- cmp.Less[int] -/
def K99 : Kat := [(9, (1, [10])), (9, (3, [15]))]
noncomputable def S99 (lf : Nat) : FnK β := fun call args L m k =>
 uc args fun t0 l1 =>
 uc l1 fun t2 l3 =>
 un0 l3 (call 110 [t0] L m fun t4 m5 =>
 join (fun l6 m7 =>
 uc l6 fun t9 l10 =>
 oPick t4 t9 (.bool false) fun t11 =>
 join (fun l12 m13 =>
 uc l12 fun t15 l16 =>
 oPick t11 (.bool true) t15 fun t17 =>
 k t17 m13) fun j14 =>
 oGF t11 (oInt .lss .i64 t0 t2 fun t18 =>
 j14 [t18] m7) (j14 [Go.undef] m7)) fun j8 =>
 oGT t4 (call 110 [t2] L m5 fun t19 m20 =>
 oOpt (aun .not t19) fun t21 =>
 j8 [t21] m20) (j8 [Go.undef] m5))
theorem S99_ok (lf : Nat) (cK : CallK β) (args : List Value) (L : Nat) (m : Mem) (k : Value → Mem → Option β)  : S99 lf cK args L m k = denF Tryd.prog 2 K99 lf cK 99 args L m k := by kernel_rfl

/-- slices.partitionEqualOrdered[int] -/
def K100 : Kat := [(91, (0, [9, 10])), (1471, (0, [9])), (11775, (1, [42])), (2947, (0, [10])), (23583, (1, [58]))]
noncomputable def S100 (lf : Nat) : FnK β := fun call args L m k =>
 uc args fun t0 l1 =>
 uc l1 fun t2 l3 =>
 uc l3 fun t4 l5 =>
 uc l5 fun t6 l7 =>
 un0 l7 (oOpt (ia 1 t0 t6) fun t8 =>
 oOpt (ld1 m t8) fun t9 =>
 oOpt (ia 1 t0 t2) fun t10 =>
 oOpt (ld1 m t10) fun t11 =>
 oOpt (ia 1 t0 t2) fun t12 =>
 oRes (st1 1 L m t12 t9) fun t13 m14 =>
 oOpt (ia 1 t0 t6) fun t15 =>
 oRes (st1 1 L m14 t15 t11) fun t16 m17 =>
 oInt .add .i64 t2 (.int .i64 (.ofNat 1)) fun t18 =>
 oInt .sub .i64 t4 (.int .i64 (.ofNat 1)) fun t19 =>
 loopS (fun j22 l20 m21 =>
 uc l20 fun t23 l24 =>
 uc l24 fun t25 l26 =>
 loopS (fun j29 l27 m28 =>
 uc l27 fun t30 l31 =>
 oInt .leq .i64 t30 t25 fun t32 =>
 join (fun l33 m34 =>
 uc l33 fun t36 l37 =>
 oPick t32 t36 (.bool false) fun t38 =>
 oIf t38 (oInt .add .i64 t30 (.int .i64 (.ofNat 1)) fun t39 =>
 j29 [t39] m34) (loopS (fun j42 l40 m41 =>
 uc l40 fun t43 l44 =>
 oInt .leq .i64 t30 t43 fun t45 =>
 join (fun l46 m47 =>
 uc l46 fun t49 l50 =>
 oPick t45 t49 (.bool false) fun t51 =>
 oIf t51 (oInt .sub .i64 t43 (.int .i64 (.ofNat 1)) fun t52 =>
 j42 [t52] m47) (oInt .gtr .i64 t30 t43 fun t53 =>
 oIf t53 (k t30 m47) (oOpt (ia 1 t0 t43) fun t54 =>
 oOpt (ld1 m47 t54) fun t55 =>
 oOpt (ia 1 t0 t30) fun t56 =>
 oOpt (ld1 m47 t56) fun t57 =>
 oOpt (ia 1 t0 t30) fun t58 =>
 oRes (st1 1 L m47 t58 t55) fun t59 m60 =>
 oOpt (ia 1 t0 t43) fun t61 =>
 oRes (st1 1 L m60 t61 t57) fun t62 m63 =>
 oInt .add .i64 t30 (.int .i64 (.ofNat 1)) fun t64 =>
 oInt .sub .i64 t43 (.int .i64 (.ofNat 1)) fun t65 =>
 j22 [t64, t65] m63))) fun j48 =>
 oGT t45 (oOpt (ia 1 t0 t2) fun t66 =>
 oOpt (ld1 m41 t66) fun t67 =>
 oOpt (ia 1 t0 t43) fun t68 =>
 oOpt (ld1 m41 t68) fun t69 =>
 call 99 [t67, t69] L m41 fun t70 m71 =>
 j48 [t70] m71) (j48 [Go.undef] m41)) lf [t25] m34)) fun j35 =>
 oGT t32 (oOpt (ia 1 t0 t2) fun t72 =>
 oOpt (ld1 m28 t72) fun t73 =>
 oOpt (ia 1 t0 t30) fun t74 =>
 oOpt (ld1 m28 t74) fun t75 =>
 call 99 [t73, t75] L m28 fun t76 m77 =>
 oOpt (aun .not t76) fun t78 =>
 j35 [t78] m77) (j35 [Go.undef] m28)) lf [t23] m21) lf [t18, t19] m17)
theorem S100_ok (lf : Nat) (cK : CallK β) (args : List Value) (L : Nat) (m : Mem) (k : Value → Mem → Option β)  : S100 lf cK args L m k = denF Tryd.prog 2 K100 lf cK 100 args L m k := by kernel_rfl

/-- slices.partitionOrdered[int] -/
def K101 : Kat := [(91, (0, [10])), (735, (1, [42])), (187, (0, [11])), (1503, (1, [59])), (6139, (0, [10, 11])), (98239, (0, [10])), (785919, (1, [111])), (196483, (0, [11])), (1571871, (1, [128]))]
noncomputable def S101 (lf : Nat) : FnK β := fun call args L m k =>
 uc args fun t0 l1 =>
 uc l1 fun t2 l3 =>
 uc l3 fun t4 l5 =>
 uc l5 fun t6 l7 =>
 un0 l7 (oOpt (ia 1 t0 t6) fun t8 =>
 oOpt (ld1 m t8) fun t9 =>
 oOpt (ia 1 t0 t2) fun t10 =>
 oOpt (ld1 m t10) fun t11 =>
 oOpt (ia 1 t0 t2) fun t12 =>
 oRes (st1 1 L m t12 t9) fun t13 m14 =>
 oOpt (ia 1 t0 t6) fun t15 =>
 oRes (st1 1 L m14 t15 t11) fun t16 m17 =>
 oInt .add .i64 t2 (.int .i64 (.ofNat 1)) fun t18 =>
 oInt .sub .i64 t4 (.int .i64 (.ofNat 1)) fun t19 =>
 loopS (fun j22 l20 m21 =>
 uc l20 fun t23 l24 =>
 oInt .leq .i64 t23 t19 fun t25 =>
 join (fun l26 m27 =>
 uc l26 fun t29 l30 =>
 oPick t25 t29 (.bool false) fun t31 =>
 oIf t31 (oInt .add .i64 t23 (.int .i64 (.ofNat 1)) fun t32 =>
 j22 [t32] m27) (loopS (fun j35 l33 m34 =>
 uc l33 fun t36 l37 =>
 oInt .leq .i64 t23 t36 fun t38 =>
 join (fun l39 m40 =>
 uc l39 fun t42 l43 =>
 oPick t38 t42 (.bool false) fun t44 =>
 oIf t44 (oInt .sub .i64 t36 (.int .i64 (.ofNat 1)) fun t45 =>
 j35 [t45] m40) (oInt .gtr .i64 t23 t36 fun t46 =>
 oIf t46 (oOpt (ia 1 t0 t2) fun t47 =>
 oOpt (ld1 m40 t47) fun t48 =>
 oOpt (ia 1 t0 t36) fun t49 =>
 oOpt (ld1 m40 t49) fun t50 =>
 oOpt (ia 1 t0 t36) fun t51 =>
 oRes (st1 1 L m40 t51 t48) fun t52 m53 =>
 oOpt (ia 1 t0 t2) fun t54 =>
 oRes (st1 1 L m53 t54 t50) fun t55 m56 =>
 k (.tuple ⟨[t36, (.bool true)]⟩) m56) (oOpt (ia 1 t0 t36) fun t57 =>
 oOpt (ld1 m40 t57) fun t58 =>
 oOpt (ia 1 t0 t23) fun t59 =>
 oOpt (ld1 m40 t59) fun t60 =>
 oOpt (ia 1 t0 t23) fun t61 =>
 oRes (st1 1 L m40 t61 t58) fun t62 m63 =>
 oOpt (ia 1 t0 t36) fun t64 =>
 oRes (st1 1 L m63 t64 t60) fun t65 m66 =>
 oInt .add .i64 t23 (.int .i64 (.ofNat 1)) fun t67 =>
 oInt .sub .i64 t36 (.int .i64 (.ofNat 1)) fun t68 =>
 loopS (fun j71 l69 m70 =>
 uc l69 fun t72 l73 =>
 uc l73 fun t74 l75 =>
 loopS (fun j78 l76 m77 =>
 uc l76 fun t79 l80 =>
 oInt .leq .i64 t79 t74 fun t81 =>
 join (fun l82 m83 =>
 uc l82 fun t85 l86 =>
 oPick t81 t85 (.bool false) fun t87 =>
 oIf t87 (oInt .add .i64 t79 (.int .i64 (.ofNat 1)) fun t88 =>
 j78 [t88] m83) (loopS (fun j91 l89 m90 =>
 uc l89 fun t92 l93 =>
 oInt .leq .i64 t79 t92 fun t94 =>
 join (fun l95 m96 =>
 uc l95 fun t98 l99 =>
 oPick t94 t98 (.bool false) fun t100 =>
 oIf t100 (oInt .sub .i64 t92 (.int .i64 (.ofNat 1)) fun t101 =>
 j91 [t101] m96) (oInt .gtr .i64 t79 t92 fun t102 =>
 oIf t102 (oOpt (ia 1 t0 t2) fun t103 =>
 oOpt (ld1 m96 t103) fun t104 =>
 oOpt (ia 1 t0 t92) fun t105 =>
 oOpt (ld1 m96 t105) fun t106 =>
 oOpt (ia 1 t0 t92) fun t107 =>
 oRes (st1 1 L m96 t107 t104) fun t108 m109 =>
 oOpt (ia 1 t0 t2) fun t110 =>
 oRes (st1 1 L m109 t110 t106) fun t111 m112 =>
 k (.tuple ⟨[t92, (.bool false)]⟩) m112) (oOpt (ia 1 t0 t92) fun t113 =>
 oOpt (ld1 m96 t113) fun t114 =>
 oOpt (ia 1 t0 t79) fun t115 =>
 oOpt (ld1 m96 t115) fun t116 =>
 oOpt (ia 1 t0 t79) fun t117 =>
 oRes (st1 1 L m96 t117 t114) fun t118 m119 =>
 oOpt (ia 1 t0 t92) fun t120 =>
 oRes (st1 1 L m119 t120 t116) fun t121 m122 =>
 oInt .add .i64 t79 (.int .i64 (.ofNat 1)) fun t123 =>
 oInt .sub .i64 t92 (.int .i64 (.ofNat 1)) fun t124 =>
 j71 [t123, t124] m122))) fun j97 =>
 oGT t94 (oOpt (ia 1 t0 t92) fun t125 =>
 oOpt (ld1 m90 t125) fun t126 =>
 oOpt (ia 1 t0 t2) fun t127 =>
 oOpt (ld1 m90 t127) fun t128 =>
 call 99 [t126, t128] L m90 fun t129 m130 =>
 oOpt (aun .not t129) fun t131 =>
 j97 [t131] m130) (j97 [Go.undef] m90)) lf [t74] m83)) fun j84 =>
 oGT t81 (oOpt (ia 1 t0 t79) fun t132 =>
 oOpt (ld1 m77 t132) fun t133 =>
 oOpt (ia 1 t0 t2) fun t134 =>
 oOpt (ld1 m77 t134) fun t135 =>
 call 99 [t133, t135] L m77 fun t136 m137 =>
 j84 [t136] m137) (j84 [Go.undef] m77)) lf [t72] m70) lf [t67, t68] m66))) fun j41 =>
 oGT t38 (oOpt (ia 1 t0 t36) fun t138 =>
 oOpt (ld1 m34 t138) fun t139 =>
 oOpt (ia 1 t0 t2) fun t140 =>
 oOpt (ld1 m34 t140) fun t141 =>
 call 99 [t139, t141] L m34 fun t142 m143 =>
 oOpt (aun .not t142) fun t144 =>
 j41 [t144] m143) (j41 [Go.undef] m34)) lf [t19] m27)) fun j28 =>
 oGT t25 (oOpt (ia 1 t0 t23) fun t145 =>
 oOpt (ld1 m21 t145) fun t146 =>
 oOpt (ia 1 t0 t2) fun t147 =>
 oOpt (ld1 m21 t147) fun t148 =>
 call 99 [t146, t148] L m21 fun t149 m150 =>
 j28 [t149] m150) (j28 [Go.undef] m21)) lf [t18] m17)
theorem S101_ok (lf : Nat) (cK : CallK β) (args : List Value) (L : Nat) (m : Mem) (k : Value → Mem → Option β)  : S101 lf cK args L m k = denF Tryd.prog 2 K101 lf cK 101 args L m k := by kernel_rfl

/-- math/bits.Len32 -/
def K102 : Kat := [(20, (0, [0, 2])), (44, (0, [0, 2]))]
noncomputable def S102 (lf : Nat) : FnK β := fun call args L m k =>
 uc args fun t0 l1 =>
 un0 l1 (oInt .geq .u32 t0 (.int .u32 (.ofNat 65536)) fun t2 =>
 join (fun l3 m4 =>
 uc l3 fun t6 l7 =>
 uc l7 fun t8 l9 =>
 oInt .geq .u32 t6 (.int .u32 (.ofNat 256)) fun t10 =>
 join (fun l11 m12 =>
 uc l11 fun t14 l15 =>
 uc l15 fun t16 l17 =>
 oCv .u8 t14 fun t18 =>
 oOpt (aindex Tryd.prog 9 (.string ⟨#[0, 1, 2, 2, 3, 3, 3, 3, 4, 4, 4, 4, 4, 4, 4, 4, 5, 5, 5, 5, 5, 5, 5, 5, 5, 5, 5, 5, 5, 5, 5, 5, 6, 6, 6, 6, 6, 6, 6, 6, 6, 6, 6, 6, 6, 6, 6, 6, 6, 6, 6, 6, 6, 6, 6, 6, 6, 6, 6, 6, 6, 6, 6, 6, 7, 7, 7, 7, 7, 7, 7, 7, 7, 7, 7, 7, 7, 7, 7, 7, 7, 7, 7, 7, 7, 7, 7, 7, 7, 7, 7, 7, 7, 7, 7, 7, 7, 7, 7, 7, 7, 7, 7, 7, 7, 7, 7, 7, 7, 7, 7, 7, 7, 7, 7, 7, 7, 7, 7, 7, 7, 7, 7, 7, 7, 7, 7, 7, 8, 8, 8, 8, 8, 8, 8, 8, 8, 8, 8, 8, 8, 8, 8, 8, 8, 8, 8, 8, 8, 8, 8, 8, 8, 8, 8, 8, 8, 8, 8, 8, 8, 8, 8, 8, 8, 8, 8, 8, 8, 8, 8, 8, 8, 8, 8, 8, 8, 8, 8, 8, 8, 8, 8, 8, 8, 8, 8, 8, 8, 8, 8, 8, 8, 8, 8, 8, 8, 8, 8, 8, 8, 8, 8, 8, 8, 8, 8, 8, 8, 8, 8, 8, 8, 8, 8, 8, 8, 8, 8, 8, 8, 8, 8, 8, 8, 8, 8, 8, 8, 8, 8, 8, 8, 8, 8, 8, 8, 8, 8, 8, 8, 8, 8, 8, 8, 8, 8, 8, 8, 8, 8, 8, 8, 8, 8, 8]⟩) t18) fun t19 =>
 oCv .i64 t19 fun t20 =>
 oInt .add .i64 t16 t20 fun t21 =>
 k t21 m12) fun j13 =>
 oIf t10 (oOpt (abin Tryd.prog .shr 110 t6 (.int .u64 (.ofNat 8))) fun t22 =>
 oInt .add .i64 t8 (.int .i64 (.ofNat 8)) fun t23 =>
 j13 [t22, t23] m4) (j13 [t6, t8] m4)) fun j5 =>
 oIf t2 (oOpt (abin Tryd.prog .shr 110 t0 (.int .u64 (.ofNat 16))) fun t24 =>
 j5 [t24, (.int .i64 (.ofNat 16))] m) (j5 [t0, (.int .i64 (.ofNat 0))] m))
theorem S102_ok (lf : Nat) (cK : CallK β) (args : List Value) (L : Nat) (m : Mem) (k : Value → Mem → Option β)  : S102 lf cK args L m k = denF Tryd.prog 2 K102 lf cK 102 args L m k := by kernel_rfl

/-- math/bits.Len64 -/
def K103 : Kat := [(20, (0, [0, 2])), (44, (0, [0, 2])), (92, (0, [0, 2]))]
noncomputable def S103 (lf : Nat) : FnK β := fun call args L m k =>
 uc args fun t0 l1 =>
 un0 l1 (oInt .geq .u64 t0 (.int .u64 (.ofNat 4294967296)) fun t2 =>
 join (fun l3 m4 =>
 uc l3 fun t6 l7 =>
 uc l7 fun t8 l9 =>
 oInt .geq .u64 t6 (.int .u64 (.ofNat 65536)) fun t10 =>
 join (fun l11 m12 =>
 uc l11 fun t14 l15 =>
 uc l15 fun t16 l17 =>
 oInt .geq .u64 t14 (.int .u64 (.ofNat 256)) fun t18 =>
 join (fun l19 m20 =>
 uc l19 fun t22 l23 =>
 uc l23 fun t24 l25 =>
 oCv .u8 t22 fun t26 =>
 oOpt (aindex Tryd.prog 9 (.string ⟨#[0, 1, 2, 2, 3, 3, 3, 3, 4, 4, 4, 4, 4, 4, 4, 4, 5, 5, 5, 5, 5, 5, 5, 5, 5, 5, 5, 5, 5, 5, 5, 5, 6, 6, 6, 6, 6, 6, 6, 6, 6, 6, 6, 6, 6, 6, 6, 6, 6, 6, 6, 6, 6, 6, 6, 6, 6, 6, 6, 6, 6, 6, 6, 6, 7, 7, 7, 7, 7, 7, 7, 7, 7, 7, 7, 7, 7, 7, 7, 7, 7, 7, 7, 7, 7, 7, 7, 7, 7, 7, 7, 7, 7, 7, 7, 7, 7, 7, 7, 7, 7, 7, 7, 7, 7, 7, 7, 7, 7, 7, 7, 7, 7, 7, 7, 7, 7, 7, 7, 7, 7, 7, 7, 7, 7, 7, 7, 7, 8, 8, 8, 8, 8, 8, 8, 8, 8, 8, 8, 8, 8, 8, 8, 8, 8, 8, 8, 8, 8, 8, 8, 8, 8, 8, 8, 8, 8, 8, 8, 8, 8, 8, 8, 8, 8, 8, 8, 8, 8, 8, 8, 8, 8, 8, 8, 8, 8, 8, 8, 8, 8, 8, 8, 8, 8, 8, 8, 8, 8, 8, 8, 8, 8, 8, 8, 8, 8, 8, 8, 8, 8, 8, 8, 8, 8, 8, 8, 8, 8, 8, 8, 8, 8, 8, 8, 8, 8, 8, 8, 8, 8, 8, 8, 8, 8, 8, 8, 8, 8, 8, 8, 8, 8, 8, 8, 8, 8, 8, 8, 8, 8, 8, 8, 8, 8, 8, 8, 8, 8, 8, 8, 8, 8, 8, 8, 8]⟩) t26) fun t27 =>
 oCv .i64 t27 fun t28 =>
 oInt .add .i64 t24 t28 fun t29 =>
 k t29 m20) fun j21 =>
 oIf t18 (oOpt (abin Tryd.prog .shr 112 t14 (.int .u64 (.ofNat 8))) fun t30 =>
 oInt .add .i64 t16 (.int .i64 (.ofNat 8)) fun t31 =>
 j21 [t30, t31] m12) (j21 [t14, t16] m12)) fun j13 =>
 oIf t10 (oOpt (abin Tryd.prog .shr 112 t6 (.int .u64 (.ofNat 16))) fun t32 =>
 oInt .add .i64 t8 (.int .i64 (.ofNat 16)) fun t33 =>
 j13 [t32, t33] m4) (j13 [t6, t8] m4)) fun j5 =>
 oIf t2 (oOpt (abin Tryd.prog .shr 112 t0 (.int .u64 (.ofNat 32))) fun t34 =>
 j5 [t34, (.int .i64 (.ofNat 32))] m) (j5 [t0, (.int .i64 (.ofNat 0))] m))
theorem S103_ok (lf : Nat) (cK : CallK β) (args : List Value) (L : Nat) (m : Mem) (k : Value → Mem → Option β)  : S103 lf cK args L m k = denF Tryd.prog 2 K103 lf cK 103 args L m k := by kernel_rfl

/-- (vitola/bond.circle).check$1 -/
def K104 : Kat := []
noncomputable def S104 (lf : Nat) : FnK β := fun call args L m k =>
 uc args fun t0 l1 =>
 uc l1 fun t2 l3 =>
 un0 l3 (oOpt (ldN m 2 t2) fun t4 =>
 call 79 [t4, t0] L m fun t5 m6 =>
 oOpt (aun .not t5) fun t7 =>
 k t7 m6)
theorem S104_ok (lf : Nat) (cK : CallK β) (args : List Value) (L : Nat) (m : Mem) (k : Value → Mem → Option β)  : S104 lf cK args L m k = denF Tryd.prog 2 K104 lf cK 104 args L m k := by kernel_rfl

/-- slices.siftDownOrdered[int] -/
def K105 : Kat := [(9, (0, [8])), (651, (1, [35])), (652, (0, [9]))]
noncomputable def S105 (lf : Nat) : FnK β := fun call args L m k =>
 uc args fun t0 l1 =>
 uc l1 fun t2 l3 =>
 uc l3 fun t4 l5 =>
 uc l5 fun t6 l7 =>
 un0 l7 (loopS (fun j10 l8 m9 =>
 uc l8 fun t11 l12 =>
 oInt .mul .i64 (.int .i64 (.ofNat 2)) t11 fun t13 =>
 oInt .add .i64 t13 (.int .i64 (.ofNat 1)) fun t14 =>
 oInt .geq .i64 t14 t4 fun t15 =>
 oIf t15 (k (.tuple ⟨[]⟩) m9) (oInt .add .i64 t14 (.int .i64 (.ofNat 1)) fun t16 =>
 oInt .lss .i64 t16 t4 fun t17 =>
 join (fun l18 m19 =>
 uc l18 fun t21 l22 =>
 oPick t17 t21 (.bool false) fun t23 =>
 join (fun l24 m25 =>
 uc l24 fun t27 l28 =>
 oInt .add .i64 t6 t11 fun t29 =>
 oOpt (ia 1 t0 t29) fun t30 =>
 oOpt (ld1 m25 t30) fun t31 =>
 oInt .add .i64 t6 t27 fun t32 =>
 oOpt (ia 1 t0 t32) fun t33 =>
 oOpt (ld1 m25 t33) fun t34 =>
 call 99 [t31, t34] L m25 fun t35 m36 =>
 oOpt (aun .not t35) fun t37 =>
 oIf t37 (k (.tuple ⟨[]⟩) m36) (oInt .add .i64 t6 t11 fun t38 =>
 oInt .add .i64 t6 t27 fun t39 =>
 oInt .add .i64 t6 t27 fun t40 =>
 oOpt (ia 1 t0 t40) fun t41 =>
 oOpt (ld1 m36 t41) fun t42 =>
 oInt .add .i64 t6 t11 fun t43 =>
 oOpt (ia 1 t0 t43) fun t44 =>
 oOpt (ld1 m36 t44) fun t45 =>
 oOpt (ia 1 t0 t38) fun t46 =>
 oRes (st1 1 L m36 t46 t42) fun t47 m48 =>
 oOpt (ia 1 t0 t39) fun t49 =>
 oRes (st1 1 L m48 t49 t45) fun t50 m51 =>
 j10 [t27] m51)) fun j26 =>
 oIf t23 (oInt .add .i64 t14 (.int .i64 (.ofNat 1)) fun t52 =>
 j26 [t52] m19) (j26 [t14] m19)) fun j20 =>
 oGT t17 (oInt .add .i64 t6 t14 fun t53 =>
 oOpt (ia 1 t0 t53) fun t54 =>
 oOpt (ld1 m9 t54) fun t55 =>
 oInt .add .i64 t6 t14 fun t56 =>
 oInt .add .i64 t56 (.int .i64 (.ofNat 1)) fun t57 =>
 oOpt (ia 1 t0 t57) fun t58 =>
 oOpt (ld1 m9 t58) fun t59 =>
 call 99 [t55, t59] L m9 fun t60 m61 =>
 j20 [t60] m61) (j20 [Go.undef] m9))) lf [t2] m)
theorem S105_ok (lf : Nat) (cK : CallK β) (args : List Value) (L : Nat) (m : Mem) (k : Value → Mem → Option β)  : S105 lf cK args L m k = denF Tryd.prog 2 K105 lf cK 105 args L m k := by kernel_rfl

/-- slices.nextPowerOfTwo -/
def K106 : Kat := []
noncomputable def S106 (lf : Nat) : FnK β := fun call args L m k =>
 uc args fun t0 l1 =>
 un0 l1 (oCv .u64 t0 fun t2 =>
 call 85 [t2] L m fun t3 m4 =>
 oOpt (abin Tryd.prog .shl 56 (.int .u64 (.ofNat 1)) t3) fun t5 =>
 k t5 m4)
theorem S106_ok (lf : Nat) (cK : CallK β) (args : List Value) (L : Nat) (m : Mem) (k : Value → Mem → Option β)  : S106 lf cK args L m k = denF Tryd.prog 2 K106 lf cK 106 args L m k := by kernel_rfl

/-- (*slices.xorshift).Next -/
def K107 : Kat := []
noncomputable def S107 (lf : Nat) : FnK β := fun call args L m k =>
 uc args fun t0 l1 =>
 un0 l1 (oOpt (anil t0) fun t2 =>
 oOpt (ld1 m t2) fun t3 =>
 oOpt (anil t0) fun t4 =>
 oOpt (ld1 m t4) fun t5 =>
 oOpt (abin Tryd.prog .shl 127 t5 (.int .u64 (.ofNat 13))) fun t6 =>
 oInt .xor .u64 t3 t6 fun t7 =>
 oOpt (anil t0) fun t8 =>
 oRes (st1 1 L m t8 t7) fun t9 m10 =>
 oOpt (anil t0) fun t11 =>
 oOpt (ld1 m10 t11) fun t12 =>
 oOpt (anil t0) fun t13 =>
 oOpt (ld1 m10 t13) fun t14 =>
 oOpt (abin Tryd.prog .shr 127 t14 (.int .u64 (.ofNat 7))) fun t15 =>
 oInt .xor .u64 t12 t15 fun t16 =>
 oOpt (anil t0) fun t17 =>
 oRes (st1 1 L m10 t17 t16) fun t18 m19 =>
 oOpt (anil t0) fun t20 =>
 oOpt (ld1 m19 t20) fun t21 =>
 oOpt (anil t0) fun t22 =>
 oOpt (ld1 m19 t22) fun t23 =>
 oOpt (abin Tryd.prog .shl 127 t23 (.int .u64 (.ofNat 17))) fun t24 =>
 oInt .xor .u64 t21 t24 fun t25 =>
 oOpt (anil t0) fun t26 =>
 oRes (st1 1 L m19 t26 t25) fun t27 m28 =>
 oOpt (anil t0) fun t29 =>
 oOpt (ld1 m28 t29) fun t30 =>
 k t30 m28)
theorem S107_ok (lf : Nat) (cK : CallK β) (args : List Value) (L : Nat) (m : Mem) (k : Value → Mem → Option β)  : S107 lf cK args L m k = denF Tryd.prog 2 K107 lf cK 107 args L m k := by kernel_rfl

/-- slices.medianAdjacentOrdered[int] -/
def K108 : Kat := []
noncomputable def S108 (lf : Nat) : FnK β := fun call args L m k =>
 uc args fun t0 l1 =>
 uc l1 fun t2 l3 =>
 uc l3 fun t4 l5 =>
 un0 l5 (oInt .sub .i64 t2 (.int .i64 (.ofNat 1)) fun t6 =>
 oInt .add .i64 t2 (.int .i64 (.ofNat 1)) fun t7 =>
 call 109 [t0, t6, t2, t7, t4] L m fun t8 m9 =>
 k t8 m9)
theorem S108_ok (lf : Nat) (cK : CallK β) (args : List Value) (L : Nat) (m : Mem) (k : Value → Mem → Option β)  : S108 lf cK args L m k = denF Tryd.prog 2 K108 lf cK 108 args L m k := by kernel_rfl

/-- slices.medianOrdered[int] -/
def K109 : Kat := []
noncomputable def S109 (lf : Nat) : FnK β := fun call args L m k =>
 uc args fun t0 l1 =>
 uc l1 fun t2 l3 =>
 uc l3 fun t4 l5 =>
 uc l5 fun t6 l7 =>
 uc l7 fun t8 l9 =>
 un0 l9 (call 111 [t0, t2, t4, t8] L m fun t10 m11 =>
 oOpt (aextract t10 0) fun t12 =>
 oOpt (aextract t10 1) fun t13 =>
 call 111 [t0, t13, t6, t8] L m11 fun t14 m15 =>
 oOpt (aextract t14 0) fun t16 =>
 oOpt (aextract t14 1) fun t17 =>
 call 111 [t0, t12, t16, t8] L m15 fun t18 m19 =>
 oOpt (aextract t18 0) fun t20 =>
 oOpt (aextract t18 1) fun t21 =>
 k t21 m19)
theorem S109_ok (lf : Nat) (cK : CallK β) (args : List Value) (L : Nat) (m : Mem) (k : Value → Mem → Option β)  : S109 lf cK args L m k = denF Tryd.prog 2 K109 lf cK 109 args L m k := by kernel_rfl

/-- cmp.isNaN[int] -/
def K110 : Kat := []
noncomputable def S110 (lf : Nat) : FnK β := fun call args L m k =>
 uc args fun t0 l1 =>
 un0 l1 (oInt .neq .i64 t0 t0 fun t2 =>
 k t2 m)
theorem S110_ok (lf : Nat) (cK : CallK β) (args : List Value) (L : Nat) (m : Mem) (k : Value → Mem → Option β)  : S110 lf cK args L m k = denF Tryd.prog 2 K110 lf cK 110 args L m k := by kernel_rfl

/-- slices.order2Ordered[int] -/
def K111 : Kat := []
noncomputable def S111 (lf : Nat) : FnK β := fun call args L m k =>
 uc args fun t0 l1 =>
 uc l1 fun t2 l3 =>
 uc l3 fun t4 l5 =>
 uc l5 fun t6 l7 =>
 un0 l7 (oOpt (ia 1 t0 t4) fun t8 =>
 oOpt (ld1 m t8) fun t9 =>
 oOpt (ia 1 t0 t2) fun t10 =>
 oOpt (ld1 m t10) fun t11 =>
 call 99 [t9, t11] L m fun t12 m13 =>
 oIf t12 (oOpt (anil t6) fun t14 =>
 oOpt (ld1 m13 t14) fun t15 =>
 oInt .add .i64 t15 (.int .i64 (.ofNat 1)) fun t16 =>
 oOpt (anil t6) fun t17 =>
 oRes (st1 1 L m13 t17 t16) fun t18 m19 =>
 k (.tuple ⟨[t4, t2]⟩) m19) (k (.tuple ⟨[t2, t4]⟩) m13))
theorem S111_ok (lf : Nat) (cK : CallK β) (args : List Value) (L : Nat) (m : Mem) (k : Value → Mem → Option β)  : S111 lf cK args L m k = denF Tryd.prog 2 K111 lf cK 111 args L m k := by kernel_rfl

end
end Go.Vit
