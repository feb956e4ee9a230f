/- Shallow texts of the seat's functions, printed by a program: part 6. -/
import Derived.Test.YtcaoifacidnhcaaDoorRows
import Derived.Test.YtcaoifacidnhcaaDoorCoreB
set_option linter.unusedVariables false
set_option maxRecDepth 100000
namespace Go.Vit
open Go Go.Proofs
section
variable {β : Type}
/-- vitola/duty.Two$1 -/
def K56 : Kat := [(89, (1, [35])), (90, (0, []))]
noncomputable def S56 (lf : Nat) : FnK β := fun call args L m k =>
 uc args fun t0 l1 =>
 uc l1 fun t2 l3 =>
 uc l3 fun t4 l5 =>
 uc l5 fun t6 l7 =>
 un0 l7 (oInt .add .i64 t0 t2 fun t8 =>
 oOpt (fa 0 t4) fun t9 =>
 oOpt (ld1 m t9) fun t10 =>
 oInt .quo .i64 t8 t10 fun t11 =>
 oOpt (fa 1 t4) fun t12 =>
 oOpt (ld1 m t12) fun t13 =>
 oInt .mul .i64 t0 t2 fun t14 =>
 oInt .quo .i64 t13 t14 fun t15 =>
 oInt .mul .i64 t11 t15 fun t16 =>
 oInt .mul .i64 t16 t0 fun t17 =>
 oInt .mul .i64 t16 t2 fun t18 =>
 oRes (bs Tryd.prog m 30 2 [(0, t17), (1, t18)]) fun t19 m20 =>
 oOpt (ld1 m20 t6) fun t21 =>
 oOpt (abin Tryd.prog .eql 30 t21 (.slice none 0 0)) fun t22 =>
 join (fun l23 m24 =>
 uc l23 fun t26 l27 =>
 oPick t22 (.bool true) t26 fun t28 =>
 join (fun l29 m30 =>
 k (.bool true) m30) fun j31 =>
 oIf t28 (oRes (st1 1 L m24 t6 t19) fun t32 m33 =>
 j31 [] m33) (j31 [] m24)) fun j25 =>
 oGF t22 (oOpt (ld1 m20 t6) fun t34 =>
 call 57 [t19, t34] L m20 fun t35 m36 =>
 oInt .lss .i64 t35 (.int .i64 (.ofNat 0)) fun t37 =>
 j25 [t37] m36) (j25 [Go.undef] m20))
theorem S56_ok (lf : Nat) (cK : CallK β) (args : List Value) (L : Nat) (m : Mem) (k : Value → Mem → Option β)  : S56 lf cK args L m k = denF Tryd.prog 1 K56 lf cK 56 args L m k := by kernel_rfl

/-- slices.Compare[[]int,int] -/
def K57 : Kat := [(41, (0, [11]))]
noncomputable def S57 (lf : Nat) : FnK β := fun call args L m k =>
 uc args fun t0 l1 =>
 uc l1 fun t2 l3 =>
 un0 l3 (oOpt (ln t0) fun t4 =>
 loopS (fun j7 l5 m6 =>
 uc l5 fun t8 l9 =>
 oInt .lss .i64 t8 t4 fun t10 =>
 oIf t10 (oOpt (ia 1 t0 t8) fun t11 =>
 oOpt (ld1 m6 t11) fun t12 =>
 oOpt (ln t2) fun t13 =>
 oInt .geq .i64 t8 t13 fun t14 =>
 oIf t14 (k (.int .i64 (.ofNat 1)) m6) (oOpt (ia 1 t2 t8) fun t15 =>
 oOpt (ld1 m6 t15) fun t16 =>
 call 75 [t12, t16] L m6 fun t17 m18 =>
 oInt .neq .i64 t17 (.int .i64 (.ofNat 0)) fun t19 =>
 oIf t19 (k t17 m18) (oInt .add .i64 t8 (.int .i64 (.ofNat 1)) fun t20 =>
 j7 [t20] m18))) (oOpt (ln t0) fun t21 =>
 oOpt (ln t2) fun t22 =>
 oInt .lss .i64 t21 t22 fun t23 =>
 oIf t23 (k (.int .i64 (.negSucc 0)) m6) (k (.int .i64 (.ofNat 0)) m6))) lf [(.int .i64 (.ofNat 0))] m)
theorem S57_ok (lf : Nat) (cK : CallK β) (args : List Value) (L : Nat) (m : Mem) (k : Value → Mem → Option β)  : S57 lf cK args L m k = denF Tryd.prog 1 K57 lf cK 57 args L m k := by kernel_rfl

/-- vitola/vitolaref13.lists -/
def K58 : Kat := [(359, (1, [21])), (360, (0, [7])), (185, (0, [7, 8])), (1487, (1, [43])), (1489, (0, [7])), (47693, (0, [7, 10]))]
noncomputable def S58 (lf : Nat) : FnK β := fun call args L m k =>
 uc args fun t0 l1 =>
 uc l1 fun t2 l3 =>
 uc l3 fun t4 l5 =>
 un0 l5 (oRes (abox m t0) fun t6 m7 =>
 oInt .eql .i64 t4 (.int .i64 (.ofNat 1)) fun t8 =>
 oIf t8 (oOpt (fa 0 t6) fun t9 =>
 oOpt (ld1 m7 t9) fun t10 =>
 oInt .eql .i64 t10 (.int .i64 (.ofNat 1)) fun t11 =>
 join (fun l12 m13 =>
 uc l12 fun t15 l16 =>
 oPick t11 t15 (.bool false) fun t17 =>
 join (fun l18 m19 =>
 uc l18 fun t21 l22 =>
 k t21 m19) fun j20 =>
 oIf t17 (oOpt (fa 1 t6) fun t23 =>
 oOpt (ld1 m13 t23) fun t24 =>
 oRes (bs Tryd.prog m13 30 1 [(0, t24)]) fun t25 m26 =>
 oRes (bs Tryd.prog m26 88 1 [(0, t25)]) fun t27 m28 =>
 oRes (aappend Tryd.prog L m28 88 (.slice none 0 0) t27) fun t29 m30 =>
 j20 [t29] m30) (j20 [(.slice none 0 0)] m13)) fun j14 =>
 oGT t11 (oOpt (fa 1 t6) fun t31 =>
 oOpt (ld1 m7 t31) fun t32 =>
 oInt .add .i64 t2 (.int .i64 (.ofNat 1)) fun t33 =>
 call 65 [t32, t33, (.int .i64 (.ofNat 2000))] L m7 fun t34 m35 =>
 j14 [t34] m35) (j14 [Go.undef] m7)) (oInt .add .i64 t2 (.int .i64 (.ofNat 1)) fun t36 =>
 loopS (fun j39 l37 m38 =>
 uc l37 fun t40 l41 =>
 uc l41 fun t42 l43 =>
 oInt .leq .i64 t42 (.int .i64 (.ofNat 2000)) fun t44 =>
 join (fun l45 m46 =>
 uc l45 fun t48 l49 =>
 oPick t44 t48 (.bool false) fun t50 =>
 oIf t50 (join (fun l51 m52 =>
 uc l51 fun t54 l55 =>
 oInt .add .i64 t42 (.int .i64 (.ofNat 1)) fun t56 =>
 j39 [t54, t56] m52) fun j53 =>
 oOpt (fa 0 t6) fun t57 =>
 oOpt (ld1 m46 t57) fun t58 =>
 oInt .mul .i64 t42 t58 fun t59 =>
 oOpt (fa 1 t6) fun t60 =>
 oOpt (ld1 m46 t60) fun t61 =>
 oInt .leq .i64 t59 t61 fun t62 =>
 oIf t62 (j53 [t40] m46) (oOpt (ldN m46 2 t6) fun t63 =>
 call 54 [t63, t42] L m46 fun t64 m65 =>
 oInt .sub .i64 t4 (.int .i64 (.ofNat 1)) fun t66 =>
 call 58 [t64, t42, t66] L m65 fun t67 m68 =>
 loopS (fun j71 l69 m70 =>
 uc l69 fun t72 l73 =>
 uc l73 fun t74 l75 =>
 oOpt (ln t67) fun t76 =>
 oInt .lss .i64 t74 t76 fun t77 =>
 oIf t77 (oRes (bs Tryd.prog m70 30 1 [(0, t42)]) fun t78 m79 =>
 oOpt (ia 1 t67 t74) fun t80 =>
 oOpt (ld1 m79 t80) fun t81 =>
 oRes (aappend Tryd.prog L m79 30 t78 t81) fun t82 m83 =>
 oRes (bs Tryd.prog m83 88 1 [(0, t82)]) fun t84 m85 =>
 oRes (aappend Tryd.prog L m85 88 t72 t84) fun t86 m87 =>
 oInt .add .i64 t74 (.int .i64 (.ofNat 1)) fun t88 =>
 j71 [t86, t88] m87) (j53 [t72] m70)) lf [t40, (.int .i64 (.ofNat 0))] m68)) (k t40 m46)) fun j47 =>
 oGT t44 (oOpt (fa 0 t6) fun t89 =>
 oOpt (ld1 m38 t89) fun t90 =>
 oInt .mul .i64 t42 t90 fun t91 =>
 oOpt (fa 1 t6) fun t92 =>
 oOpt (ld1 m38 t92) fun t93 =>
 oInt .mul .i64 t4 t93 fun t94 =>
 oInt .lss .i64 t91 t94 fun t95 =>
 j47 [t95] m38) (j47 [Go.undef] m38)) lf [(.slice none 0 0), t36] m7))
theorem S58_ok (lf : Nat) (cK : CallK β) (args : List Value) (L : Nat) (m : Mem) (k : Value → Mem → Option β)  : S58 lf cK args L m k = denF Tryd.prog 1 K58 lf cK 58 args L m k := by kernel_rfl

/-- vitola/duty.Sides$1 -/
def K59 : Kat := []
noncomputable def S59 (lf : Nat) : FnK β := fun call args L m k =>
 uc args fun t0 l1 =>
 uc l1 fun t2 l3 =>
 uc l3 fun t4 l5 =>
 uc l5 fun t6 l7 =>
 un0 l7 (oRes (st1 1 L m t4 t0) fun t8 m9 =>
 oRes (st1 1 L m9 t6 t2) fun t10 m11 =>
 k (.bool false) m11)
theorem S59_ok (lf : Nat) (cK : CallK β) (args : List Value) (L : Nat) (m : Mem) (k : Value → Mem → Option β)  : S59 lf cK args L m k = denF Tryd.prog 1 K59 lf cK 59 args L m k := by kernel_rfl

/-- vitola/vitolaref13.common -/
def K60 : Kat := [(19, (0, [0, 1]))]
noncomputable def S60 (lf : Nat) : FnK β := fun call args L m k =>
 uc args fun t0 l1 =>
 uc l1 fun t2 l3 =>
 un0 l3 (loopS (fun j6 l4 m5 =>
 uc l4 fun t7 l8 =>
 uc l8 fun t9 l10 =>
 oInt .gtr .i64 t9 (.int .i64 (.ofNat 0)) fun t11 =>
 oIf t11 (oInt .rem .i64 t7 t9 fun t12 =>
 j6 [t9, t12] m5) (k t7 m5)) lf [t0, t2] m)
theorem S60_ok (lf : Nat) (cK : CallK β) (args : List Value) (L : Nat) (m : Mem) (k : Value → Mem → Option β)  : S60 lf cK args L m k = denF Tryd.prog 1 K60 lf cK 60 args L m k := by kernel_rfl

/-- vitola/duty.made -/
def K61 : Kat := [(90, (0, [9])), (743, (1, [39])), (761, (0, [11])), (6095, (1, [72]))]
noncomputable def S61 (lf : Nat) : FnK β := fun call args L m k =>
 uc args fun t0 l1 =>
 uc l1 fun t2 l3 =>
 uc l3 fun t4 l5 =>
 uc l5 fun t6 l7 =>
 un0 l7 (oRes (abox m t0) fun t8 m9 =>
 oOpt (ln t2) fun t10 =>
 oInt .gtr .i64 t10 (.int .i64 (.ofNat 0)) fun t11 =>
 join (fun l12 m13 =>
 uc l12 fun t15 l16 =>
 oInt .eql .i64 t4 (.int .i64 (.ofNat 1)) fun t17 =>
 oIf t17 (oOpt (fa 1 t8) fun t18 =>
 oOpt (ld1 m13 t18) fun t19 =>
 oOpt (fa 0 t8) fun t20 =>
 oOpt (ld1 m13 t20) fun t21 =>
 oInt .rem .i64 t19 t21 fun t22 =>
 oInt .neq .i64 t22 (.int .i64 (.ofNat 0)) fun t23 =>
 join (fun l24 m25 =>
 uc l24 fun t27 l28 =>
 oPick t23 (.bool true) t27 fun t29 =>
 oIf t29 (k (.bool true) m25) (call 76 [t2] m25.next m25 fun t30 m31 =>
 oOpt (fa 1 t8) fun t32 =>
 oOpt (ld1 m31 t32) fun t33 =>
 oOpt (fa 0 t8) fun t34 =>
 oOpt (ld1 m31 t34) fun t35 =>
 oInt .quo .i64 t33 t35 fun t36 =>
 oRes (bs Tryd.prog m31 30 1 [(0, t36)]) fun t37 m38 =>
 oRes (aappend Tryd.prog L m38 30 t30 t37) fun t39 m40 =>
 oCallV call t6 [t39] L m40 fun t41 m42 =>
 k t41 m42)) fun j26 =>
 oGF t23 (oOpt (fa 1 t8) fun t43 =>
 oOpt (ld1 m13 t43) fun t44 =>
 oOpt (fa 0 t8) fun t45 =>
 oOpt (ld1 m13 t45) fun t46 =>
 oInt .quo .i64 t44 t46 fun t47 =>
 call 63 [t47, t15, (.int .i64 (.ofNat 2000))] L m13 fun t48 m49 =>
 oOpt (aun .not t48) fun t50 =>
 j26 [t50] m49) (j26 [Go.undef] m13)) (oOpt (fa 1 t8) fun t51 =>
 oOpt (ld1 m13 t51) fun t52 =>
 oOpt (fa 0 t8) fun t53 =>
 oOpt (ld1 m13 t53) fun t54 =>
 oInt .quo .i64 t52 t54 fun t55 =>
 oInt .add .i64 t55 (.int .i64 (.ofNat 1)) fun t56 =>
 oOpt (abuiltin Tryd.prog .max #[3, 3] [t15, t56]) fun t57 =>
 loopS (fun j60 l58 m59 =>
 uc l58 fun t61 l62 =>
 oInt .leq .i64 t61 (.int .i64 (.ofNat 2000)) fun t63 =>
 join (fun l64 m65 =>
 uc l64 fun t67 l68 =>
 oPick t63 t67 (.bool false) fun t69 =>
 oIf t69 (oOpt (fa 0 t8) fun t70 =>
 oOpt (ld1 m65 t70) fun t71 =>
 oInt .mul .i64 t71 t61 fun t72 =>
 oOpt (fa 1 t8) fun t73 =>
 oOpt (ld1 m65 t73) fun t74 =>
 oInt .sub .i64 t72 t74 fun t75 =>
 oOpt (fa 1 t8) fun t76 =>
 oOpt (ld1 m65 t76) fun t77 =>
 oInt .mul .i64 t77 t61 fun t78 =>
 oOpt (bu Tryd.prog 23 [(0, t75), (1, t78)]) fun t79 =>
 oRes (anew m65 1 [(.int .i64 (.ofNat 0)), (.int .i64 (.ofNat 0))] ptrTo) fun t80 m81 =>
 oRes (st1 2 L m81 t80 t79) fun t82 m83 =>
 oOpt (ldN m83 2 t80) fun t84 =>
 call 76 [t2] m83.next m83 fun t85 m86 =>
 oRes (bs Tryd.prog m86 30 1 [(0, t61)]) fun t87 m88 =>
 oRes (aappend Tryd.prog m88.next m88 30 t85 t87) fun t89 m90 =>
 oInt .sub .i64 t4 (.int .i64 (.ofNat 1)) fun t91 =>
 call 61 [t84, t89, t91, t6] L m90 fun t92 m93 =>
 oOpt (aun .not t92) fun t94 =>
 oIf t94 (k (.bool false) m93) (oInt .add .i64 t61 (.int .i64 (.ofNat 1)) fun t95 =>
 j60 [t95] m93)) (k (.bool true) m65)) fun j66 =>
 oGT t63 (oOpt (fa 0 t8) fun t96 =>
 oOpt (ld1 m59 t96) fun t97 =>
 oInt .mul .i64 t61 t97 fun t98 =>
 oOpt (fa 1 t8) fun t99 =>
 oOpt (ld1 m59 t99) fun t100 =>
 oInt .mul .i64 t4 t100 fun t101 =>
 oInt .lss .i64 t98 t101 fun t102 =>
 j66 [t102] m59) (j66 [Go.undef] m59)) lf [t57] m13)) fun j14 =>
 oIf t11 (oInt .sub .i64 t10 (.int .i64 (.ofNat 1)) fun t103 =>
 oOpt (ia 1 t2 t103) fun t104 =>
 oOpt (ld1 m9 t104) fun t105 =>
 oInt .add .i64 t105 (.int .i64 (.ofNat 1)) fun t106 =>
 j14 [t106] m9) (j14 [(.int .i64 (.ofNat 2))] m9))
theorem S61_ok (lf : Nat) (cK : CallK β) (args : List Value) (L : Nat) (m : Mem) (k : Value → Mem → Option β)  : S61 lf cK args L m k = denF Tryd.prog 1 K61 lf cK 61 args L m k := by kernel_rfl

/-- vitola/duty.Fewest$1 -/
def K62 : Kat := []
noncomputable def S62 (lf : Nat) : FnK β := fun call args L m k =>
 uc args fun t0 l1 =>
 uc l1 fun t2 l3 =>
 un0 l3 (oRes (st1 1 L m t2 t0) fun t4 m5 =>
 k (.bool false) m5)
theorem S62_ok (lf : Nat) (cK : CallK β) (args : List Value) (L : Nat) (m : Mem) (k : Value → Mem → Option β)  : S62 lf cK args L m k = denF Tryd.prog 1 K62 lf cK 62 args L m k := by kernel_rfl

/-- vitola/duty.within -/
def K63 : Kat := [(9, (1, [13]))]
noncomputable def S63 (lf : Nat) : FnK β := fun call args L m k =>
 uc args fun t0 l1 =>
 uc l1 fun t2 l3 =>
 uc l3 fun t4 l5 =>
 un0 l5 (oInt .leq .i64 t2 t0 fun t6 =>
 join (fun l7 m8 =>
 uc l7 fun t10 l11 =>
 oPick t6 t10 (.bool false) fun t12 =>
 k t12 m8) fun j9 =>
 oGT t6 (oInt .leq .i64 t0 t4 fun t13 =>
 j9 [t13] m) (j9 [Go.undef] m))
theorem S63_ok (lf : Nat) (cK : CallK β) (args : List Value) (L : Nat) (m : Mem) (k : Value → Mem → Option β)  : S63 lf cK args L m k = denF Tryd.prog 1 K63 lf cK 63 args L m k := by kernel_rfl

/-- vitola/duty.Ways$1 -/
def K64 : Kat := []
noncomputable def S64 (lf : Nat) : FnK β := fun call args L m k =>
 uc args fun t0 l1 =>
 uc l1 fun t2 l3 =>
 un0 l3 (oOpt (ld1 m t2) fun t4 =>
 oInt .add .i64 t4 (.int .i64 (.ofNat 1)) fun t5 =>
 oRes (st1 1 L m t2 t5) fun t6 m7 =>
 k (.bool true) m7)
theorem S64_ok (lf : Nat) (cK : CallK β) (args : List Value) (L : Nat) (m : Mem) (k : Value → Mem → Option β)  : S64 lf cK args L m k = denF Tryd.prog 1 K64 lf cK 64 args L m k := by kernel_rfl

/-- vitola/vitolaref13.in -/
def K65 : Kat := [(9, (1, [13]))]
noncomputable def S65 (lf : Nat) : FnK β := fun call args L m k =>
 uc args fun t0 l1 =>
 uc l1 fun t2 l3 =>
 uc l3 fun t4 l5 =>
 un0 l5 (oInt .geq .i64 t0 t2 fun t6 =>
 join (fun l7 m8 =>
 uc l7 fun t10 l11 =>
 oPick t6 t10 (.bool false) fun t12 =>
 k t12 m8) fun j9 =>
 oGT t6 (oInt .leq .i64 t0 t4 fun t13 =>
 j9 [t13] m) (j9 [Go.undef] m))
theorem S65_ok (lf : Nat) (cK : CallK β) (args : List Value) (L : Nat) (m : Mem) (k : Value → Mem → Option β)  : S65 lf cK args L m k = denF Tryd.prog 1 K65 lf cK 65 args L m k := by kernel_rfl

/-- vitola/duty.total -/
def K66 : Kat := [(89, (0, [3, 10])), (185, (0, [2, 20]))]
noncomputable def S66 (lf : Nat) : FnK β := fun call args L m k =>
 uc args fun t0 l1 =>
 un0 l1 (oOpt (ln t0) fun t2 =>
 loopS (fun j5 l3 m4 =>
 uc l3 fun t6 l7 =>
 uc l7 fun t8 l9 =>
 oInt .lss .i64 t8 t2 fun t10 =>
 oIf t10 (oOpt (ia 1 t0 t8) fun t11 =>
 oOpt (ld1 m4 t11) fun t12 =>
 oInt .mul .i64 t6 t12 fun t13 =>
 oInt .add .i64 t8 (.int .i64 (.ofNat 1)) fun t14 =>
 j5 [t13, t14] m4) (oOpt (ln t0) fun t15 =>
 loopS (fun j18 l16 m17 =>
 uc l16 fun t19 l20 =>
 uc l20 fun t21 l22 =>
 oInt .lss .i64 t21 t15 fun t23 =>
 oIf t23 (oOpt (ia 1 t0 t21) fun t24 =>
 oOpt (ld1 m17 t24) fun t25 =>
 oInt .quo .i64 t6 t25 fun t26 =>
 oInt .add .i64 t19 t26 fun t27 =>
 oInt .add .i64 t21 (.int .i64 (.ofNat 1)) fun t28 =>
 j18 [t27, t28] m17) (k (.tuple ⟨[t19, t6]⟩) m17)) lf [(.int .i64 (.ofNat 0)), (.int .i64 (.ofNat 0))] m4)) lf [(.int .i64 (.ofNat 1)), (.int .i64 (.ofNat 0))] m)
theorem S66_ok (lf : Nat) (cK : CallK β) (args : List Value) (L : Nat) (m : Mem) (k : Value → Mem → Option β)  : S66 lf cK args L m k = denF Tryd.prog 1 K66 lf cK 66 args L m k := by kernel_rfl

/-- vitola/duty.common -/
def K67 : Kat := []
noncomputable def S67 (lf : Nat) : FnK β := fun call args L m k =>
 uc args fun t0 l1 =>
 uc l1 fun t2 l3 =>
 un0 l3 (oInt .eql .i64 t2 (.int .i64 (.ofNat 0)) fun t4 =>
 oIf t4 (k t0 m) (oInt .rem .i64 t0 t2 fun t5 =>
 call 67 [t2, t5] L m fun t6 m7 =>
 k t6 m7))
theorem S67_ok (lf : Nat) (cK : CallK β) (args : List Value) (L : Nat) (m : Mem) (k : Value → Mem → Option β)  : S67 lf cK args L m k = denF Tryd.prog 1 K67 lf cK 67 args L m k := by kernel_rfl

/-- vitola/vitolaref13.sum -/
def K68 : Kat := [(89, (0, [4]))]
noncomputable def S68 (lf : Nat) : FnK β := fun call args L m k =>
 uc args fun t0 l1 =>
 un0 l1 (oRes (anew m 1 [(.int .i64 (.ofNat 0)), (.int .i64 (.ofNat 0))] ptrTo) fun t2 m3 =>
 oOpt (bu Tryd.prog 24 [(0, (.int .i64 (.ofNat 0))), (1, (.int .i64 (.ofNat 1)))]) fun t4 =>
 oRes (anew m3 1 [(.int .i64 (.ofNat 0)), (.int .i64 (.ofNat 0))] ptrTo) fun t5 m6 =>
 oRes (st1 2 L m6 t5 t4) fun t7 m8 =>
 loopS (fun j11 l9 m10 =>
 uc l9 fun t12 l13 =>
 oOpt (ln t0) fun t14 =>
 oInt .lss .i64 t12 t14 fun t15 =>
 oIf t15 (oOpt (fa 0 t5) fun t16 =>
 oOpt (ld1 m10 t16) fun t17 =>
 oOpt (ia 1 t0 t12) fun t18 =>
 oOpt (ld1 m10 t18) fun t19 =>
 oInt .mul .i64 t17 t19 fun t20 =>
 oOpt (fa 1 t5) fun t21 =>
 oOpt (ld1 m10 t21) fun t22 =>
 oInt .add .i64 t20 t22 fun t23 =>
 oOpt (fa 1 t5) fun t24 =>
 oOpt (ld1 m10 t24) fun t25 =>
 oOpt (ia 1 t0 t12) fun t26 =>
 oOpt (ld1 m10 t26) fun t27 =>
 oInt .mul .i64 t25 t27 fun t28 =>
 oOpt (bu Tryd.prog 24 [(0, t23), (1, t28)]) fun t29 =>
 call 53 [t29] L m10 fun t30 m31 =>
 oRes (st1 2 L m31 t5 t30) fun t32 m33 =>
 oInt .add .i64 t12 (.int .i64 (.ofNat 1)) fun t34 =>
 j11 [t34] m33) (oOpt (ldN m10 2 t5) fun t35 =>
 oRes (st1 2 L m10 t2 t35) fun t36 m37 =>
 oOpt (ldN m37 2 t2) fun t38 =>
 k t38 m37)) lf [(.int .i64 (.ofNat 0))] m8)
theorem S68_ok (lf : Nat) (cK : CallK β) (args : List Value) (L : Nat) (m : Mem) (k : Value → Mem → Option β)  : S68 lf cK args L m k = denF Tryd.prog 1 K68 lf cK 68 args L m k := by kernel_rfl

/-- slices.Delete[[]int,int] -/
def K69 : Kat := []
noncomputable def S69 (lf : Nat) : FnK β := fun call args L m k =>
 uc args fun t0 l1 =>
 uc l1 fun t2 l3 =>
 uc l3 fun t4 l5 =>
 un0 l5 (oOpt (ln t0) fun t6 =>
 oOpt (sl Tryd.prog 30 t0 (some t2) (some t4) (some t6)) fun t7 =>
 oInt .eql .i64 t2 t4 fun t8 =>
 oIf t8 (k t0 m) (oOpt (ln t0) fun t9 =>
 oOpt (sl Tryd.prog 30 t0 none (some t2) none) fun t10 =>
 oOpt (sl Tryd.prog 30 t0 (some t4) none none) fun t11 =>
 oRes (aappend Tryd.prog L m 30 t10 t11) fun t12 m13 =>
 oOpt (ln t12) fun t14 =>
 oOpt (sl Tryd.prog 30 t12 (some t14) (some t9) none) fun t15 =>
 oRes (aclear Tryd.prog L m13 30 t15) fun t16 m17 =>
 k t12 m17))
theorem S69_ok (lf : Nat) (cK : CallK β) (args : List Value) (L : Nat) (m : Mem) (k : Value → Mem → Option β)  : S69 lf cK args L m k = denF Tryd.prog 1 K69 lf cK 69 args L m k := by kernel_rfl

/-- slices.Clone[[]int,int] -/
def K70 : Kat := []
noncomputable def S70 (lf : Nat) : FnK β := fun call args L m k =>
 uc args fun t0 l1 =>
 un0 l1 (oOpt (abin Tryd.prog .eql 30 t0 (.slice none 0 0)) fun t2 =>
 oIf t2 (k (.slice none 0 0) m) (oRes (bs Tryd.prog m 30 0 []) fun t3 m4 =>
 oRes (aappend Tryd.prog L m4 30 t3 t0) fun t5 m6 =>
 k t5 m6))
theorem S70_ok (lf : Nat) (cK : CallK β) (args : List Value) (L : Nat) (m : Mem) (k : Value → Mem → Option β)  : S70 lf cK args L m k = denF Tryd.prog 1 K70 lf cK 70 args L m k := by kernel_rfl


/-- vitola/vitolaref13.has -/
def K72 : Kat := [(41, (0, [5]))]
noncomputable def S72 (lf : Nat) : FnK β := fun call args L m k =>
 uc args fun t0 l1 =>
 uc l1 fun t2 l3 =>
 un0 l3 (loopS (fun j6 l4 m5 =>
 uc l4 fun t7 l8 =>
 oOpt (ln t0) fun t9 =>
 oInt .lss .i64 t7 t9 fun t10 =>
 oIf t10 (oOpt (ia 1 t0 t7) fun t11 =>
 oOpt (ld1 m5 t11) fun t12 =>
 oInt .eql .i64 t12 t2 fun t13 =>
 oIf t13 (k (.bool true) m5) (oInt .add .i64 t7 (.int .i64 (.ofNat 1)) fun t14 =>
 j6 [t14] m5)) (k (.bool false) m5)) lf [(.int .i64 (.ofNat 0))] m)
theorem S72_ok (lf : Nat) (cK : CallK β) (args : List Value) (L : Nat) (m : Mem) (k : Value → Mem → Option β)  : S72 lf cK args L m k = denF Tryd.prog 1 K72 lf cK 72 args L m k := by kernel_rfl

/-- vitola/duty.divisors -/
def K73 : Kat := [(89, (0, [3, 0, 12])), (23141, (0, [3, 6, 0])), (5924425, (0, [7, 25]))]
noncomputable def S73 (lf : Nat) : FnK β := fun call args L m k =>
 uc args fun t0 l1 =>
 un0 l1 (oRes (bs Tryd.prog m 30 1 [(0, (.int .i64 (.ofNat 1)))]) fun t2 m3 =>
 oOpt (ldN m3 12 (.pointer (some ⟨0, 0, none⟩))) fun t4 =>
 loopS (fun j7 l5 m6 =>
 uc l5 fun t8 l9 =>
 uc l9 fun t10 l11 =>
 uc l11 fun t12 l13 =>
 oInt .lss .i64 t12 (.int .i64 (.ofNat 12)) fun t14 =>
 oIf t14 (oOpt (aindex Tryd.prog 101 t4 t12) fun t15 =>
 loopS (fun j18 l16 m17 =>
 uc l16 fun t19 l20 =>
 uc l20 fun t21 l22 =>
 uc l22 fun t23 l24 =>
 oInt .rem .i64 t23 t15 fun t25 =>
 oInt .eql .i64 t25 (.int .i64 (.ofNat 0)) fun t26 =>
 oIf t26 (oOpt (ln t21) fun t27 =>
 loopS (fun j30 l28 m29 =>
 uc l28 fun t31 l32 =>
 uc l32 fun t33 l34 =>
 oInt .lss .i64 t33 t27 fun t35 =>
 oIf t35 (oOpt (ia 1 t21 t33) fun t36 =>
 oOpt (ld1 m29 t36) fun t37 =>
 oInt .mul .i64 t37 t15 fun t38 =>
 oRes (bs Tryd.prog m29 30 1 [(0, t38)]) fun t39 m40 =>
 oRes (aappend Tryd.prog L m40 30 t31 t39) fun t41 m42 =>
 oInt .add .i64 t33 (.int .i64 (.ofNat 1)) fun t43 =>
 j30 [t41, t43] m42) (oRes (aappend Tryd.prog L m29 30 t19 t31) fun t44 m45 =>
 oInt .quo .i64 t23 t15 fun t46 =>
 j18 [t44, t31, t46] m45)) lf [(.slice none 0 0), (.int .i64 (.ofNat 0))] m17) (oInt .add .i64 t12 (.int .i64 (.ofNat 1)) fun t47 =>
 j7 [t19, t23, t47] m17)) lf [t8, t8, t10] m6) (call 71 [t8] L m6 fun t48 m49 =>
 k t8 m49)) lf [t2, t0, (.int .i64 (.ofNat 0))] m3)
theorem S73_ok (lf : Nat) (cK : CallK β) (args : List Value) (L : Nat) (m : Mem) (k : Value → Mem → Option β)  : S73 lf cK args L m k = denF Tryd.prog 1 K73 lf cK 73 args L m k := by kernel_rfl

end
end Go.Vit
