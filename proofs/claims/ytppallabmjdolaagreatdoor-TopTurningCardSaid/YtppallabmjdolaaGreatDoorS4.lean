/- Shallow texts of the seat's functions, printed by a program: part 4. -/
import Derived.Test.YtppallabmjdolaaGreatDoorRows
import Derived.Test.YtppallabmjdolaaGreatDoorFs
set_option linter.unusedVariables false
set_option maxRecDepth 100000
namespace Go.Vit
open Go Go.Proofs
section
variable {β : Type}
/-- vitola/heap.Hours$2 -/
def K81 : Kat := []
noncomputable def S81 (lf : Nat) : FnK β := fun call args L m k =>
 uc args fun t0 l1 =>
 uc l1 fun t2 l3 =>
 un0 l3 (oRes (abox m t0) fun t4 m5 =>
 oOpt (fa 1 t4) fun t6 =>
 oOpt (ld1 m5 t6) fun t7 =>
 oOpt (ld1 m5 t2) fun t8 =>
 oInt .lss .i64 t7 t8 fun t9 =>
 k t9 m5)
theorem S81_ok (lf : Nat) (cK : CallK β) (args : List Value) (L : Nat) (m : Mem) (k : Value → Mem → Option β)  : S81 lf cK args L m k = denF Tryz.prog fsT 2 K81 lf cK 81 args L m k := by kernel_rfl

/-- slices.Contains[[]vitola/heap.Heap,vitola/heap.Heap] -/
def K82 : Kat := []
noncomputable def S82 (lf : Nat) : FnK β := fun call args L m k =>
 uc args fun t0 l1 =>
 uc l1 fun t2 l3 =>
 un0 l3 (oRes (abox m t2) fun t4 m5 =>
 oOpt (ldN m5 2 t4) fun t6 =>
 call 132 [t0, t6] L m5 fun t7 m8 =>
 oInt .geq .i64 t7 (.int .i64 (.ofNat 0)) fun t9 =>
 k t9 m8)
theorem S82_ok (lf : Nat) (cK : CallK β) (args : List Value) (L : Nat) (m : Mem) (k : Value → Mem → Option β)  : S82 lf cK args L m k = denF Tryz.prog fsT 2 K82 lf cK 82 args L m k := by kernel_rfl

/-- vitola/heap.Apart$1 -/
def K83 : Kat := [(9, (1, [15])), (9, (3, [21]))]
noncomputable def S83 (lf : Nat) : FnK β := fun call args L m k =>
 uc args fun t0 l1 =>
 uc l1 fun t2 l3 =>
 uc l3 fun t4 l5 =>
 un0 l5 (oRes (abox m t0) fun t6 m7 =>
 oOpt (fa 0 t6) fun t8 =>
 oOpt (ld1 m7 t8) fun t9 =>
 oOpt (fa 1 t2) fun t10 =>
 oOpt (ld1 m7 t10) fun t11 =>
 oInt .leq .i64 t9 t11 fun t12 =>
 join (fun l13 m14 =>
 uc l13 fun t16 l17 =>
 oPick t12 t16 (.bool false) fun t18 =>
 join (fun l19 m20 =>
 uc l19 fun t22 l23 =>
 oPick t18 (.bool true) t22 fun t24 =>
 k t24 m20) fun j21 =>
 oGF t18 (oOpt (ld1 m14 t4) fun t25 =>
 oOpt (ldN m14 2 t6) fun t26 =>
 call 82 [t25, t26] L m14 fun t27 m28 =>
 oOpt (aun .not t27) fun t29 =>
 j21 [t29] m28) (j21 [Go.undef] m14)) fun j15 =>
 oGT t12 (oOpt (fa 0 t2) fun t30 =>
 oOpt (ld1 m7 t30) fun t31 =>
 oOpt (fa 1 t6) fun t32 =>
 oOpt (ld1 m7 t32) fun t33 =>
 oInt .leq .i64 t31 t33 fun t34 =>
 j15 [t34] m7) (j15 [Go.undef] m7))
theorem S83_ok (lf : Nat) (cK : CallK β) (args : List Value) (L : Nat) (m : Mem) (k : Value → Mem → Option β)  : S83 lf cK args L m k = denF Tryz.prog fsT 2 K83 lf cK 83 args L m k := by kernel_rfl

/-- cmp.Compare[int] -/
def K84 : Kat := []
noncomputable def S84 (lf : Nat) : FnK β := fun call args L m k =>
 uc args fun t0 l1 =>
 uc l1 fun t2 l3 =>
 un0 l3 (call 133 [t0] L m fun t4 m5 =>
 call 133 [t2] L m5 fun t6 m7 =>
 oIf t4 (oIf t6 (k (.int .i64 (.ofNat 0)) m7) (k (.int .i64 (.negSucc 0)) m7)) (oIf t6 (k (.int .i64 (.ofNat 1)) m7) (oInt .lss .i64 t0 t2 fun t8 =>
 oIf t8 (k (.int .i64 (.negSucc 0)) m7) (oInt .gtr .i64 t0 t2 fun t9 =>
 oIf t9 (k (.int .i64 (.ofNat 1)) m7) (k (.int .i64 (.ofNat 0)) m7)))))
theorem S84_ok (lf : Nat) (cK : CallK β) (args : List Value) (L : Nat) (m : Mem) (k : Value → Mem → Option β)  : S84 lf cK args L m k = denF Tryz.prog fsT 2 K84 lf cK 84 args L m k := by kernel_rfl

/-- vitola/wrap.around -/
def K85 : Kat := [(761, (0, [8, 9, 23]))]
noncomputable def S85 (lf : Nat) : FnK β := fun call args L m k =>
 uc args fun t0 l1 =>
 uc l1 fun t2 l3 =>
 un0 l3 (oRes (abox m t0) fun t4 m5 =>
 oOpt (ldN m5 3 t4) fun t6 =>
 call 134 [t6] L m5 fun t7 m8 =>
 oOpt (aextract t7 0) fun t9 =>
 oOpt (aextract t7 1) fun t10 =>
 oInt .neq .i64 t10 (.int .i64 (.ofNat 0)) fun t11 =>
 oIf t11 (k (.tuple ⟨[(.slice none 0 0), t10]⟩) m8) (oOpt (anil t9) fun t12 =>
 oOpt (fa 0 t12) fun t13 =>
 oOpt (fa 2 t13) fun t14 =>
 oOpt (ld1 m8 t14) fun t15 =>
 loopS (fun j18 l16 m17 =>
 uc l16 fun t19 l20 =>
 uc l20 fun t21 l22 =>
 uc l22 fun t23 l24 =>
 oInt .lss .i64 t23 t15 fun t25 =>
 oIf t25 (oCallV call t2 [t9, t21] L m17 fun t26 m27 =>
 oRes (bs Tryz.prog m27 22 1 [(0, t26)]) fun t28 m29 =>
 oRes (aappend Tryz.prog L m29 22 t19 t28) fun t30 m31 =>
 call 135 [t9, t21] L m31 fun t32 m33 =>
 oInt .add .i64 t23 (.int .i64 (.ofNat 1)) fun t34 =>
 j18 [t30, t32, t34] m33) (k (.tuple ⟨[t19, (.int .i64 (.ofNat 0))]⟩) m17)) lf [(.slice none 0 0), (.int .i64 (.ofNat 0)), (.int .i64 (.ofNat 0))] m8))
theorem S85_ok (lf : Nat) (cK : CallK β) (args : List Value) (L : Nat) (m : Mem) (k : Value → Mem → Option β)  : S85 lf cK args L m k = denF Tryz.prog fsT 2 K85 lf cK 85 args L m k := by kernel_rfl

/-- (*vitola/wrap.wound).gap -/
def K86 : Kat := []
noncomputable def S86 (lf : Nat) : FnK β := fun call args L m k =>
 uc args fun t0 l1 =>
 uc l1 fun t2 l3 =>
 un0 l3 (oOpt (anil t0) fun t4 =>
 oOpt (fa 0 t4) fun t5 =>
 oOpt (ldN m 3 t5) fun t6 =>
 call 135 [t0, t2] m.next m fun t7 m8 =>
 call 136 [t6, t7] m8.next m8 fun t9 m10 =>
 oOpt (anil t0) fun t11 =>
 oOpt (fa 0 t11) fun t12 =>
 oOpt (ldN m10 3 t12) fun t13 =>
 call 136 [t13, t2] m10.next m10 fun t14 m15 =>
 oInt .sub .i64 t9 t14 fun t16 =>
 oOpt (anil t0) fun t17 =>
 oOpt (fa 0 t17) fun t18 =>
 oOpt (fa 0 t18) fun t19 =>
 oOpt (ld1 m15 t19) fun t20 =>
 oInt .add .i64 t16 t20 fun t21 =>
 oOpt (anil t0) fun t22 =>
 oOpt (fa 0 t22) fun t23 =>
 oOpt (fa 0 t23) fun t24 =>
 oOpt (ld1 m15 t24) fun t25 =>
 oInt .rem .i64 t21 t25 fun t26 =>
 oInt .eql .i64 t26 (.int .i64 (.ofNat 0)) fun t27 =>
 oIf t27 (oOpt (anil t0) fun t28 =>
 oOpt (fa 0 t28) fun t29 =>
 oOpt (fa 0 t29) fun t30 =>
 oOpt (ld1 m15 t30) fun t31 =>
 k t31 m15) (k t26 m15))
theorem S86_ok (lf : Nat) (cK : CallK β) (args : List Value) (L : Nat) (m : Mem) (k : Value → Mem → Option β)  : S86 lf cK args L m k = denF Tryz.prog fsT 2 K86 lf cK 86 args L m k := by kernel_rfl

/-- vitola/shade.opened -/
def K87 : Kat := []
noncomputable def S87 (lf : Nat) : FnK β := fun call args L m k =>
 uc args fun t0 l1 =>
 uc l1 fun t2 l3 =>
 un0 l3 (call 137 [t0] L m fun t4 m5 =>
 oInt .neq .i64 t4 (.int .i64 (.ofNat 0)) fun t6 =>
 oIf t6 (k (.tuple ⟨[(.pointer none), t4]⟩) m5) (call 139 [t0] L m5 fun t7 m8 =>
 call 138 [t7] L m8 fun t9 m10 =>
 oOpt (bu Tryz.prog 185 [(0, t9), (1, t2)]) fun t11 =>
 oRes (abox m10 t11) fun t12 m13 =>
 k (.tuple ⟨[t12, (.int .i64 (.ofNat 0))]⟩) m13))
theorem S87_ok (lf : Nat) (cK : CallK β) (args : List Value) (L : Nat) (m : Mem) (k : Value → Mem → Option β)  : S87 lf cK args L m k = denF Tryz.prog fsT 2 K87 lf cK 87 args L m k := by kernel_rfl

/-- (*vitola/shade.shelf).why -/
def K88 : Kat := [(185, (0, [2, 3, 16])), (47717, (1, [41])), (47718, (0, [2, 3]))]
noncomputable def S88 (lf : Nat) : FnK β := fun call args L m k =>
 uc args fun t0 l1 =>
 un0 l1 (call 140 [t0] L m fun t2 m3 =>
 oOpt (anil t0) fun t4 =>
 oOpt (fa 0 t4) fun t5 =>
 oOpt (ld1 m3 t5) fun t6 =>
 oOpt (ln t6) fun t7 =>
 oInt .sub .i64 t7 t2 fun t8 =>
 loopS (fun j11 l9 m10 =>
 uc l9 fun t12 l13 =>
 uc l13 fun t14 l15 =>
 uc l15 fun t16 l17 =>
 oInt .lss .i64 t16 t8 fun t18 =>
 oIf t18 (oOpt (anil t0) fun t19 =>
 oOpt (fa 0 t19) fun t20 =>
 oOpt (ld1 m10 t20) fun t21 =>
 oInt .add .i64 t16 t2 fun t22 =>
 oOpt (ia 1 t21 t22) fun t23 =>
 oOpt (ld1 m10 t23) fun t24 =>
 oOpt (anil t0) fun t25 =>
 oOpt (fa 0 t25) fun t26 =>
 oOpt (ld1 m10 t26) fun t27 =>
 oOpt (ia 1 t27 t16) fun t28 =>
 oOpt (ld1 m10 t28) fun t29 =>
 oInt .sub .i64 t24 t29 fun t30 =>
 oInt .lss .i64 t12 (.int .i64 (.ofNat 0)) fun t31 =>
 join (fun l32 m33 =>
 uc l32 fun t35 l36 =>
 oPick t31 (.bool true) t35 fun t37 =>
 join (fun l38 m39 =>
 uc l38 fun t41 l42 =>
 uc l42 fun t43 l44 =>
 oInt .add .i64 t16 (.int .i64 (.ofNat 1)) fun t45 =>
 j11 [t41, t43, t45] m39) fun j40 =>
 oIf t37 (j40 [t16, t30] m33) (j40 [t12, t14] m33)) fun j34 =>
 oGF t31 (oInt .gtr .i64 t30 t14 fun t46 =>
 j34 [t46] m10) (j34 [Go.undef] m10)) (k (.tuple ⟨[t12, t14]⟩) m10)) lf [(.int .i64 (.negSucc 0)), (.int .i64 (.ofNat 0)), (.int .i64 (.ofNat 0))] m3)
theorem S88_ok (lf : Nat) (cK : CallK β) (args : List Value) (L : Nat) (m : Mem) (k : Value → Mem → Option β)  : S88 lf cK args L m k = denF Tryz.prog fsT 2 K88 lf cK 88 args L m k := by kernel_rfl

/-- vitola/vitolatop.turnsWork -/
def K89 : Kat := [(45, (1, [20])), (45, (3, [26])), (45, (5, [32])), (45, (7, [35]))]
noncomputable def S89 (lf : Nat) : FnK β := fun call args L m k =>
 un0 args (oOpt (bu Tryz.prog 57 [(0, (.int .i64 (.ofNat 12))), (1, (.int .i64 (.ofNat 5))), (2, (.int .i64 (.ofNat 4)))]) fun t0 =>
 call 141 [t0] L m fun t1 m2 =>
 oOpt (aextract t1 0) fun t3 =>
 oOpt (aextract t1 1) fun t4 =>
 oRes (bs Tryz.prog m2 22 2 [(0, (.int .i64 (.ofNat 2))), (1, (.int .i64 (.ofNat 0)))]) fun t5 m6 =>
 call 62 [t5] L m6 fun t7 m8 =>
 call 142 [(.int .i64 (.ofNat 4)), t7] L m8 fun t9 m10 =>
 oOpt (aextract t9 0) fun t11 =>
 oOpt (aextract t9 1) fun t12 =>
 oInt .eql .i64 t4 (.int .i64 (.ofNat 0)) fun t13 =>
 join (fun l14 m15 =>
 uc l14 fun t17 l18 =>
 oPick t13 t17 (.bool false) fun t19 =>
 join (fun l20 m21 =>
 uc l20 fun t23 l24 =>
 oPick t19 t23 (.bool false) fun t25 =>
 join (fun l26 m27 =>
 uc l26 fun t29 l30 =>
 oPick t25 t29 (.bool false) fun t31 =>
 join (fun l32 m33 =>
 uc l32 fun t35 l36 =>
 oPick t31 t35 (.bool false) fun t37 =>
 k t37 m33) fun j34 =>
 oGT t31 (call 143 [] L m27 fun t38 m39 =>
 j34 [t38] m39) (j34 [Go.undef] m27)) fun j28 =>
 oGT t25 (oRes (bs Tryz.prog m21 22 3 [(0, (.int .i64 (.ofNat 0))), (1, (.int .i64 (.ofNat 1))), (2, (.int .i64 (.ofNat 3)))]) fun t40 m41 =>
 call 62 [t40] L m41 fun t42 m43 =>
 call 13 [t11, t42] L m43 fun t44 m45 =>
 j28 [t44] m45) (j28 [Go.undef] m21)) fun j22 =>
 oGT t19 (oRes (bs Tryz.prog m15 22 4 [(0, (.int .i64 (.ofNat 0))), (1, (.int .i64 (.ofNat 3))), (2, (.int .i64 (.ofNat 1))), (3, (.int .i64 (.ofNat 2)))]) fun t46 m47 =>
 call 62 [t46] L m47 fun t48 m49 =>
 call 13 [t3, t48] L m49 fun t50 m51 =>
 j22 [t50] m51) (j22 [Go.undef] m15)) fun j16 =>
 oGT t13 (oInt .eql .i64 t12 (.int .i64 (.ofNat 0)) fun t52 =>
 j16 [t52] m10) (j16 [Go.undef] m10))
theorem S89_ok (lf : Nat) (cK : CallK β) (args : List Value) (L : Nat) (m : Mem) (k : Value → Mem → Option β)  : S89 lf cK args L m k = denF Tryz.prog fsT 2 K89 lf cK 89 args L m k := by kernel_rfl

/-- vitola/beetle.opened -/
def K90 : Kat := [(377, (0, [26])), (193735, (1, [39])), (761, (0, [58])), (390343, (1, [71]))]
noncomputable def S90 (lf : Nat) : FnK β := fun call args L m k =>
 uc args fun t0 l1 =>
 un0 l1 (oRes (abox m t0) fun t2 m3 =>
 oRes (anew m3 1 [(.int .u32 (.ofNat 0)), (.int .u32 (.ofNat 0))] ptrTo) fun t4 m5 =>
 oOpt (fa 0 t2) fun t6 =>
 oOpt (ld1 m5 t6) fun t7 =>
 oOpt (fa 1 t2) fun t8 =>
 oOpt (ld1 m5 t8) fun t9 =>
 call 94 [t7, t9] L m5 fun t10 m11 =>
 oOpt (aun .not t10) fun t12 =>
 oIf t12 (oOpt (bu Tryz.prog 132 []) fun t13 =>
 oRes (st1 2 L m11 t4 t13) fun t14 m15 =>
 oOpt (ldN m15 2 t4) fun t16 =>
 k (.tuple ⟨[(.pointer none), t16, (.int .i64 (.ofNat 1))]⟩) m15) (oOpt (fa 0 t2) fun t17 =>
 oOpt (ld1 m11 t17) fun t18 =>
 oOpt (fa 1 t2) fun t19 =>
 oOpt (ld1 m11 t19) fun t20 =>
 call 95 [t18, t20] L m11 fun t21 m22 =>
 oRes (anew m22 1 [(.int .u32 (.ofNat 0)), (.int .u32 (.ofNat 0))] ptrTo) fun t23 m24 =>
 oOpt (fa 2 t2) fun t25 =>
 oOpt (ld1 m24 t25) fun t26 =>
 oOpt (ln t26) fun t27 =>
 loopS (fun j30 l28 m29 =>
 uc l28 fun t31 l32 =>
 oInt .lss .i64 t31 t27 fun t33 =>
 oIf t33 (oOpt (ia 1 t26 t31) fun t34 =>
 oOpt (ld1 m29 t34) fun t35 =>
 oInt .lss .i64 t35 (.int .i64 (.ofNat 0)) fun t36 =>
 join (fun l37 m38 =>
 uc l37 fun t40 l41 =>
 oPick t36 (.bool true) t40 fun t42 =>
 oIf t42 (oOpt (bu Tryz.prog 132 []) fun t43 =>
 oRes (st1 2 L m38 t4 t43) fun t44 m45 =>
 oOpt (ldN m45 2 t4) fun t46 =>
 k (.tuple ⟨[(.pointer none), t46, (.int .i64 (.ofNat 2))]⟩) m45) (oOpt (fa 0 t23) fun t47 =>
 oOpt (ld1 m38 t47) fun t48 =>
 call 144 [t48, t35] L m38 fun t49 m50 =>
 oIf t49 (oOpt (bu Tryz.prog 132 []) fun t51 =>
 oRes (st1 2 L m50 t4 t51) fun t52 m53 =>
 oOpt (ldN m53 2 t4) fun t54 =>
 k (.tuple ⟨[(.pointer none), t54, (.int .i64 (.ofNat 6))]⟩) m53) (oOpt (fa 0 t23) fun t55 =>
 oOpt (ld1 m50 t55) fun t56 =>
 oOpt (abin Tryz.prog .shl 130 (.int .u32 (.ofNat 1)) t35) fun t57 =>
 oInt .or .u32 t56 t57 fun t58 =>
 oOpt (fa 0 t23) fun t59 =>
 oRes (st1 1 L m50 t59 t58) fun t60 m61 =>
 oInt .add .i64 t31 (.int .i64 (.ofNat 1)) fun t62 =>
 j30 [t62] m61))) fun j39 =>
 oGF t36 (oOpt (anil t21) fun t63 =>
 oOpt (fa 2 t63) fun t64 =>
 oOpt (ld1 m29 t64) fun t65 =>
 oInt .geq .i64 t35 t65 fun t66 =>
 j39 [t66] m29) (j39 [Go.undef] m29)) (oOpt (fa 3 t2) fun t67 =>
 oOpt (ld1 m29 t67) fun t68 =>
 oOpt (ln t68) fun t69 =>
 loopS (fun j72 l70 m71 =>
 uc l70 fun t73 l74 =>
 oInt .lss .i64 t73 t69 fun t75 =>
 oIf t75 (oOpt (ia 1 t68 t73) fun t76 =>
 oOpt (ld1 m71 t76) fun t77 =>
 oInt .lss .i64 t77 (.int .i64 (.ofNat 0)) fun t78 =>
 join (fun l79 m80 =>
 uc l79 fun t82 l83 =>
 oPick t78 (.bool true) t82 fun t84 =>
 oIf t84 (oOpt (bu Tryz.prog 132 []) fun t85 =>
 oRes (st1 2 L m80 t4 t85) fun t86 m87 =>
 oOpt (ldN m87 2 t4) fun t88 =>
 k (.tuple ⟨[(.pointer none), t88, (.int .i64 (.ofNat 2))]⟩) m87) (oOpt (fa 1 t23) fun t89 =>
 oOpt (ld1 m80 t89) fun t90 =>
 call 144 [t90, t77] L m80 fun t91 m92 =>
 oIf t91 (oOpt (bu Tryz.prog 132 []) fun t93 =>
 oRes (st1 2 L m92 t4 t93) fun t94 m95 =>
 oOpt (ldN m95 2 t4) fun t96 =>
 k (.tuple ⟨[(.pointer none), t96, (.int .i64 (.ofNat 6))]⟩) m95) (oOpt (fa 0 t23) fun t97 =>
 oOpt (ld1 m92 t97) fun t98 =>
 call 144 [t98, t77] L m92 fun t99 m100 =>
 oIf t99 (oOpt (bu Tryz.prog 132 []) fun t101 =>
 oRes (st1 2 L m100 t4 t101) fun t102 m103 =>
 oOpt (ldN m103 2 t4) fun t104 =>
 k (.tuple ⟨[(.pointer none), t104, (.int .i64 (.ofNat 13))]⟩) m103) (oOpt (fa 1 t23) fun t105 =>
 oOpt (ld1 m100 t105) fun t106 =>
 oOpt (abin Tryz.prog .shl 130 (.int .u32 (.ofNat 1)) t77) fun t107 =>
 oInt .or .u32 t106 t107 fun t108 =>
 oOpt (fa 1 t23) fun t109 =>
 oRes (st1 1 L m100 t109 t108) fun t110 m111 =>
 oInt .add .i64 t73 (.int .i64 (.ofNat 1)) fun t112 =>
 j72 [t112] m111)))) fun j81 =>
 oGF t78 (oOpt (anil t21) fun t113 =>
 oOpt (fa 2 t113) fun t114 =>
 oOpt (ld1 m71 t114) fun t115 =>
 oInt .geq .i64 t77 t115 fun t116 =>
 j81 [t116] m71) (j81 [Go.undef] m71)) (oOpt (ldN m71 2 t23) fun t117 =>
 oRes (st1 2 L m71 t4 t117) fun t118 m119 =>
 oOpt (ldN m119 2 t4) fun t120 =>
 k (.tuple ⟨[t21, t120, (.int .i64 (.ofNat 0))]⟩) m119)) lf [(.int .i64 (.ofNat 0))] m29)) lf [(.int .i64 (.ofNat 0))] m24))
theorem S90_ok (lf : Nat) (cK : CallK β) (args : List Value) (L : Nat) (m : Mem) (k : Value → Mem → Option β)  : S90 lf cK args L m k = denF Tryz.prog fsT 2 K90 lf cK 90 args L m k := by kernel_rfl

/-- (*vitola/beetle.floor).spread -/
def K91 : Kat := [(91, (0, [6, 5])), (11821, (0, [5, 6, 42])), (1513266, (0, [5, 6]))]
noncomputable def S91 (lf : Nat) : FnK β := fun call args L m k =>
 uc args fun t0 l1 =>
 uc l1 fun t2 l3 =>
 un0 l3 (oRes (abox m t2) fun t4 m5 =>
 oOpt (fa 0 t4) fun t6 =>
 oOpt (ld1 m5 t6) fun t7 =>
 oOpt (fa 0 t4) fun t8 =>
 oOpt (ld1 m5 t8) fun t9 =>
 call 92 [t9] L m5 fun t10 m11 =>
 loopS (fun j14 l12 m13 =>
 uc l12 fun t15 l16 =>
 uc l16 fun t17 l18 =>
 oOpt (ln t15) fun t19 =>
 oInt .gtr .i64 t19 (.int .i64 (.ofNat 0)) fun t20 =>
 oIf t20 (oOpt (ln t15) fun t21 =>
 oInt .sub .i64 t21 (.int .i64 (.ofNat 1)) fun t22 =>
 oOpt (ia 1 t15 t22) fun t23 =>
 oOpt (ld1 m13 t23) fun t24 =>
 oOpt (ln t15) fun t25 =>
 oInt .sub .i64 t25 (.int .i64 (.ofNat 1)) fun t26 =>
 oOpt (sl Tryz.prog 22 t15 none (some t26) none) fun t27 =>
 oOpt (anil t0) fun t28 =>
 oOpt (fa 3 t28) fun t29 =>
 oOpt (iaA 25 1 t29 t24) fun t30 =>
 oOpt (ld1 m13 t30) fun t31 =>
 oInt .andNot .u32 t31 t17 fun t32 =>
 oOpt (fa 1 t4) fun t33 =>
 oOpt (ld1 m13 t33) fun t34 =>
 oInt .andNot .u32 t32 t34 fun t35 =>
 call 92 [t35] L m13 fun t36 m37 =>
 oOpt (ln t36) fun t38 =>
 loopS (fun j41 l39 m40 =>
 uc l39 fun t42 l43 =>
 uc l43 fun t44 l45 =>
 uc l45 fun t46 l47 =>
 oInt .lss .i64 t46 t38 fun t48 =>
 oIf t48 (oOpt (ia 1 t36 t46) fun t49 =>
 oOpt (ld1 m40 t49) fun t50 =>
 oOpt (anil t0) fun t51 =>
 oOpt (fa 3 t51) fun t52 =>
 oOpt (iaA 25 1 t52 t50) fun t53 =>
 oOpt (ld1 m40 t53) fun t54 =>
 oInt .and .u32 t54 t42 fun t55 =>
 call 100 [t55] L m40 fun t56 m57 =>
 oInt .gtr .i64 t56 (.int .i64 (.ofNat 1)) fun t58 =>
 join (fun l59 m60 =>
 uc l59 fun t62 l63 =>
 uc l63 fun t64 l65 =>
 oInt .add .i64 t46 (.int .i64 (.ofNat 1)) fun t66 =>
 j41 [t62, t64, t66] m60) fun j61 =>
 oIf t58 (oOpt (abin Tryz.prog .shl 130 (.int .u32 (.ofNat 1)) t50) fun t67 =>
 oInt .or .u32 t42 t67 fun t68 =>
 oRes (bs Tryz.prog m57 22 1 [(0, t50)]) fun t69 m70 =>
 oRes (aappend Tryz.prog L m70 22 t44 t69) fun t71 m72 =>
 j61 [t68, t71] m72) (j61 [t42, t44] m57)) (j14 [t44, t42] m40)) lf [t17, t27, (.int .i64 (.ofNat 0))] m37) (k t17 m13)) lf [t10, t7] m11)
theorem S91_ok (lf : Nat) (cK : CallK β) (args : List Value) (L : Nat) (m : Mem) (k : Value → Mem → Option β)  : S91 lf cK args L m k = denF Tryz.prog fsT 2 K91 lf cK 91 args L m k := by kernel_rfl

/-- (vitola/beetle.set).list -/
def K92 : Kat := [(43, (0, [3, 0]))]
noncomputable def S92 (lf : Nat) : FnK β := fun call args L m k =>
 uc args fun t0 l1 =>
 un0 l1 (loopS (fun j4 l2 m3 =>
 uc l2 fun t5 l6 =>
 uc l6 fun t7 l8 =>
 oInt .neq .u32 t7 (.int .u32 (.ofNat 0)) fun t9 =>
 oIf t9 (call 145 [t7] L m3 fun t10 m11 =>
 oRes (bs Tryz.prog m11 22 1 [(0, t10)]) fun t12 m13 =>
 oRes (aappend Tryz.prog L m13 22 t5 t12) fun t14 m15 =>
 oInt .sub .u32 t7 (.int .u32 (.ofNat 1)) fun t16 =>
 oInt .and .u32 t7 t16 fun t17 =>
 j4 [t14, t17] m15) (k t5 m3)) lf [(.slice none 0 0), t0] m)
theorem S92_ok (lf : Nat) (cK : CallK β) (args : List Value) (L : Nat) (m : Mem) (k : Value → Mem → Option β)  : S92 lf cK args L m k = denF Tryz.prog fsT 2 K92 lf cK 92 args L m k := by kernel_rfl

/-- (vitola/bond.circle).inner -/
def K93 : Kat := [(89, (0, [3, 9])), (11570, (0, [3]))]
noncomputable def S93 (lf : Nat) : FnK β := fun call args L m k =>
 uc args fun t0 l1 =>
 un0 l1 (oRes (abox m t0) fun t2 m3 =>
 oOpt (fa 1 t2) fun t4 =>
 oOpt (ld1 m3 t4) fun t5 =>
 oOpt (ln t5) fun t6 =>
 loopS (fun j9 l7 m8 =>
 uc l7 fun t10 l11 =>
 uc l11 fun t12 l13 =>
 oInt .lss .i64 t12 t6 fun t14 =>
 oIf t14 (oOpt (ia 1 t5 t12) fun t15 =>
 oOpt (ld1 m8 t15) fun t16 =>
 oRes (anew m8 1 [(.int .i64 (.ofNat 0))] ptrTo) fun t17 m18 =>
 oRes (st1 1 L m18 t17 t16) fun t19 m20 =>
 oOpt (fa 1 t2) fun t21 =>
 oOpt (ld1 m20 t21) fun t22 =>
 call 43 [t22, (.func (.func 146) #[] ⟨[t17]⟩)] L m20 fun t23 m24 =>
 oOpt (aun .not t23) fun t25 =>
 join (fun l26 m27 =>
 uc l26 fun t29 l30 =>
 oInt .add .i64 t12 (.int .i64 (.ofNat 1)) fun t31 =>
 j9 [t29, t31] m27) fun j28 =>
 oIf t25 (oOpt (ld1 m24 t17) fun t32 =>
 oRes (bs Tryz.prog m24 22 1 [(0, t32)]) fun t33 m34 =>
 oRes (aappend Tryz.prog L m34 22 t10 t33) fun t35 m36 =>
 j28 [t35] m36) (j28 [t10] m24)) (call 59 [t10] L m8 fun t37 m38 =>
 call 147 [t10] L m38 fun t39 m40 =>
 k t39 m40)) lf [(.slice none 0 0), (.int .i64 (.ofNat 0))] m3)
theorem S93_ok (lf : Nat) (cK : CallK β) (args : List Value) (L : Nat) (m : Mem) (k : Value → Mem → Option β)  : S93 lf cK args L m k = denF Tryz.prog fsT 2 K93 lf cK 93 args L m k := by kernel_rfl

/-- vitola/beetle.sided -/
def K94 : Kat := [(9, (1, [13]))]
noncomputable def S94 (lf : Nat) : FnK β := fun call args L m k =>
 uc args fun t0 l1 =>
 uc l1 fun t2 l3 =>
 un0 l3 (oOpt (abuiltin Tryz.prog .min #[3, 3] [t0, t2]) fun t4 =>
 oInt .geq .i64 t4 (.int .i64 (.ofNat 1)) fun t5 =>
 join (fun l6 m7 =>
 uc l6 fun t9 l10 =>
 oPick t5 t9 (.bool false) fun t11 =>
 k t11 m7) fun j8 =>
 oGT t5 (oOpt (abuiltin Tryz.prog .max #[3, 3] [t0, t2]) fun t12 =>
 oInt .leq .i64 t12 (.int .i64 (.ofNat 5)) fun t13 =>
 j8 [t13] m) (j8 [Go.undef] m))
theorem S94_ok (lf : Nat) (cK : CallK β) (args : List Value) (L : Nat) (m : Mem) (k : Value → Mem → Option β)  : S94 lf cK args L m k = denF Tryz.prog fsT 2 K94 lf cK 94 args L m k := by kernel_rfl

/-- vitola/beetle.laid -/
def K95 : Kat := [(185, (0, [20])), (47716, (0, [])), (47718, (0, []))]
noncomputable def S95 (lf : Nat) : FnK β := fun call args L m k =>
 uc args fun t0 l1 =>
 uc l1 fun t2 l3 =>
 un0 l3 (oInt .mul .i64 t0 t2 fun t4 =>
 oOpt (bu Tryz.prog 140 [(0, t0), (1, t2), (2, t4)]) fun t5 =>
 oRes (abox m t5) fun t6 m7 =>
 oRes (anew m7 1 [(.pointer none)] ptrTo) fun t8 m9 =>
 oRes (st1 1 L m9 t8 t6) fun t10 m11 =>
 oOpt (ld1 m11 t8) fun t12 =>
 oOpt (anil t12) fun t13 =>
 oOpt (fa 2 t13) fun t14 =>
 oOpt (ld1 m11 t14) fun t15 =>
 loopS (fun j18 l16 m17 =>
 uc l16 fun t19 l20 =>
 oInt .lss .i64 t19 t15 fun t21 =>
 oIf t21 (oInt .rem .i64 t19 t2 fun t22 =>
 oInt .gtr .i64 t22 (.int .i64 (.ofNat 0)) fun t23 =>
 join (fun l24 m25 =>
 oInt .geq .i64 t19 t2 fun t27 =>
 join (fun l28 m29 =>
 oInt .add .i64 t19 (.int .i64 (.ofNat 1)) fun t31 =>
 j18 [t31] m29) fun j30 =>
 oIf t27 (oInt .sub .i64 t19 t2 fun t32 =>
 oCallV call (.func (.func 148) #[] ⟨[t8]⟩) [t19, t32] L m25 fun t33 m34 =>
 j30 [] m34) (j30 [] m25)) fun j26 =>
 oIf t23 (oInt .sub .i64 t19 (.int .i64 (.ofNat 1)) fun t35 =>
 oCallV call (.func (.func 148) #[] ⟨[t8]⟩) [t19, t35] L m17 fun t36 m37 =>
 j26 [] m37) (j26 [] m17)) (oOpt (ld1 m17 t8) fun t38 =>
 k t38 m17)) lf [(.int .i64 (.ofNat 0))] m11)
theorem S95_ok (lf : Nat) (cK : CallK β) (args : List Value) (L : Nat) (m : Mem) (k : Value → Mem → Option β)  : S95 lf cK args L m k = denF Tryz.prog fsT 2 K95 lf cK 95 args L m k := by kernel_rfl

/-- vitola/beetle.choose -/
def K96 : Kat := [(89, (0, [1, 26])), (46286, (0, []))]
noncomputable def S96 (lf : Nat) : FnK β := fun call args L m k =>
 uc args fun t0 l1 =>
 uc l1 fun t2 l3 =>
 uc l3 fun t4 l5 =>
 uc l5 fun t6 l7 =>
 uc l7 fun t8 l9 =>
 un0 l9 (oInt .eql .i64 t4 (.int .i64 (.ofNat 0)) fun t10 =>
 oIf t10 (oCallV call t8 [t0] L m fun t11 m12 =>
 k (.tuple ⟨[t0, t11]⟩) m12) (call 92 [t2] L m fun t13 m14 =>
 oOpt (ln t13) fun t15 =>
 loopS (fun j18 l16 m17 =>
 uc l16 fun t19 l20 =>
 uc l20 fun t21 l22 =>
 oInt .lss .i64 t21 t15 fun t23 =>
 oIf t23 (oOpt (ia 1 t13 t21) fun t24 =>
 oOpt (ld1 m17 t24) fun t25 =>
 oOpt (abin Tryz.prog .shl 130 (.int .u32 (.ofNat 1)) t25) fun t26 =>
 oInt .andNot .u32 t19 t26 fun t27 =>
 oOpt (abin Tryz.prog .shl 130 (.int .u32 (.ofNat 1)) t25) fun t28 =>
 oInt .or .u32 t0 t28 fun t29 =>
 oInt .sub .i64 t4 (.int .i64 (.ofNat 1)) fun t30 =>
 oCallV call t6 [t29, t30] L m17 fun t31 m32 =>
 join (fun l33 m34 =>
 oInt .add .i64 t21 (.int .i64 (.ofNat 1)) fun t36 =>
 j18 [t27, t36] m34) fun j35 =>
 oIf t31 (oInt .sub .i64 t4 (.int .i64 (.ofNat 1)) fun t37 =>
 call 96 [t29, t27, t37, t6, t8] L m32 fun t38 m39 =>
 oOpt (aextract t38 0) fun t40 =>
 oOpt (aextract t38 1) fun t41 =>
 oIf t41 (k (.tuple ⟨[t40, (.bool true)]⟩) m39) (j35 [] m39)) (j35 [] m32)) (k (.tuple ⟨[(.int .u32 (.ofNat 0)), (.bool false)]⟩) m17)) lf [t2, (.int .i64 (.ofNat 0))] m14))
theorem S96_ok (lf : Nat) (cK : CallK β) (args : List Value) (L : Nat) (m : Mem) (k : Value → Mem → Option β)  : S96 lf cK args L m k = denF Tryz.prog fsT 2 K96 lf cK 96 args L m k := by kernel_rfl

end
end Go.Vit
