/- Shallow texts of the seat's functions, printed by a program: part 3. -/
import Derived.Test.YtcaoifacidnhcaaDoorRows
import Derived.Test.YtcaoifacidnhcaaDoorCoreB
set_option linter.unusedVariables false
set_option maxRecDepth 100000
namespace Go.Vit
open Go Go.Proofs
section
variable {β : Type}
/-- vitola/vitolaref13.Greedy -/
def K19 : Kat := [(377, (0, [5, 6]))]
noncomputable def S19 (lf : Nat) : FnK β := fun call args L m k =>
 uc args fun t0 l1 =>
 un0 l1 (oRes (abox m t0) fun t2 m3 =>
 oOpt (ldN m3 2 t2) fun t4 =>
 call 22 [t4] L m3 fun t5 m6 =>
 oInt .neq .i64 t5 (.int .i64 (.ofNat 0)) fun t7 =>
 oIf t7 (k (.tuple ⟨[(.slice none 0 0), t5]⟩) m6) (oOpt (ldN m6 2 t2) fun t8 =>
 call 53 [t8] L m6 fun t9 m10 =>
 oRes (anew m10 1 [(.int .i64 (.ofNat 0)), (.int .i64 (.ofNat 0))] ptrTo) fun t11 m12 =>
 oRes (st1 2 L m12 t11 t9) fun t13 m14 =>
 loopS (fun j17 l15 m16 =>
 uc l15 fun t18 l19 =>
 uc l19 fun t20 l21 =>
 oOpt (fa 0 t20) fun t22 =>
 oOpt (ld1 m16 t22) fun t23 =>
 oInt .gtr .i64 t23 (.int .i64 (.ofNat 0)) fun t24 =>
 oIf t24 (oOpt (fa 1 t20) fun t25 =>
 oOpt (ld1 m16 t25) fun t26 =>
 oOpt (fa 0 t20) fun t27 =>
 oOpt (ld1 m16 t27) fun t28 =>
 oInt .add .i64 t26 t28 fun t29 =>
 oInt .sub .i64 t29 (.int .i64 (.ofNat 1)) fun t30 =>
 oOpt (fa 0 t20) fun t31 =>
 oOpt (ld1 m16 t31) fun t32 =>
 oInt .quo .i64 t30 t32 fun t33 =>
 oInt .gtr .i64 t33 (.int .i64 (.ofNat 2000)) fun t34 =>
 oIf t34 (k (.tuple ⟨[(.slice none 0 0), (.int .i64 (.ofNat 15))]⟩) m16) (oRes (bs Tryd.prog m16 30 1 [(0, t33)]) fun t35 m36 =>
 oRes (aappend Tryd.prog L m36 30 t18 t35) fun t37 m38 =>
 oOpt (ldN m38 2 t20) fun t39 =>
 call 54 [t39, t33] L m38 fun t40 m41 =>
 oRes (st1 2 L m41 t20 t40) fun t42 m43 =>
 oOpt (ldN m43 2 t20) fun t44 =>
 oRes (anew m43 1 [(.int .i64 (.ofNat 0)), (.int .i64 (.ofNat 0))] ptrTo) fun t45 m46 =>
 oRes (st1 2 L m46 t45 t44) fun t47 m48 =>
 j17 [t37, t45] m48)) (k (.tuple ⟨[t18, (.int .i64 (.ofNat 0))]⟩) m16)) lf [(.slice none 0 0), t11] m14))
theorem S19_ok (lf : Nat) (cK : CallK β) (args : List Value) (L : Nat) (m : Mem) (k : Value → Mem → Option β)  : S19 lf cK args L m k = denF Tryd.prog 1 K19 lf cK 19 args L m k := by kernel_rfl

/-- vitola/vitolalaw13.same -/
def K20 : Kat := [(89, (0, [5]))]
noncomputable def S20 (lf : Nat) : FnK β := fun call args L m k =>
 uc args fun t0 l1 =>
 uc l1 fun t2 l3 =>
 un0 l3 (oOpt (ln t0) fun t4 =>
 oOpt (ln t2) fun t5 =>
 oInt .neq .i64 t4 t5 fun t6 =>
 oIf t6 (k (.bool false) m) (loopS (fun j9 l7 m8 =>
 uc l7 fun t10 l11 =>
 oOpt (ln t0) fun t12 =>
 oInt .lss .i64 t10 t12 fun t13 =>
 oIf t13 (oOpt (ia 1 t0 t10) fun t14 =>
 oOpt (ld1 m8 t14) fun t15 =>
 oOpt (ia 1 t2 t10) fun t16 =>
 oOpt (ld1 m8 t16) fun t17 =>
 oInt .neq .i64 t15 t17 fun t18 =>
 oIf t18 (k (.bool false) m8) (oInt .add .i64 t10 (.int .i64 (.ofNat 1)) fun t19 =>
 j9 [t19] m8)) (k (.bool true) m8)) lf [(.int .i64 (.ofNat 0))] m))
theorem S20_ok (lf : Nat) (cK : CallK β) (args : List Value) (L : Nat) (m : Mem) (k : Value → Mem → Option β)  : S20 lf cK args L m k = denF Tryd.prog 1 K20 lf cK 20 args L m k := by kernel_rfl

/-- vitola/duty.Check -/
def K21 : Kat := [(19, (1, [11])), (19, (3, [16]))]
noncomputable def S21 (lf : Nat) : FnK β := fun call args L m k =>
 uc args fun t0 l1 =>
 un0 l1 (oRes (abox m t0) fun t2 m3 =>
 oOpt (fa 0 t2) fun t4 =>
 oOpt (ld1 m3 t4) fun t5 =>
 oInt .lss .i64 t5 (.int .i64 (.ofNat 1)) fun t6 =>
 join (fun l7 m8 =>
 uc l7 fun t10 l11 =>
 oPick t6 (.bool true) t10 fun t12 =>
 join (fun l13 m14 =>
 uc l13 fun t16 l17 =>
 oPick t12 (.bool true) t16 fun t18 =>
 oIf t18 (k (.int .i64 (.ofNat 1)) m14) (k (.int .i64 (.ofNat 0)) m14)) fun j15 =>
 oGF t12 (oOpt (fa 1 t2) fun t19 =>
 oOpt (ld1 m8 t19) fun t20 =>
 oInt .gtr .i64 t20 (.int .i64 (.ofNat 30)) fun t21 =>
 j15 [t21] m8) (j15 [Go.undef] m8)) fun j9 =>
 oGF t6 (oOpt (fa 0 t2) fun t22 =>
 oOpt (ld1 m3 t22) fun t23 =>
 oOpt (fa 1 t2) fun t24 =>
 oOpt (ld1 m3 t24) fun t25 =>
 oInt .geq .i64 t23 t25 fun t26 =>
 j9 [t26] m3) (j9 [Go.undef] m3))
theorem S21_ok (lf : Nat) (cK : CallK β) (args : List Value) (L : Nat) (m : Mem) (k : Value → Mem → Option β)  : S21 lf cK args L m k = denF Tryd.prog 1 K21 lf cK 21 args L m k := by kernel_rfl

/-- vitola/vitolaref13.Check -/
def K22 : Kat := [(19, (1, [11])), (19, (3, [16]))]
noncomputable def S22 (lf : Nat) : FnK β := fun call args L m k =>
 uc args fun t0 l1 =>
 un0 l1 (oRes (abox m t0) fun t2 m3 =>
 oOpt (fa 0 t2) fun t4 =>
 oOpt (ld1 m3 t4) fun t5 =>
 oInt .lss .i64 t5 (.int .i64 (.ofNat 1)) fun t6 =>
 join (fun l7 m8 =>
 uc l7 fun t10 l11 =>
 oPick t6 (.bool true) t10 fun t12 =>
 join (fun l13 m14 =>
 uc l13 fun t16 l17 =>
 oPick t12 (.bool true) t16 fun t18 =>
 oIf t18 (k (.int .i64 (.ofNat 1)) m14) (k (.int .i64 (.ofNat 0)) m14)) fun j15 =>
 oGF t12 (oOpt (fa 1 t2) fun t19 =>
 oOpt (ld1 m8 t19) fun t20 =>
 oInt .gtr .i64 t20 (.int .i64 (.ofNat 30)) fun t21 =>
 j15 [t21] m8) (j15 [Go.undef] m8)) fun j9 =>
 oGF t6 (oOpt (fa 0 t2) fun t22 =>
 oOpt (ld1 m3 t22) fun t23 =>
 oOpt (fa 1 t2) fun t24 =>
 oOpt (ld1 m3 t24) fun t25 =>
 oInt .geq .i64 t23 t25 fun t26 =>
 j9 [t26] m3) (j9 [Go.undef] m3))
theorem S22_ok (lf : Nat) (cK : CallK β) (args : List Value) (L : Nat) (m : Mem) (k : Value → Mem → Option β)  : S22 lf cK args L m k = denF Tryd.prog 1 K22 lf cK 22 args L m k := by kernel_rfl

/-- vitola/duty.Two -/
def K23 : Kat := []
noncomputable def S23 (lf : Nat) : FnK β := fun call args L m k =>
 uc args fun t0 l1 =>
 un0 l1 (oRes (abox m t0) fun t2 m3 =>
 oOpt (ldN m3 2 t2) fun t4 =>
 call 52 [t4] L m3 fun t5 m6 =>
 oOpt (aextract t5 0) fun t7 =>
 oOpt (aextract t5 1) fun t8 =>
 oRes (anew m6 1 [(.int .i64 (.ofNat 0)), (.int .i64 (.ofNat 0))] ptrTo) fun t9 m10 =>
 oRes (st1 2 L m10 t9 t7) fun t11 m12 =>
 oInt .neq .i64 t8 (.int .i64 (.ofNat 0)) fun t13 =>
 oIf t13 (k (.tuple ⟨[(.slice none 0 0), t8]⟩) m12) (oRes (anew m12 1 [(.slice none 0 0)] ptrTo) fun t14 m15 =>
 oOpt (ldN m15 2 t9) fun t16 =>
 call 55 [t16, (.func (.func 56) #[] ⟨[t9, t14]⟩)] L m15 fun t17 m18 =>
 oOpt (ld1 m18 t14) fun t19 =>
 oOpt (abin Tryd.prog .eql 30 t19 (.slice none 0 0)) fun t20 =>
 oIf t20 (k (.tuple ⟨[(.slice none 0 0), (.int .i64 (.ofNat 12))]⟩) m18) (oOpt (ld1 m18 t14) fun t21 =>
 k (.tuple ⟨[t21, (.int .i64 (.ofNat 0))]⟩) m18)))
theorem S23_ok (lf : Nat) (cK : CallK β) (args : List Value) (L : Nat) (m : Mem) (k : Value → Mem → Option β)  : S23 lf cK args L m k = denF Tryd.prog 1 K23 lf cK 23 args L m k := by kernel_rfl

/-- vitola/vitolaref13.Two -/
def K24 : Kat := []
noncomputable def S24 (lf : Nat) : FnK β := fun call args L m k =>
 uc args fun t0 l1 =>
 un0 l1 (oRes (abox m t0) fun t2 m3 =>
 oOpt (ldN m3 2 t2) fun t4 =>
 call 22 [t4] L m3 fun t5 m6 =>
 oInt .neq .i64 t5 (.int .i64 (.ofNat 0)) fun t7 =>
 oIf t7 (k (.tuple ⟨[(.slice none 0 0), t5]⟩) m6) (oOpt (ldN m6 2 t2) fun t8 =>
 call 53 [t8] L m6 fun t9 m10 =>
 call 58 [t9, (.int .i64 (.ofNat 1)), (.int .i64 (.ofNat 2))] L m10 fun t11 m12 =>
 oOpt (ln t11) fun t13 =>
 oInt .eql .i64 t13 (.int .i64 (.ofNat 0)) fun t14 =>
 oIf t14 (k (.tuple ⟨[(.slice none 0 0), (.int .i64 (.ofNat 12))]⟩) m12) (oOpt (ia 1 t11 (.int .i64 (.ofNat 0))) fun t15 =>
 oOpt (ld1 m12 t15) fun t16 =>
 k (.tuple ⟨[t16, (.int .i64 (.ofNat 0))]⟩) m12)))
theorem S24_ok (lf : Nat) (cK : CallK β) (args : List Value) (L : Nat) (m : Mem) (k : Value → Mem → Option β)  : S24 lf cK args L m k = denF Tryd.prog 1 K24 lf cK 24 args L m k := by kernel_rfl

/-- vitola/duty.Sides -/
def K25 : Kat := []
noncomputable def S25 (lf : Nat) : FnK β := fun call args L m k =>
 uc args fun t0 l1 =>
 un0 l1 (oRes (abox m t0) fun t2 m3 =>
 oRes (anew m3 1 [(.int .i64 (.ofNat 0))] ptrTo) fun t4 m5 =>
 oRes (anew m5 1 [(.int .i64 (.ofNat 0))] ptrTo) fun t6 m7 =>
 oOpt (ldN m7 2 t2) fun t8 =>
 call 52 [t8] L m7 fun t9 m10 =>
 oOpt (aextract t9 0) fun t11 =>
 oOpt (aextract t9 1) fun t12 =>
 oRes (anew m10 1 [(.int .i64 (.ofNat 0)), (.int .i64 (.ofNat 0))] ptrTo) fun t13 m14 =>
 oRes (st1 2 L m14 t13 t11) fun t15 m16 =>
 oInt .neq .i64 t12 (.int .i64 (.ofNat 0)) fun t17 =>
 oIf t17 (oRes (st1 1 L m16 t4 (.int .i64 (.ofNat 0))) fun t18 m19 =>
 oRes (st1 1 L m19 t6 (.int .i64 (.ofNat 0))) fun t20 m21 =>
 oOpt (ld1 m21 t4) fun t22 =>
 oOpt (ld1 m21 t6) fun t23 =>
 k (.tuple ⟨[t22, t23, t12]⟩) m21) (oOpt (ldN m16 2 t13) fun t24 =>
 call 55 [t24, (.func (.func 59) #[] ⟨[t4, t6]⟩)] L m16 fun t25 m26 =>
 oOpt (ld1 m26 t4) fun t27 =>
 oInt .eql .i64 t27 (.int .i64 (.ofNat 0)) fun t28 =>
 oIf t28 (oRes (st1 1 L m26 t4 (.int .i64 (.ofNat 0))) fun t29 m30 =>
 oRes (st1 1 L m30 t6 (.int .i64 (.ofNat 0))) fun t31 m32 =>
 oOpt (ld1 m32 t4) fun t33 =>
 oOpt (ld1 m32 t6) fun t34 =>
 k (.tuple ⟨[t33, t34, (.int .i64 (.ofNat 12))]⟩) m32) (oOpt (ld1 m26 t4) fun t35 =>
 oOpt (ld1 m26 t6) fun t36 =>
 oRes (st1 1 L m26 t4 t35) fun t37 m38 =>
 oRes (st1 1 L m38 t6 t36) fun t39 m40 =>
 oNe t6 t4 (
 oOpt (ld1 m40 t4) fun t41 =>
 oOpt (ld1 m40 t6) fun t42 =>
 k (.tuple ⟨[t41, t42, (.int .i64 (.ofNat 0))]⟩) m40))))
theorem S25_ok (lf : Nat) (cK : CallK β) (args : List Value) (L : Nat) (m : Mem) (k : Value → Mem → Option β)  : S25 lf cK args L m k = denF Tryd.prog 1 K25 lf cK 25 args L m k := by kernel_rfl

/-- vitola/vitolaref13.Sides -/
def K26 : Kat := [(377, (0, [7])), (24209, (0, [8])), (774727, (1, [40])), (774727, (3, [46])), (774727, (5, [55]))]
noncomputable def S26 (lf : Nat) : FnK β := fun call args L m k =>
 uc args fun t0 l1 =>
 un0 l1 (oRes (abox m t0) fun t2 m3 =>
 oOpt (ldN m3 2 t2) fun t4 =>
 call 22 [t4] L m3 fun t5 m6 =>
 oInt .neq .i64 t5 (.int .i64 (.ofNat 0)) fun t7 =>
 oIf t7 (k (.tuple ⟨[(.int .i64 (.ofNat 0)), (.int .i64 (.ofNat 0)), t5]⟩) m6) (oOpt (ldN m6 2 t2) fun t8 =>
 call 53 [t8] L m6 fun t9 m10 =>
 oRes (anew m10 1 [(.int .i64 (.ofNat 0)), (.int .i64 (.ofNat 0))] ptrTo) fun t11 m12 =>
 oRes (st1 2 L m12 t11 t9) fun t13 m14 =>
 loopS (fun j17 l15 m16 =>
 uc l15 fun t18 l19 =>
 oOpt (fa 1 t11) fun t20 =>
 oOpt (ld1 m16 t20) fun t21 =>
 oInt .leq .i64 t18 t21 fun t22 =>
 oIf t22 (oInt .add .i64 t18 (.int .i64 (.ofNat 1)) fun t23 =>
 loopS (fun j26 l24 m25 =>
 uc l24 fun t27 l28 =>
 oOpt (fa 1 t11) fun t29 =>
 oOpt (ld1 m25 t29) fun t30 =>
 oInt .leq .i64 t27 t30 fun t31 =>
 oIf t31 (oOpt (fa 1 t11) fun t32 =>
 oOpt (ld1 m25 t32) fun t33 =>
 oInt .rem .i64 t33 t18 fun t34 =>
 oInt .eql .i64 t34 (.int .i64 (.ofNat 0)) fun t35 =>
 join (fun l36 m37 =>
 uc l36 fun t39 l40 =>
 oPick t35 t39 (.bool false) fun t41 =>
 join (fun l42 m43 =>
 uc l42 fun t45 l46 =>
 oPick t41 t45 (.bool false) fun t47 =>
 join (fun l48 m49 =>
 uc l48 fun t51 l52 =>
 oPick t47 t51 (.bool false) fun t53 =>
 oIf t53 (k (.tuple ⟨[t18, t27, (.int .i64 (.ofNat 0))]⟩) m49) (oInt .add .i64 t27 (.int .i64 (.ofNat 1)) fun t54 =>
 j26 [t54] m49)) fun j50 =>
 oGT t47 (oInt .add .i64 t18 t27 fun t55 =>
 oOpt (fa 0 t11) fun t56 =>
 oOpt (ld1 m43 t56) fun t57 =>
 oInt .rem .i64 t55 t57 fun t58 =>
 oInt .eql .i64 t58 (.int .i64 (.ofNat 0)) fun t59 =>
 j50 [t59] m43) (j50 [Go.undef] m43)) fun j44 =>
 oGT t41 (call 60 [t18, t27] L m37 fun t60 m61 =>
 oInt .eql .i64 t60 (.int .i64 (.ofNat 1)) fun t62 =>
 j44 [t62] m61) (j44 [Go.undef] m37)) fun j38 =>
 oGT t35 (oOpt (fa 1 t11) fun t63 =>
 oOpt (ld1 m25 t63) fun t64 =>
 oInt .rem .i64 t64 t27 fun t65 =>
 oInt .eql .i64 t65 (.int .i64 (.ofNat 0)) fun t66 =>
 j38 [t66] m25) (j38 [Go.undef] m25)) (oInt .add .i64 t18 (.int .i64 (.ofNat 1)) fun t67 =>
 j17 [t67] m25)) lf [t23] m16) (k (.tuple ⟨[(.int .i64 (.ofNat 0)), (.int .i64 (.ofNat 0)), (.int .i64 (.ofNat 12))]⟩) m16)) lf [(.int .i64 (.ofNat 1))] m14))
theorem S26_ok (lf : Nat) (cK : CallK β) (args : List Value) (L : Nat) (m : Mem) (k : Value → Mem → Option β)  : S26 lf cK args L m k = denF Tryd.prog 1 K26 lf cK 26 args L m k := by kernel_rfl

/-- vitola/vitolalaw13.works -/
def K27 : Kat := [(3067, (1, [62])), (3067, (3, [66])), (3067, (5, [70])), (3067, (7, [74])), (3067, (9, [78])), (3067, (11, [82])), (393213, (1, [127])), (393213, (3, [131])), (393213, (5, [135])), (393213, (7, [139])), (393213, (9, [143])), (393213, (11, [147])), (393213, (13, [152])), (393213, (15, [156])), (393213, (17, [160])), (393213, (19, [166])), (393213, (21, [173])), (393213, (23, [179])), (393213, (25, [183])), (393213, (27, [187])), (393213, (29, [193])), (393213, (31, [197])), (393213, (33, [203])), (393213, (35, [209])), (393213, (37, [213]))]
noncomputable def S27 (lf : Nat) : FnK β := fun call args L m k =>
 un0 args (call 48 [(.int .i64 (.ofNat 6)), (.int .i64 (.ofNat 8))] L m fun t0 m1 =>
 call 16 [t0] L m1 fun t2 m3 =>
 oOpt (aextract t2 0) fun t4 =>
 oOpt (aextract t2 1) fun t5 =>
 oRes (anew m3 1 [(.int .i64 (.ofNat 0)), (.int .i64 (.ofNat 0))] ptrTo) fun t6 m7 =>
 oRes (st1 2 L m7 t6 t4) fun t8 m9 =>
 oRes (bs Tryd.prog m9 30 3 [(0, (.int .i64 (.ofNat 2))), (1, (.int .i64 (.ofNat 3))), (2, (.int .i64 (.ofNat 7)))]) fun t10 m11 =>
 call 47 [t10] L m11 fun t12 m13 =>
 call 32 [t12] L m13 fun t14 m15 =>
 oOpt (aextract t14 0) fun t16 =>
 oOpt (aextract t14 1) fun t17 =>
 oOpt (aextract t14 2) fun t18 =>
 call 48 [(.int .i64 (.ofNat 3)), (.int .i64 (.ofNat 7))] L m15 fun t19 m20 =>
 call 18 [t19] L m20 fun t21 m22 =>
 oOpt (aextract t21 0) fun t23 =>
 oOpt (aextract t21 1) fun t24 =>
 call 40 [(.int .i64 (.ofNat 4))] L m22 fun t25 m26 =>
 oOpt (aextract t25 0) fun t27 =>
 oOpt (aextract t25 1) fun t28 =>
 call 48 [(.int .i64 (.ofNat 2)), (.int .i64 (.ofNat 7))] L m26 fun t29 m30 =>
 call 23 [t29] L m30 fun t31 m32 =>
 oOpt (aextract t31 0) fun t33 =>
 oOpt (aextract t31 1) fun t34 =>
 call 48 [(.int .i64 (.ofNat 5)), (.int .i64 (.ofNat 6))] L m32 fun t35 m36 =>
 call 25 [t35] L m36 fun t37 m38 =>
 oOpt (aextract t37 0) fun t39 =>
 oOpt (aextract t37 1) fun t40 =>
 oOpt (aextract t37 2) fun t41 =>
 call 48 [(.int .i64 (.ofNat 4)), (.int .i64 (.ofNat 5))] L m38 fun t42 m43 =>
 call 28 [t42] L m43 fun t44 m45 =>
 oOpt (aextract t44 0) fun t46 =>
 oOpt (aextract t44 1) fun t47 =>
 oInt .neq .i64 t5 (.int .i64 (.ofNat 0)) fun t48 =>
 join (fun l49 m50 =>
 uc l49 fun t52 l53 =>
 oPick t48 (.bool true) t52 fun t54 =>
 join (fun l55 m56 =>
 uc l55 fun t58 l59 =>
 oPick t54 (.bool true) t58 fun t60 =>
 join (fun l61 m62 =>
 uc l61 fun t64 l65 =>
 oPick t60 (.bool true) t64 fun t66 =>
 join (fun l67 m68 =>
 uc l67 fun t70 l71 =>
 oPick t66 (.bool true) t70 fun t72 =>
 join (fun l73 m74 =>
 uc l73 fun t76 l77 =>
 oPick t72 (.bool true) t76 fun t78 =>
 join (fun l79 m80 =>
 uc l79 fun t82 l83 =>
 oPick t78 (.bool true) t82 fun t84 =>
 oIf t84 (k (.bool false) m80) (call 48 [(.int .i64 (.ofNat 1)), (.int .i64 (.ofNat 4))] L m80 fun t85 m86 =>
 call 30 [t85, (.int .i64 (.ofNat 2))] L m86 fun t87 m88 =>
 oOpt (aextract t87 0) fun t89 =>
 oOpt (aextract t87 1) fun t90 =>
 oRes (bs Tryd.prog m88 30 2 [(0, (.int .i64 (.ofNat 3))), (1, (.int .i64 (.ofNat 6)))]) fun t91 m92 =>
 call 47 [t91] L m92 fun t93 m94 =>
 call 34 [t93, (.int .i64 (.ofNat 1))] L m94 fun t95 m96 =>
 oOpt (aextract t95 0) fun t97 =>
 oOpt (aextract t95 1) fun t98 =>
 oRes (bs Tryd.prog m96 30 2 [(0, (.int .i64 (.ofNat 3))), (1, (.int .i64 (.ofNat 6)))]) fun t99 m100 =>
 call 47 [t99] L m100 fun t101 m102 =>
 call 36 [(.int .i64 (.ofNat 100)), t101] L m102 fun t103 m104 =>
 oOpt (aextract t103 0) fun t105 =>
 oOpt (aextract t103 1) fun t106 =>
 oOpt (aextract t103 2) fun t107 =>
 call 48 [(.int .i64 (.ofNat 3)), (.int .i64 (.ofNat 7))] L m104 fun t108 m109 =>
 call 23 [t108] L m109 fun t110 m111 =>
 oOpt (aextract t110 0) fun t112 =>
 oOpt (aextract t110 1) fun t113 =>
 call 48 [(.int .i64 (.ofNat 4)), (.int .i64 (.ofNat 17))] L m111 fun t114 m115 =>
 call 18 [t114] L m115 fun t116 m117 =>
 oOpt (aextract t116 0) fun t118 =>
 oOpt (aextract t116 1) fun t119 =>
 call 48 [(.int .i64 (.ofNat 8)), (.int .i64 (.ofNat 11))] L m117 fun t120 m121 =>
 call 28 [t120] L m121 fun t122 m123 =>
 oOpt (aextract t122 0) fun t124 =>
 oOpt (aextract t122 1) fun t125 =>
 oRes (bs Tryd.prog m123 30 2 [(0, (.int .i64 (.ofNat 2))), (1, (.int .i64 (.ofNat 3)))]) fun t126 m127 =>
 call 47 [t126] L m127 fun t128 m129 =>
 call 34 [t128, (.int .i64 (.ofNat 0))] L m129 fun t130 m131 =>
 oOpt (aextract t130 0) fun t132 =>
 oOpt (aextract t130 1) fun t133 =>
 oInt .eql .i64 t90 (.int .i64 (.ofNat 0)) fun t134 =>
 join (fun l135 m136 =>
 uc l135 fun t138 l139 =>
 oPick t134 t138 (.bool false) fun t140 =>
 join (fun l141 m142 =>
 uc l141 fun t144 l145 =>
 oPick t140 t144 (.bool false) fun t146 =>
 join (fun l147 m148 =>
 uc l147 fun t150 l151 =>
 oPick t146 t150 (.bool false) fun t152 =>
 join (fun l153 m154 =>
 uc l153 fun t156 l157 =>
 oPick t152 t156 (.bool false) fun t158 =>
 join (fun l159 m160 =>
 uc l159 fun t162 l163 =>
 oPick t158 t162 (.bool false) fun t164 =>
 join (fun l165 m166 =>
 uc l165 fun t168 l169 =>
 oPick t164 t168 (.bool false) fun t170 =>
 join (fun l171 m172 =>
 uc l171 fun t174 l175 =>
 oPick t170 t174 (.bool false) fun t176 =>
 join (fun l177 m178 =>
 uc l177 fun t180 l181 =>
 oPick t176 t180 (.bool false) fun t182 =>
 join (fun l183 m184 =>
 uc l183 fun t186 l187 =>
 oPick t182 t186 (.bool false) fun t188 =>
 join (fun l189 m190 =>
 uc l189 fun t192 l193 =>
 oPick t188 t192 (.bool false) fun t194 =>
 join (fun l195 m196 =>
 uc l195 fun t198 l199 =>
 oPick t194 t198 (.bool false) fun t200 =>
 join (fun l201 m202 =>
 uc l201 fun t204 l205 =>
 oPick t200 t204 (.bool false) fun t206 =>
 join (fun l207 m208 =>
 uc l207 fun t210 l211 =>
 oPick t206 t210 (.bool false) fun t212 =>
 join (fun l213 m214 =>
 uc l213 fun t216 l217 =>
 oPick t212 t216 (.bool false) fun t218 =>
 join (fun l219 m220 =>
 uc l219 fun t222 l223 =>
 oPick t218 t222 (.bool false) fun t224 =>
 join (fun l225 m226 =>
 uc l225 fun t228 l229 =>
 oPick t224 t228 (.bool false) fun t230 =>
 join (fun l231 m232 =>
 uc l231 fun t234 l235 =>
 oPick t230 t234 (.bool false) fun t236 =>
 join (fun l237 m238 =>
 uc l237 fun t240 l241 =>
 oPick t236 t240 (.bool false) fun t242 =>
 join (fun l243 m244 =>
 uc l243 fun t246 l247 =>
 oPick t242 t246 (.bool false) fun t248 =>
 k t248 m244) fun j245 =>
 oGT t242 (oInt .eql .i64 t106 (.int .i64 (.ofNat 1)) fun t249 =>
 j245 [t249] m238) (j245 [Go.undef] m238)) fun j239 =>
 oGT t236 (oRes (bs Tryd.prog m232 30 2 [(0, (.int .i64 (.ofNat 33))), (1, (.int .i64 (.ofNat 16)))]) fun t250 m251 =>
 call 47 [t250] L m251 fun t252 m253 =>
 call 20 [t105, t252] L m253 fun t254 m255 =>
 j239 [t254] m255) (j239 [Go.undef] m232)) fun j233 =>
 oGT t230 (oRes (bs Tryd.prog m226 30 3 [(0, (.int .i64 (.ofNat 3))), (1, (.int .i64 (.ofNat 7))), (2, (.int .i64 (.ofNat 42)))]) fun t256 m257 =>
 call 47 [t256] L m257 fun t258 m259 =>
 call 20 [t97, t258] L m259 fun t260 m261 =>
 j233 [t260] m261) (j233 [Go.undef] m226)) fun j227 =>
 oGT t224 (oInt .eql .i64 t89 (.int .i64 (.ofNat 2)) fun t262 =>
 j227 [t262] m220) (j227 [Go.undef] m220)) fun j221 =>
 oGT t218 (oRes (bs Tryd.prog m214 30 3 [(0, (.int .i64 (.ofNat 2))), (1, (.int .i64 (.ofNat 4))), (2, (.int .i64 (.ofNat 20)))]) fun t263 m264 =>
 call 47 [t263] L m264 fun t265 m266 =>
 call 20 [t46, t265] L m266 fun t267 m268 =>
 j221 [t267] m268) (j221 [Go.undef] m214)) fun j215 =>
 oGT t212 (oInt .eql .i64 t40 (.int .i64 (.ofNat 3)) fun t269 =>
 j215 [t269] m208) (j215 [Go.undef] m208)) fun j209 =>
 oGT t206 (oInt .eql .i64 t39 (.int .i64 (.ofNat 2)) fun t270 =>
 j209 [t270] m202) (j209 [Go.undef] m202)) fun j203 =>
 oGT t200 (oRes (bs Tryd.prog m196 30 2 [(0, (.int .i64 (.ofNat 4))), (1, (.int .i64 (.ofNat 28)))]) fun t271 m272 =>
 call 47 [t271] L m272 fun t273 m274 =>
 call 20 [t33, t273] L m274 fun t275 m276 =>
 j203 [t275] m276) (j203 [Go.undef] m196)) fun j197 =>
 oGT t194 (oOpt (bu Tryd.prog 68 [(0, (.int .i64 (.ofNat 5))), (1, (.int .i64 (.ofNat 20)))]) fun t277 =>
 oOpt (bu Tryd.prog 68 [(0, (.int .i64 (.ofNat 6))), (1, (.int .i64 (.ofNat 12)))]) fun t278 =>
 oRes (bs Tryd.prog m190 52 2 [(0, t277), (1, t278)]) fun t279 m280 =>
 call 42 [t27, t279] L m280 fun t281 m282 =>
 j197 [t281] m282) (j197 [Go.undef] m190)) fun j191 =>
 oGT t188 (oRes (bs Tryd.prog m184 30 3 [(0, (.int .i64 (.ofNat 3))), (1, (.int .i64 (.ofNat 11))), (2, (.int .i64 (.ofNat 231)))]) fun t283 m284 =>
 call 47 [t283] L m284 fun t285 m286 =>
 call 20 [t23, t285] L m286 fun t287 m288 =>
 j191 [t287] m288) (j191 [Go.undef] m184)) fun j185 =>
 oGT t182 (oInt .eql .i64 t17 (.int .i64 (.ofNat 42)) fun t289 =>
 j185 [t289] m178) (j185 [Go.undef] m178)) fun j179 =>
 oGT t176 (oInt .eql .i64 t16 (.int .i64 (.ofNat 41)) fun t290 =>
 j179 [t290] m172) (j179 [Go.undef] m172)) fun j173 =>
 oGT t170 (oOpt (ldN m166 2 t6) fun t291 =>
 call 48 [(.int .i64 (.ofNat 3)), (.int .i64 (.ofNat 4))] m166.next m166 fun t292 m293 =>
 oOpt (abin Tryd.prog .eql 23 t291 t292) fun t294 =>
 j173 [t294] m293) (j173 [Go.undef] m166)) fun j167 =>
 oGT t164 (oInt .eql .i64 t133 (.int .i64 (.ofNat 6)) fun t295 =>
 j167 [t295] m160) (j167 [Go.undef] m160)) fun j161 =>
 oGT t158 (oInt .eql .i64 t125 (.int .i64 (.ofNat 12)) fun t296 =>
 j161 [t296] m154) (j161 [Go.undef] m154)) fun j155 =>
 oGT t152 (oInt .eql .i64 t119 (.int .i64 (.ofNat 15)) fun t297 =>
 j155 [t297] m148) (j155 [Go.undef] m148)) fun j149 =>
 oGT t146 (oInt .eql .i64 t113 (.int .i64 (.ofNat 12)) fun t298 =>
 j149 [t298] m142) (j149 [Go.undef] m142)) fun j143 =>
 oGT t140 (oInt .eql .i64 t107 (.int .i64 (.ofNat 0)) fun t299 =>
 j143 [t299] m136) (j143 [Go.undef] m136)) fun j137 =>
 oGT t134 (oInt .eql .i64 t98 (.int .i64 (.ofNat 0)) fun t300 =>
 j137 [t300] m131) (j137 [Go.undef] m131))) fun j81 =>
 oGF t78 (oInt .neq .i64 t47 (.int .i64 (.ofNat 0)) fun t301 =>
 j81 [t301] m74) (j81 [Go.undef] m74)) fun j75 =>
 oGF t72 (oInt .neq .i64 t41 (.int .i64 (.ofNat 0)) fun t302 =>
 j75 [t302] m68) (j75 [Go.undef] m68)) fun j69 =>
 oGF t66 (oInt .neq .i64 t34 (.int .i64 (.ofNat 0)) fun t303 =>
 j69 [t303] m62) (j69 [Go.undef] m62)) fun j63 =>
 oGF t60 (oInt .neq .i64 t28 (.int .i64 (.ofNat 0)) fun t304 =>
 j63 [t304] m56) (j63 [Go.undef] m56)) fun j57 =>
 oGF t54 (oInt .neq .i64 t24 (.int .i64 (.ofNat 0)) fun t305 =>
 j57 [t305] m50) (j57 [Go.undef] m50)) fun j51 =>
 oGF t48 (oInt .neq .i64 t18 (.int .i64 (.ofNat 0)) fun t306 =>
 j51 [t306] m45) (j51 [Go.undef] m45))
theorem S27_ok (lf : Nat) (cK : CallK β) (args : List Value) (L : Nat) (m : Mem) (k : Value → Mem → Option β)  : S27 lf cK args L m k = denF Tryd.prog 1 K27 lf cK 27 args L m k := by kernel_rfl

end
end Go.Vit
