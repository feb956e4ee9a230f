/- Shallow texts of the seat's functions, printed by a program: part 4. -/
import Derived.Test.YtcaoifacidnhcaaDoorRows
import Derived.Test.YtcaoifacidnhcaaDoorCoreB
set_option linter.unusedVariables false
set_option maxRecDepth 100000
namespace Go.Vit
open Go Go.Proofs
section
variable {β : Type}
/-- vitola/duty.Fewest -/
def K28 : Kat := [(377, (0, [7])), (3023, (1, [20]))]
noncomputable def S28 (lf : Nat) : FnK β := fun call args L m k =>
 uc args fun t0 l1 =>
 un0 l1 (oRes (abox m t0) fun t2 m3 =>
 oOpt (ldN m3 2 t2) fun t4 =>
 call 52 [t4] L m3 fun t5 m6 =>
 oOpt (aextract t5 0) fun t7 =>
 oOpt (aextract t5 1) fun t8 =>
 oRes (anew m6 1 [(.int .i64 (.ofNat 0)), (.int .i64 (.ofNat 0))] ptrTo) fun t9 m10 =>
 oRes (st1 2 L m10 t9 t7) fun t11 m12 =>
 oInt .neq .i64 t8 (.int .i64 (.ofNat 0)) fun t13 =>
 oIf t13 (k (.tuple ⟨[(.slice none 0 0), t8]⟩) m12) (oRes (anew m12 1 [(.slice none 0 0)] ptrTo) fun t14 m15 =>
 loopS (fun j18 l16 m17 =>
 uc l16 fun t19 l20 =>
 oInt .leq .i64 t19 (.int .i64 (.ofNat 3)) fun t21 =>
 join (fun l22 m23 =>
 uc l22 fun t25 l26 =>
 oPick t21 t25 (.bool false) fun t27 =>
 oIf t27 (oOpt (ldN m23 2 t9) fun t28 =>
 call 61 [t28, (.slice none 0 0), t19, (.func (.func 62) #[] ⟨[t14]⟩)] L m23 fun t29 m30 =>
 oInt .add .i64 t19 (.int .i64 (.ofNat 1)) fun t31 =>
 j18 [t31] m30) (oOpt (ld1 m23 t14) fun t32 =>
 oOpt (abin Tryd.prog .eql 30 t32 (.slice none 0 0)) fun t33 =>
 oIf t33 (k (.tuple ⟨[(.slice none 0 0), (.int .i64 (.ofNat 12))]⟩) m23) (oOpt (ld1 m23 t14) fun t34 =>
 k (.tuple ⟨[t34, (.int .i64 (.ofNat 0))]⟩) m23))) fun j24 =>
 oGT t21 (oOpt (ld1 m17 t14) fun t35 =>
 oOpt (abin Tryd.prog .eql 30 t35 (.slice none 0 0)) fun t36 =>
 j24 [t36] m17) (j24 [Go.undef] m17)) lf [(.int .i64 (.ofNat 1))] m15))
theorem S28_ok (lf : Nat) (cK : CallK β) (args : List Value) (L : Nat) (m : Mem) (k : Value → Mem → Option β)  : S28 lf cK args L m k = denF Tryd.prog 1 K28 lf cK 28 args L m k := by kernel_rfl

/-- vitola/vitolaref13.Fewest -/
def K29 : Kat := [(185, (0, [5]))]
noncomputable def S29 (lf : Nat) : FnK β := fun call args L m k =>
 uc args fun t0 l1 =>
 un0 l1 (oRes (abox m t0) fun t2 m3 =>
 oOpt (ldN m3 2 t2) fun t4 =>
 call 22 [t4] L m3 fun t5 m6 =>
 oInt .neq .i64 t5 (.int .i64 (.ofNat 0)) fun t7 =>
 oIf t7 (k (.tuple ⟨[(.slice none 0 0), t5]⟩) m6) (loopS (fun j10 l8 m9 =>
 uc l8 fun t11 l12 =>
 oInt .leq .i64 t11 (.int .i64 (.ofNat 3)) fun t13 =>
 oIf t13 (oOpt (ldN m9 2 t2) fun t14 =>
 call 53 [t14] L m9 fun t15 m16 =>
 call 58 [t15, (.int .i64 (.ofNat 1)), t11] L m16 fun t17 m18 =>
 oOpt (ln t17) fun t19 =>
 oInt .gtr .i64 t19 (.int .i64 (.ofNat 0)) fun t20 =>
 oIf t20 (oOpt (ia 1 t17 (.int .i64 (.ofNat 0))) fun t21 =>
 oOpt (ld1 m18 t21) fun t22 =>
 k (.tuple ⟨[t22, (.int .i64 (.ofNat 0))]⟩) m18) (oInt .add .i64 t11 (.int .i64 (.ofNat 1)) fun t23 =>
 j10 [t23] m18)) (k (.tuple ⟨[(.slice none 0 0), (.int .i64 (.ofNat 12))]⟩) m9)) lf [(.int .i64 (.ofNat 1))] m6))
theorem S29_ok (lf : Nat) (cK : CallK β) (args : List Value) (L : Nat) (m : Mem) (k : Value → Mem → Option β)  : S29 lf cK args L m k = denF Tryd.prog 1 K29 lf cK 29 args L m k := by kernel_rfl

/-- vitola/duty.Ways -/
def K30 : Kat := []
noncomputable def S30 (lf : Nat) : FnK β := fun call args L m k =>
 uc args fun t0 l1 =>
 uc l1 fun t2 l3 =>
 un0 l3 (oRes (abox m t0) fun t4 m5 =>
 oOpt (ldN m5 2 t4) fun t6 =>
 call 52 [t6] L m5 fun t7 m8 =>
 oOpt (aextract t7 0) fun t9 =>
 oOpt (aextract t7 1) fun t10 =>
 oRes (anew m8 1 [(.int .i64 (.ofNat 0)), (.int .i64 (.ofNat 0))] ptrTo) fun t11 m12 =>
 oRes (st1 2 L m12 t11 t9) fun t13 m14 =>
 oInt .neq .i64 t10 (.int .i64 (.ofNat 0)) fun t15 =>
 oIf t15 (k (.tuple ⟨[(.int .i64 (.ofNat 0)), t10]⟩) m14) (call 63 [t2, (.int .i64 (.ofNat 1)), (.int .i64 (.ofNat 3))] L m14 fun t16 m17 =>
 oOpt (aun .not t16) fun t18 =>
 oIf t18 (k (.tuple ⟨[(.int .i64 (.ofNat 0)), (.int .i64 (.ofNat 1))]⟩) m17) (oRes (anew m17 1 [(.int .i64 (.ofNat 0))] ptrTo) fun t19 m20 =>
 oRes (st1 1 L m20 t19 (.int .i64 (.ofNat 0))) fun t21 m22 =>
 oOpt (ldN m22 2 t11) fun t23 =>
 call 61 [t23, (.slice none 0 0), t2, (.func (.func 64) #[] ⟨[t19]⟩)] L m22 fun t24 m25 =>
 oOpt (ld1 m25 t19) fun t26 =>
 k (.tuple ⟨[t26, (.int .i64 (.ofNat 0))]⟩) m25)))
theorem S30_ok (lf : Nat) (cK : CallK β) (args : List Value) (L : Nat) (m : Mem) (k : Value → Mem → Option β)  : S30 lf cK args L m k = denF Tryd.prog 1 K30 lf cK 30 args L m k := by kernel_rfl

/-- vitola/vitolaref13.Ways -/
def K31 : Kat := [(43, (1, [14])), (44, (0, [6]))]
noncomputable def S31 (lf : Nat) : FnK β := fun call args L m k =>
 uc args fun t0 l1 =>
 uc l1 fun t2 l3 =>
 un0 l3 (oRes (abox m t0) fun t4 m5 =>
 oOpt (ldN m5 2 t4) fun t6 =>
 call 22 [t6] L m5 fun t7 m8 =>
 oInt .eql .i64 t7 (.int .i64 (.ofNat 0)) fun t9 =>
 join (fun l10 m11 =>
 uc l10 fun t13 l14 =>
 oPick t9 t13 (.bool false) fun t15 =>
 join (fun l16 m17 =>
 uc l16 fun t19 l20 =>
 oInt .neq .i64 t19 (.int .i64 (.ofNat 0)) fun t21 =>
 oIf t21 (k (.tuple ⟨[(.int .i64 (.ofNat 0)), t19]⟩) m17) (oOpt (ldN m17 2 t4) fun t22 =>
 call 53 [t22] L m17 fun t23 m24 =>
 call 58 [t23, (.int .i64 (.ofNat 1)), t2] L m24 fun t25 m26 =>
 oOpt (ln t25) fun t27 =>
 k (.tuple ⟨[t27, (.int .i64 (.ofNat 0))]⟩) m26)) fun j18 =>
 oIf t15 (j18 [(.int .i64 (.ofNat 1))] m11) (j18 [t7] m11)) fun j12 =>
 oGT t9 (call 65 [t2, (.int .i64 (.ofNat 1)), (.int .i64 (.ofNat 3))] L m8 fun t28 m29 =>
 oOpt (aun .not t28) fun t30 =>
 j12 [t30] m29) (j12 [Go.undef] m8))
theorem S31_ok (lf : Nat) (cK : CallK β) (args : List Value) (L : Nat) (m : Mem) (k : Value → Mem → Option β)  : S31 lf cK args L m k = denF Tryd.prog 1 K31 lf cK 31 args L m k := by kernel_rfl

/-- vitola/duty.Sum -/
def K32 : Kat := []
noncomputable def S32 (lf : Nat) : FnK β := fun call args L m k =>
 uc args fun t0 l1 =>
 un0 l1 (call 38 [t0] L m fun t2 m3 =>
 oInt .neq .i64 t2 (.int .i64 (.ofNat 0)) fun t4 =>
 oIf t4 (k (.tuple ⟨[(.int .i64 (.ofNat 0)), (.int .i64 (.ofNat 0)), t2]⟩) m3) (call 66 [t0] L m3 fun t5 m6 =>
 oOpt (aextract t5 0) fun t7 =>
 oOpt (aextract t5 1) fun t8 =>
 call 67 [t7, t8] L m6 fun t9 m10 =>
 oInt .quo .i64 t7 t9 fun t11 =>
 oInt .quo .i64 t8 t9 fun t12 =>
 k (.tuple ⟨[t11, t12, (.int .i64 (.ofNat 0))]⟩) m10))
theorem S32_ok (lf : Nat) (cK : CallK β) (args : List Value) (L : Nat) (m : Mem) (k : Value → Mem → Option β)  : S32 lf cK args L m k = denF Tryd.prog 1 K32 lf cK 32 args L m k := by kernel_rfl

/-- vitola/vitolaref13.Sum -/
def K33 : Kat := []
noncomputable def S33 (lf : Nat) : FnK β := fun call args L m k =>
 uc args fun t0 l1 =>
 un0 l1 (call 39 [t0] L m fun t2 m3 =>
 oInt .neq .i64 t2 (.int .i64 (.ofNat 0)) fun t4 =>
 oIf t4 (k (.tuple ⟨[(.int .i64 (.ofNat 0)), (.int .i64 (.ofNat 0)), t2]⟩) m3) (call 68 [t0] L m3 fun t5 m6 =>
 oOpt (afieldV Tryd.prog 24 t5 0) fun t7 =>
 call 68 [t0] L m6 fun t8 m9 =>
 oOpt (afieldV Tryd.prog 24 t8 1) fun t10 =>
 k (.tuple ⟨[t7, t10, (.int .i64 (.ofNat 0))]⟩) m9))
theorem S33_ok (lf : Nat) (cK : CallK β) (args : List Value) (L : Nat) (m : Mem) (k : Value → Mem → Option β)  : S33 lf cK args L m k = denF Tryd.prog 1 K33 lf cK 33 args L m k := by kernel_rfl

/-- vitola/duty.Divide -/
def K34 : Kat := [(3045, (1, [46]))]
noncomputable def S34 (lf : Nat) : FnK β := fun call args L m k =>
 uc args fun t0 l1 =>
 uc l1 fun t2 l3 =>
 un0 l3 (call 38 [t0] L m fun t4 m5 =>
 oInt .neq .i64 t4 (.int .i64 (.ofNat 0)) fun t6 =>
 oIf t6 (k (.tuple ⟨[(.slice none 0 0), t4]⟩) m5) (oOpt (ln t0) fun t7 =>
 oInt .sub .i64 t7 (.int .i64 (.ofNat 1)) fun t8 =>
 call 63 [t2, (.int .i64 (.ofNat 0)), t8] L m5 fun t9 m10 =>
 oOpt (aun .not t9) fun t11 =>
 oIf t11 (k (.tuple ⟨[(.slice none 0 0), (.int .i64 (.ofNat 2))]⟩) m10) (oOpt (ln t0) fun t12 =>
 oInt .eql .i64 t12 (.int .i64 (.ofNat 4)) fun t13 =>
 oIf t13 (k (.tuple ⟨[(.slice none 0 0), (.int .i64 (.ofNat 3))]⟩) m10) (oOpt (ia 1 t0 t2) fun t14 =>
 oOpt (ld1 m10 t14) fun t15 =>
 oInt .add .i64 t15 (.int .i64 (.ofNat 1)) fun t16 =>
 oInt .mul .i64 t15 t16 fun t17 =>
 oInt .gtr .i64 t17 (.int .i64 (.ofNat 2000)) fun t18 =>
 oIf t18 (k (.tuple ⟨[(.slice none 0 0), (.int .i64 (.ofNat 15))]⟩) m10) (oInt .add .i64 t15 (.int .i64 (.ofNat 1)) fun t19 =>
 call 51 [t0, t19] L m10 fun t20 m21 =>
 join (fun l22 m23 =>
 uc l22 fun t25 l26 =>
 oPick t20 (.bool true) t25 fun t27 =>
 oIf t27 (k (.tuple ⟨[(.slice none 0 0), (.int .i64 (.ofNat 6))]⟩) m23) (call 70 [t0] L m23 fun t28 m29 =>
 oInt .add .i64 t2 (.int .i64 (.ofNat 1)) fun t30 =>
 call 69 [t28, t2, t30] L m29 fun t31 m32 =>
 oInt .add .i64 t15 (.int .i64 (.ofNat 1)) fun t33 =>
 oRes (bs Tryd.prog m32 30 2 [(0, t33), (1, t17)]) fun t34 m35 =>
 oRes (aappend Tryd.prog L m35 30 t31 t34) fun t36 m37 =>
 call 71 [t36] L m37 fun t38 m39 =>
 k (.tuple ⟨[t36, (.int .i64 (.ofNat 0))]⟩) m39)) fun j24 =>
 oGF t20 (call 51 [t0, t17] L m21 fun t40 m41 =>
 j24 [t40] m41) (j24 [Go.undef] m21))))))
theorem S34_ok (lf : Nat) (cK : CallK β) (args : List Value) (L : Nat) (m : Mem) (k : Value → Mem → Option β)  : S34 lf cK args L m k = denF Tryd.prog 1 K34 lf cK 34 args L m k := by kernel_rfl

/-- vitola/vitolaref13.Divide -/
def K35 : Kat := [(43, (1, [20])), (44, (0, [6])), (91, (1, [27])), (92, (0, [6])), (1531, (1, [51])), (12281, (0, [8, 9])), (393031, (1, [67])), (393031, (3, [73])), (393031, (4, [76])), (393031, (5, [77])), (393032, (0, [8]))]
noncomputable def S35 (lf : Nat) : FnK β := fun call args L m k =>
 uc args fun t0 l1 =>
 uc l1 fun t2 l3 =>
 un0 l3 (call 39 [t0] L m fun t4 m5 =>
 oInt .eql .i64 t4 (.int .i64 (.ofNat 0)) fun t6 =>
 join (fun l7 m8 =>
 uc l7 fun t10 l11 =>
 oPick t6 t10 (.bool false) fun t12 =>
 join (fun l13 m14 =>
 uc l13 fun t16 l17 =>
 oInt .eql .i64 t16 (.int .i64 (.ofNat 0)) fun t18 =>
 join (fun l19 m20 =>
 uc l19 fun t22 l23 =>
 oPick t18 t22 (.bool false) fun t24 =>
 join (fun l25 m26 =>
 uc l25 fun t28 l29 =>
 oInt .neq .i64 t28 (.int .i64 (.ofNat 0)) fun t30 =>
 oIf t30 (k (.tuple ⟨[(.slice none 0 0), t28]⟩) m26) (oOpt (ia 1 t0 t2) fun t31 =>
 oOpt (ld1 m26 t31) fun t32 =>
 oInt .add .i64 t32 (.int .i64 (.ofNat 1)) fun t33 =>
 oInt .mul .i64 t32 t33 fun t34 =>
 oInt .gtr .i64 t34 (.int .i64 (.ofNat 2000)) fun t35 =>
 oIf t35 (k (.tuple ⟨[(.slice none 0 0), (.int .i64 (.ofNat 15))]⟩) m26) (oInt .add .i64 t32 (.int .i64 (.ofNat 1)) fun t36 =>
 call 72 [t0, t36] L m26 fun t37 m38 =>
 join (fun l39 m40 =>
 uc l39 fun t42 l43 =>
 oPick t37 (.bool true) t42 fun t44 =>
 oIf t44 (k (.tuple ⟨[(.slice none 0 0), (.int .i64 (.ofNat 6))]⟩) m40) (loopS (fun j47 l45 m46 =>
 uc l45 fun t48 l49 =>
 uc l49 fun t50 l51 =>
 oInt .leq .i64 t50 (.int .i64 (.ofNat 2000)) fun t52 =>
 oIf t52 (oInt .add .i64 t32 (.int .i64 (.ofNat 1)) fun t53 =>
 oInt .eql .i64 t50 t53 fun t54 =>
 join (fun l55 m56 =>
 uc l55 fun t58 l59 =>
 oPick t54 (.bool true) t58 fun t60 =>
 join (fun l61 m62 =>
 uc l61 fun t64 l65 =>
 join (fun l66 m67 =>
 uc l66 fun t69 l70 =>
 join (fun l71 m72 =>
 uc l71 fun t74 l75 =>
 oPick t60 (.bool true) t74 fun t76 =>
 join (fun l77 m78 =>
 uc l77 fun t80 l81 =>
 oInt .add .i64 t50 (.int .i64 (.ofNat 1)) fun t82 =>
 j47 [t80, t82] m78) fun j79 =>
 oIf t76 (oRes (bs Tryd.prog m72 30 1 [(0, t50)]) fun t83 m84 =>
 oRes (aappend Tryd.prog L m84 30 t48 t83) fun t85 m86 =>
 j79 [t85] m86) (j79 [t48] m72)) fun j73 =>
 oGF t60 (oPick t64 t69 (.bool false) fun t87 =>
 j73 [t87] m67) (j73 [Go.undef] m67)) fun j68 =>
 oGT t64 (call 72 [t0, t50] L m62 fun t88 m89 =>
 j68 [t88] m89) (j68 [Go.undef] m62)) fun j63 =>
 oGF t60 (oInt .neq .i64 t50 t32 fun t90 =>
 j63 [t90] m56) (j63 [Go.undef] m56)) fun j57 =>
 oGF t54 (oInt .add .i64 t32 (.int .i64 (.ofNat 1)) fun t91 =>
 oInt .mul .i64 t32 t91 fun t92 =>
 oInt .eql .i64 t50 t92 fun t93 =>
 j57 [t93] m46) (j57 [Go.undef] m46)) (k (.tuple ⟨[t48, (.int .i64 (.ofNat 0))]⟩) m46)) lf [(.slice none 0 0), (.int .i64 (.ofNat 2))] m40)) fun j41 =>
 oGF t37 (oInt .add .i64 t32 (.int .i64 (.ofNat 1)) fun t94 =>
 oInt .mul .i64 t32 t94 fun t95 =>
 call 72 [t0, t95] L m38 fun t96 m97 =>
 j41 [t96] m97) (j41 [Go.undef] m38)))) fun j27 =>
 oIf t24 (j27 [(.int .i64 (.ofNat 3))] m20) (j27 [t16] m20)) fun j21 =>
 oGT t18 (oOpt (ln t0) fun t98 =>
 oInt .eql .i64 t98 (.int .i64 (.ofNat 4)) fun t99 =>
 j21 [t99] m14) (j21 [Go.undef] m14)) fun j15 =>
 oIf t12 (j15 [(.int .i64 (.ofNat 2))] m8) (j15 [t4] m8)) fun j9 =>
 oGT t6 (oOpt (ln t0) fun t100 =>
 oInt .sub .i64 t100 (.int .i64 (.ofNat 1)) fun t101 =>
 call 65 [t2, (.int .i64 (.ofNat 0)), t101] L m5 fun t102 m103 =>
 oOpt (aun .not t102) fun t104 =>
 j9 [t104] m103) (j9 [Go.undef] m5))
theorem S35_ok (lf : Nat) (cK : CallK β) (args : List Value) (L : Nat) (m : Mem) (k : Value → Mem → Option β)  : S35 lf cK args L m k = denF Tryd.prog 1 K35 lf cK 35 args L m k := by kernel_rfl

/-- vitola/duty.Cents -/
def K36 : Kat := [(761, (0, [4, 10, 28]))]
noncomputable def S36 (lf : Nat) : FnK β := fun call args L m k =>
 uc args fun t0 l1 =>
 uc l1 fun t2 l3 =>
 un0 l3 (call 63 [t0, (.int .i64 (.ofNat 0)), (.int .i64 (.ofNat 100000))] L m fun t4 m5 =>
 oOpt (aun .not t4) fun t6 =>
 oIf t6 (k (.tuple ⟨[(.slice none 0 0), (.int .i64 (.ofNat 0)), (.int .i64 (.ofNat 1))]⟩) m5) (call 38 [t2] L m5 fun t7 m8 =>
 oInt .neq .i64 t7 (.int .i64 (.ofNat 0)) fun t9 =>
 oIf t9 (k (.tuple ⟨[(.slice none 0 0), (.int .i64 (.ofNat 0)), t7]⟩) m8) (call 66 [t2] L m8 fun t10 m11 =>
 oOpt (aextract t10 0) fun t12 =>
 oOpt (aextract t10 1) fun t13 =>
 oOpt (ln t2) fun t14 =>
 loopS (fun j17 l15 m16 =>
 uc l15 fun t18 l19 =>
 uc l19 fun t20 l21 =>
 uc l21 fun t22 l23 =>
 oInt .lss .i64 t22 t14 fun t24 =>
 oIf t24 (oOpt (ia 1 t2 t22) fun t25 =>
 oOpt (ld1 m16 t25) fun t26 =>
 oInt .quo .i64 t0 t26 fun t27 =>
 oRes (bs Tryd.prog m16 30 1 [(0, t27)]) fun t28 m29 =>
 oRes (aappend Tryd.prog L m29 30 t18 t28) fun t30 m31 =>
 oInt .rem .i64 t0 t26 fun t32 =>
 oInt .quo .i64 t13 t26 fun t33 =>
 oInt .mul .i64 t32 t33 fun t34 =>
 oInt .add .i64 t20 t34 fun t35 =>
 oInt .add .i64 t22 (.int .i64 (.ofNat 1)) fun t36 =>
 j17 [t30, t35, t36] m31) (oInt .quo .i64 t20 t13 fun t37 =>
 k (.tuple ⟨[t18, t37, (.int .i64 (.ofNat 0))]⟩) m16)) lf [(.slice none 0 0), (.int .i64 (.ofNat 0)), (.int .i64 (.ofNat 0))] m11)))
theorem S36_ok (lf : Nat) (cK : CallK β) (args : List Value) (L : Nat) (m : Mem) (k : Value → Mem → Option β)  : S36 lf cK args L m k = denF Tryd.prog 1 K36 lf cK 36 args L m k := by kernel_rfl

/-- vitola/vitolaref13.Cents -/
def K37 : Kat := [(44, (0, [7])), (1529, (0, [8, 9, 10]))]
noncomputable def S37 (lf : Nat) : FnK β := fun call args L m k =>
 uc args fun t0 l1 =>
 uc l1 fun t2 l3 =>
 un0 l3 (call 39 [t2] L m fun t4 m5 =>
 call 65 [t0, (.int .i64 (.ofNat 0)), (.int .i64 (.ofNat 100000))] L m5 fun t6 m7 =>
 oOpt (aun .not t6) fun t8 =>
 join (fun l9 m10 =>
 uc l9 fun t12 l13 =>
 oInt .neq .i64 t12 (.int .i64 (.ofNat 0)) fun t14 =>
 oIf t14 (k (.tuple ⟨[(.slice none 0 0), (.int .i64 (.ofNat 0)), t12]⟩) m10) (call 68 [t2] L m10 fun t15 m16 =>
 oOpt (afieldV Tryd.prog 24 t15 0) fun t17 =>
 oInt .mul .i64 t0 t17 fun t18 =>
 call 68 [t2] L m16 fun t19 m20 =>
 oOpt (afieldV Tryd.prog 24 t19 1) fun t21 =>
 oInt .quo .i64 t18 t21 fun t22 =>
 loopS (fun j25 l23 m24 =>
 uc l23 fun t26 l27 =>
 uc l27 fun t28 l29 =>
 uc l29 fun t30 l31 =>
 oOpt (ln t2) fun t32 =>
 oInt .lss .i64 t30 t32 fun t33 =>
 oIf t33 (oOpt (ia 1 t2 t30) fun t34 =>
 oOpt (ld1 m24 t34) fun t35 =>
 oInt .quo .i64 t0 t35 fun t36 =>
 oRes (bs Tryd.prog m24 30 1 [(0, t36)]) fun t37 m38 =>
 oRes (aappend Tryd.prog L m38 30 t26 t37) fun t39 m40 =>
 oOpt (ia 1 t2 t30) fun t41 =>
 oOpt (ld1 m40 t41) fun t42 =>
 oInt .quo .i64 t0 t42 fun t43 =>
 oInt .sub .i64 t28 t43 fun t44 =>
 oInt .add .i64 t30 (.int .i64 (.ofNat 1)) fun t45 =>
 j25 [t39, t44, t45] m40) (k (.tuple ⟨[t26, t28, (.int .i64 (.ofNat 0))]⟩) m24)) lf [(.slice none 0 0), t22, (.int .i64 (.ofNat 0))] m20)) fun j11 =>
 oIf t8 (j11 [(.int .i64 (.ofNat 1))] m7) (j11 [t4] m7))
theorem S37_ok (lf : Nat) (cK : CallK β) (args : List Value) (L : Nat) (m : Mem) (k : Value → Mem → Option β)  : S37 lf cK args L m k = denF Tryd.prog 1 K37 lf cK 37 args L m k := by kernel_rfl

/-- vitola/duty.CheckParts -/
def K38 : Kat := [(185, (0, [3, 11]))]
noncomputable def S38 (lf : Nat) : FnK β := fun call args L m k =>
 uc args fun t0 l1 =>
 un0 l1 (oOpt (ln t0) fun t2 =>
 oInt .gtr .i64 t2 (.int .i64 (.ofNat 4)) fun t3 =>
 oIf t3 (k (.int .i64 (.ofNat 3)) m) (oOpt (ln t0) fun t4 =>
 loopS (fun j7 l5 m6 =>
 uc l5 fun t8 l9 =>
 uc l9 fun t10 l11 =>
 oInt .lss .i64 t10 t4 fun t12 =>
 oIf t12 (oOpt (ia 1 t0 t10) fun t13 =>
 oOpt (ld1 m6 t13) fun t14 =>
 call 63 [t14, (.int .i64 (.ofNat 2)), (.int .i64 (.ofNat 2000))] L m6 fun t15 m16 =>
 oOpt (aun .not t15) fun t17 =>
 oIf t17 (k (.int .i64 (.ofNat 1)) m16) (oInt .leq .i64 t14 t8 fun t18 =>
 oIf t18 (k (.int .i64 (.ofNat 7)) m16) (oInt .add .i64 t10 (.int .i64 (.ofNat 1)) fun t19 =>
 j7 [t14, t19] m16))) (k (.int .i64 (.ofNat 0)) m6)) lf [(.int .i64 (.ofNat 0)), (.int .i64 (.ofNat 0))] m))
theorem S38_ok (lf : Nat) (cK : CallK β) (args : List Value) (L : Nat) (m : Mem) (k : Value → Mem → Option β)  : S38 lf cK args L m k = denF Tryd.prog 1 K38 lf cK 38 args L m k := by kernel_rfl

/-- vitola/vitolaref13.CheckParts -/
def K39 : Kat := [(89, (0, [3])), (5777, (1, [31]))]
noncomputable def S39 (lf : Nat) : FnK β := fun call args L m k =>
 uc args fun t0 l1 =>
 un0 l1 (oOpt (ln t0) fun t2 =>
 oInt .gtr .i64 t2 (.int .i64 (.ofNat 4)) fun t3 =>
 oIf t3 (k (.int .i64 (.ofNat 3)) m) (loopS (fun j6 l4 m5 =>
 uc l4 fun t7 l8 =>
 oOpt (ln t0) fun t9 =>
 oInt .lss .i64 t7 t9 fun t10 =>
 oIf t10 (oOpt (ia 1 t0 t7) fun t11 =>
 oOpt (ld1 m5 t11) fun t12 =>
 call 65 [t12, (.int .i64 (.ofNat 2)), (.int .i64 (.ofNat 2000))] L m5 fun t13 m14 =>
 oOpt (aun .not t13) fun t15 =>
 oIf t15 (k (.int .i64 (.ofNat 1)) m14) (oInt .gtr .i64 t7 (.int .i64 (.ofNat 0)) fun t16 =>
 join (fun l17 m18 =>
 uc l17 fun t20 l21 =>
 oPick t16 t20 (.bool false) fun t22 =>
 oIf t22 (k (.int .i64 (.ofNat 7)) m18) (oInt .add .i64 t7 (.int .i64 (.ofNat 1)) fun t23 =>
 j6 [t23] m18)) fun j19 =>
 oGT t16 (oOpt (ia 1 t0 t7) fun t24 =>
 oOpt (ld1 m14 t24) fun t25 =>
 oInt .sub .i64 t7 (.int .i64 (.ofNat 1)) fun t26 =>
 oOpt (ia 1 t0 t26) fun t27 =>
 oOpt (ld1 m14 t27) fun t28 =>
 oInt .leq .i64 t25 t28 fun t29 =>
 j19 [t29] m14) (j19 [Go.undef] m14))) (k (.int .i64 (.ofNat 0)) m5)) lf [(.int .i64 (.ofNat 0))] m))
theorem S39_ok (lf : Nat) (cK : CallK β) (args : List Value) (L : Nat) (m : Mem) (k : Value → Mem → Option β)  : S39 lf cK args L m k = denF Tryd.prog 1 K39 lf cK 39 args L m k := by kernel_rfl

end
end Go.Vit
