/- Shallow texts of the seat's functions, printed by a program: part 2. -/
import Derived.Test.YtnmmjbclidbdbaaDoorRows
import Derived.Test.YtnmmjbclidbdbaaDoorFs
set_option linter.unusedVariables false
set_option maxRecDepth 100000
namespace Go.Vit
open Go Go.Proofs
section
variable {β : Type}
/-- vitola/dock.Lucky -/
def K25 : Kat := [(185, (0, [8, 20])), (95436, (0, [8])), (763498, (0, [8]))]
noncomputable def S25 (lf : Nat) : FnK β := fun call args L m k =>
 uc args fun t0 l1 =>
 uc l1 fun t2 l3 =>
 un0 l3 (call 56 [t0, t2] L m fun t4 m5 =>
 oOpt (aextract t4 0) fun t6 =>
 oOpt (aextract t4 1) fun t7 =>
 oOpt (ln t6) fun t8 =>
 loopS (fun j11 l9 m10 =>
 uc l9 fun t12 l13 =>
 uc l13 fun t14 l15 =>
 oInt .lss .i64 t14 t8 fun t16 =>
 oIf t16 (oOpt (ia 1 t6 t14) fun t17 =>
 oOpt (ld1 m10 t17) fun t18 =>
 oOpt (aassert Tryd.prog t18 70 true) fun t19 =>
 oOpt (aextract t19 1) fun t20 =>
 oOpt (aextract t19 0) fun t21 =>
 join (fun l22 m23 =>
 uc l22 fun t25 l26 =>
 oInt .add .i64 t14 (.int .i64 (.ofNat 1)) fun t27 =>
 j11 [t25, t27] m23) fun j24 =>
 oIf t20 (oRes (anew m10 1 [(.int .i64 (.ofNat 0)), (.int .i64 (.ofNat 0))] ptrTo) fun t28 m29 =>
 oRes (st1 2 L m29 t28 t21) fun t30 m31 =>
 oOpt (fa 1 t28) fun t32 =>
 oOpt (ld1 m31 t32) fun t33 =>
 oInt .eql .i64 t33 (.int .i64 (.ofNat 0)) fun t34 =>
 join (fun l35 m36 =>
 uc l35 fun t38 l39 =>
 j24 [t38] m36) fun j37 =>
 oIf t34 (oInt .add .i64 t12 (.int .i64 (.ofNat 1)) fun t40 =>
 j37 [t40] m31) (j37 [t12] m31)) (j24 [t12] m10)) (k (.tuple ⟨[t12, t7]⟩) m10)) lf [(.int .i64 (.ofNat 0)), (.int .i64 (.ofNat 0))] m5)
theorem S25_ok (lf : Nat) (cK : CallK β) (args : List Value) (L : Nat) (m : Mem) (k : Value → Mem → Option β)  : S25 lf cK args L m k = denF Tryd.prog fsT 2 K25 lf cK 25 args L m k := by kernel_rfl

/-- vitola/vitolaref01.Lucky -/
def K26 : Kat := [(761, (0, [7, 9])), (24392, (0, [7]))]
noncomputable def S26 (lf : Nat) : FnK β := fun call args L m k =>
 uc args fun t0 l1 =>
 uc l1 fun t2 l3 =>
 un0 l3 (call 28 [t0, t2] L m fun t4 m5 =>
 oInt .neq .i64 t4 (.int .i64 (.ofNat 0)) fun t6 =>
 oIf t6 (k (.tuple ⟨[(.int .i64 (.ofNat 0)), t4]⟩) m5) (call 57 [t0, t2] L m5 fun t7 m8 =>
 loopS (fun j11 l9 m10 =>
 uc l9 fun t12 l13 =>
 uc l13 fun t14 l15 =>
 oOpt (ln t7) fun t16 =>
 oInt .lss .i64 t14 t16 fun t17 =>
 oIf t17 (oOpt (ia 1 t7 t14) fun t18 =>
 oOpt (ld1 m10 t18) fun t19 =>
 oOpt (ia 1 t2 t14) fun t20 =>
 oOpt (ld1 m10 t20) fun t21 =>
 oInt .eql .i64 t19 t21 fun t22 =>
 join (fun l23 m24 =>
 uc l23 fun t26 l27 =>
 oInt .add .i64 t14 (.int .i64 (.ofNat 1)) fun t28 =>
 j11 [t26, t28] m24) fun j25 =>
 oIf t22 (oInt .add .i64 t12 (.int .i64 (.ofNat 1)) fun t29 =>
 j25 [t29] m10) (j25 [t12] m10)) (k (.tuple ⟨[t12, (.int .i64 (.ofNat 0))]⟩) m10)) lf [(.int .i64 (.ofNat 0)), (.int .i64 (.ofNat 0))] m8))
theorem S26_ok (lf : Nat) (cK : CallK β) (args : List Value) (L : Nat) (m : Mem) (k : Value → Mem → Option β)  : S26 lf cK args L m k = denF Tryd.prog fsT 2 K26 lf cK 26 args L m k := by kernel_rfl

/-- vitola/dock.Check -/
def K27 : Kat := []
noncomputable def S27 (lf : Nat) : FnK β := fun call args L m k =>
 uc args fun t0 l1 =>
 uc l1 fun t2 l3 =>
 un0 l3 (oInt .sub .i64 t0 (.int .i64 (.ofNat 1)) fun t4 =>
 call 66 [t0, t4, t2] L m fun t5 m6 =>
 k t5 m6)
theorem S27_ok (lf : Nat) (cK : CallK β) (args : List Value) (L : Nat) (m : Mem) (k : Value → Mem → Option β)  : S27 lf cK args L m k = denF Tryd.prog fsT 2 K27 lf cK 27 args L m k := by kernel_rfl

/-- vitola/vitolaref01.Check -/
def K28 : Kat := [(185, (0, [5]))]
noncomputable def S28 (lf : Nat) : FnK β := fun call args L m k =>
 uc args fun t0 l1 =>
 uc l1 fun t2 l3 =>
 un0 l3 (call 63 [t0, (.int .i64 (.ofNat 1)), (.int .i64 (.ofNat 8))] L m fun t4 m5 =>
 oOpt (aun .not t4) fun t6 =>
 oIf t6 (k (.int .i64 (.ofNat 1)) m5) (oOpt (ln t2) fun t7 =>
 oInt .gtr .i64 t7 t0 fun t8 =>
 oIf t8 (k (.int .i64 (.ofNat 3)) m5) (loopS (fun j11 l9 m10 =>
 uc l9 fun t12 l13 =>
 oOpt (ln t2) fun t14 =>
 oInt .lss .i64 t12 t14 fun t15 =>
 oIf t15 (oOpt (ia 1 t2 t12) fun t16 =>
 oOpt (ld1 m10 t16) fun t17 =>
 oInt .sub .i64 t0 (.int .i64 (.ofNat 1)) fun t18 =>
 call 63 [t17, (.int .i64 (.ofNat 0)), t18] L m10 fun t19 m20 =>
 oOpt (aun .not t19) fun t21 =>
 oIf t21 (k (.int .i64 (.ofNat 2)) m20) (oInt .add .i64 t12 (.int .i64 (.ofNat 1)) fun t22 =>
 j11 [t22] m20)) (k (.int .i64 (.ofNat 0)) m10)) lf [(.int .i64 (.ofNat 0))] m5)))
theorem S28_ok (lf : Nat) (cK : CallK β) (args : List Value) (L : Nat) (m : Mem) (k : Value → Mem → Option β)  : S28 lf cK args L m k = denF Tryd.prog fsT 2 K28 lf cK 28 args L m k := by kernel_rfl

/-- vitola/dock.Against -/
def K29 : Kat := [(377, (0, [23]))]
noncomputable def S29 (lf : Nat) : FnK β := fun call args L m k =>
 uc args fun t0 l1 =>
 uc l1 fun t2 l3 =>
 un0 l3 (call 27 [t0, t2] L m fun t4 m5 =>
 oInt .neq .i64 t4 (.int .i64 (.ofNat 0)) fun t6 =>
 oIf t6 (k (.tuple ⟨[(.int .i64 (.ofNat 0)), t4]⟩) m5) (call 52 [t2] L m5 fun t7 m8 =>
 call 51 [t7] L m8 fun t9 m10 =>
 call 67 [t9] L m10 fun t11 m12 =>
 oOpt (ln t9) fun t13 =>
 loopS (fun j16 l14 m15 =>
 uc l14 fun t17 l18 =>
 oInt .lss .i64 t17 t13 fun t19 =>
 oIf t19 (oOpt (ia 1 t9 t17) fun t20 =>
 oOpt (ld1 m15 t20) fun t21 =>
 oInt .sub .i64 t0 t21 fun t22 =>
 oInt .geq .i64 t17 t22 fun t23 =>
 oIf t23 (oInt .sub .i64 t0 t21 fun t24 =>
 k (.tuple ⟨[t24, (.int .i64 (.ofNat 0))]⟩) m15) (oInt .add .i64 t17 (.int .i64 (.ofNat 1)) fun t25 =>
 j16 [t25] m15)) (k (.tuple ⟨[(.int .i64 (.ofNat 0)), (.int .i64 (.ofNat 13))]⟩) m15)) lf [(.int .i64 (.ofNat 0))] m12))
theorem S29_ok (lf : Nat) (cK : CallK β) (args : List Value) (L : Nat) (m : Mem) (k : Value → Mem → Option β)  : S29 lf cK args L m k = denF Tryd.prog fsT 2 K29 lf cK 29 args L m k := by kernel_rfl

/-- vitola/vitolaref01.Against -/
def K30 : Kat := [(185, (0, [7]))]
noncomputable def S30 (lf : Nat) : FnK β := fun call args L m k =>
 uc args fun t0 l1 =>
 uc l1 fun t2 l3 =>
 un0 l3 (call 28 [t0, t2] L m fun t4 m5 =>
 oInt .neq .i64 t4 (.int .i64 (.ofNat 0)) fun t6 =>
 oIf t6 (k (.tuple ⟨[(.int .i64 (.ofNat 0)), t4]⟩) m5) (loopS (fun j9 l7 m8 =>
 uc l7 fun t10 l11 =>
 oInt .leq .i64 t10 t0 fun t12 =>
 oIf t12 (call 68 [t0, t2, t10] L m8 fun t13 m14 =>
 oIf t13 (k (.tuple ⟨[t10, (.int .i64 (.ofNat 0))]⟩) m14) (oInt .add .i64 t10 (.int .i64 (.ofNat 1)) fun t15 =>
 j9 [t15] m14)) (k (.tuple ⟨[(.int .i64 (.ofNat 0)), (.int .i64 (.ofNat 13))]⟩) m8)) lf [(.int .i64 (.ofNat 1))] m5))
theorem S30_ok (lf : Nat) (cK : CallK β) (args : List Value) (L : Nat) (m : Mem) (k : Value → Mem → Option β)  : S30 lf cK args L m k = denF Tryd.prog fsT 2 K30 lf cK 30 args L m k := by kernel_rfl

/-- vitola/dock.Proves -/
def K31 : Kat := []
noncomputable def S31 (lf : Nat) : FnK β := fun call args L m k =>
 uc args fun t0 l1 =>
 uc l1 fun t2 l3 =>
 uc l3 fun t4 l5 =>
 un0 l5 (call 27 [t0, t2] L m fun t6 m7 =>
 oInt .neq .i64 t6 (.int .i64 (.ofNat 0)) fun t8 =>
 oIf t8 (k t6 m7) (call 61 [t4, (.int .i64 (.ofNat 1)), t0] L m7 fun t9 m10 =>
 oOpt (aun .not t9) fun t11 =>
 oIf t11 (k (.int .i64 (.ofNat 1)) m10) (call 69 [t0, t2, t4] L m10 fun t12 m13 =>
 oOpt (aun .not t12) fun t14 =>
 oIf t14 (k (.int .i64 (.ofNat 14)) m13) (k (.int .i64 (.ofNat 0)) m13))))
theorem S31_ok (lf : Nat) (cK : CallK β) (args : List Value) (L : Nat) (m : Mem) (k : Value → Mem → Option β)  : S31 lf cK args L m k = denF Tryd.prog fsT 2 K31 lf cK 31 args L m k := by kernel_rfl

/-- vitola/vitolaref01.Proves -/
def K32 : Kat := [(43, (1, [17])), (44, (0, [7])), (91, (1, [26])), (92, (0, [7]))]
noncomputable def S32 (lf : Nat) : FnK β := fun call args L m k =>
 uc args fun t0 l1 =>
 uc l1 fun t2 l3 =>
 uc l3 fun t4 l5 =>
 un0 l5 (call 28 [t0, t2] L m fun t6 m7 =>
 oInt .eql .i64 t6 (.int .i64 (.ofNat 0)) fun t8 =>
 join (fun l9 m10 =>
 uc l9 fun t12 l13 =>
 oPick t8 t12 (.bool false) fun t14 =>
 join (fun l15 m16 =>
 uc l15 fun t18 l19 =>
 oInt .eql .i64 t18 (.int .i64 (.ofNat 0)) fun t20 =>
 join (fun l21 m22 =>
 uc l21 fun t24 l25 =>
 oPick t20 t24 (.bool false) fun t26 =>
 join (fun l27 m28 =>
 uc l27 fun t30 l31 =>
 k t30 m28) fun j29 =>
 oIf t26 (j29 [(.int .i64 (.ofNat 14))] m22) (j29 [t18] m22)) fun j23 =>
 oGT t20 (call 68 [t0, t2, t4] L m16 fun t32 m33 =>
 oOpt (aun .not t32) fun t34 =>
 j23 [t34] m33) (j23 [Go.undef] m16)) fun j17 =>
 oIf t14 (j17 [(.int .i64 (.ofNat 1))] m10) (j17 [t6] m10)) fun j11 =>
 oGT t8 (call 63 [t4, (.int .i64 (.ofNat 1)), t0] L m7 fun t35 m36 =>
 oOpt (aun .not t35) fun t37 =>
 j11 [t37] m36) (j11 [Go.undef] m7))
theorem S32_ok (lf : Nat) (cK : CallK β) (args : List Value) (L : Nat) (m : Mem) (k : Value → Mem → Option β)  : S32 lf cK args L m k = denF Tryd.prog fsT 2 K32 lf cK 32 args L m k := by kernel_rfl

/-- vitola/dock.Count -/
def K33 : Kat := [(19, (1, [13]))]
noncomputable def S33 (lf : Nat) : FnK β := fun call args L m k =>
 uc args fun t0 l1 =>
 uc l1 fun t2 l3 =>
 un0 l3 (call 61 [t0, (.int .i64 (.ofNat 1)), (.int .i64 (.ofNat 8))] L m fun t4 m5 =>
 oOpt (aun .not t4) fun t6 =>
 join (fun l7 m8 =>
 uc l7 fun t10 l11 =>
 oPick t6 (.bool true) t10 fun t12 =>
 oIf t12 (k (.tuple ⟨[(.int .i64 (.ofNat 0)), (.int .i64 (.ofNat 1))]⟩) m8) (oRes (amakeMap m8) fun t13 m14 =>
 oOpt (bu Tryd.prog 86 [(0, t0), (1, t13)]) fun t15 =>
 call 70 [t15, (.int .u64 (.ofNat 0)), t2] L m14 fun t16 m17 =>
 k (.tuple ⟨[t16, (.int .i64 (.ofNat 0))]⟩) m17)) fun j9 =>
 oGF t6 (call 61 [t2, (.int .i64 (.ofNat 0)), t0] L m5 fun t18 m19 =>
 oOpt (aun .not t18) fun t20 =>
 j9 [t20] m19) (j9 [Go.undef] m5))
theorem S33_ok (lf : Nat) (cK : CallK β) (args : List Value) (L : Nat) (m : Mem) (k : Value → Mem → Option β)  : S33 lf cK args L m k = denF Tryd.prog fsT 2 K33 lf cK 33 args L m k := by kernel_rfl

/-- vitola/vitolaref01.Count -/
def K34 : Kat := [(19, (1, [13]))]
noncomputable def S34 (lf : Nat) : FnK β := fun call args L m k =>
 uc args fun t0 l1 =>
 uc l1 fun t2 l3 =>
 un0 l3 (call 63 [t0, (.int .i64 (.ofNat 1)), (.int .i64 (.ofNat 8))] L m fun t4 m5 =>
 oOpt (aun .not t4) fun t6 =>
 join (fun l7 m8 =>
 uc l7 fun t10 l11 =>
 oPick t6 (.bool true) t10 fun t12 =>
 oIf t12 (k (.tuple ⟨[(.int .i64 (.ofNat 0)), (.int .i64 (.ofNat 1))]⟩) m8) (call 71 [t0, (.slice none 0 0), t2] L m8 fun t13 m14 =>
 k (.tuple ⟨[t13, (.int .i64 (.ofNat 0))]⟩) m14)) fun j9 =>
 oGF t6 (call 63 [t2, (.int .i64 (.ofNat 0)), t0] L m5 fun t15 m16 =>
 oOpt (aun .not t15) fun t17 =>
 j9 [t17] m16) (j9 [Go.undef] m5))
theorem S34_ok (lf : Nat) (cK : CallK β) (args : List Value) (L : Nat) (m : Mem) (k : Value → Mem → Option β)  : S34 lf cK args L m k = denF Tryd.prog fsT 2 K34 lf cK 34 args L m k := by kernel_rfl

/-- vitola/dock.At -/
def K35 : Kat := [(1529, (0, [2, 12, 13])), (48968, (0, [2, 12])), (97937, (0, [2, 12, 47])), (1567013, (0, [2, 12]))]
noncomputable def S35 (lf : Nat) : FnK β := fun call args L m k =>
 uc args fun t0 l1 =>
 uc l1 fun t2 l3 =>
 uc l3 fun t4 l5 =>
 un0 l5 (call 33 [t0, t2] L m fun t6 m7 =>
 oOpt (aextract t6 0) fun t8 =>
 oOpt (aextract t6 1) fun t9 =>
 oInt .neq .i64 t9 (.int .i64 (.ofNat 0)) fun t10 =>
 oIf t10 (k (.tuple ⟨[(.slice none 0 0), t9]⟩) m7) (oInt .sub .i64 t8 (.int .i64 (.ofNat 1)) fun t11 =>
 call 61 [t4, (.int .i64 (.ofNat 0)), t11] L m7 fun t12 m13 =>
 oOpt (aun .not t12) fun t14 =>
 oIf t14 (k (.tuple ⟨[(.slice none 0 0), (.int .i64 (.ofNat 1))]⟩) m13) (oRes (amakeMap m13) fun t15 m16 =>
 oOpt (bu Tryd.prog 86 [(0, t0), (1, t15)]) fun t17 =>
 oRes (anew m16 1 [(.int .i64 (.ofNat 0)), (.map none)] ptrTo) fun t18 m19 =>
 oRes (st1 2 L m19 t18 t17) fun t20 m21 =>
 oOpt (bu Tryd.prog 76 [(0, t0)]) fun t22 =>
 oRes (anew m21 1 [(.int .i64 (.ofNat 0)), (.int .u64 (.ofNat 0))] ptrTo) fun t23 m24 =>
 oRes (st1 2 L m24 t23 t22) fun t25 m26 =>
 oInt .sub .i64 t2 (.int .i64 (.ofNat 1)) fun t27 =>
 loopS (fun j30 l28 m29 =>
 uc l28 fun t31 l32 =>
 uc l32 fun t33 l34 =>
 uc l34 fun t35 l36 =>
 oInt .geq .i64 t35 (.int .i64 (.ofNat 0)) fun t37 =>
 oIf t37 (join (fun l38 m39 =>
 uc l38 fun t41 l42 =>
 uc l42 fun t43 l44 =>
 oInt .sub .i64 t35 (.int .i64 (.ofNat 1)) fun t45 =>
 j30 [t41, t43, t45] m39) fun j40 =>
 loopS (fun j48 l46 m47 =>
 uc l46 fun t49 l50 =>
 uc l50 fun t51 l52 =>
 uc l52 fun t53 l54 =>
 oInt .lss .i64 t53 t0 fun t55 =>
 oIf t55 (join (fun l56 m57 =>
 uc l56 fun t59 l60 =>
 uc l60 fun t61 l62 =>
 oInt .add .i64 t53 (.int .i64 (.ofNat 1)) fun t63 =>
 j48 [t59, t61, t63] m57) fun j58 =>
 oOpt (ldN m47 2 t23) fun t64 =>
 oRes (anew m47 1 [(.int .i64 (.ofNat 0)), (.int .u64 (.ofNat 0))] ptrTo) fun t65 m66 =>
 oRes (st1 2 L m66 t65 t64) fun t67 m68 =>
 call 62 [t65, t53] L m68 fun t69 m70 =>
 oOpt (aassert Tryd.prog t69 72 true) fun t71 =>
 oOpt (aextract t71 0) fun t72 =>
 oOpt (aextract t71 1) fun t73 =>
 oRes (anew m70 1 [] ptrTo) fun t74 m75 =>
 oRes (st1 0 L m75 t74 t72) fun t76 m77 =>
 oIf t73 (j58 [t49, t51] m77) (oOpt (ldN m77 2 t18) fun t78 =>
 oOpt (fa 1 t65) fun t79 =>
 oOpt (ld1 m77 t79) fun t80 =>
 call 70 [t78, t80, t35] L m77 fun t81 m82 =>
 oInt .geq .i64 t49 t81 fun t83 =>
 oIf t83 (oInt .sub .i64 t49 t81 fun t84 =>
 j58 [t84, t51] m82) (oOpt (ldN m82 2 t65) fun t85 =>
 oRes (st1 2 L m82 t23 t85) fun t86 m87 =>
 oRes (bs Tryd.prog m87 22 1 [(0, t53)]) fun t88 m89 =>
 oRes (aappend Tryd.prog L m89 22 t51 t88) fun t90 m91 =>
 j40 [t49, t90] m91))) (j40 [t49, t51] m47)) lf [t31, t33, (.int .i64 (.ofNat 0))] m29) (k (.tuple ⟨[t33, (.int .i64 (.ofNat 0))]⟩) m29)) lf [t4, (.slice none 0 0), t27] m26)))
theorem S35_ok (lf : Nat) (cK : CallK β) (args : List Value) (L : Nat) (m : Mem) (k : Value → Mem → Option β)  : S35 lf cK args L m k = denF Tryd.prog fsT 2 K35 lf cK 35 args L m k := by kernel_rfl

/-- vitola/vitolaref01.At -/
def K36 : Kat := [(43, (1, [27])), (44, (0, [9])), (761, (0, [2, 10, 11])), (97571, (0, [2, 12]))]
noncomputable def S36 (lf : Nat) : FnK β := fun call args L m k =>
 uc args fun t0 l1 =>
 uc l1 fun t2 l3 =>
 uc l3 fun t4 l5 =>
 un0 l5 (call 34 [t0, t2] L m fun t6 m7 =>
 oOpt (aextract t6 0) fun t8 =>
 oOpt (aextract t6 1) fun t9 =>
 oInt .eql .i64 t9 (.int .i64 (.ofNat 0)) fun t10 =>
 join (fun l11 m12 =>
 uc l11 fun t14 l15 =>
 oPick t10 t14 (.bool false) fun t16 =>
 join (fun l17 m18 =>
 uc l17 fun t20 l21 =>
 oInt .neq .i64 t20 (.int .i64 (.ofNat 0)) fun t22 =>
 oIf t22 (k (.tuple ⟨[(.slice none 0 0), t20]⟩) m18) (loopS (fun j25 l23 m24 =>
 uc l23 fun t26 l27 =>
 uc l27 fun t28 l29 =>
 uc l29 fun t30 l31 =>
 oInt .lss .i64 t30 t2 fun t32 =>
 oIf t32 (loopS (fun j35 l33 m34 =>
 uc l33 fun t36 l37 =>
 uc l37 fun t38 l39 =>
 oRes (bs Tryd.prog m34 22 0 []) fun t40 m41 =>
 oRes (aappend Tryd.prog L m41 22 t40 t28) fun t42 m43 =>
 oRes (bs Tryd.prog m43 22 1 [(0, t38)]) fun t44 m45 =>
 oRes (aappend Tryd.prog L m45 22 t42 t44) fun t46 m47 =>
 oInt .sub .i64 t2 t30 fun t48 =>
 oInt .sub .i64 t48 (.int .i64 (.ofNat 1)) fun t49 =>
 call 71 [t0, t46, t49] L m47 fun t50 m51 =>
 oInt .lss .i64 t36 t50 fun t52 =>
 oIf t52 (oRes (bs Tryd.prog m51 22 1 [(0, t38)]) fun t53 m54 =>
 oRes (aappend Tryd.prog L m54 22 t28 t53) fun t55 m56 =>
 oInt .add .i64 t30 (.int .i64 (.ofNat 1)) fun t57 =>
 j25 [t36, t55, t57] m56) (oInt .sub .i64 t36 t50 fun t58 =>
 oInt .add .i64 t38 (.int .i64 (.ofNat 1)) fun t59 =>
 j35 [t58, t59] m51)) lf [t26, (.int .i64 (.ofNat 0))] m24) (k (.tuple ⟨[t28, (.int .i64 (.ofNat 0))]⟩) m24)) lf [t4, (.slice none 0 0), (.int .i64 (.ofNat 0))] m18)) fun j19 =>
 oIf t16 (j19 [(.int .i64 (.ofNat 1))] m12) (j19 [t9] m12)) fun j13 =>
 oGT t10 (oInt .sub .i64 t8 (.int .i64 (.ofNat 1)) fun t60 =>
 call 63 [t4, (.int .i64 (.ofNat 0)), t60] L m7 fun t61 m62 =>
 oOpt (aun .not t61) fun t63 =>
 j13 [t63] m62) (j13 [Go.undef] m7))
theorem S36_ok (lf : Nat) (cK : CallK β) (args : List Value) (L : Nat) (m : Mem) (k : Value → Mem → Option β)  : S36 lf cK args L m k = denF Tryd.prog fsT 2 K36 lf cK 36 args L m k := by kernel_rfl

/-- vitola/dock.Number -/
def K37 : Kat := [(1529, (0, [10, 36])), (783561, (0, [10, 42])), (200591974, (0, [10]))]
noncomputable def S37 (lf : Nat) : FnK β := fun call args L m k =>
 uc args fun t0 l1 =>
 uc l1 fun t2 l3 =>
 un0 l3 (call 56 [t0, t2] L m fun t4 m5 =>
 oOpt (aextract t4 0) fun t6 =>
 oOpt (aextract t4 1) fun t7 =>
 oInt .neq .i64 t7 (.int .i64 (.ofNat 0)) fun t8 =>
 oIf t8 (k (.tuple ⟨[(.int .i64 (.ofNat 0)), t7]⟩) m5) (call 58 [t6] L m5 fun t9 m10 =>
 oOpt (aun .not t9) fun t11 =>
 oIf t11 (k (.tuple ⟨[(.int .i64 (.ofNat 0)), (.int .i64 (.ofNat 14))]⟩) m10) (oRes (amakeMap m10) fun t12 m13 =>
 oOpt (bu Tryd.prog 86 [(0, t0), (1, t12)]) fun t14 =>
 oRes (anew m13 1 [(.int .i64 (.ofNat 0)), (.map none)] ptrTo) fun t15 m16 =>
 oRes (st1 2 L m16 t15 t14) fun t17 m18 =>
 oOpt (bu Tryd.prog 76 [(0, t0)]) fun t19 =>
 oRes (anew m18 1 [(.int .i64 (.ofNat 0)), (.int .u64 (.ofNat 0))] ptrTo) fun t20 m21 =>
 oRes (st1 2 L m21 t20 t19) fun t22 m23 =>
 oOpt (ln t2) fun t24 =>
 loopS (fun j27 l25 m26 =>
 uc l25 fun t28 l29 =>
 uc l29 fun t30 l31 =>
 oInt .lss .i64 t30 t24 fun t32 =>
 oIf t32 (oOpt (ia 1 t2 t30) fun t33 =>
 oOpt (ld1 m26 t33) fun t34 =>
 loopS (fun j37 l35 m36 =>
 uc l35 fun t38 l39 =>
 uc l39 fun t40 l41 =>
 oInt .lss .i64 t40 t34 fun t42 =>
 oIf t42 (oOpt (ldN m36 2 t20) fun t43 =>
 oRes (anew m36 1 [(.int .i64 (.ofNat 0)), (.int .u64 (.ofNat 0))] ptrTo) fun t44 m45 =>
 oRes (st1 2 L m45 t44 t43) fun t46 m47 =>
 call 62 [t44, t40] L m47 fun t48 m49 =>
 oInv call [(72, 126), (70, 125)] t48 [] L m49 fun t50 m51 =>
 join (fun l52 m53 =>
 uc l52 fun t55 l56 =>
 oInt .add .i64 t40 (.int .i64 (.ofNat 1)) fun t57 =>
 j37 [t55, t57] m53) fun j54 =>
 oIf t50 (oOpt (ldN m51 2 t15) fun t58 =>
 oOpt (fa 1 t44) fun t59 =>
 oOpt (ld1 m51 t59) fun t60 =>
 oOpt (ln t2) fun t61 =>
 oInt .sub .i64 t61 t30 fun t62 =>
 oInt .sub .i64 t62 (.int .i64 (.ofNat 1)) fun t63 =>
 call 70 [t58, t60, t63] L m51 fun t64 m65 =>
 oInt .add .i64 t38 t64 fun t66 =>
 j54 [t66] m65) (j54 [t38] m51)) (call 62 [t20, t34] L m36 fun t67 m68 =>
 oInt .add .i64 t30 (.int .i64 (.ofNat 1)) fun t69 =>
 j27 [t38, t69] m68)) lf [t28, (.int .i64 (.ofNat 0))] m26) (k (.tuple ⟨[t28, (.int .i64 (.ofNat 0))]⟩) m26)) lf [(.int .i64 (.ofNat 0)), (.int .i64 (.ofNat 0))] m23)))
theorem S37_ok (lf : Nat) (cK : CallK β) (args : List Value) (L : Nat) (m : Mem) (k : Value → Mem → Option β)  : S37 lf cK args L m k = denF Tryd.prog fsT 2 K37 lf cK 37 args L m k := by kernel_rfl

/-- vitola/vitolaref01.Number -/
def K38 : Kat := [(43, (1, [19])), (44, (0, [6])), (761, (0, [7, 8])), (48785, (0, [7, 9]))]
noncomputable def S38 (lf : Nat) : FnK β := fun call args L m k =>
 uc args fun t0 l1 =>
 uc l1 fun t2 l3 =>
 un0 l3 (call 28 [t0, t2] L m fun t4 m5 =>
 oInt .eql .i64 t4 (.int .i64 (.ofNat 0)) fun t6 =>
 join (fun l7 m8 =>
 uc l7 fun t10 l11 =>
 oPick t6 t10 (.bool false) fun t12 =>
 join (fun l13 m14 =>
 uc l13 fun t16 l17 =>
 oInt .neq .i64 t16 (.int .i64 (.ofNat 0)) fun t18 =>
 oIf t18 (k (.tuple ⟨[(.int .i64 (.ofNat 0)), t16]⟩) m14) (loopS (fun j21 l19 m20 =>
 uc l19 fun t22 l23 =>
 uc l23 fun t24 l25 =>
 oOpt (ln t2) fun t26 =>
 oInt .lss .i64 t24 t26 fun t27 =>
 oIf t27 (loopS (fun j30 l28 m29 =>
 uc l28 fun t31 l32 =>
 uc l32 fun t33 l34 =>
 oOpt (ia 1 t2 t24) fun t35 =>
 oOpt (ld1 m29 t35) fun t36 =>
 oInt .lss .i64 t33 t36 fun t37 =>
 oIf t37 (oRes (bs Tryd.prog m29 22 0 []) fun t38 m39 =>
 oOpt (sl Tryd.prog 22 t2 none (some t24) none) fun t40 =>
 oRes (aappend Tryd.prog L m39 22 t38 t40) fun t41 m42 =>
 oRes (bs Tryd.prog m42 22 1 [(0, t33)]) fun t43 m44 =>
 oRes (aappend Tryd.prog L m44 22 t41 t43) fun t45 m46 =>
 oOpt (ln t2) fun t47 =>
 oInt .sub .i64 t47 t24 fun t48 =>
 oInt .sub .i64 t48 (.int .i64 (.ofNat 1)) fun t49 =>
 call 71 [t0, t45, t49] L m46 fun t50 m51 =>
 oInt .add .i64 t31 t50 fun t52 =>
 oInt .add .i64 t33 (.int .i64 (.ofNat 1)) fun t53 =>
 j30 [t52, t53] m51) (oInt .add .i64 t24 (.int .i64 (.ofNat 1)) fun t54 =>
 j21 [t31, t54] m29)) lf [t22, (.int .i64 (.ofNat 0))] m20) (k (.tuple ⟨[t22, (.int .i64 (.ofNat 0))]⟩) m20)) lf [(.int .i64 (.ofNat 0)), (.int .i64 (.ofNat 0))] m14)) fun j15 =>
 oIf t12 (j15 [(.int .i64 (.ofNat 14))] m8) (j15 [t4] m8)) fun j9 =>
 oGT t6 (call 59 [t0, t2] L m5 fun t55 m56 =>
 oOpt (aun .not t55) fun t57 =>
 j9 [t57] m56) (j9 [Go.undef] m5))
theorem S38_ok (lf : Nat) (cK : CallK β) (args : List Value) (L : Nat) (m : Mem) (k : Value → Mem → Option β)  : S38 lf cK args L m k = denF Tryd.prog fsT 2 K38 lf cK 38 args L m k := by kernel_rfl

/-- vitola/dock.Turns -/
def K39 : Kat := [(185, (0, [24])), (47715, (0, [9])), (761, (0, [10, 43])), (97586, (0, [10]))]
noncomputable def S39 (lf : Nat) : FnK β := fun call args L m k =>
 uc args fun t0 l1 =>
 uc l1 fun t2 l3 =>
 un0 l3 (call 66 [t0, t0, t2] L m fun t4 m5 =>
 oInt .neq .i64 t4 (.int .i64 (.ofNat 0)) fun t6 =>
 oIf t6 (k (.tuple ⟨[(.slice none 0 0), t4]⟩) m5) (oInt .add .i64 t0 (.int .i64 (.ofNat 1)) fun t7 =>
 oRes (amakeSlice Tryd.prog m5 89 t7 t7) fun t8 m9 =>
 oOpt (ln t2) fun t10 =>
 loopS (fun j13 l11 m12 =>
 uc l11 fun t14 l15 =>
 oInt .lss .i64 t14 t10 fun t16 =>
 oIf t16 (oOpt (ia 1 t2 t14) fun t17 =>
 oOpt (ld1 m12 t17) fun t18 =>
 loopS (fun j21 l19 m20 =>
 uc l19 fun t22 l23 =>
 oOpt (ia 1 t8 t22) fun t24 =>
 oOpt (ld1 m20 t24) fun t25 =>
 oIf t25 (oInt .add .i64 t22 (.int .i64 (.ofNat 1)) fun t26 =>
 oInt .add .i64 t0 (.int .i64 (.ofNat 1)) fun t27 =>
 oInt .rem .i64 t26 t27 fun t28 =>
 j21 [t28] m20) (oOpt (ia 1 t8 t22) fun t29 =>
 oRes (st1 1 L m20 t29 (.bool true)) fun t30 m31 =>
 oInt .add .i64 t14 (.int .i64 (.ofNat 1)) fun t32 =>
 j13 [t32] m31)) lf [t18] m12) (oInt .add .i64 t0 (.int .i64 (.ofNat 1)) fun t33 =>
 loopS (fun j36 l34 m35 =>
 uc l34 fun t37 l38 =>
 uc l38 fun t39 l40 =>
 oInt .lss .i64 t39 t33 fun t41 =>
 oIf t41 (oInt .sub .i64 t0 t39 fun t42 =>
 oOpt (ia 1 t8 t42) fun t43 =>
 oOpt (ld1 m35 t43) fun t44 =>
 oOpt (aun .not t44) fun t45 =>
 join (fun l46 m47 =>
 uc l46 fun t49 l50 =>
 oInt .add .i64 t39 (.int .i64 (.ofNat 1)) fun t51 =>
 j36 [t49, t51] m47) fun j48 =>
 oIf t45 (oRes (bs Tryd.prog m35 22 1 [(0, t39)]) fun t52 m53 =>
 oRes (aappend Tryd.prog L m53 22 t37 t52) fun t54 m55 =>
 j48 [t54] m55) (j48 [t37] m35)) (k (.tuple ⟨[t37, (.int .i64 (.ofNat 0))]⟩) m35)) lf [(.slice none 0 0), (.int .i64 (.ofNat 0))] m12)) lf [(.int .i64 (.ofNat 0))] m9))
theorem S39_ok (lf : Nat) (cK : CallK β) (args : List Value) (L : Nat) (m : Mem) (k : Value → Mem → Option β)  : S39 lf cK args L m k = denF Tryd.prog fsT 2 K39 lf cK 39 args L m k := by kernel_rfl

end
end Go.Vit
