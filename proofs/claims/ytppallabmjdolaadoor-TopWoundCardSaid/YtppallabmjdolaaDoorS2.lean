/- Shallow texts of the seat's functions, printed by a program: part 2. -/
import Derived.Test.YtppallabmjdolaaDoorRows
import Derived.Test.YtppallabmjdolaaDoorFs
set_option linter.unusedVariables false
set_option maxRecDepth 100000
namespace Go.Vit
open Go Go.Proofs
section
variable {β : Type}
/-- vitola/heap.Plan -/
def K24 : Kat := [(761, (0, [8, 28])), (97586, (0, [8])), (195173, (0, [8, 11]))]
noncomputable def S24 (lf : Nat) : FnK β := fun call args L m k =>
 uc args fun t0 l1 =>
 uc l1 fun t2 l3 =>
 un0 l3 (call 46 [t0, t2] L m fun t4 m5 =>
 oInt .neq .i64 t4 (.int .i64 (.ofNat 0)) fun t6 =>
 oIf t6 (k (.tuple ⟨[(.slice none 0 0), t4]⟩) m5) (call 49 [t0, t2] L m5 fun t7 m8 =>
 oOpt (aun .not t7) fun t9 =>
 oIf t9 (k (.tuple ⟨[(.slice none 0 0), (.int .i64 (.ofNat 12))]⟩) m8) (call 50 [t0] L m8 fun t10 m11 =>
 oOpt (ln t0) fun t12 =>
 loopS (fun j15 l13 m14 =>
 uc l13 fun t16 l17 =>
 uc l17 fun t18 l19 =>
 oInt .lss .i64 t18 t12 fun t20 =>
 oIf t20 (oOpt (ia 2 t0 t18) fun t21 =>
 oOpt (ldN m14 2 t21) fun t22 =>
 oRes (anew m14 1 [(.int .i64 (.ofNat 0)), (.int .i64 (.ofNat 0))] ptrTo) fun t23 m24 =>
 oRes (st1 2 L m24 t23 t22) fun t25 m26 =>
 oOpt (fa 0 t23) fun t27 =>
 oOpt (ld1 m26 t27) fun t28 =>
 join (fun l29 m30 =>
 uc l29 fun t32 l33 =>
 oInt .add .i64 t18 (.int .i64 (.ofNat 1)) fun t34 =>
 j15 [t32, t34] m30) fun j31 =>
 loopS (fun j37 l35 m36 =>
 uc l35 fun t38 l39 =>
 uc l39 fun t40 l41 =>
 oOpt (fa 1 t23) fun t42 =>
 oOpt (ld1 m36 t42) fun t43 =>
 oInt .leq .i64 t40 t43 fun t44 =>
 oIf t44 (oOpt (bu Tryd.prog 45 [(0, t40), (1, t40)]) fun t45 =>
 oOpt (ia 2 t10 t18) fun t46 =>
 oRes (st1 2 L m36 t46 t45) fun t47 m48 =>
 call 49 [t10, t2] L m48 fun t49 m50 =>
 oIf t49 (oRes (bs Tryd.prog m50 25 1 [(0, t40)]) fun t51 m52 =>
 oRes (aappend Tryd.prog L m52 25 t38 t51) fun t53 m54 =>
 j31 [t53] m54) (oInt .add .i64 t40 (.int .i64 (.ofNat 1)) fun t55 =>
 j37 [t38, t55] m50)) (j31 [t38] m36)) lf [t16, t28] m26) (k (.tuple ⟨[t16, (.int .i64 (.ofNat 0))]⟩) m14)) lf [(.slice none 0 0), (.int .i64 (.ofNat 0))] m11)))
theorem S24_ok (lf : Nat) (cK : CallK β) (args : List Value) (L : Nat) (m : Mem) (k : Value → Mem → Option β)  : S24 lf cK args L m k = denF Tryd.prog fsT 2 K24 lf cK 24 args L m k := by kernel_rfl

/-- vitola/heap.Why -/
def K25 : Kat := []
noncomputable def S25 (lf : Nat) : FnK β := fun call args L m k =>
 uc args fun t0 l1 =>
 uc l1 fun t2 l3 =>
 un0 l3 (call 46 [t0, t2] L m fun t4 m5 =>
 oInt .neq .i64 t4 (.int .i64 (.ofNat 0)) fun t6 =>
 oIf t6 (k (.tuple ⟨[(.int .i64 (.ofNat 0)), (.int .i64 (.ofNat 0)), t4]⟩) m5) (call 52 [t0, t2] L m5 fun t7 m8 =>
 oRes (anew m8 1 [(.int .i64 (.ofNat 0)), (.int .i64 (.ofNat 0))] ptrTo) fun t9 m10 =>
 oRes (st1 2 L m10 t9 t7) fun t11 m12 =>
 oOpt (ldN m12 2 t9) fun t13 =>
 call 53 [] L m12 fun t14 m15 =>
 oSm m12 m15 t9 (
 oOpt (abin Tryd.prog .eql 45 t13 t14) fun t16 =>
 oIf t16 (k (.tuple ⟨[(.int .i64 (.ofNat 0)), (.int .i64 (.ofNat 0)), (.int .i64 (.ofNat 13))]⟩) m15) (oOpt (fa 0 t9) fun t17 =>
 oOpt (ld1 m15 t17) fun t18 =>
 oOpt (fa 1 t9) fun t19 =>
 oOpt (ld1 m15 t19) fun t20 =>
 k (.tuple ⟨[t18, t20, (.int .i64 (.ofNat 0))]⟩) m15))))
theorem S25_ok (lf : Nat) (cK : CallK β) (args : List Value) (L : Nat) (m : Mem) (k : Value → Mem → Option β)  : S25 lf cK args L m k = denF Tryd.prog fsT 2 K25 lf cK 25 args L m k := by kernel_rfl

/-- vitola/dock.Against -/
def K26 : Kat := [(377, (0, [23]))]
noncomputable def S26 (lf : Nat) : FnK β := fun call args L m k =>
 uc args fun t0 l1 =>
 uc l1 fun t2 l3 =>
 un0 l3 (call 54 [t0, t2] L m fun t4 m5 =>
 oInt .neq .i64 t4 (.int .i64 (.ofNat 0)) fun t6 =>
 oIf t6 (k (.tuple ⟨[(.int .i64 (.ofNat 0)), t4]⟩) m5) (call 56 [t2] L m5 fun t7 m8 =>
 call 55 [t7] L m8 fun t9 m10 =>
 call 57 [t9] L m10 fun t11 m12 =>
 oOpt (ln t9) fun t13 =>
 loopS (fun j16 l14 m15 =>
 uc l14 fun t17 l18 =>
 oInt .lss .i64 t17 t13 fun t19 =>
 oIf t19 (oOpt (ia 1 t9 t17) fun t20 =>
 oOpt (ld1 m15 t20) fun t21 =>
 oInt .sub .i64 t0 t21 fun t22 =>
 oInt .geq .i64 t17 t22 fun t23 =>
 oIf t23 (oInt .sub .i64 t0 t21 fun t24 =>
 k (.tuple ⟨[t24, (.int .i64 (.ofNat 0))]⟩) m15) (oInt .add .i64 t17 (.int .i64 (.ofNat 1)) fun t25 =>
 j16 [t25] m15)) (k (.tuple ⟨[(.int .i64 (.ofNat 0)), (.int .i64 (.ofNat 13))]⟩) m15)) lf [(.int .i64 (.ofNat 0))] m12))
theorem S26_ok (lf : Nat) (cK : CallK β) (args : List Value) (L : Nat) (m : Mem) (k : Value → Mem → Option β)  : S26 lf cK args L m k = denF Tryd.prog fsT 2 K26 lf cK 26 args L m k := by kernel_rfl

/-- vitola/vitolatop.waitingWorks -/
def K27 : Kat := [(45, (1, [22])), (45, (3, [28])), (45, (5, [34]))]
noncomputable def S27 (lf : Nat) : FnK β := fun call args L m k =>
 un0 args (oRes (bs Tryd.prog m 25 4 [(0, (.int .i64 (.ofNat 2))), (1, (.int .i64 (.ofNat 2))), (2, (.int .i64 (.ofNat 0))), (3, (.int .i64 (.ofNat 2)))]) fun t0 m1 =>
 call 34 [t0] L m1 fun t2 m3 =>
 call 18 [(.int .i64 (.ofNat 4)), t2] L m3 fun t4 m5 =>
 oOpt (aextract t4 0) fun t6 =>
 oOpt (aextract t4 1) fun t7 =>
 oOpt (bu Tryd.prog 45 [(0, (.int .i64 (.ofNat 0))), (1, (.int .i64 (.ofNat 1)))]) fun t8 =>
 oOpt (bu Tryd.prog 45 [(0, (.int .i64 (.ofNat 0))), (1, (.int .i64 (.ofNat 0)))]) fun t9 =>
 oRes (bs Tryd.prog m5 43 2 [(0, t8), (1, t9)]) fun t10 m11 =>
 call 24 [t10, (.int .i64 (.ofNat 1))] L m11 fun t12 m13 =>
 oOpt (aextract t12 0) fun t14 =>
 oOpt (aextract t12 1) fun t15 =>
 oInt .eql .i64 t7 (.int .i64 (.ofNat 0)) fun t16 =>
 join (fun l17 m18 =>
 uc l17 fun t20 l21 =>
 oPick t16 t20 (.bool false) fun t22 =>
 join (fun l23 m24 =>
 uc l23 fun t26 l27 =>
 oPick t22 t26 (.bool false) fun t28 =>
 join (fun l29 m30 =>
 uc l29 fun t32 l33 =>
 oPick t28 t32 (.bool false) fun t34 =>
 k t34 m30) fun j31 =>
 oGT t28 (oRes (bs Tryd.prog m24 25 2 [(0, (.int .i64 (.ofNat 1))), (1, (.int .i64 (.ofNat 0)))]) fun t35 m36 =>
 call 34 [t35] L m36 fun t37 m38 =>
 call 22 [t14, t37] L m38 fun t39 m40 =>
 j31 [t39] m40) (j31 [Go.undef] m24)) fun j25 =>
 oGT t22 (oRes (bs Tryd.prog m18 25 4 [(0, (.int .i64 (.ofNat 2))), (1, (.int .i64 (.ofNat 3))), (2, (.int .i64 (.ofNat 0))), (3, (.int .i64 (.negSucc 0)))]) fun t41 m42 =>
 call 34 [t41] L m42 fun t43 m44 =>
 call 22 [t6, t43] L m44 fun t45 m46 =>
 j25 [t45] m46) (j25 [Go.undef] m18)) fun j19 =>
 oGT t16 (oInt .eql .i64 t15 (.int .i64 (.ofNat 0)) fun t47 =>
 j19 [t47] m13) (j19 [Go.undef] m13))
theorem S27_ok (lf : Nat) (cK : CallK β) (args : List Value) (L : Nat) (m : Mem) (k : Value → Mem → Option β)  : S27 lf cK args L m k = denF Tryd.prog fsT 2 K27 lf cK 27 args L m k := by kernel_rfl

/-- vitola/dock.Proves -/
def K28 : Kat := []
noncomputable def S28 (lf : Nat) : FnK β := fun call args L m k =>
 uc args fun t0 l1 =>
 uc l1 fun t2 l3 =>
 uc l3 fun t4 l5 =>
 un0 l5 (call 54 [t0, t2] L m fun t6 m7 =>
 oInt .neq .i64 t6 (.int .i64 (.ofNat 0)) fun t8 =>
 oIf t8 (k t6 m7) (call 58 [t4, (.int .i64 (.ofNat 1)), t0] L m7 fun t9 m10 =>
 oOpt (aun .not t9) fun t11 =>
 oIf t11 (k (.int .i64 (.ofNat 1)) m10) (call 59 [t0, t2, t4] L m10 fun t12 m13 =>
 oOpt (aun .not t12) fun t14 =>
 oIf t14 (k (.int .i64 (.ofNat 14)) m13) (k (.int .i64 (.ofNat 0)) m13))))
theorem S28_ok (lf : Nat) (cK : CallK β) (args : List Value) (L : Nat) (m : Mem) (k : Value → Mem → Option β)  : S28 lf cK args L m k = denF Tryd.prog fsT 2 K28 lf cK 28 args L m k := by kernel_rfl

/-- vitola/heap.Crowd -/
def K29 : Kat := [(357, (1, [22]))]
noncomputable def S29 (lf : Nat) : FnK β := fun call args L m k =>
 uc args fun t0 l1 =>
 uc l1 fun t2 l3 =>
 uc l3 fun t4 l5 =>
 un0 l5 (call 60 [t0] L m fun t6 m7 =>
 oInt .neq .i64 t6 (.int .i64 (.ofNat 0)) fun t8 =>
 oIf t8 (k (.tuple ⟨[(.int .i64 (.ofNat 0)), t6]⟩) m7) (call 61 [(.int .i64 (.ofNat 0)), t2, (.int .i64 (.ofNat 23))] L m7 fun t9 m10 =>
 oOpt (aun .not t9) fun t11 =>
 join (fun l12 m13 =>
 uc l12 fun t15 l16 =>
 oPick t11 (.bool true) t15 fun t17 =>
 oIf t17 (k (.tuple ⟨[(.int .i64 (.ofNat 0)), (.int .i64 (.ofNat 1))]⟩) m13) (oInt .gtr .i64 t2 t4 fun t18 =>
 oIf t18 (k (.tuple ⟨[(.int .i64 (.ofNat 0)), (.int .i64 (.ofNat 7))]⟩) m13) (oOpt (bu Tryd.prog 45 [(0, t2), (1, t4)]) fun t19 =>
 call 62 [t0, t19] L m13 fun t20 m21 =>
 k (.tuple ⟨[t20, (.int .i64 (.ofNat 0))]⟩) m21))) fun j14 =>
 oGF t11 (call 61 [(.int .i64 (.ofNat 0)), t4, (.int .i64 (.ofNat 23))] L m10 fun t22 m23 =>
 oOpt (aun .not t22) fun t24 =>
 j14 [t24] m23) (j14 [Go.undef] m10)))
theorem S29_ok (lf : Nat) (cK : CallK β) (args : List Value) (L : Nat) (m : Mem) (k : Value → Mem → Option β)  : S29 lf cK args L m k = denF Tryd.prog fsT 2 K29 lf cK 29 args L m k := by kernel_rfl

/-- (vitola/wrap.Wrapper).mark -/
def K30 : Kat := []
noncomputable def S30 (lf : Nat) : FnK β := fun call args L m k =>
 uc args fun t0 l1 =>
 uc l1 fun t2 l3 =>
 un0 l3 (oRes (abox m t0) fun t4 m5 =>
 oOpt (fa 1 t4) fun t6 =>
 oOpt (ld1 m5 t6) fun t7 =>
 oInt .mul .i64 t2 t7 fun t8 =>
 oOpt (fa 0 t4) fun t9 =>
 oOpt (ld1 m5 t9) fun t10 =>
 oInt .rem .i64 t8 t10 fun t11 =>
 k t11 m5)
theorem S30_ok (lf : Nat) (cK : CallK β) (args : List Value) (L : Nat) (m : Mem) (k : Value → Mem → Option β)  : S30 lf cK args L m k = denF Tryd.prog fsT 2 K30 lf cK 30 args L m k := by kernel_rfl

/-- vitola/dock.listed -/
def K31 : Kat := []
noncomputable def S31 (lf : Nat) : FnK β := fun call args L m k =>
 uc args fun t0 l1 =>
 uc l1 fun t2 l3 =>
 uc l3 fun t4 l5 =>
 un0 l5 (oRes (abox m t2) fun t6 m7 =>
 call 58 [t0, (.int .i64 (.ofNat 1)), (.int .i64 (.ofNat 8))] L m7 fun t8 m9 =>
 oOpt (aun .not t8) fun t10 =>
 oIf t10 (k (.int .i64 (.ofNat 1)) m9) (oOpt (ln t4) fun t11 =>
 oInt .gtr .i64 t11 t0 fun t12 =>
 oIf t12 (k (.int .i64 (.ofNat 3)) m9) (call 63 [t4, (.func (.func 64) #[] ⟨[t6]⟩)] L m9 fun t13 m14 =>
 oIf t13 (k (.int .i64 (.ofNat 2)) m14) (k (.int .i64 (.ofNat 0)) m14))))
theorem S31_ok (lf : Nat) (cK : CallK β) (args : List Value) (L : Nat) (m : Mem) (k : Value → Mem → Option β)  : S31 lf cK args L m k = denF Tryd.prog fsT 2 K31 lf cK 31 args L m k := by kernel_rfl

/-- vitola/dock.come -/
def K32 : Kat := [(377, (0, [8, 21]))]
noncomputable def S32 (lf : Nat) : FnK β := fun call args L m k =>
 uc args fun t0 l1 =>
 uc l1 fun t2 l3 =>
 un0 l3 (call 54 [t0, t2] L m fun t4 m5 =>
 oInt .neq .i64 t4 (.int .i64 (.ofNat 0)) fun t6 =>
 oIf t6 (k (.tuple ⟨[(.slice none 0 0), t4]⟩) m5) (oOpt (bu Tryd.prog 108 [(0, t0)]) fun t7 =>
 oRes (anew m5 1 [(.int .i64 (.ofNat 0)), (.int .u64 (.ofNat 0))] ptrTo) fun t8 m9 =>
 oRes (st1 2 L m9 t8 t7) fun t10 m11 =>
 oOpt (ln t2) fun t12 =>
 loopS (fun j15 l13 m14 =>
 uc l13 fun t16 l17 =>
 uc l17 fun t18 l19 =>
 oInt .lss .i64 t18 t12 fun t20 =>
 oIf t20 (oOpt (ia 1 t2 t18) fun t21 =>
 oOpt (ld1 m14 t21) fun t22 =>
 call 65 [t8, t22] L m14 fun t23 m24 =>
 oRes (bs Tryd.prog m24 60 1 [(0, t23)]) fun t25 m26 =>
 oRes (aappend Tryd.prog L m26 60 t16 t25) fun t27 m28 =>
 oInt .add .i64 t18 (.int .i64 (.ofNat 1)) fun t29 =>
 j15 [t27, t29] m28) (k (.tuple ⟨[t16, (.int .i64 (.ofNat 0))]⟩) m14)) lf [(.slice none 0 0), (.int .i64 (.ofNat 0))] m11))
theorem S32_ok (lf : Nat) (cK : CallK β) (args : List Value) (L : Nat) (m : Mem) (k : Value → Mem → Option β)  : S32 lf cK args L m k = denF Tryd.prog fsT 2 K32 lf cK 32 args L m k := by kernel_rfl

/-- vitola/wrap.Round -/
def K33 : Kat := []
noncomputable def S33 (lf : Nat) : FnK β := fun call args L m k =>
 uc args fun t0 l1 =>
 un0 l1 (oRes (abox m t0) fun t2 m3 =>
 oOpt (ldN m3 3 t2) fun t4 =>
 call 66 [t4, (.func (.func 67) #[] #[])] L m3 fun t5 m6 =>
 oOpt (aextract t5 0) fun t7 =>
 oOpt (aextract t5 1) fun t8 =>
 k (.tuple ⟨[t7, t8]⟩) m6)
theorem S33_ok (lf : Nat) (cK : CallK β) (args : List Value) (L : Nat) (m : Mem) (k : Value → Mem → Option β)  : S33 lf cK args L m k = denF Tryd.prog fsT 2 K33 lf cK 33 args L m k := by kernel_rfl

/-- vitola/vitolatop.list -/
def K34 : Kat := []
noncomputable def S34 (lf : Nat) : FnK β := fun call args L m k =>
 uc args fun t0 l1 =>
 un0 l1 (k t0 m)
theorem S34_ok (lf : Nat) (cK : CallK β) (args : List Value) (L : Nat) (m : Mem) (k : Value → Mem → Option β)  : S34 lf cK args L m k = denF Tryd.prog fsT 2 K34 lf cK 34 args L m k := by kernel_rfl

/-- vitola/vitolatop.gradesWork -/
def K35 : Kat := [(45, (1, [23])), (45, (3, [29])), (45, (5, [35])), (45, (7, [38]))]
noncomputable def S35 (lf : Nat) : FnK β := fun call args L m k =>
 un0 args (oRes (bs Tryd.prog m 25 4 [(0, (.int .i64 (.ofNat 1))), (1, (.int .i64 (.ofNat 3))), (2, (.int .i64 (.ofNat 0))), (3, (.int .i64 (.ofNat 2)))]) fun t0 m1 =>
 call 34 [t0] L m1 fun t2 m3 =>
 call 68 [t2] L m3 fun t4 m5 =>
 oOpt (aextract t4 0) fun t6 =>
 oOpt (aextract t4 1) fun t7 =>
 oRes (bs Tryd.prog m5 25 4 [(0, (.int .i64 (.ofNat 1))), (1, (.int .i64 (.ofNat 3))), (2, (.int .i64 (.ofNat 0))), (3, (.int .i64 (.ofNat 2)))]) fun t8 m9 =>
 call 34 [t8] L m9 fun t10 m11 =>
 oRes (bs Tryd.prog m11 25 4 [(0, (.int .i64 (.ofNat 3))), (1, (.int .i64 (.ofNat 1))), (2, (.int .i64 (.ofNat 2))), (3, (.int .i64 (.ofNat 0)))]) fun t12 m13 =>
 call 34 [t12] L m13 fun t14 m15 =>
 call 69 [t10, t14] L m15 fun t16 m17 =>
 oOpt (aextract t16 0) fun t18 =>
 oOpt (aextract t16 1) fun t19 =>
 oInt .eql .i64 t7 (.int .i64 (.ofNat 0)) fun t20 =>
 join (fun l21 m22 =>
 uc l21 fun t24 l25 =>
 oPick t20 t24 (.bool false) fun t26 =>
 join (fun l27 m28 =>
 uc l27 fun t30 l31 =>
 oPick t26 t30 (.bool false) fun t32 =>
 join (fun l33 m34 =>
 uc l33 fun t36 l37 =>
 oPick t32 t36 (.bool false) fun t38 =>
 join (fun l39 m40 =>
 uc l39 fun t42 l43 =>
 oPick t38 t42 (.bool false) fun t44 =>
 k t44 m40) fun j41 =>
 oGT t38 (call 27 [] L m34 fun t45 m46 =>
 j41 [t45] m46) (j41 [Go.undef] m34)) fun j35 =>
 oGT t32 (oRes (bs Tryd.prog m28 25 2 [(0, (.int .i64 (.ofNat 0))), (1, (.int .i64 (.ofNat 2)))]) fun t47 m48 =>
 call 34 [t47] L m48 fun t49 m50 =>
 call 22 [t18, t49] L m50 fun t51 m52 =>
 j35 [t51] m52) (j35 [Go.undef] m28)) fun j29 =>
 oGT t26 (oRes (bs Tryd.prog m22 25 4 [(0, (.int .i64 (.ofNat 1))), (1, (.int .i64 (.ofNat 2))), (2, (.int .i64 (.ofNat 0))), (3, (.int .i64 (.ofNat 0)))]) fun t53 m54 =>
 call 34 [t53] L m54 fun t55 m56 =>
 call 22 [t6, t55] L m56 fun t57 m58 =>
 j29 [t57] m58) (j29 [Go.undef] m22)) fun j23 =>
 oGT t20 (oInt .eql .i64 t19 (.int .i64 (.ofNat 0)) fun t59 =>
 j23 [t59] m17) (j23 [Go.undef] m17))
theorem S35_ok (lf : Nat) (cK : CallK β) (args : List Value) (L : Nat) (m : Mem) (k : Value → Mem → Option β)  : S35 lf cK args L m k = denF Tryd.prog fsT 2 K35 lf cK 35 args L m k := by kernel_rfl

/-- vitola/band.given -/
def K36 : Kat := [(19, (1, [12]))]
noncomputable def S36 (lf : Nat) : FnK β := fun call args L m k =>
 uc args fun t0 l1 =>
 uc l1 fun t2 l3 =>
 un0 l3 (call 42 [t0, (.int .i64 (.ofNat 1)), (.int .i64 (.ofNat 16))] L m fun t4 m5 =>
 oOpt (aun .not t4) fun t6 =>
 join (fun l7 m8 =>
 uc l7 fun t10 l11 =>
 oPick t6 (.bool true) t10 fun t12 =>
 oIf t12 (k (.int .i64 (.ofNat 1)) m8) (k (.int .i64 (.ofNat 0)) m8)) fun j9 =>
 oGF t6 (call 42 [t2, (.int .i64 (.ofNat 0)), t0] L m5 fun t13 m14 =>
 oOpt (aun .not t13) fun t15 =>
 j9 [t15] m14) (j9 [Go.undef] m5))
theorem S36_ok (lf : Nat) (cK : CallK β) (args : List Value) (L : Nat) (m : Mem) (k : Value → Mem → Option β)  : S36 lf cK args L m k = denF Tryd.prog fsT 2 K36 lf cK 36 args L m k := by kernel_rfl

/-- (*strings.Builder).WriteRune -/
def K37 : Kat := []
noncomputable def S37 (lf : Nat) : FnK β := fun call args L m k =>
 uc args fun t0 l1 =>
 uc l1 fun t2 l3 =>
 un0 l3 (call 70 [t0] L m fun t4 m5 =>
 oOpt (anil t0) fun t6 =>
 oOpt (fa 1 t6) fun t7 =>
 oOpt (ld1 m5 t7) fun t8 =>
 oOpt (ln t8) fun t9 =>
 oOpt (anil t0) fun t10 =>
 oOpt (fa 1 t10) fun t11 =>
 oOpt (ld1 m5 t11) fun t12 =>
 call 71 [t12, t2] L m5 fun t13 m14 =>
 oOpt (anil t0) fun t15 =>
 oOpt (fa 1 t15) fun t16 =>
 oRes (st1 1 L m14 t16 t13) fun t17 m18 =>
 oOpt (anil t0) fun t19 =>
 oOpt (fa 1 t19) fun t20 =>
 oOpt (ld1 m18 t20) fun t21 =>
 oOpt (ln t21) fun t22 =>
 oInt .sub .i64 t22 t9 fun t23 =>
 k (.tuple ⟨[t23, .nilIface]⟩) m18)
theorem S37_ok (lf : Nat) (cK : CallK β) (args : List Value) (L : Nat) (m : Mem) (k : Value → Mem → Option β)  : S37 lf cK args L m k = denF Tryd.prog fsT 2 K37 lf cK 37 args L m k := by kernel_rfl

/-- vitola/wrap.round -/
def K39 : Kat := [(9, (1, [9])), (9, (3, [13])), (9, (5, [18]))]
noncomputable def S39 (lf : Nat) : FnK β := fun call args L m k =>
 uc args fun t0 l1 =>
 uc l1 fun t2 l3 =>
 un0 l3 (oInt .geq .i64 t0 (.int .i64 (.ofNat 1)) fun t4 =>
 join (fun l5 m6 =>
 uc l5 fun t8 l9 =>
 oPick t4 t8 (.bool false) fun t10 =>
 join (fun l11 m12 =>
 uc l11 fun t14 l15 =>
 oPick t10 t14 (.bool false) fun t16 =>
 join (fun l17 m18 =>
 uc l17 fun t20 l21 =>
 oPick t16 t20 (.bool false) fun t22 =>
 k t22 m18) fun j19 =>
 oGT t16 (oInt .lss .i64 t2 t0 fun t23 =>
 j19 [t23] m12) (j19 [Go.undef] m12)) fun j13 =>
 oGT t10 (oInt .geq .i64 t2 (.int .i64 (.ofNat 0)) fun t24 =>
 j13 [t24] m6) (j13 [Go.undef] m6)) fun j7 =>
 oGT t4 (oInt .leq .i64 t0 (.int .i64 (.ofNat 100)) fun t25 =>
 j7 [t25] m) (j7 [Go.undef] m))
theorem S39_ok (lf : Nat) (cK : CallK β) (args : List Value) (L : Nat) (m : Mem) (k : Value → Mem → Option β)  : S39 lf cK args L m k = denF Tryd.prog fsT 2 K39 lf cK 39 args L m k := by kernel_rfl

/-- (vitola/wrap.Wrapper).all -/
def K40 : Kat := []
noncomputable def S40 (lf : Nat) : FnK β := fun call args L m k =>
 uc args fun t0 l1 =>
 un0 l1 (oRes (abox m t0) fun t2 m3 =>
 oOpt (fa 0 t2) fun t4 =>
 oOpt (ld1 m3 t4) fun t5 =>
 oOpt (fa 0 t2) fun t6 =>
 oOpt (ld1 m3 t6) fun t7 =>
 oOpt (fa 1 t2) fun t8 =>
 oOpt (ld1 m3 t8) fun t9 =>
 call 72 [t7, t9] L m3 fun t10 m11 =>
 oSm m3 m11 t4 (
 oInt .quo .i64 t5 t10 fun t12 =>
 k t12 m11))
theorem S40_ok (lf : Nat) (cK : CallK β) (args : List Value) (L : Nat) (m : Mem) (k : Value → Mem → Option β)  : S40 lf cK args L m k = denF Tryd.prog fsT 2 K40 lf cK 40 args L m k := by kernel_rfl


/-- vitola/band.within -/
def K42 : Kat := [(9, (1, [13]))]
noncomputable def S42 (lf : Nat) : FnK β := fun call args L m k =>
 uc args fun t0 l1 =>
 uc l1 fun t2 l3 =>
 uc l3 fun t4 l5 =>
 un0 l5 (oInt .leq .i64 t2 t0 fun t6 =>
 join (fun l7 m8 =>
 uc l7 fun t10 l11 =>
 oPick t6 t10 (.bool false) fun t12 =>
 k t12 m8) fun j9 =>
 oGT t6 (oInt .leq .i64 t0 t4 fun t13 =>
 j9 [t13] m) (j9 [Go.undef] m))
theorem S42_ok (lf : Nat) (cK : CallK β) (args : List Value) (L : Nat) (m : Mem) (k : Value → Mem → Option β)  : S42 lf cK args L m k = denF Tryd.prog fsT 2 K42 lf cK 42 args L m k := by kernel_rfl

/-- vitola/vitolatop.benchWorks -/
def K43 : Kat := [(21, (1, [13])), (21, (3, [16]))]
noncomputable def S43 (lf : Nat) : FnK β := fun call args L m k =>
 un0 args (call 73 [(.int .i64 (.ofNat 7)), (.int .i64 (.ofNat 3))] L m fun t0 m1 =>
 oOpt (aextract t0 0) fun t2 =>
 oOpt (aextract t0 1) fun t3 =>
 oInt .eql .i64 t3 (.int .i64 (.ofNat 0)) fun t4 =>
 join (fun l5 m6 =>
 uc l5 fun t8 l9 =>
 oPick t4 t8 (.bool false) fun t10 =>
 join (fun l11 m12 =>
 uc l11 fun t14 l15 =>
 oPick t10 t14 (.bool false) fun t16 =>
 k t16 m12) fun j13 =>
 oGT t10 (call 74 [] L m6 fun t17 m18 =>
 j13 [t17] m18) (j13 [Go.undef] m6)) fun j7 =>
 oGT t4 (oRes (bs Tryd.prog m1 25 7 [(0, (.int .i64 (.ofNat 2))), (1, (.int .i64 (.ofNat 5))), (2, (.int .i64 (.ofNat 1))), (3, (.int .i64 (.ofNat 6))), (4, (.int .i64 (.ofNat 4))), (5, (.int .i64 (.ofNat 0))), (6, (.int .i64 (.ofNat 3)))]) fun t19 m20 =>
 call 34 [t19] L m20 fun t21 m22 =>
 call 22 [t2, t21] L m22 fun t23 m24 =>
 j7 [t23] m24) (j7 [Go.undef] m1))
theorem S43_ok (lf : Nat) (cK : CallK β) (args : List Value) (L : Nat) (m : Mem) (k : Value → Mem → Option β)  : S43 lf cK args L m k = denF Tryd.prog fsT 2 K43 lf cK 43 args L m k := by kernel_rfl

/-- vitola/wrap.first -/
def K44 : Kat := []
noncomputable def S44 (lf : Nat) : FnK β := fun call args L m k =>
 uc args fun t0 l1 =>
 uc l1 fun t2 l3 =>
 uc l3 fun t4 l5 =>
 uc l5 fun t6 l7 =>
 un0 l7 (oInt .eql .i64 t4 (.int .i64 (.ofNat 0)) fun t8 =>
 oIf t8 (k (.int .i64 (.ofNat 0)) m) (oInt .eql .i64 t2 (.int .i64 (.ofNat 0)) fun t9 =>
 oIf t9 (k (.int .i64 (.negSucc 0)) m) (oInt .add .i64 t4 t2 fun t10 =>
 oInt .sub .i64 t10 (.int .i64 (.ofNat 1)) fun t11 =>
 oInt .quo .i64 t11 t2 fun t12 =>
 oInt .mul .i64 t12 t2 fun t13 =>
 oInt .leq .i64 t13 t6 fun t14 =>
 oIf t14 (k t12 m) (oInt .rem .i64 t0 t2 fun t15 =>
 oInt .rem .i64 t6 t2 fun t16 =>
 oInt .sub .i64 t2 t16 fun t17 =>
 oInt .rem .i64 t17 t2 fun t18 =>
 oInt .rem .i64 t4 t2 fun t19 =>
 oInt .sub .i64 t2 t19 fun t20 =>
 oInt .rem .i64 t20 t2 fun t21 =>
 call 44 [t2, t15, t18, t21] L m fun t22 m23 =>
 oInt .lss .i64 t22 (.int .i64 (.ofNat 0)) fun t24 =>
 oIf t24 (k (.int .i64 (.negSucc 0)) m23) (oInt .mul .i64 t0 t22 fun t25 =>
 oInt .add .i64 t4 t25 fun t26 =>
 oInt .add .i64 t26 t2 fun t27 =>
 oInt .sub .i64 t27 (.int .i64 (.ofNat 1)) fun t28 =>
 oInt .quo .i64 t28 t2 fun t29 =>
 k t29 m23)))))
theorem S44_ok (lf : Nat) (cK : CallK β) (args : List Value) (L : Nat) (m : Mem) (k : Value → Mem → Option β)  : S44 lf cK args L m k = denF Tryd.prog fsT 2 K44 lf cK 44 args L m k := by kernel_rfl

/-- vitola/dock.served -/
def K45 : Kat := []
noncomputable def S45 (lf : Nat) : FnK β := fun call args L m k =>
 uc args fun t0 l1 =>
 un0 l1 (call 75 [t0, (.func (.func 76) #[] #[])] L m fun t2 m3 =>
 oOpt (aun .not t2) fun t4 =>
 k t4 m3)
theorem S45_ok (lf : Nat) (cK : CallK β) (args : List Value) (L : Nat) (m : Mem) (k : Value → Mem → Option β)  : S45 lf cK args L m k = denF Tryd.prog fsT 2 K45 lf cK 45 args L m k := by kernel_rfl

/-- vitola/heap.handed -/
def K46 : Kat := [(43, (1, [13])), (44, (0, [5]))]
noncomputable def S46 (lf : Nat) : FnK β := fun call args L m k =>
 uc args fun t0 l1 =>
 uc l1 fun t2 l3 =>
 un0 l3 (call 60 [t0] L m fun t4 m5 =>
 oInt .eql .i64 t4 (.int .i64 (.ofNat 0)) fun t6 =>
 join (fun l7 m8 =>
 uc l7 fun t10 l11 =>
 oPick t6 t10 (.bool false) fun t12 =>
 join (fun l13 m14 =>
 uc l13 fun t16 l17 =>
 k t16 m14) fun j15 =>
 oIf t12 (j15 [(.int .i64 (.ofNat 1))] m8) (j15 [t4] m8)) fun j9 =>
 oGT t6 (call 61 [(.int .i64 (.ofNat 1)), t2, (.int .i64 (.ofNat 10))] L m5 fun t18 m19 =>
 oOpt (aun .not t18) fun t20 =>
 j9 [t20] m19) (j9 [Go.undef] m5))
theorem S46_ok (lf : Nat) (cK : CallK β) (args : List Value) (L : Nat) (m : Mem) (k : Value → Mem → Option β)  : S46 lf cK args L m k = denF Tryd.prog fsT 2 K46 lf cK 46 args L m k := by kernel_rfl

end
end Go.Vit
