/- Shallow texts of the seat's functions, printed by a program: part 7. -/
import Derived.Test.YtppallabmjdolaaGreatDoorRows
import Derived.Test.YtppallabmjdolaaGreatDoorFs
set_option linter.unusedVariables false
set_option maxRecDepth 100000
namespace Go.Vit
open Go Go.Proofs
section
variable {β : Type}
/-- (*vitola/shade.shelf).reach -/
def K140 : Kat := [(19, (1, [13]))]
noncomputable def S140 (lf : Nat) : FnK β := fun call args L m k =>
 uc args fun t0 l1 =>
 un0 l1 (oOpt (anil t0) fun t2 =>
 oOpt (fa 1 t2) fun t3 =>
 oOpt (ld1 m t3) fun t4 =>
 join (fun l5 m6 =>
 uc l5 fun t8 l9 =>
 oPick t4 t8 (.bool false) fun t10 =>
 oIf t10 (k (.int .i64 (.ofNat 2)) m6) (k (.int .i64 (.ofNat 1)) m6)) fun j7 =>
 oGT t4 (oOpt (anil t0) fun t11 =>
 oOpt (fa 0 t11) fun t12 =>
 oOpt (ld1 m t12) fun t13 =>
 oOpt (ln t13) fun t14 =>
 oInt .gtr .i64 t14 (.int .i64 (.ofNat 2)) fun t15 =>
 j7 [t15] m) (j7 [Go.undef] m))
theorem S140_ok (lf : Nat) (cK : CallK β) (args : List Value) (L : Nat) (m : Mem) (k : Value → Mem → Option β)  : S140 lf cK args L m k = denF Tryz.prog fsT 2 K140 lf cK 140 args L m k := by kernel_rfl

/-- vitola/wrap.Round -/
def K141 : Kat := []
noncomputable def S141 (lf : Nat) : FnK β := fun call args L m k =>
 uc args fun t0 l1 =>
 un0 l1 (oRes (abox m t0) fun t2 m3 =>
 oOpt (ldN m3 3 t2) fun t4 =>
 call 85 [t4, (.func (.func 178) #[] #[])] L m3 fun t5 m6 =>
 oOpt (aextract t5 0) fun t7 =>
 oOpt (aextract t5 1) fun t8 =>
 k (.tuple ⟨[t7, t8]⟩) m6)
theorem S141_ok (lf : Nat) (cK : CallK β) (args : List Value) (L : Nat) (m : Mem) (k : Value → Mem → Option β)  : S141 lf cK args L m k = denF Tryz.prog fsT 2 K141 lf cK 141 args L m k := by kernel_rfl

/-- vitola/dock.Turns -/
def K142 : Kat := [(185, (0, [24])), (47715, (0, [9])), (761, (0, [10, 43])), (97586, (0, [10]))]
noncomputable def S142 (lf : Nat) : FnK β := fun call args L m k =>
 uc args fun t0 l1 =>
 uc l1 fun t2 l3 =>
 un0 l3 (call 179 [t0, t0, t2] L m fun t4 m5 =>
 oInt .neq .i64 t4 (.int .i64 (.ofNat 0)) fun t6 =>
 oIf t6 (k (.tuple ⟨[(.slice none 0 0), t4]⟩) m5) (oInt .add .i64 t0 (.int .i64 (.ofNat 1)) fun t7 =>
 oRes (amakeSlice Tryz.prog m5 215 t7 t7) fun t8 m9 =>
 oOpt (ln t2) fun t10 =>
 loopS (fun j13 l11 m12 =>
 uc l11 fun t14 l15 =>
 oInt .lss .i64 t14 t10 fun t16 =>
 oIf t16 (oOpt (ia 1 t2 t14) fun t17 =>
 oOpt (ld1 m12 t17) fun t18 =>
 loopS (fun j21 l19 m20 =>
 uc l19 fun t22 l23 =>
 oOpt (ia 1 t8 t22) fun t24 =>
 oOpt (ld1 m20 t24) fun t25 =>
 oIf t25 (oInt .add .i64 t22 (.int .i64 (.ofNat 1)) fun t26 =>
 oInt .add .i64 t0 (.int .i64 (.ofNat 1)) fun t27 =>
 oInt .rem .i64 t26 t27 fun t28 =>
 j21 [t28] m20) (oOpt (ia 1 t8 t22) fun t29 =>
 oRes (st1 1 L m20 t29 (.bool true)) fun t30 m31 =>
 oInt .add .i64 t14 (.int .i64 (.ofNat 1)) fun t32 =>
 j13 [t32] m31)) lf [t18] m12) (oInt .add .i64 t0 (.int .i64 (.ofNat 1)) fun t33 =>
 loopS (fun j36 l34 m35 =>
 uc l34 fun t37 l38 =>
 uc l38 fun t39 l40 =>
 oInt .lss .i64 t39 t33 fun t41 =>
 oIf t41 (oInt .sub .i64 t0 t39 fun t42 =>
 oOpt (ia 1 t8 t42) fun t43 =>
 oOpt (ld1 m35 t43) fun t44 =>
 oOpt (aun .not t44) fun t45 =>
 join (fun l46 m47 =>
 uc l46 fun t49 l50 =>
 oInt .add .i64 t39 (.int .i64 (.ofNat 1)) fun t51 =>
 j36 [t49, t51] m47) fun j48 =>
 oIf t45 (oRes (bs Tryz.prog m35 22 1 [(0, t39)]) fun t52 m53 =>
 oRes (aappend Tryz.prog L m53 22 t37 t52) fun t54 m55 =>
 j48 [t54] m55) (j48 [t37] m35)) (k (.tuple ⟨[t37, (.int .i64 (.ofNat 0))]⟩) m35)) lf [(.slice none 0 0), (.int .i64 (.ofNat 0))] m12)) lf [(.int .i64 (.ofNat 0))] m9))
theorem S142_ok (lf : Nat) (cK : CallK β) (args : List Value) (L : Nat) (m : Mem) (k : Value → Mem → Option β)  : S142 lf cK args L m k = denF Tryz.prog fsT 2 K142 lf cK 142 args L m k := by kernel_rfl

/-- vitola/vitolatop.gradesWork -/
def K143 : Kat := [(45, (1, [23])), (45, (3, [29])), (45, (5, [35])), (45, (7, [38]))]
noncomputable def S143 (lf : Nat) : FnK β := fun call args L m k =>
 un0 args (oRes (bs Tryz.prog m 22 4 [(0, (.int .i64 (.ofNat 1))), (1, (.int .i64 (.ofNat 3))), (2, (.int .i64 (.ofNat 0))), (3, (.int .i64 (.ofNat 2)))]) fun t0 m1 =>
 call 62 [t0] L m1 fun t2 m3 =>
 call 52 [t2] L m3 fun t4 m5 =>
 oOpt (aextract t4 0) fun t6 =>
 oOpt (aextract t4 1) fun t7 =>
 oRes (bs Tryz.prog m5 22 4 [(0, (.int .i64 (.ofNat 1))), (1, (.int .i64 (.ofNat 3))), (2, (.int .i64 (.ofNat 0))), (3, (.int .i64 (.ofNat 2)))]) fun t8 m9 =>
 call 62 [t8] L m9 fun t10 m11 =>
 oRes (bs Tryz.prog m11 22 4 [(0, (.int .i64 (.ofNat 3))), (1, (.int .i64 (.ofNat 1))), (2, (.int .i64 (.ofNat 2))), (3, (.int .i64 (.ofNat 0)))]) fun t12 m13 =>
 call 62 [t12] L m13 fun t14 m15 =>
 call 180 [t10, t14] L m15 fun t16 m17 =>
 oOpt (aextract t16 0) fun t18 =>
 oOpt (aextract t16 1) fun t19 =>
 oInt .eql .i64 t7 (.int .i64 (.ofNat 0)) fun t20 =>
 join (fun l21 m22 =>
 uc l21 fun t24 l25 =>
 oPick t20 t24 (.bool false) fun t26 =>
 join (fun l27 m28 =>
 uc l27 fun t30 l31 =>
 oPick t26 t30 (.bool false) fun t32 =>
 join (fun l33 m34 =>
 uc l33 fun t36 l37 =>
 oPick t32 t36 (.bool false) fun t38 =>
 join (fun l39 m40 =>
 uc l39 fun t42 l43 =>
 oPick t38 t42 (.bool false) fun t44 =>
 k t44 m40) fun j41 =>
 oGT t38 (call 181 [] L m34 fun t45 m46 =>
 j41 [t45] m46) (j41 [Go.undef] m34)) fun j35 =>
 oGT t32 (oRes (bs Tryz.prog m28 22 2 [(0, (.int .i64 (.ofNat 0))), (1, (.int .i64 (.ofNat 2)))]) fun t47 m48 =>
 call 62 [t47] L m48 fun t49 m50 =>
 call 13 [t18, t49] L m50 fun t51 m52 =>
 j35 [t51] m52) (j35 [Go.undef] m28)) fun j29 =>
 oGT t26 (oRes (bs Tryz.prog m22 22 4 [(0, (.int .i64 (.ofNat 1))), (1, (.int .i64 (.ofNat 2))), (2, (.int .i64 (.ofNat 0))), (3, (.int .i64 (.ofNat 0)))]) fun t53 m54 =>
 call 62 [t53] L m54 fun t55 m56 =>
 call 13 [t6, t55] L m56 fun t57 m58 =>
 j29 [t57] m58) (j29 [Go.undef] m22)) fun j23 =>
 oGT t20 (oInt .eql .i64 t19 (.int .i64 (.ofNat 0)) fun t59 =>
 j23 [t59] m17) (j23 [Go.undef] m17))
theorem S143_ok (lf : Nat) (cK : CallK β) (args : List Value) (L : Nat) (m : Mem) (k : Value → Mem → Option β)  : S143 lf cK args L m k = denF Tryz.prog fsT 2 K143 lf cK 143 args L m k := by kernel_rfl

/-- (vitola/beetle.set).has -/
def K144 : Kat := []
noncomputable def S144 (lf : Nat) : FnK β := fun call args L m k =>
 uc args fun t0 l1 =>
 uc l1 fun t2 l3 =>
 un0 l3 (oOpt (abin Tryz.prog .shr 130 t0 t2) fun t4 =>
 oInt .and .u32 t4 (.int .u32 (.ofNat 1)) fun t5 =>
 oInt .eql .u32 t5 (.int .u32 (.ofNat 1)) fun t6 =>
 k t6 m)
theorem S144_ok (lf : Nat) (cK : CallK β) (args : List Value) (L : Nat) (m : Mem) (k : Value → Mem → Option β)  : S144 lf cK args L m k = denF Tryz.prog fsT 2 K144 lf cK 144 args L m k := by kernel_rfl

/-- math/bits.TrailingZeros32 -/
def K145 : Kat := []
noncomputable def S145 (lf : Nat) : FnK β := fun call args L m k =>
 uc args fun t0 l1 =>
 un0 l1 (oInt .eql .u32 t0 (.int .u32 (.ofNat 0)) fun t2 =>
 oIf t2 (k (.int .i64 (.ofNat 32)) m) (oOpt (aun .neg t0) fun t3 =>
 oInt .and .u32 t0 t3 fun t4 =>
 oInt .mul .u32 t4 (.int .u32 (.ofNat 125613361)) fun t5 =>
 oOpt (abin Tryz.prog .shr 71 t5 (.int .u64 (.ofNat 27))) fun t6 =>
 oOpt (iaA 32 1 (.pointer (some ⟨0, 0, none⟩)) t6) fun t7 =>
 oOpt (ld1 m t7) fun t8 =>
 oCv .i64 t8 fun t9 =>
 k t9 m))
theorem S145_ok (lf : Nat) (cK : CallK β) (args : List Value) (L : Nat) (m : Mem) (k : Value → Mem → Option β)  : S145 lf cK args L m k = denF Tryz.prog fsT 2 K145 lf cK 145 args L m k := by kernel_rfl

/-- (vitola/bond.circle).inner$1 -/
def K146 : Kat := [(9, (1, [10]))]
noncomputable def S146 (lf : Nat) : FnK β := fun call args L m k =>
 uc args fun t0 l1 =>
 uc l1 fun t2 l3 =>
 un0 l3 (oOpt (ld1 m t2) fun t4 =>
 oInt .neq .i64 t0 t4 fun t5 =>
 join (fun l6 m7 =>
 uc l6 fun t9 l10 =>
 oPick t5 t9 (.bool false) fun t11 =>
 k t11 m7) fun j8 =>
 oGT t5 (oOpt (ld1 m t2) fun t12 =>
 call 129 [t0, t12] L m fun t13 m14 =>
 j8 [t13] m14) (j8 [Go.undef] m))
theorem S146_ok (lf : Nat) (cK : CallK β) (args : List Value) (L : Nat) (m : Mem) (k : Value → Mem → Option β)  : S146 lf cK args L m k = denF Tryz.prog fsT 2 K146 lf cK 146 args L m k := by kernel_rfl

/-- slices.Compact[[]int,int] -/
def K147 : Kat := [(89, (0, [3])), (92457, (0, [3, 5])), (2958664, (0, [3]))]
noncomputable def S147 (lf : Nat) : FnK β := fun call args L m k =>
 uc args fun t0 l1 =>
 un0 l1 (oOpt (ln t0) fun t2 =>
 oInt .lss .i64 t2 (.int .i64 (.ofNat 2)) fun t3 =>
 oIf t3 (k t0 m) (loopS (fun j6 l4 m5 =>
 uc l4 fun t7 l8 =>
 oOpt (ln t0) fun t9 =>
 oInt .lss .i64 t7 t9 fun t10 =>
 oIf t10 (oOpt (ia 1 t0 t7) fun t11 =>
 oOpt (ld1 m5 t11) fun t12 =>
 oInt .sub .i64 t7 (.int .i64 (.ofNat 1)) fun t13 =>
 oOpt (ia 1 t0 t13) fun t14 =>
 oOpt (ld1 m5 t14) fun t15 =>
 oInt .eql .i64 t12 t15 fun t16 =>
 oIf t16 (oOpt (sl Tryz.prog 22 t0 (some t7) none none) fun t17 =>
 loopS (fun j20 l18 m19 =>
 uc l18 fun t21 l22 =>
 uc l22 fun t23 l24 =>
 oOpt (ln t17) fun t25 =>
 oInt .lss .i64 t23 t25 fun t26 =>
 oIf t26 (oOpt (ia 1 t17 t23) fun t27 =>
 oOpt (ld1 m19 t27) fun t28 =>
 oInt .sub .i64 t23 (.int .i64 (.ofNat 1)) fun t29 =>
 oOpt (ia 1 t17 t29) fun t30 =>
 oOpt (ld1 m19 t30) fun t31 =>
 oInt .neq .i64 t28 t31 fun t32 =>
 join (fun l33 m34 =>
 uc l33 fun t36 l37 =>
 oInt .add .i64 t23 (.int .i64 (.ofNat 1)) fun t38 =>
 j20 [t36, t38] m34) fun j35 =>
 oIf t32 (oOpt (ia 1 t17 t23) fun t39 =>
 oOpt (ld1 m19 t39) fun t40 =>
 oOpt (ia 1 t0 t21) fun t41 =>
 oRes (st1 1 L m19 t41 t40) fun t42 m43 =>
 oInt .add .i64 t21 (.int .i64 (.ofNat 1)) fun t44 =>
 j35 [t44] m43) (j35 [t21] m19)) (oOpt (sl Tryz.prog 22 t0 (some t21) none none) fun t45 =>
 oRes (aclear Tryz.prog L m19 22 t45) fun t46 m47 =>
 oOpt (sl Tryz.prog 22 t0 none (some t21) none) fun t48 =>
 k t48 m47)) lf [t7, (.int .i64 (.ofNat 1))] m5) (oInt .add .i64 t7 (.int .i64 (.ofNat 1)) fun t49 =>
 j6 [t49] m5)) (k t0 m5)) lf [(.int .i64 (.ofNat 1))] m))
theorem S147_ok (lf : Nat) (cK : CallK β) (args : List Value) (L : Nat) (m : Mem) (k : Value → Mem → Option β)  : S147 lf cK args L m k = denF Tryz.prog fsT 2 K147 lf cK 147 args L m k := by kernel_rfl

/-- vitola/beetle.laid$1 -/
def K148 : Kat := []
noncomputable def S148 (lf : Nat) : FnK β := fun call args L m k =>
 uc args fun t0 l1 =>
 uc l1 fun t2 l3 =>
 uc l3 fun t4 l5 =>
 un0 l5 (oOpt (ld1 m t4) fun t6 =>
 oOpt (anil t6) fun t7 =>
 oOpt (fa 3 t7) fun t8 =>
 oOpt (iaA 25 1 t8 t0) fun t9 =>
 oOpt (ld1 m t9) fun t10 =>
 oOpt (abin Tryz.prog .shl 130 (.int .u32 (.ofNat 1)) t2) fun t11 =>
 oInt .or .u32 t10 t11 fun t12 =>
 oOpt (anil t6) fun t13 =>
 oOpt (fa 3 t13) fun t14 =>
 oOpt (iaA 25 1 t14 t0) fun t15 =>
 oRes (st1 1 L m t15 t12) fun t16 m17 =>
 oOpt (ld1 m17 t4) fun t18 =>
 oOpt (anil t18) fun t19 =>
 oOpt (fa 3 t19) fun t20 =>
 oOpt (iaA 25 1 t20 t2) fun t21 =>
 oOpt (ld1 m17 t21) fun t22 =>
 oOpt (abin Tryz.prog .shl 130 (.int .u32 (.ofNat 1)) t0) fun t23 =>
 oInt .or .u32 t22 t23 fun t24 =>
 oOpt (anil t18) fun t25 =>
 oOpt (fa 3 t25) fun t26 =>
 oOpt (iaA 25 1 t26 t2) fun t27 =>
 oRes (st1 1 L m17 t27 t24) fun t28 m29 =>
 k (.tuple ⟨[]⟩) m29)
theorem S148_ok (lf : Nat) (cK : CallK β) (args : List Value) (L : Nat) (m : Mem) (k : Value → Mem → Option β)  : S148 lf cK args L m k = denF Tryz.prog fsT 2 K148 lf cK 148 args L m k := by kernel_rfl

/-- vitola/club.opened -/
def K149 : Kat := [(185, (0, [25])), (190871, (1, [46]))]
noncomputable def S149 (lf : Nat) : FnK β := fun call args L m k =>
 uc args fun t0 l1 =>
 un0 l1 (oRes (abox m t0) fun t2 m3 =>
 oOpt (fa 0 t2) fun t4 =>
 oOpt (ld1 m3 t4) fun t5 =>
 call 182 [t5, (.int .i64 (.ofNat 1)), (.int .i64 (.ofNat 8))] L m3 fun t6 m7 =>
 oOpt (aun .not t6) fun t8 =>
 oIf t8 (k (.tuple ⟨[(.slice none 0 0), (.int .i64 (.ofNat 1))]⟩) m7) (oOpt (fa 1 t2) fun t9 =>
 oOpt (ld1 m7 t9) fun t10 =>
 oOpt (ln t10) fun t11 =>
 oInt .gtr .i64 t11 (.int .i64 (.ofNat 28)) fun t12 =>
 oIf t12 (k (.tuple ⟨[(.slice none 0 0), (.int .i64 (.ofNat 3))]⟩) m7) (oOpt (fa 0 t2) fun t13 =>
 oOpt (ld1 m7 t13) fun t14 =>
 oRes (amakeSlice Tryz.prog m7 152 t14 t14) fun t15 m16 =>
 oOpt (fa 1 t2) fun t17 =>
 oOpt (ld1 m16 t17) fun t18 =>
 oOpt (ln t18) fun t19 =>
 loopS (fun j22 l20 m21 =>
 uc l20 fun t23 l24 =>
 oInt .lss .i64 t23 t19 fun t25 =>
 oIf t25 (oOpt (ia 2 t18 t23) fun t26 =>
 oOpt (ldN m21 2 t26) fun t27 =>
 oRes (anew m21 1 [(.int .i64 (.ofNat 0)), (.int .i64 (.ofNat 0))] ptrTo) fun t28 m29 =>
 oRes (st1 2 L m29 t28 t27) fun t30 m31 =>
 oOpt (iaA 2 1 t28 (.int .i64 (.ofNat 0))) fun t32 =>
 oOpt (ld1 m31 t32) fun t33 =>
 oOpt (iaA 2 1 t28 (.int .i64 (.ofNat 1))) fun t34 =>
 oOpt (ld1 m31 t34) fun t35 =>
 oOpt (fa 0 t2) fun t36 =>
 oOpt (ld1 m31 t36) fun t37 =>
 oInt .sub .i64 t37 (.int .i64 (.ofNat 1)) fun t38 =>
 call 182 [t33, (.int .i64 (.ofNat 0)), t38] L m31 fun t39 m40 =>
 oOpt (aun .not t39) fun t41 =>
 join (fun l42 m43 =>
 uc l42 fun t45 l46 =>
 oPick t41 (.bool true) t45 fun t47 =>
 oIf t47 (k (.tuple ⟨[(.slice none 0 0), (.int .i64 (.ofNat 2))]⟩) m43) (oInt .eql .i64 t33 t35 fun t48 =>
 oIf t48 (k (.tuple ⟨[(.slice none 0 0), (.int .i64 (.ofNat 13))]⟩) m43) (call 183 [t15, t33, t35] L m43 fun t49 m50 =>
 oIf t49 (k (.tuple ⟨[(.slice none 0 0), (.int .i64 (.ofNat 6))]⟩) m50) (call 184 [t15, t33, t35] L m50 fun t51 m52 =>
 oInt .add .i64 t23 (.int .i64 (.ofNat 1)) fun t53 =>
 j22 [t53] m52)))) fun j44 =>
 oGF t41 (oOpt (fa 0 t2) fun t54 =>
 oOpt (ld1 m40 t54) fun t55 =>
 oInt .sub .i64 t55 (.int .i64 (.ofNat 1)) fun t56 =>
 call 182 [t35, (.int .i64 (.ofNat 0)), t56] L m40 fun t57 m58 =>
 oOpt (aun .not t57) fun t59 =>
 j44 [t59] m58) (j44 [Go.undef] m40)) (k (.tuple ⟨[t15, (.int .i64 (.ofNat 0))]⟩) m21)) lf [(.int .i64 (.ofNat 0))] m16)))
theorem S149_ok (lf : Nat) (cK : CallK β) (args : List Value) (L : Nat) (m : Mem) (k : Value → Mem → Option β)  : S149 lf cK args L m k = denF Tryz.prog fsT 2 K149 lf cK 149 args L m k := by kernel_rfl

/-- (vitola/club.room).plan -/
def K150 : Kat := [(89, (0, [11])), (23141, (0, [5])), (740552, (0, []))]
noncomputable def S150 (lf : Nat) : FnK β := fun call args L m k =>
 uc args fun t0 l1 =>
 un0 l1 (oRes (anew m 1 [(.int .i64 (.ofNat 0)), (.slice none 0 0)] ptrTo) fun t2 m3 =>
 oOpt (ln t0) fun t4 =>
 oOpt (bu Tryz.prog 74 [(0, t4)]) fun t5 =>
 oRes (anew m3 1 [(.int .i64 (.ofNat 0)), (.slice none 0 0)] ptrTo) fun t6 m7 =>
 oRes (st1 2 L m7 t6 t5) fun t8 m9 =>
 oOpt (ln t0) fun t10 =>
 loopS (fun j13 l11 m12 =>
 uc l11 fun t14 l15 =>
 oInt .lss .i64 t14 t10 fun t16 =>
 oIf t16 (oInt .add .i64 t14 (.int .i64 (.ofNat 1)) fun t17 =>
 loopS (fun j20 l18 m19 =>
 uc l18 fun t21 l22 =>
 oOpt (ln t0) fun t23 =>
 oInt .lss .i64 t21 t23 fun t24 =>
 oIf t24 (call 183 [t0, t14, t21] L m19 fun t25 m26 =>
 join (fun l27 m28 =>
 oInt .add .i64 t21 (.int .i64 (.ofNat 1)) fun t30 =>
 j20 [t30] m28) fun j29 =>
 oIf t25 (oOpt (fa 1 t6) fun t31 =>
 oOpt (ld1 m26 t31) fun t32 =>
 oOpt (bu Tryz.prog 79 [(0, t14), (1, t21)]) fun t33 =>
 oRes (bs Tryz.prog m26 72 1 [(0, t33)]) fun t34 m35 =>
 oRes (aappend Tryz.prog L m35 72 t32 t34) fun t36 m37 =>
 oOpt (fa 1 t6) fun t38 =>
 oRes (st1 1 L m37 t38 t36) fun t39 m40 =>
 j29 [] m40) (j29 [] m26)) (oInt .add .i64 t14 (.int .i64 (.ofNat 1)) fun t41 =>
 j13 [t41] m19)) lf [t17] m12) (oOpt (ldN m12 2 t6) fun t42 =>
 oRes (st1 2 L m12 t2 t42) fun t43 m44 =>
 oOpt (ldN m44 2 t2) fun t45 =>
 k t45 m44)) lf [(.int .i64 (.ofNat 0))] m9)
theorem S150_ok (lf : Nat) (cK : CallK β) (args : List Value) (L : Nat) (m : Mem) (k : Value → Mem → Option β)  : S150 lf cK args L m k = denF Tryz.prog fsT 2 K150 lf cK 150 args L m k := by kernel_rfl

/-- vitola/club.Check -/
def K151 : Kat := []
noncomputable def S151 (lf : Nat) : FnK β := fun call args L m k =>
 uc args fun t0 l1 =>
 un0 l1 (oOpt (ln t0) fun t2 =>
 oRes (anew m 1 [(.int .i64 (.ofNat 0))] ptrTo) fun t3 m4 =>
 oRes (st1 1 L m4 t3 t2) fun t5 m6 =>
 oOpt (ld1 m6 t3) fun t7 =>
 oInt .eql .i64 t7 (.int .i64 (.ofNat 0)) fun t8 =>
 oIf t8 (k (.int .i64 (.ofNat 4)) m6) (oOpt (ld1 m6 t3) fun t9 =>
 oInt .gtr .i64 t9 (.int .i64 (.ofNat 8)) fun t10 =>
 oIf t10 (k (.int .i64 (.ofNat 3)) m6) (call 43 [t0, (.func (.func 185) #[] ⟨[t3]⟩)] L m6 fun t11 m12 =>
 oIf t11 (k (.int .i64 (.ofNat 1)) m12) (k (.int .i64 (.ofNat 0)) m12))))
theorem S151_ok (lf : Nat) (cK : CallK β) (args : List Value) (L : Nat) (m : Mem) (k : Value → Mem → Option β)  : S151 lf cK args L m k = denF Tryz.prog fsT 2 K151 lf cK 151 args L m k := by kernel_rfl

/-- (vitola/club.tally).plans -/
def K152 : Kat := [(377, (0, [22])), (3065, (0, [11, 44])), (49061, (0, [11])), (6279993, (0, [14])), (3139998, (0, [11]))]
noncomputable def S152 (lf : Nat) : FnK β := fun call args L m k =>
 uc args fun t0 l1 =>
 uc l1 fun t2 l3 =>
 un0 l3 (call 186 [t2] L m fun t4 m5 =>
 oOpt (ln t4) fun t6 =>
 oInt .eql .i64 t6 (.int .i64 (.ofNat 0)) fun t7 =>
 oIf t7 (k (.int .i64 (.ofNat 1)) m5) (oRes (anew m5 1 [(.int .i64 (.ofNat 0)), (.int .i64 (.ofNat 0)), (.int .i64 (.ofNat 0)), (.int .i64 (.ofNat 0)), (.int .i64 (.ofNat 0)), (.int .i64 (.ofNat 0)), (.int .i64 (.ofNat 0)), (.int .i64 (.ofNat 0))] ptrTo) fun t8 m9 =>
 oOpt (ln t4) fun t10 =>
 loopS (fun j13 l11 m12 =>
 uc l11 fun t14 l15 =>
 oInt .lss .i64 t14 t10 fun t16 =>
 oIf t16 (oOpt (ia 1 t4 t14) fun t17 =>
 oOpt (ld1 m12 t17) fun t18 =>
 oInt .add .i64 t18 (.int .i64 (.ofNat 1)) fun t19 =>
 oOpt (iaA 8 1 t8 t14) fun t20 =>
 oRes (st1 1 L m12 t20 t19) fun t21 m22 =>
 oInt .add .i64 t14 (.int .i64 (.ofNat 1)) fun t23 =>
 j13 [t23] m22) (oOpt (ldN m12 8 t8) fun t24 =>
 oOpt (alookup Tryz.prog m12 192 t0 t24 true) fun t25 =>
 oOpt (aextract t25 0) fun t26 =>
 oOpt (aextract t25 1) fun t27 =>
 oIf t27 (k t26 m12) (oOpt (ln t4) fun t28 =>
 oInt .sub .i64 t28 (.int .i64 (.ofNat 1)) fun t29 =>
 oOpt (abin Tryz.prog .shl 95 (.int .u64 (.ofNat 1)) t29) fun t30 =>
 loopS (fun j33 l31 m32 =>
 uc l31 fun t34 l35 =>
 uc l35 fun t36 l37 =>
 oInt .lss .u64 t36 t30 fun t38 =>
 oIf t38 (join (fun l39 m40 =>
 uc l39 fun t42 l43 =>
 oInt .add .u64 t36 (.int .u64 (.ofNat 1)) fun t44 =>
 j33 [t42, t44] m40) fun j41 =>
 call 55 [t36] m32.next m32 fun t45 m46 =>
 oOpt (ia 1 t4 (.int .i64 (.ofNat 0))) fun t47 =>
 oOpt (ld1 m46 t47) fun t48 =>
 oInt .neq .i64 t45 t48 fun t49 =>
 oIf t49 (j41 [t34] m46) (oOpt (sl Tryz.prog 22 t4 (some (.int .i64 (.ofNat 1))) none none) fun t50 =>
 call 117 [t50] L m46 fun t51 m52 =>
 loopS (fun j55 l53 m54 =>
 uc l53 fun t56 l57 =>
 oInt .neq .u64 t56 (.int .u64 (.ofNat 0)) fun t58 =>
 oIf t58 (call 187 [t56] L m54 fun t59 m60 =>
 oOpt (ia 1 t51 t59) fun t61 =>
 oOpt (ld1 m60 t61) fun t62 =>
 oInt .sub .i64 t62 (.int .i64 (.ofNat 1)) fun t63 =>
 oOpt (ia 1 t51 t59) fun t64 =>
 oRes (st1 1 L m60 t64 t63) fun t65 m66 =>
 oInt .sub .u64 t56 (.int .u64 (.ofNat 1)) fun t67 =>
 oInt .and .u64 t56 t67 fun t68 =>
 j55 [t68] m66) (oRes (bs Tryz.prog m54 22 1 [(0, (.int .i64 (.ofNat 0)))]) fun t69 m70 =>
 oRes (aappend Tryz.prog L m70 22 t51 t69) fun t71 m72 =>
 call 188 [t71] L m72 fun t73 m74 =>
 oInt .geq .i64 t73 (.int .i64 (.ofNat 0)) fun t75 =>
 join (fun l76 m77 =>
 uc l76 fun t79 l80 =>
 j41 [t79] m77) fun j78 =>
 oIf t75 (call 152 [t0, t51] L m74 fun t81 m82 =>
 oInt .add .i64 t34 t81 fun t83 =>
 j78 [t83] m82) (j78 [t34] m74))) lf [t36] m52)) (oOpt (ldN m32 8 t8) fun t84 =>
 oRes (amapUpdate Tryz.prog L m32 192 t0 t84 t34) fun t85 m86 =>
 k t34 m86)) lf [(.int .i64 (.ofNat 0)), (.int .u64 (.ofNat 0))] m12))) lf [(.int .i64 (.ofNat 0))] m9))
theorem S152_ok (lf : Nat) (cK : CallK β) (args : List Value) (L : Nat) (m : Mem) (k : Value → Mem → Option β)  : S152 lf cK args L m k = denF Tryz.prog fsT 2 K152 lf cK 152 args L m k := by kernel_rfl

/-- slices.Delete[[]int,int] -/
def K153 : Kat := []
noncomputable def S153 (lf : Nat) : FnK β := fun call args L m k =>
 uc args fun t0 l1 =>
 uc l1 fun t2 l3 =>
 uc l3 fun t4 l5 =>
 un0 l5 (oOpt (ln t0) fun t6 =>
 oOpt (sl Tryz.prog 22 t0 (some t2) (some t4) (some t6)) fun t7 =>
 oInt .eql .i64 t2 t4 fun t8 =>
 oIf t8 (k t0 m) (oOpt (ln t0) fun t9 =>
 oOpt (sl Tryz.prog 22 t0 none (some t2) none) fun t10 =>
 oOpt (sl Tryz.prog 22 t0 (some t4) none none) fun t11 =>
 oRes (aappend Tryz.prog L m 22 t10 t11) fun t12 m13 =>
 oOpt (ln t12) fun t14 =>
 oOpt (sl Tryz.prog 22 t12 (some t14) (some t9) none) fun t15 =>
 oRes (aclear Tryz.prog L m13 22 t15) fun t16 m17 =>
 k t12 m17))
theorem S153_ok (lf : Nat) (cK : CallK β) (args : List Value) (L : Nat) (m : Mem) (k : Value → Mem → Option β)  : S153 lf cK args L m k = denF Tryz.prog fsT 2 K153 lf cK 153 args L m k := by kernel_rfl

/-- vitola/shade.checked[int] -/
def K154 : Kat := [(89, (0, [21]))]
noncomputable def S154 (lf : Nat) : FnK β := fun call args L m k =>
 uc args fun t0 l1 =>
 uc l1 fun t2 l3 =>
 uc l3 fun t4 l5 =>
 un0 l5 (oOpt (ln t0) fun t6 =>
 oInt .eql .i64 t6 (.int .i64 (.ofNat 0)) fun t7 =>
 oIf t7 (k (.int .i64 (.ofNat 4)) m) (oOpt (ln t0) fun t8 =>
 oInt .gtr .i64 t8 t2 fun t9 =>
 oIf t9 (k (.int .i64 (.ofNat 3)) m) (oOpt (ln t0) fun t10 =>
 loopS (fun j13 l11 m12 =>
 uc l11 fun t14 l15 =>
 oInt .lss .i64 t14 t10 fun t16 =>
 oIf t16 (oOpt (ia 1 t0 t14) fun t17 =>
 oOpt (ld1 m12 t17) fun t18 =>
 oCallV call t4 [t14, t18] L m12 fun t19 m20 =>
 oInt .neq .i64 t19 (.int .i64 (.ofNat 0)) fun t21 =>
 oIf t21 (k t19 m20) (oInt .add .i64 t14 (.int .i64 (.ofNat 1)) fun t22 =>
 j13 [t22] m20)) (k (.int .i64 (.ofNat 0)) m12)) lf [(.int .i64 (.ofNat 0))] m)))
theorem S154_ok (lf : Nat) (cK : CallK β) (args : List Value) (L : Nat) (m : Mem) (k : Value → Mem → Option β)  : S154 lf cK args L m k = denF Tryz.prog fsT 2 K154 lf cK 154 args L m k := by kernel_rfl

/-- vitola/shade.order$1 -/
def K155 : Kat := []
noncomputable def S155 (lf : Nat) : FnK β := fun call args L m k =>
 uc args fun t0 l1 =>
 uc l1 fun t2 l3 =>
 uc l3 fun t4 l5 =>
 uc l5 fun t6 l7 =>
 un0 l7 (oOpt (ld1 m t4) fun t8 =>
 oOpt (ln t8) fun t9 =>
 oInt .sub .i64 t9 (.int .i64 (.ofNat 1)) fun t10 =>
 call 108 [t2, (.int .i64 (.ofNat 0)), t10] L m fun t11 m12 =>
 oOpt (aun .not t11) fun t13 =>
 oIf t13 (k (.int .i64 (.ofNat 2)) m12) (oOpt (iaA 9 1 t6 t2) fun t14 =>
 oOpt (ld1 m12 t14) fun t15 =>
 oIf t15 (k (.int .i64 (.ofNat 6)) m12) (oOpt (iaA 9 1 t6 t2) fun t16 =>
 oRes (st1 1 L m12 t16 (.bool true)) fun t17 m18 =>
 k (.int .i64 (.ofNat 0)) m18)))
theorem S155_ok (lf : Nat) (cK : CallK β) (args : List Value) (L : Nat) (m : Mem) (k : Value → Mem → Option β)  : S155 lf cK args L m k = denF Tryz.prog fsT 2 K155 lf cK 155 args L m k := by kernel_rfl

/-- (vitola/bond.circle).check$1 -/
def K156 : Kat := []
noncomputable def S156 (lf : Nat) : FnK β := fun call args L m k =>
 uc args fun t0 l1 =>
 uc l1 fun t2 l3 =>
 un0 l3 (oOpt (ldN m 2 t2) fun t4 =>
 call 69 [t4, t0] L m fun t5 m6 =>
 oOpt (aun .not t5) fun t7 =>
 k t7 m6)
theorem S156_ok (lf : Nat) (cK : CallK β) (args : List Value) (L : Nat) (m : Mem) (k : Value → Mem → Option β)  : S156 lf cK args L m k = denF Tryz.prog fsT 2 K156 lf cK 156 args L m k := by kernel_rfl

end
end Go.Vit
