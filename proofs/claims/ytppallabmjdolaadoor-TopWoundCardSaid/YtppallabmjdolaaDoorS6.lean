/- Shallow texts of the seat's functions, printed by a program: part 6. -/
import Derived.Test.YtppallabmjdolaaDoorRows
import Derived.Test.YtppallabmjdolaaDoorFs
set_option linter.unusedVariables false
set_option maxRecDepth 100000
namespace Go.Vit
open Go Go.Proofs
section
variable {β : Type}
/-- vitola/blend.sized -/
def K117 : Kat := [(19, (1, [12]))]
noncomputable def S117 (lf : Nat) : FnK β := fun call args L m k =>
 uc args fun t0 l1 =>
 uc l1 fun t2 l3 =>
 un0 l3 (call 118 [t0, (.int .i64 (.ofNat 1)), (.int .i64 (.ofNat 10))] L m fun t4 m5 =>
 oOpt (aun .not t4) fun t6 =>
 join (fun l7 m8 =>
 uc l7 fun t10 l11 =>
 oPick t6 (.bool true) t10 fun t12 =>
 oIf t12 (k (.int .i64 (.ofNat 1)) m8) (k (.int .i64 (.ofNat 0)) m8)) fun j9 =>
 oGF t6 (call 118 [t2, (.int .i64 (.ofNat 0)), t0] L m5 fun t13 m14 =>
 oOpt (aun .not t13) fun t15 =>
 j9 [t15] m14) (j9 [Go.undef] m5))
theorem S117_ok (lf : Nat) (cK : CallK β) (args : List Value) (L : Nat) (m : Mem) (k : Value → Mem → Option β)  : S117 lf cK args L m k = denF Tryd.prog fsT 2 K117 lf cK 117 args L m k := by kernel_rfl

/-- vitola/blend.within -/
def K118 : Kat := [(9, (1, [13]))]
noncomputable def S118 (lf : Nat) : FnK β := fun call args L m k =>
 uc args fun t0 l1 =>
 uc l1 fun t2 l3 =>
 uc l3 fun t4 l5 =>
 un0 l5 (oInt .leq .i64 t2 t0 fun t6 =>
 join (fun l7 m8 =>
 uc l7 fun t10 l11 =>
 oPick t6 t10 (.bool false) fun t12 =>
 k t12 m8) fun j9 =>
 oGT t6 (oInt .leq .i64 t0 t4 fun t13 =>
 j9 [t13] m) (j9 [Go.undef] m))
theorem S118_ok (lf : Nat) (cK : CallK β) (args : List Value) (L : Nat) (m : Mem) (k : Value → Mem → Option β)  : S118 lf cK args L m k = denF Tryd.prog fsT 2 K118 lf cK 118 args L m k := by kernel_rfl

/-- vitola/blend.choose -/
def K119 : Kat := [(19, (1, [12])), (185, (0, [5, 15]))]
noncomputable def S119 (lf : Nat) : FnK β := fun call args L m k =>
 uc args fun t0 l1 =>
 uc l1 fun t2 l3 =>
 un0 l3 (oInt .lss .i64 t2 (.int .i64 (.ofNat 0)) fun t4 =>
 join (fun l5 m6 =>
 uc l5 fun t8 l9 =>
 oPick t4 (.bool true) t8 fun t10 =>
 oIf t10 (k (.int .i64 (.ofNat 0)) m6) (loopS (fun j13 l11 m12 =>
 uc l11 fun t14 l15 =>
 uc l15 fun t16 l17 =>
 oInt .lss .i64 t16 t2 fun t18 =>
 oIf t18 (oInt .sub .i64 t0 t16 fun t19 =>
 oInt .mul .i64 t14 t19 fun t20 =>
 oInt .add .i64 t16 (.int .i64 (.ofNat 1)) fun t21 =>
 oInt .quo .i64 t20 t21 fun t22 =>
 oInt .add .i64 t16 (.int .i64 (.ofNat 1)) fun t23 =>
 j13 [t22, t23] m12) (k t14 m12)) lf [(.int .i64 (.ofNat 1)), (.int .i64 (.ofNat 0))] m6)) fun j7 =>
 oGF t4 (oInt .gtr .i64 t2 t0 fun t24 =>
 j7 [t24] m) (j7 [Go.undef] m))
theorem S119_ok (lf : Nat) (cK : CallK β) (args : List Value) (L : Nat) (m : Mem) (k : Value → Mem → Option β)  : S119 lf cK args L m k = denF Tryd.prog fsT 2 K119 lf cK 119 args L m k := by kernel_rfl

/-- vitola/blend.nth -/
def K120 : Kat := [(89, (0, [1, 6])), (11555, (0, [7]))]
noncomputable def S120 (lf : Nat) : FnK β := fun call args L m k =>
 uc args fun t0 l1 =>
 uc l1 fun t2 l3 =>
 un0 l3 (oRes (amakeSlice Tryd.prog m 25 t0 t0) fun t4 m5 =>
 loopS (fun j8 l6 m7 =>
 uc l6 fun t9 l10 =>
 uc l10 fun t11 l12 =>
 oInt .gtr .i64 t11 (.int .i64 (.ofNat 0)) fun t13 =>
 oIf t13 (oInt .sub .i64 t11 (.int .i64 (.ofNat 1)) fun t14 =>
 loopS (fun j17 l15 m16 =>
 uc l15 fun t18 l19 =>
 oInt .add .i64 t18 (.int .i64 (.ofNat 1)) fun t20 =>
 call 119 [t20, t11] L m16 fun t21 m22 =>
 oInt .leq .i64 t21 t9 fun t23 =>
 oIf t23 (oInt .add .i64 t18 (.int .i64 (.ofNat 1)) fun t24 =>
 j17 [t24] m22) (oInt .sub .i64 t11 (.int .i64 (.ofNat 1)) fun t25 =>
 oOpt (ia 1 t4 t25) fun t26 =>
 oRes (st1 1 L m22 t26 t18) fun t27 m28 =>
 oInt .add .i64 t18 (.int .i64 (.ofNat 1)) fun t29 =>
 call 119 [t29, t11] L m28 fun t30 m31 =>
 oInt .sub .i64 t30 (.int .i64 (.ofNat 1)) fun t32 =>
 oInt .sub .i64 t32 t9 fun t33 =>
 oInt .sub .i64 t11 (.int .i64 (.ofNat 1)) fun t34 =>
 j8 [t33, t34] m31)) lf [t14] m7) (k t4 m7)) lf [t2, t0] m5)
theorem S120_ok (lf : Nat) (cK : CallK β) (args : List Value) (L : Nat) (m : Mem) (k : Value → Mem → Option β)  : S120 lf cK args L m k = denF Tryd.prog fsT 2 K120 lf cK 120 args L m k := by kernel_rfl

/-- slices.insertionSortCmpFunc[vitola/heap.Heap] -/
def K121 : Kat := [(9, (0, [8])), (657, (0, [9])), (5263, (1, [33]))]
noncomputable def S121 (lf : Nat) : FnK β := fun call args L m k =>
 uc args fun t0 l1 =>
 uc l1 fun t2 l3 =>
 uc l3 fun t4 l5 =>
 uc l5 fun t6 l7 =>
 un0 l7 (oInt .add .i64 t2 (.int .i64 (.ofNat 1)) fun t8 =>
 loopS (fun j11 l9 m10 =>
 uc l9 fun t12 l13 =>
 oInt .lss .i64 t12 t4 fun t14 =>
 oIf t14 (loopS (fun j17 l15 m16 =>
 uc l15 fun t18 l19 =>
 oInt .gtr .i64 t18 t2 fun t20 =>
 join (fun l21 m22 =>
 uc l21 fun t24 l25 =>
 oPick t20 t24 (.bool false) fun t26 =>
 oIf t26 (oInt .sub .i64 t18 (.int .i64 (.ofNat 1)) fun t27 =>
 oInt .sub .i64 t18 (.int .i64 (.ofNat 1)) fun t28 =>
 oOpt (ia 2 t0 t28) fun t29 =>
 oOpt (ldN m22 2 t29) fun t30 =>
 oOpt (ia 2 t0 t18) fun t31 =>
 oOpt (ldN m22 2 t31) fun t32 =>
 oOpt (ia 2 t0 t18) fun t33 =>
 oRes (st1 2 L m22 t33 t30) fun t34 m35 =>
 oOpt (ia 2 t0 t27) fun t36 =>
 oRes (st1 2 L m35 t36 t32) fun t37 m38 =>
 oInt .sub .i64 t18 (.int .i64 (.ofNat 1)) fun t39 =>
 j17 [t39] m38) (oInt .add .i64 t12 (.int .i64 (.ofNat 1)) fun t40 =>
 j11 [t40] m22)) fun j23 =>
 oGT t20 (oOpt (ia 2 t0 t18) fun t41 =>
 oOpt (ldN m16 2 t41) fun t42 =>
 oInt .sub .i64 t18 (.int .i64 (.ofNat 1)) fun t43 =>
 oOpt (ia 2 t0 t43) fun t44 =>
 oOpt (ldN m16 2 t44) fun t45 =>
 oCallV call t6 [t42, t45] L m16 fun t46 m47 =>
 oInt .lss .i64 t46 (.int .i64 (.ofNat 0)) fun t48 =>
 j23 [t48] m47) (j23 [Go.undef] m16)) lf [t12] m10) (k (.tuple ⟨[]⟩) m10)) lf [t8] m)
theorem S121_ok (lf : Nat) (cK : CallK β) (args : List Value) (L : Nat) (m : Mem) (k : Value → Mem → Option β)  : S121 lf cK args L m k = denF Tryd.prog fsT 2 K121 lf cK 121 args L m k := by kernel_rfl

/-- slices.heapSortCmpFunc[vitola/heap.Heap] -/
def K122 : Kat := [(185, (0, [11])), (189, (0, [12]))]
noncomputable def S122 (lf : Nat) : FnK β := fun call args L m k =>
 uc args fun t0 l1 =>
 uc l1 fun t2 l3 =>
 uc l3 fun t4 l5 =>
 uc l5 fun t6 l7 =>
 un0 l7 (oInt .sub .i64 t4 t2 fun t8 =>
 oInt .sub .i64 t8 (.int .i64 (.ofNat 1)) fun t9 =>
 oInt .quo .i64 t9 (.int .i64 (.ofNat 2)) fun t10 =>
 loopS (fun j13 l11 m12 =>
 uc l11 fun t14 l15 =>
 oInt .geq .i64 t14 (.int .i64 (.ofNat 0)) fun t16 =>
 oIf t16 (call 141 [t0, t14, t8, t2, t6] L m12 fun t17 m18 =>
 oInt .sub .i64 t14 (.int .i64 (.ofNat 1)) fun t19 =>
 j13 [t19] m18) (oInt .sub .i64 t8 (.int .i64 (.ofNat 1)) fun t20 =>
 loopS (fun j23 l21 m22 =>
 uc l21 fun t24 l25 =>
 oInt .geq .i64 t24 (.int .i64 (.ofNat 0)) fun t26 =>
 oIf t26 (oInt .add .i64 t2 t24 fun t27 =>
 oInt .add .i64 t2 t24 fun t28 =>
 oOpt (ia 2 t0 t28) fun t29 =>
 oOpt (ldN m22 2 t29) fun t30 =>
 oOpt (ia 2 t0 t2) fun t31 =>
 oOpt (ldN m22 2 t31) fun t32 =>
 oOpt (ia 2 t0 t2) fun t33 =>
 oRes (st1 2 L m22 t33 t30) fun t34 m35 =>
 oOpt (ia 2 t0 t27) fun t36 =>
 oRes (st1 2 L m35 t36 t32) fun t37 m38 =>
 call 141 [t0, (.int .i64 (.ofNat 0)), t24, t2, t6] L m38 fun t39 m40 =>
 oInt .sub .i64 t24 (.int .i64 (.ofNat 1)) fun t41 =>
 j23 [t41] m40) (k (.tuple ⟨[]⟩) m22)) lf [t20] m12)) lf [t10] m)
theorem S122_ok (lf : Nat) (cK : CallK β) (args : List Value) (L : Nat) (m : Mem) (k : Value → Mem → Option β)  : S122 lf cK args L m k = denF Tryd.prog fsT 2 K122 lf cK 122 args L m k := by kernel_rfl

/-- slices.breakPatternsCmpFunc[vitola/heap.Heap] -/
def K123 : Kat := [(10, (0, [])), (365, (0, [11])), (46884, (0, [12]))]
noncomputable def S123 (lf : Nat) : FnK β := fun call args L m k =>
 uc args fun t0 l1 =>
 uc l1 fun t2 l3 =>
 uc l3 fun t4 l5 =>
 uc l5 fun t6 l7 =>
 un0 l7 (oInt .sub .i64 t4 t2 fun t8 =>
 oInt .geq .i64 t8 (.int .i64 (.ofNat 8)) fun t9 =>
 join (fun l10 m11 =>
 k (.tuple ⟨[]⟩) m11) fun j12 =>
 oIf t9 (oCv .u64 t8 fun t13 =>
 oRes (anew m 1 [(.int .u64 (.ofNat 0))] ptrTo) fun t14 m15 =>
 oRes (st1 1 L m15 t14 t13) fun t16 m17 =>
 call 142 [t8] L m17 fun t18 m19 =>
 oInt .quo .i64 t8 (.int .i64 (.ofNat 4)) fun t20 =>
 oInt .mul .i64 t20 (.int .i64 (.ofNat 2)) fun t21 =>
 oInt .add .i64 t2 t21 fun t22 =>
 oInt .sub .i64 t22 (.int .i64 (.ofNat 1)) fun t23 =>
 loopS (fun j26 l24 m25 =>
 uc l24 fun t27 l28 =>
 oInt .quo .i64 t8 (.int .i64 (.ofNat 4)) fun t29 =>
 oInt .mul .i64 t29 (.int .i64 (.ofNat 2)) fun t30 =>
 oInt .add .i64 t2 t30 fun t31 =>
 oInt .add .i64 t31 (.int .i64 (.ofNat 1)) fun t32 =>
 oInt .leq .i64 t27 t32 fun t33 =>
 oIf t33 (call 143 [t14] L m25 fun t34 m35 =>
 oInt .sub .u64 t18 (.int .u64 (.ofNat 1)) fun t36 =>
 oInt .and .u64 t34 t36 fun t37 =>
 oCv .i64 t37 fun t38 =>
 oInt .geq .i64 t38 t8 fun t39 =>
 join (fun l40 m41 =>
 uc l40 fun t43 l44 =>
 oInt .add .i64 t2 t43 fun t45 =>
 oInt .add .i64 t2 t43 fun t46 =>
 oOpt (ia 2 t0 t46) fun t47 =>
 oOpt (ldN m41 2 t47) fun t48 =>
 oOpt (ia 2 t0 t27) fun t49 =>
 oOpt (ldN m41 2 t49) fun t50 =>
 oOpt (ia 2 t0 t27) fun t51 =>
 oRes (st1 2 L m41 t51 t48) fun t52 m53 =>
 oOpt (ia 2 t0 t45) fun t54 =>
 oRes (st1 2 L m53 t54 t50) fun t55 m56 =>
 oInt .add .i64 t27 (.int .i64 (.ofNat 1)) fun t57 =>
 j26 [t57] m56) fun j42 =>
 oIf t39 (oInt .sub .i64 t38 t8 fun t58 =>
 j42 [t58] m35) (j42 [t38] m35)) (j12 [] m25)) lf [t23] m19) (j12 [] m))
theorem S123_ok (lf : Nat) (cK : CallK β) (args : List Value) (L : Nat) (m : Mem) (k : Value → Mem → Option β)  : S123 lf cK args L m k = denF Tryd.prog fsT 2 K123 lf cK 123 args L m k := by kernel_rfl

/-- slices.choosePivotCmpFunc[vitola/heap.Heap] -/
def K124 : Kat := [(764, (0, [13])), (6120, (0, [12, 13, 14]))]
noncomputable def S124 (lf : Nat) : FnK β := fun call args L m k =>
 uc args fun t0 l1 =>
 uc l1 fun t2 l3 =>
 uc l3 fun t4 l5 =>
 uc l5 fun t6 l7 =>
 un0 l7 (oInt .sub .i64 t4 t2 fun t8 =>
 oRes (anew m 1 [(.int .i64 (.ofNat 0))] ptrTo) fun t9 m10 =>
 oInt .quo .i64 t8 (.int .i64 (.ofNat 4)) fun t11 =>
 oInt .mul .i64 t11 (.int .i64 (.ofNat 1)) fun t12 =>
 oInt .add .i64 t2 t12 fun t13 =>
 oInt .quo .i64 t8 (.int .i64 (.ofNat 4)) fun t14 =>
 oInt .mul .i64 t14 (.int .i64 (.ofNat 2)) fun t15 =>
 oInt .add .i64 t2 t15 fun t16 =>
 oInt .quo .i64 t8 (.int .i64 (.ofNat 4)) fun t17 =>
 oInt .mul .i64 t17 (.int .i64 (.ofNat 3)) fun t18 =>
 oInt .add .i64 t2 t18 fun t19 =>
 oInt .geq .i64 t8 (.int .i64 (.ofNat 8)) fun t20 =>
 join (fun l21 m22 =>
 uc l21 fun t24 l25 =>
 oOpt (ld1 m22 t9) fun t26 =>
 oInt .eql .i64 t26 (.int .i64 (.ofNat 0)) fun t27 =>
 oIf t27 (k (.tuple ⟨[t24, (.int .i64 (.ofNat 1))]⟩) m22) (oInt .eql .i64 t26 (.int .i64 (.ofNat 12)) fun t28 =>
 oIf t28 (k (.tuple ⟨[t24, (.int .i64 (.ofNat 2))]⟩) m22) (k (.tuple ⟨[t24, (.int .i64 (.ofNat 0))]⟩) m22))) fun j23 =>
 oIf t20 (oInt .geq .i64 t8 (.int .i64 (.ofNat 50)) fun t29 =>
 join (fun l30 m31 =>
 uc l30 fun t33 l34 =>
 uc l34 fun t35 l36 =>
 uc l36 fun t37 l38 =>
 call 145 [t0, t33, t35, t37, t9, t6] L m31 fun t39 m40 =>
 j23 [t39] m40) fun j32 =>
 oIf t29 (call 144 [t0, t13, t9, t6] L m10 fun t41 m42 =>
 call 144 [t0, t16, t9, t6] L m42 fun t43 m44 =>
 call 144 [t0, t19, t9, t6] L m44 fun t45 m46 =>
 j32 [t41, t43, t45] m46) (j32 [t13, t16, t19] m10)) (j23 [t16] m10))
theorem S124_ok (lf : Nat) (cK : CallK β) (args : List Value) (L : Nat) (m : Mem) (k : Value → Mem → Option β)  : S124 lf cK args L m k = denF Tryd.prog fsT 2 K124 lf cK 124 args L m k := by kernel_rfl

/-- slices.reverseRangeCmpFunc[vitola/heap.Heap] -/
def K125 : Kat := [(21, (0, [8, 9]))]
noncomputable def S125 (lf : Nat) : FnK β := fun call args L m k =>
 uc args fun t0 l1 =>
 uc l1 fun t2 l3 =>
 uc l3 fun t4 l5 =>
 uc l5 fun t6 l7 =>
 un0 l7 (oInt .sub .i64 t4 (.int .i64 (.ofNat 1)) fun t8 =>
 loopS (fun j11 l9 m10 =>
 uc l9 fun t12 l13 =>
 uc l13 fun t14 l15 =>
 oInt .lss .i64 t12 t14 fun t16 =>
 oIf t16 (oOpt (ia 2 t0 t14) fun t17 =>
 oOpt (ldN m10 2 t17) fun t18 =>
 oOpt (ia 2 t0 t12) fun t19 =>
 oOpt (ldN m10 2 t19) fun t20 =>
 oOpt (ia 2 t0 t12) fun t21 =>
 oRes (st1 2 L m10 t21 t18) fun t22 m23 =>
 oOpt (ia 2 t0 t14) fun t24 =>
 oRes (st1 2 L m23 t24 t20) fun t25 m26 =>
 oInt .add .i64 t12 (.int .i64 (.ofNat 1)) fun t27 =>
 oInt .sub .i64 t14 (.int .i64 (.ofNat 1)) fun t28 =>
 j11 [t27, t28] m26) (k (.tuple ⟨[]⟩) m10)) lf [t2, t8] m)
theorem S125_ok (lf : Nat) (cK : CallK β) (args : List Value) (L : Nat) (m : Mem) (k : Value → Mem → Option β)  : S125 lf cK args L m k = denF Tryd.prog fsT 2 K125 lf cK 125 args L m k := by kernel_rfl

/-- slices.partialInsertionSortCmpFunc[vitola/heap.Heap] -/
def K126 : Kat := [(89, (0, [9, 10])), (5775, (0, [9])), (46207, (1, [35])), (92476, (0, [])), (92478, (0, [])), (369916, (0, [])), (739833, (0, [12])), (369908, (0, [])), (739817, (0, [11]))]
noncomputable def S126 (lf : Nat) : FnK β := fun call args L m k =>
 uc args fun t0 l1 =>
 uc l1 fun t2 l3 =>
 uc l3 fun t4 l5 =>
 uc l5 fun t6 l7 =>
 un0 l7 (oInt .add .i64 t2 (.int .i64 (.ofNat 1)) fun t8 =>
 loopS (fun j11 l9 m10 =>
 uc l9 fun t12 l13 =>
 uc l13 fun t14 l15 =>
 oInt .lss .i64 t14 (.int .i64 (.ofNat 5)) fun t16 =>
 oIf t16 (loopS (fun j19 l17 m18 =>
 uc l17 fun t20 l21 =>
 oInt .lss .i64 t20 t4 fun t22 =>
 join (fun l23 m24 =>
 uc l23 fun t26 l27 =>
 oPick t22 t26 (.bool false) fun t28 =>
 oIf t28 (oInt .add .i64 t20 (.int .i64 (.ofNat 1)) fun t29 =>
 j19 [t29] m24) (oInt .eql .i64 t20 t4 fun t30 =>
 oIf t30 (k (.bool true) m24) (oInt .sub .i64 t4 t2 fun t31 =>
 oInt .lss .i64 t31 (.int .i64 (.ofNat 50)) fun t32 =>
 oIf t32 (k (.bool false) m24) (oInt .sub .i64 t20 (.int .i64 (.ofNat 1)) fun t33 =>
 oInt .sub .i64 t20 (.int .i64 (.ofNat 1)) fun t34 =>
 oOpt (ia 2 t0 t34) fun t35 =>
 oOpt (ldN m24 2 t35) fun t36 =>
 oOpt (ia 2 t0 t20) fun t37 =>
 oOpt (ldN m24 2 t37) fun t38 =>
 oOpt (ia 2 t0 t20) fun t39 =>
 oRes (st1 2 L m24 t39 t36) fun t40 m41 =>
 oOpt (ia 2 t0 t33) fun t42 =>
 oRes (st1 2 L m41 t42 t38) fun t43 m44 =>
 oInt .sub .i64 t20 t2 fun t45 =>
 oInt .geq .i64 t45 (.int .i64 (.ofNat 2)) fun t46 =>
 join (fun l47 m48 =>
 oInt .sub .i64 t4 t20 fun t50 =>
 oInt .geq .i64 t50 (.int .i64 (.ofNat 2)) fun t51 =>
 join (fun l52 m53 =>
 oInt .add .i64 t14 (.int .i64 (.ofNat 1)) fun t55 =>
 j11 [t20, t55] m53) fun j54 =>
 oIf t51 (oInt .add .i64 t20 (.int .i64 (.ofNat 1)) fun t56 =>
 join (fun l57 m58 =>
 j54 [] m58) fun j59 =>
 loopS (fun j62 l60 m61 =>
 uc l60 fun t63 l64 =>
 oInt .lss .i64 t63 t4 fun t65 =>
 oIf t65 (oOpt (ia 2 t0 t63) fun t66 =>
 oOpt (ldN m61 2 t66) fun t67 =>
 oInt .sub .i64 t63 (.int .i64 (.ofNat 1)) fun t68 =>
 oOpt (ia 2 t0 t68) fun t69 =>
 oOpt (ldN m61 2 t69) fun t70 =>
 oCallV call t6 [t67, t70] L m61 fun t71 m72 =>
 oInt .lss .i64 t71 (.int .i64 (.ofNat 0)) fun t73 =>
 oOpt (aun .not t73) fun t74 =>
 oIf t74 (j59 [] m72) (oInt .sub .i64 t63 (.int .i64 (.ofNat 1)) fun t75 =>
 oInt .sub .i64 t63 (.int .i64 (.ofNat 1)) fun t76 =>
 oOpt (ia 2 t0 t76) fun t77 =>
 oOpt (ldN m72 2 t77) fun t78 =>
 oOpt (ia 2 t0 t63) fun t79 =>
 oOpt (ldN m72 2 t79) fun t80 =>
 oOpt (ia 2 t0 t63) fun t81 =>
 oRes (st1 2 L m72 t81 t78) fun t82 m83 =>
 oOpt (ia 2 t0 t75) fun t84 =>
 oRes (st1 2 L m83 t84 t80) fun t85 m86 =>
 oInt .add .i64 t63 (.int .i64 (.ofNat 1)) fun t87 =>
 j62 [t87] m86)) (j59 [] m61)) lf [t56] m48) (j54 [] m48)) fun j49 =>
 oIf t46 (oInt .sub .i64 t20 (.int .i64 (.ofNat 1)) fun t88 =>
 join (fun l89 m90 =>
 j49 [] m90) fun j91 =>
 loopS (fun j94 l92 m93 =>
 uc l92 fun t95 l96 =>
 oInt .geq .i64 t95 (.int .i64 (.ofNat 1)) fun t97 =>
 oIf t97 (oOpt (ia 2 t0 t95) fun t98 =>
 oOpt (ldN m93 2 t98) fun t99 =>
 oInt .sub .i64 t95 (.int .i64 (.ofNat 1)) fun t100 =>
 oOpt (ia 2 t0 t100) fun t101 =>
 oOpt (ldN m93 2 t101) fun t102 =>
 oCallV call t6 [t99, t102] L m93 fun t103 m104 =>
 oInt .lss .i64 t103 (.int .i64 (.ofNat 0)) fun t105 =>
 oOpt (aun .not t105) fun t106 =>
 oIf t106 (j91 [] m104) (oInt .sub .i64 t95 (.int .i64 (.ofNat 1)) fun t107 =>
 oInt .sub .i64 t95 (.int .i64 (.ofNat 1)) fun t108 =>
 oOpt (ia 2 t0 t108) fun t109 =>
 oOpt (ldN m104 2 t109) fun t110 =>
 oOpt (ia 2 t0 t95) fun t111 =>
 oOpt (ldN m104 2 t111) fun t112 =>
 oOpt (ia 2 t0 t95) fun t113 =>
 oRes (st1 2 L m104 t113 t110) fun t114 m115 =>
 oOpt (ia 2 t0 t107) fun t116 =>
 oRes (st1 2 L m115 t116 t112) fun t117 m118 =>
 oInt .sub .i64 t95 (.int .i64 (.ofNat 1)) fun t119 =>
 j94 [t119] m118)) (j91 [] m93)) lf [t88] m44) (j49 [] m44))))) fun j25 =>
 oGT t22 (oOpt (ia 2 t0 t20) fun t120 =>
 oOpt (ldN m18 2 t120) fun t121 =>
 oInt .sub .i64 t20 (.int .i64 (.ofNat 1)) fun t122 =>
 oOpt (ia 2 t0 t122) fun t123 =>
 oOpt (ldN m18 2 t123) fun t124 =>
 oCallV call t6 [t121, t124] L m18 fun t125 m126 =>
 oInt .lss .i64 t125 (.int .i64 (.ofNat 0)) fun t127 =>
 oOpt (aun .not t127) fun t128 =>
 j25 [t128] m126) (j25 [Go.undef] m18)) lf [t12] m10) (k (.bool false) m10)) lf [t8, (.int .i64 (.ofNat 0))] m)
theorem S126_ok (lf : Nat) (cK : CallK β) (args : List Value) (L : Nat) (m : Mem) (k : Value → Mem → Option β)  : S126 lf cK args L m k = denF Tryd.prog fsT 2 K126 lf cK 126 args L m k := by kernel_rfl

/-- slices.partitionEqualCmpFunc[vitola/heap.Heap] -/
def K127 : Kat := [(91, (0, [11, 12])), (1471, (0, [11])), (11775, (1, [46])), (2947, (0, [12])), (23583, (1, [64]))]
noncomputable def S127 (lf : Nat) : FnK β := fun call args L m k =>
 uc args fun t0 l1 =>
 uc l1 fun t2 l3 =>
 uc l3 fun t4 l5 =>
 uc l5 fun t6 l7 =>
 uc l7 fun t8 l9 =>
 un0 l9 (oOpt (ia 2 t0 t6) fun t10 =>
 oOpt (ldN m 2 t10) fun t11 =>
 oOpt (ia 2 t0 t2) fun t12 =>
 oOpt (ldN m 2 t12) fun t13 =>
 oOpt (ia 2 t0 t2) fun t14 =>
 oRes (st1 2 L m t14 t11) fun t15 m16 =>
 oOpt (ia 2 t0 t6) fun t17 =>
 oRes (st1 2 L m16 t17 t13) fun t18 m19 =>
 oInt .add .i64 t2 (.int .i64 (.ofNat 1)) fun t20 =>
 oInt .sub .i64 t4 (.int .i64 (.ofNat 1)) fun t21 =>
 loopS (fun j24 l22 m23 =>
 uc l22 fun t25 l26 =>
 uc l26 fun t27 l28 =>
 loopS (fun j31 l29 m30 =>
 uc l29 fun t32 l33 =>
 oInt .leq .i64 t32 t27 fun t34 =>
 join (fun l35 m36 =>
 uc l35 fun t38 l39 =>
 oPick t34 t38 (.bool false) fun t40 =>
 oIf t40 (oInt .add .i64 t32 (.int .i64 (.ofNat 1)) fun t41 =>
 j31 [t41] m36) (loopS (fun j44 l42 m43 =>
 uc l42 fun t45 l46 =>
 oInt .leq .i64 t32 t45 fun t47 =>
 join (fun l48 m49 =>
 uc l48 fun t51 l52 =>
 oPick t47 t51 (.bool false) fun t53 =>
 oIf t53 (oInt .sub .i64 t45 (.int .i64 (.ofNat 1)) fun t54 =>
 j44 [t54] m49) (oInt .gtr .i64 t32 t45 fun t55 =>
 oIf t55 (k t32 m49) (oOpt (ia 2 t0 t45) fun t56 =>
 oOpt (ldN m49 2 t56) fun t57 =>
 oOpt (ia 2 t0 t32) fun t58 =>
 oOpt (ldN m49 2 t58) fun t59 =>
 oOpt (ia 2 t0 t32) fun t60 =>
 oRes (st1 2 L m49 t60 t57) fun t61 m62 =>
 oOpt (ia 2 t0 t45) fun t63 =>
 oRes (st1 2 L m62 t63 t59) fun t64 m65 =>
 oInt .add .i64 t32 (.int .i64 (.ofNat 1)) fun t66 =>
 oInt .sub .i64 t45 (.int .i64 (.ofNat 1)) fun t67 =>
 j24 [t66, t67] m65))) fun j50 =>
 oGT t47 (oOpt (ia 2 t0 t2) fun t68 =>
 oOpt (ldN m43 2 t68) fun t69 =>
 oOpt (ia 2 t0 t45) fun t70 =>
 oOpt (ldN m43 2 t70) fun t71 =>
 oCallV call t8 [t69, t71] L m43 fun t72 m73 =>
 oInt .lss .i64 t72 (.int .i64 (.ofNat 0)) fun t74 =>
 j50 [t74] m73) (j50 [Go.undef] m43)) lf [t27] m36)) fun j37 =>
 oGT t34 (oOpt (ia 2 t0 t2) fun t75 =>
 oOpt (ldN m30 2 t75) fun t76 =>
 oOpt (ia 2 t0 t32) fun t77 =>
 oOpt (ldN m30 2 t77) fun t78 =>
 oCallV call t8 [t76, t78] L m30 fun t79 m80 =>
 oInt .lss .i64 t79 (.int .i64 (.ofNat 0)) fun t81 =>
 oOpt (aun .not t81) fun t82 =>
 j37 [t82] m80) (j37 [Go.undef] m30)) lf [t25] m23) lf [t20, t21] m19)
theorem S127_ok (lf : Nat) (cK : CallK β) (args : List Value) (L : Nat) (m : Mem) (k : Value → Mem → Option β)  : S127 lf cK args L m k = denF Tryd.prog fsT 2 K127 lf cK 127 args L m k := by kernel_rfl

/-- slices.partitionCmpFunc[vitola/heap.Heap] -/
def K128 : Kat := [(91, (0, [12])), (735, (1, [46])), (187, (0, [13])), (1503, (1, [65])), (6139, (0, [12, 13])), (98239, (0, [12])), (785919, (1, [119])), (196483, (0, [13])), (1571871, (1, [138]))]
noncomputable def S128 (lf : Nat) : FnK β := fun call args L m k =>
 uc args fun t0 l1 =>
 uc l1 fun t2 l3 =>
 uc l3 fun t4 l5 =>
 uc l5 fun t6 l7 =>
 uc l7 fun t8 l9 =>
 un0 l9 (oOpt (ia 2 t0 t6) fun t10 =>
 oOpt (ldN m 2 t10) fun t11 =>
 oOpt (ia 2 t0 t2) fun t12 =>
 oOpt (ldN m 2 t12) fun t13 =>
 oOpt (ia 2 t0 t2) fun t14 =>
 oRes (st1 2 L m t14 t11) fun t15 m16 =>
 oOpt (ia 2 t0 t6) fun t17 =>
 oRes (st1 2 L m16 t17 t13) fun t18 m19 =>
 oInt .add .i64 t2 (.int .i64 (.ofNat 1)) fun t20 =>
 oInt .sub .i64 t4 (.int .i64 (.ofNat 1)) fun t21 =>
 loopS (fun j24 l22 m23 =>
 uc l22 fun t25 l26 =>
 oInt .leq .i64 t25 t21 fun t27 =>
 join (fun l28 m29 =>
 uc l28 fun t31 l32 =>
 oPick t27 t31 (.bool false) fun t33 =>
 oIf t33 (oInt .add .i64 t25 (.int .i64 (.ofNat 1)) fun t34 =>
 j24 [t34] m29) (loopS (fun j37 l35 m36 =>
 uc l35 fun t38 l39 =>
 oInt .leq .i64 t25 t38 fun t40 =>
 join (fun l41 m42 =>
 uc l41 fun t44 l45 =>
 oPick t40 t44 (.bool false) fun t46 =>
 oIf t46 (oInt .sub .i64 t38 (.int .i64 (.ofNat 1)) fun t47 =>
 j37 [t47] m42) (oInt .gtr .i64 t25 t38 fun t48 =>
 oIf t48 (oOpt (ia 2 t0 t2) fun t49 =>
 oOpt (ldN m42 2 t49) fun t50 =>
 oOpt (ia 2 t0 t38) fun t51 =>
 oOpt (ldN m42 2 t51) fun t52 =>
 oOpt (ia 2 t0 t38) fun t53 =>
 oRes (st1 2 L m42 t53 t50) fun t54 m55 =>
 oOpt (ia 2 t0 t2) fun t56 =>
 oRes (st1 2 L m55 t56 t52) fun t57 m58 =>
 k (.tuple ⟨[t38, (.bool true)]⟩) m58) (oOpt (ia 2 t0 t38) fun t59 =>
 oOpt (ldN m42 2 t59) fun t60 =>
 oOpt (ia 2 t0 t25) fun t61 =>
 oOpt (ldN m42 2 t61) fun t62 =>
 oOpt (ia 2 t0 t25) fun t63 =>
 oRes (st1 2 L m42 t63 t60) fun t64 m65 =>
 oOpt (ia 2 t0 t38) fun t66 =>
 oRes (st1 2 L m65 t66 t62) fun t67 m68 =>
 oInt .add .i64 t25 (.int .i64 (.ofNat 1)) fun t69 =>
 oInt .sub .i64 t38 (.int .i64 (.ofNat 1)) fun t70 =>
 loopS (fun j73 l71 m72 =>
 uc l71 fun t74 l75 =>
 uc l75 fun t76 l77 =>
 loopS (fun j80 l78 m79 =>
 uc l78 fun t81 l82 =>
 oInt .leq .i64 t81 t76 fun t83 =>
 join (fun l84 m85 =>
 uc l84 fun t87 l88 =>
 oPick t83 t87 (.bool false) fun t89 =>
 oIf t89 (oInt .add .i64 t81 (.int .i64 (.ofNat 1)) fun t90 =>
 j80 [t90] m85) (loopS (fun j93 l91 m92 =>
 uc l91 fun t94 l95 =>
 oInt .leq .i64 t81 t94 fun t96 =>
 join (fun l97 m98 =>
 uc l97 fun t100 l101 =>
 oPick t96 t100 (.bool false) fun t102 =>
 oIf t102 (oInt .sub .i64 t94 (.int .i64 (.ofNat 1)) fun t103 =>
 j93 [t103] m98) (oInt .gtr .i64 t81 t94 fun t104 =>
 oIf t104 (oOpt (ia 2 t0 t2) fun t105 =>
 oOpt (ldN m98 2 t105) fun t106 =>
 oOpt (ia 2 t0 t94) fun t107 =>
 oOpt (ldN m98 2 t107) fun t108 =>
 oOpt (ia 2 t0 t94) fun t109 =>
 oRes (st1 2 L m98 t109 t106) fun t110 m111 =>
 oOpt (ia 2 t0 t2) fun t112 =>
 oRes (st1 2 L m111 t112 t108) fun t113 m114 =>
 k (.tuple ⟨[t94, (.bool false)]⟩) m114) (oOpt (ia 2 t0 t94) fun t115 =>
 oOpt (ldN m98 2 t115) fun t116 =>
 oOpt (ia 2 t0 t81) fun t117 =>
 oOpt (ldN m98 2 t117) fun t118 =>
 oOpt (ia 2 t0 t81) fun t119 =>
 oRes (st1 2 L m98 t119 t116) fun t120 m121 =>
 oOpt (ia 2 t0 t94) fun t122 =>
 oRes (st1 2 L m121 t122 t118) fun t123 m124 =>
 oInt .add .i64 t81 (.int .i64 (.ofNat 1)) fun t125 =>
 oInt .sub .i64 t94 (.int .i64 (.ofNat 1)) fun t126 =>
 j73 [t125, t126] m124))) fun j99 =>
 oGT t96 (oOpt (ia 2 t0 t94) fun t127 =>
 oOpt (ldN m92 2 t127) fun t128 =>
 oOpt (ia 2 t0 t2) fun t129 =>
 oOpt (ldN m92 2 t129) fun t130 =>
 oCallV call t8 [t128, t130] L m92 fun t131 m132 =>
 oInt .lss .i64 t131 (.int .i64 (.ofNat 0)) fun t133 =>
 oOpt (aun .not t133) fun t134 =>
 j99 [t134] m132) (j99 [Go.undef] m92)) lf [t76] m85)) fun j86 =>
 oGT t83 (oOpt (ia 2 t0 t81) fun t135 =>
 oOpt (ldN m79 2 t135) fun t136 =>
 oOpt (ia 2 t0 t2) fun t137 =>
 oOpt (ldN m79 2 t137) fun t138 =>
 oCallV call t8 [t136, t138] L m79 fun t139 m140 =>
 oInt .lss .i64 t139 (.int .i64 (.ofNat 0)) fun t141 =>
 j86 [t141] m140) (j86 [Go.undef] m79)) lf [t74] m72) lf [t69, t70] m68))) fun j43 =>
 oGT t40 (oOpt (ia 2 t0 t38) fun t142 =>
 oOpt (ldN m36 2 t142) fun t143 =>
 oOpt (ia 2 t0 t2) fun t144 =>
 oOpt (ldN m36 2 t144) fun t145 =>
 oCallV call t8 [t143, t145] L m36 fun t146 m147 =>
 oInt .lss .i64 t146 (.int .i64 (.ofNat 0)) fun t148 =>
 oOpt (aun .not t148) fun t149 =>
 j43 [t149] m147) (j43 [Go.undef] m36)) lf [t21] m29)) fun j30 =>
 oGT t27 (oOpt (ia 2 t0 t25) fun t150 =>
 oOpt (ldN m23 2 t150) fun t151 =>
 oOpt (ia 2 t0 t2) fun t152 =>
 oOpt (ldN m23 2 t152) fun t153 =>
 oCallV call t8 [t151, t153] L m23 fun t154 m155 =>
 oInt .lss .i64 t154 (.int .i64 (.ofNat 0)) fun t156 =>
 j30 [t156] m155) (j30 [Go.undef] m23)) lf [t20] m19)
theorem S128_ok (lf : Nat) (cK : CallK β) (args : List Value) (L : Nat) (m : Mem) (k : Value → Mem → Option β)  : S128 lf cK args L m k = denF Tryd.prog fsT 2 K128 lf cK 128 args L m k := by kernel_rfl

end
end Go.Vit
