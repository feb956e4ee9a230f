/- Shallow texts of the seat's functions, printed by a program: part 3. -/
import Derived.Test.YtppallabmjdolaaDoorRows
import Derived.Test.YtppallabmjdolaaDoorFs
set_option linter.unusedVariables false
set_option maxRecDepth 100000
namespace Go.Vit
open Go Go.Proofs
section
variable {β : Type}
/-- vitola/heap.choose -/
def K47 : Kat := [(185, (0, [6, 5, 11])), (23858, (0, [6, 5]))]
noncomputable def S47 (lf : Nat) : FnK β := fun call args L m k =>
 uc args fun t0 l1 =>
 uc l1 fun t2 l3 =>
 un0 l3 (oOpt (ln t0) fun t4 =>
 loopS (fun j7 l5 m6 =>
 uc l5 fun t8 l9 =>
 uc l9 fun t10 l11 =>
 uc l11 fun t12 l13 =>
 oInt .lss .i64 t12 t4 fun t14 =>
 oIf t14 (oOpt (ia 2 t0 t12) fun t15 =>
 oOpt (ldN m6 2 t15) fun t16 =>
 oRes (anew m6 1 [(.int .i64 (.ofNat 0)), (.int .i64 (.ofNat 0))] ptrTo) fun t17 m18 =>
 oRes (st1 2 L m18 t17 t16) fun t19 m20 =>
 oOpt (ldN m20 2 t17) fun t21 =>
 oRes (bs Tryd.prog m20 43 1 [(0, t21)]) fun t22 m23 =>
 oRes (aappend Tryd.prog L m23 43 t8 t22) fun t24 m25 =>
 oCallV call t2 [t24] L m25 fun t26 m27 =>
 join (fun l28 m29 =>
 uc l28 fun t31 l32 =>
 uc l32 fun t33 l34 =>
 oInt .add .i64 t12 (.int .i64 (.ofNat 1)) fun t35 =>
 j7 [t31, t33, t35] m29) fun j30 =>
 oIf t26 (oOpt (ldN m27 2 t17) fun t36 =>
 oRes (bs Tryd.prog m27 43 1 [(0, t36)]) fun t37 m38 =>
 oRes (aappend Tryd.prog L m38 43 t8 t37) fun t39 m40 =>
 oRes (bs Tryd.prog m40 25 1 [(0, t12)]) fun t41 m42 =>
 oRes (aappend Tryd.prog L m42 25 t10 t41) fun t43 m44 =>
 j30 [t39, t43] m44) (j30 [t8, t10] m27)) (k t10 m6)) lf [(.slice none 0 0), (.slice none 0 0), (.int .i64 (.ofNat 0))] m)
theorem S47_ok (lf : Nat) (cK : CallK β) (args : List Value) (L : Nat) (m : Mem) (k : Value → Mem → Option β)  : S47 lf cK args L m k = denF Tryd.prog fsT 2 K47 lf cK 47 args L m k := by kernel_rfl

/-- vitola/heap.Keep$1 -/
def K48 : Kat := []
noncomputable def S48 (lf : Nat) : FnK β := fun call args L m k =>
 uc args fun t0 l1 =>
 uc l1 fun t2 l3 =>
 un0 l3 (oOpt (ld1 m t2) fun t4 =>
 call 49 [t0, t4] L m fun t5 m6 =>
 k t5 m6)
theorem S48_ok (lf : Nat) (cK : CallK β) (args : List Value) (L : Nat) (m : Mem) (k : Value → Mem → Option β)  : S48 lf cK args L m k = denF Tryd.prog fsT 2 K48 lf cK 48 args L m k := by kernel_rfl

/-- vitola/heap.possible -/
def K49 : Kat := [(185, (0, [5, 6])), (23845, (1, [29]))]
noncomputable def S49 (lf : Nat) : FnK β := fun call args L m k =>
 uc args fun t0 l1 =>
 uc l1 fun t2 l3 =>
 un0 l3 (oRes (abox m t2) fun t4 m5 =>
 call 50 [t0] L m5 fun t6 m7 =>
 call 77 [t6, (.func (.func 78) #[] #[])] L m7 fun t8 m9 =>
 oRes (anew m9 1 [(.int .i64 (.ofNat 0))] ptrTo) fun t10 m11 =>
 oRes (st1 1 L m11 t10 (.int .i64 (.ofNat 0))) fun t12 m13 =>
 loopS (fun j16 l14 m15 =>
 uc l14 fun t17 l18 =>
 uc l18 fun t19 l20 =>
 oOpt (ln t17) fun t21 =>
 oInt .gtr .i64 t21 (.int .i64 (.ofNat 0)) fun t22 =>
 oIf t22 (oRes (anew m15 1 [(.int .i64 (.ofNat 0))] ptrTo) fun t23 m24 =>
 oRes (st1 1 L m24 t23 (.int .i64 (.ofNat 0))) fun t25 m26 =>
 call 79 [t17, (.func (.func 80) #[] ⟨[t19, t23, t4]⟩)] L m26 fun t27 m28 =>
 oOpt (ln t27) fun t29 =>
 oInt .gtr .i64 t29 (.int .i64 (.ofNat 0)) fun t30 =>
 join (fun l31 m32 =>
 uc l31 fun t34 l35 =>
 oPick t30 t34 (.bool false) fun t36 =>
 oIf t36 (k (.bool false) m32) (oOpt (ld1 m32 t19) fun t37 =>
 oRes (anew m32 1 [(.int .i64 (.ofNat 0))] ptrTo) fun t38 m39 =>
 oRes (st1 1 L m39 t38 t37) fun t40 m41 =>
 oOpt (ld1 m41 t38) fun t42 =>
 oInt .add .i64 t42 (.int .i64 (.ofNat 1)) fun t43 =>
 oRes (st1 1 L m41 t38 t43) fun t44 m45 =>
 j16 [t27, t38] m45)) fun j33 =>
 oGT t30 (oOpt (ia 2 t27 (.int .i64 (.ofNat 0))) fun t46 =>
 oOpt (fa 1 t46) fun t47 =>
 oOpt (ld1 m28 t47) fun t48 =>
 oOpt (ld1 m28 t19) fun t49 =>
 oInt .leq .i64 t48 t49 fun t50 =>
 j33 [t50] m28) (j33 [Go.undef] m28)) (k (.bool true) m15)) lf [t6, t10] m13)
theorem S49_ok (lf : Nat) (cK : CallK β) (args : List Value) (L : Nat) (m : Mem) (k : Value → Mem → Option β)  : S49 lf cK args L m k = denF Tryd.prog fsT 2 K49 lf cK 49 args L m k := by kernel_rfl

/-- slices.Clone[[]vitola/heap.Heap,vitola/heap.Heap] -/
def K50 : Kat := []
noncomputable def S50 (lf : Nat) : FnK β := fun call args L m k =>
 uc args fun t0 l1 =>
 un0 l1 (oOpt (abin Tryd.prog .eql 43 t0 (.slice none 0 0)) fun t2 =>
 oIf t2 (k (.slice none 0 0) m) (oRes (bs Tryd.prog m 43 0 []) fun t3 m4 =>
 oRes (aappend Tryd.prog L m4 43 t3 t0) fun t5 m6 =>
 k t5 m6))
theorem S50_ok (lf : Nat) (cK : CallK β) (args : List Value) (L : Nat) (m : Mem) (k : Value → Mem → Option β)  : S50 lf cK args L m k = denF Tryd.prog fsT 2 K50 lf cK 50 args L m k := by kernel_rfl

/-- (vitola/heap.Heap).has -/
def K51 : Kat := []
noncomputable def S51 (lf : Nat) : FnK β := fun call args L m k =>
 uc args fun t0 l1 =>
 uc l1 fun t2 l3 =>
 un0 l3 (oRes (abox m t0) fun t4 m5 =>
 oOpt (fa 0 t4) fun t6 =>
 oOpt (ld1 m5 t6) fun t7 =>
 oOpt (fa 1 t4) fun t8 =>
 oOpt (ld1 m5 t8) fun t9 =>
 call 61 [t7, t2, t9] L m5 fun t10 m11 =>
 k t10 m11)
theorem S51_ok (lf : Nat) (cK : CallK β) (args : List Value) (L : Nat) (m : Mem) (k : Value → Mem → Option β)  : S51 lf cK args L m k = denF Tryd.prog fsT 2 K51 lf cK 51 args L m k := by kernel_rfl

/-- vitola/heap.crowded -/
def K52 : Kat := [(89, (0, [5, 14])), (377, (0, [26])), (96869, (0, [31])), (24798821, (1, [51]))]
noncomputable def S52 (lf : Nat) : FnK β := fun call args L m k =>
 uc args fun t0 l1 =>
 uc l1 fun t2 l3 =>
 un0 l3 (oRes (anew m 1 [(.int .i64 (.ofNat 0)), (.int .i64 (.ofNat 0))] ptrTo) fun t4 m5 =>
 oOpt (ln t0) fun t6 =>
 loopS (fun j9 l7 m8 =>
 uc l7 fun t10 l11 =>
 uc l11 fun t12 l13 =>
 oInt .lss .i64 t12 t6 fun t14 =>
 oIf t14 (oOpt (ia 2 t0 t12) fun t15 =>
 oOpt (ldN m8 2 t15) fun t16 =>
 oRes (anew m8 1 [(.int .i64 (.ofNat 0)), (.int .i64 (.ofNat 0))] ptrTo) fun t17 m18 =>
 oRes (st1 2 L m18 t17 t16) fun t19 m20 =>
 oOpt (fa 1 t17) fun t21 =>
 oOpt (ld1 m20 t21) fun t22 =>
 oRes (bs Tryd.prog m20 25 1 [(0, t22)]) fun t23 m24 =>
 oRes (aappend Tryd.prog L m24 25 t10 t23) fun t25 m26 =>
 oInt .add .i64 t12 (.int .i64 (.ofNat 1)) fun t27 =>
 j9 [t25, t27] m26) (call 81 [t10] L m8 fun t28 m29 =>
 loopS (fun j32 l30 m31 =>
 uc l30 fun t33 l34 =>
 oInt .lss .i64 t33 (.int .i64 (.ofNat 24)) fun t35 =>
 oIf t35 (oOpt (ln t10) fun t36 =>
 loopS (fun j39 l37 m38 =>
 uc l37 fun t40 l41 =>
 oInt .lss .i64 t40 t36 fun t42 =>
 oIf t42 (oOpt (ia 1 t10 t40) fun t43 =>
 oOpt (ld1 m38 t43) fun t44 =>
 oOpt (bu Tryd.prog 45 [(0, t33), (1, t44)]) fun t45 =>
 oRes (anew m38 1 [(.int .i64 (.ofNat 0)), (.int .i64 (.ofNat 0))] ptrTo) fun t46 m47 =>
 oRes (st1 2 L m47 t46 t45) fun t48 m49 =>
 oInt .leq .i64 t33 t44 fun t50 =>
 join (fun l51 m52 =>
 uc l51 fun t54 l55 =>
 oPick t50 t54 (.bool false) fun t56 =>
 oIf t56 (oOpt (ldN m52 2 t46) fun t57 =>
 oRes (st1 2 L m52 t4 t57) fun t58 m59 =>
 oOpt (ldN m59 2 t4) fun t60 =>
 k t60 m59) (oInt .add .i64 t40 (.int .i64 (.ofNat 1)) fun t61 =>
 j39 [t61] m52)) fun j53 =>
 oGT t50 (oOpt (ldN m49 2 t46) fun t62 =>
 call 62 [t0, t62] L m49 fun t63 m64 =>
 oInt .sub .i64 t44 t33 fun t65 =>
 oInt .add .i64 t65 (.int .i64 (.ofNat 1)) fun t66 =>
 oInt .mul .i64 t2 t66 fun t67 =>
 oInt .gtr .i64 t63 t67 fun t68 =>
 j53 [t68] m64) (j53 [Go.undef] m49)) (oInt .add .i64 t33 (.int .i64 (.ofNat 1)) fun t69 =>
 j32 [t69] m38)) lf [(.int .i64 (.ofNat 0))] m31) (call 53 [] L m31 fun t70 m71 =>
 oRes (st1 2 L m71 t4 t70) fun t72 m73 =>
 oOpt (ldN m73 2 t4) fun t74 =>
 k t74 m73)) lf [(.int .i64 (.ofNat 0))] m29)) lf [(.slice none 0 0), (.int .i64 (.ofNat 0))] m5)
theorem S52_ok (lf : Nat) (cK : CallK β) (args : List Value) (L : Nat) (m : Mem) (k : Value → Mem → Option β)  : S52 lf cK args L m k = denF Tryd.prog fsT 2 K52 lf cK 52 args L m k := by kernel_rfl

/-- vitola/heap.none -/
def K53 : Kat := []
noncomputable def S53 (lf : Nat) : FnK β := fun call args L m k =>
 un0 args (oRes (anew m 1 [(.int .i64 (.ofNat 0)), (.int .i64 (.ofNat 0))] ptrTo) fun t0 m1 =>
 oOpt (bu Tryd.prog 45 [(0, (.int .i64 (.negSucc 0))), (1, (.int .i64 (.negSucc 0)))]) fun t2 =>
 oRes (st1 2 L m1 t0 t2) fun t3 m4 =>
 oOpt (ldN m4 2 t0) fun t5 =>
 k t5 m4)
theorem S53_ok (lf : Nat) (cK : CallK β) (args : List Value) (L : Nat) (m : Mem) (k : Value → Mem → Option β)  : S53 lf cK args L m k = denF Tryd.prog fsT 2 K53 lf cK 53 args L m k := by kernel_rfl

/-- vitola/dock.Check -/
def K54 : Kat := []
noncomputable def S54 (lf : Nat) : FnK β := fun call args L m k =>
 uc args fun t0 l1 =>
 uc l1 fun t2 l3 =>
 un0 l3 (oInt .sub .i64 t0 (.int .i64 (.ofNat 1)) fun t4 =>
 call 31 [t0, t4, t2] L m fun t5 m6 =>
 k t5 m6)
theorem S54_ok (lf : Nat) (cK : CallK β) (args : List Value) (L : Nat) (m : Mem) (k : Value → Mem → Option β)  : S54 lf cK args L m k = denF Tryd.prog fsT 2 K54 lf cK 54 args L m k := by kernel_rfl

/-- slices.Sorted[int] -/
def K55 : Kat := []
noncomputable def S55 (lf : Nat) : FnK β := fun call args L m k =>
 uc args fun t0 l1 =>
 un0 l1 (call 82 [t0] L m fun t2 m3 =>
 call 81 [t2] L m3 fun t4 m5 =>
 k t2 m5)
theorem S55_ok (lf : Nat) (cK : CallK β) (args : List Value) (L : Nat) (m : Mem) (k : Value → Mem → Option β)  : S55 lf cK args L m k = denF Tryd.prog fsT 2 K55 lf cK 55 args L m k := by kernel_rfl

/-- slices.Values[[]int,int] -/
def K56 : Kat := []
noncomputable def S56 (lf : Nat) : FnK β := fun call args L m k =>
 uc args fun t0 l1 =>
 un0 l1 (oRes (abox m t0) fun t2 m3 =>
 k (.func (.func 83) #[] ⟨[t2]⟩) m3)
theorem S56_ok (lf : Nat) (cK : CallK β) (args : List Value) (L : Nat) (m : Mem) (k : Value → Mem → Option β)  : S56 lf cK args L m k = denF Tryd.prog fsT 2 K56 lf cK 56 args L m k := by kernel_rfl

/-- slices.Reverse[[]int,int] -/
def K57 : Kat := [(9, (0, [2, 3]))]
noncomputable def S57 (lf : Nat) : FnK β := fun call args L m k =>
 uc args fun t0 l1 =>
 un0 l1 (oOpt (ln t0) fun t2 =>
 oInt .sub .i64 t2 (.int .i64 (.ofNat 1)) fun t3 =>
 loopS (fun j6 l4 m5 =>
 uc l4 fun t7 l8 =>
 uc l8 fun t9 l10 =>
 oInt .lss .i64 t7 t9 fun t11 =>
 oIf t11 (oOpt (ia 1 t0 t9) fun t12 =>
 oOpt (ld1 m5 t12) fun t13 =>
 oOpt (ia 1 t0 t7) fun t14 =>
 oOpt (ld1 m5 t14) fun t15 =>
 oOpt (ia 1 t0 t7) fun t16 =>
 oRes (st1 1 L m5 t16 t13) fun t17 m18 =>
 oOpt (ia 1 t0 t9) fun t19 =>
 oRes (st1 1 L m18 t19 t15) fun t20 m21 =>
 oInt .add .i64 t7 (.int .i64 (.ofNat 1)) fun t22 =>
 oInt .sub .i64 t9 (.int .i64 (.ofNat 1)) fun t23 =>
 j6 [t22, t23] m21) (k (.tuple ⟨[]⟩) m5)) lf [(.int .i64 (.ofNat 0)), t3] m)
theorem S57_ok (lf : Nat) (cK : CallK β) (args : List Value) (L : Nat) (m : Mem) (k : Value → Mem → Option β)  : S57 lf cK args L m k = denF Tryd.prog fsT 2 K57 lf cK 57 args L m k := by kernel_rfl

/-- vitola/dock.within -/
def K58 : Kat := [(9, (1, [13]))]
noncomputable def S58 (lf : Nat) : FnK β := fun call args L m k =>
 uc args fun t0 l1 =>
 uc l1 fun t2 l3 =>
 uc l3 fun t4 l5 =>
 un0 l5 (oInt .leq .i64 t2 t0 fun t6 =>
 join (fun l7 m8 =>
 uc l7 fun t10 l11 =>
 oPick t6 t10 (.bool false) fun t12 =>
 k t12 m8) fun j9 =>
 oGT t6 (oInt .leq .i64 t0 t4 fun t13 =>
 j9 [t13] m) (j9 [Go.undef] m))
theorem S58_ok (lf : Nat) (cK : CallK β) (args : List Value) (L : Nat) (m : Mem) (k : Value → Mem → Option β)  : S58 lf cK args L m k = denF Tryd.prog fsT 2 K58 lf cK 58 args L m k := by kernel_rfl

/-- vitola/dock.crowded -/
def K59 : Kat := [(89, (0, [7, 12])), (11570, (0, [7]))]
noncomputable def S59 (lf : Nat) : FnK β := fun call args L m k =>
 uc args fun t0 l1 =>
 uc l1 fun t2 l3 =>
 uc l3 fun t4 l5 =>
 un0 l5 (oOpt (ln t2) fun t6 =>
 loopS (fun j9 l7 m8 =>
 uc l7 fun t10 l11 =>
 uc l11 fun t12 l13 =>
 oInt .lss .i64 t12 t6 fun t14 =>
 oIf t14 (oOpt (ia 1 t2 t12) fun t15 =>
 oOpt (ld1 m8 t15) fun t16 =>
 oInt .sub .i64 t0 t4 fun t17 =>
 oInt .geq .i64 t16 t17 fun t18 =>
 join (fun l19 m20 =>
 uc l19 fun t22 l23 =>
 oInt .add .i64 t12 (.int .i64 (.ofNat 1)) fun t24 =>
 j9 [t22, t24] m20) fun j21 =>
 oIf t18 (oInt .add .i64 t10 (.int .i64 (.ofNat 1)) fun t25 =>
 j21 [t25] m8) (j21 [t10] m8)) (oInt .gtr .i64 t10 t4 fun t26 =>
 k t26 m8)) lf [(.int .i64 (.ofNat 0)), (.int .i64 (.ofNat 0))] m)
theorem S59_ok (lf : Nat) (cK : CallK β) (args : List Value) (L : Nat) (m : Mem) (k : Value → Mem → Option β)  : S59 lf cK args L m k = denF Tryd.prog fsT 2 K59 lf cK 59 args L m k := by kernel_rfl

/-- vitola/heap.Check -/
def K60 : Kat := [(89, (0, [10])), (23139, (1, [23]))]
noncomputable def S60 (lf : Nat) : FnK β := fun call args L m k =>
 uc args fun t0 l1 =>
 un0 l1 (oOpt (ln t0) fun t2 =>
 oInt .gtr .i64 t2 (.int .i64 (.ofNat 10)) fun t3 =>
 oIf t3 (k (.int .i64 (.ofNat 3)) m) (oOpt (ln t0) fun t4 =>
 loopS (fun j7 l5 m6 =>
 uc l5 fun t8 l9 =>
 oInt .lss .i64 t8 t4 fun t10 =>
 oIf t10 (oOpt (ia 2 t0 t8) fun t11 =>
 oOpt (ldN m6 2 t11) fun t12 =>
 oRes (anew m6 1 [(.int .i64 (.ofNat 0)), (.int .i64 (.ofNat 0))] ptrTo) fun t13 m14 =>
 oRes (st1 2 L m14 t13 t12) fun t15 m16 =>
 oOpt (fa 0 t13) fun t17 =>
 oOpt (ld1 m16 t17) fun t18 =>
 call 61 [(.int .i64 (.ofNat 0)), t18, (.int .i64 (.ofNat 23))] L m16 fun t19 m20 =>
 oOpt (aun .not t19) fun t21 =>
 join (fun l22 m23 =>
 uc l22 fun t25 l26 =>
 oPick t21 (.bool true) t25 fun t27 =>
 oIf t27 (k (.int .i64 (.ofNat 1)) m23) (oOpt (fa 0 t13) fun t28 =>
 oOpt (ld1 m23 t28) fun t29 =>
 oOpt (fa 1 t13) fun t30 =>
 oOpt (ld1 m23 t30) fun t31 =>
 oInt .gtr .i64 t29 t31 fun t32 =>
 oIf t32 (k (.int .i64 (.ofNat 7)) m23) (oInt .add .i64 t8 (.int .i64 (.ofNat 1)) fun t33 =>
 j7 [t33] m23))) fun j24 =>
 oGF t21 (oOpt (fa 1 t13) fun t34 =>
 oOpt (ld1 m20 t34) fun t35 =>
 call 61 [(.int .i64 (.ofNat 0)), t35, (.int .i64 (.ofNat 23))] L m20 fun t36 m37 =>
 oOpt (aun .not t36) fun t38 =>
 j24 [t38] m37) (j24 [Go.undef] m20)) (k (.int .i64 (.ofNat 0)) m6)) lf [(.int .i64 (.ofNat 0))] m))
theorem S60_ok (lf : Nat) (cK : CallK β) (args : List Value) (L : Nat) (m : Mem) (k : Value → Mem → Option β)  : S60 lf cK args L m k = denF Tryd.prog fsT 2 K60 lf cK 60 args L m k := by kernel_rfl

/-- vitola/heap.between -/
def K61 : Kat := [(9, (1, [13]))]
noncomputable def S61 (lf : Nat) : FnK β := fun call args L m k =>
 uc args fun t0 l1 =>
 uc l1 fun t2 l3 =>
 uc l3 fun t4 l5 =>
 un0 l5 (oInt .leq .i64 t0 t2 fun t6 =>
 join (fun l7 m8 =>
 uc l7 fun t10 l11 =>
 oPick t6 t10 (.bool false) fun t12 =>
 k t12 m8) fun j9 =>
 oGT t6 (oInt .leq .i64 t2 t4 fun t13 =>
 j9 [t13] m) (j9 [Go.undef] m))
theorem S61_ok (lf : Nat) (cK : CallK β) (args : List Value) (L : Nat) (m : Mem) (k : Value → Mem → Option β)  : S61 lf cK args L m k = denF Tryd.prog fsT 2 K61 lf cK 61 args L m k := by kernel_rfl

/-- vitola/heap.crowd -/
def K62 : Kat := [(89, (0, [5, 10])), (11570, (0, [5]))]
noncomputable def S62 (lf : Nat) : FnK β := fun call args L m k =>
 uc args fun t0 l1 =>
 uc l1 fun t2 l3 =>
 un0 l3 (oRes (abox m t2) fun t4 m5 =>
 oOpt (ln t0) fun t6 =>
 loopS (fun j9 l7 m8 =>
 uc l7 fun t10 l11 =>
 uc l11 fun t12 l13 =>
 oInt .lss .i64 t12 t6 fun t14 =>
 oIf t14 (oOpt (ia 2 t0 t12) fun t15 =>
 oOpt (ldN m8 2 t15) fun t16 =>
 oRes (anew m8 1 [(.int .i64 (.ofNat 0)), (.int .i64 (.ofNat 0))] ptrTo) fun t17 m18 =>
 oRes (st1 2 L m18 t17 t16) fun t19 m20 =>
 oOpt (ldN m20 2 t17) fun t21 =>
 oOpt (ldN m20 2 t4) fun t22 =>
 call 84 [t21, t22] L m20 fun t23 m24 =>
 join (fun l25 m26 =>
 uc l25 fun t28 l29 =>
 oInt .add .i64 t12 (.int .i64 (.ofNat 1)) fun t30 =>
 j9 [t28, t30] m26) fun j27 =>
 oIf t23 (oInt .add .i64 t10 (.int .i64 (.ofNat 1)) fun t31 =>
 j27 [t31] m24) (j27 [t10] m24)) (k t10 m8)) lf [(.int .i64 (.ofNat 0)), (.int .i64 (.ofNat 0))] m5)
theorem S62_ok (lf : Nat) (cK : CallK β) (args : List Value) (L : Nat) (m : Mem) (k : Value → Mem → Option β)  : S62 lf cK args L m k = denF Tryd.prog fsT 2 K62 lf cK 62 args L m k := by kernel_rfl

/-- slices.ContainsFunc[[]int,int] -/
def K63 : Kat := []
noncomputable def S63 (lf : Nat) : FnK β := fun call args L m k =>
 uc args fun t0 l1 =>
 uc l1 fun t2 l3 =>
 un0 l3 (call 85 [t0, t2] L m fun t4 m5 =>
 oInt .geq .i64 t4 (.int .i64 (.ofNat 0)) fun t6 =>
 k t6 m5)
theorem S63_ok (lf : Nat) (cK : CallK β) (args : List Value) (L : Nat) (m : Mem) (k : Value → Mem → Option β)  : S63 lf cK args L m k = denF Tryd.prog fsT 2 K63 lf cK 63 args L m k := by kernel_rfl

/-- vitola/dock.listed$1 -/
def K64 : Kat := []
noncomputable def S64 (lf : Nat) : FnK β := fun call args L m k =>
 uc args fun t0 l1 =>
 uc l1 fun t2 l3 =>
 un0 l3 (oOpt (ld1 m t2) fun t4 =>
 call 58 [t0, (.int .i64 (.ofNat 0)), t4] L m fun t5 m6 =>
 oOpt (aun .not t5) fun t7 =>
 k t7 m6)
theorem S64_ok (lf : Nat) (cK : CallK β) (args : List Value) (L : Nat) (m : Mem) (k : Value → Mem → Option β)  : S64 lf cK args L m k = denF Tryd.prog fsT 2 K64 lf cK 64 args L m k := by kernel_rfl

/-- (*vitola/dock.row).come -/
def K65 : Kat := []
noncomputable def S65 (lf : Nat) : FnK β := fun call args L m k =>
 uc args fun t0 l1 =>
 uc l1 fun t2 l3 =>
 un0 l3 (oOpt (anil t0) fun t4 =>
 oOpt (fa 1 t4) fun t5 =>
 oOpt (ld1 m t5) fun t6 =>
 oOpt (aun .xor t6) fun t7 =>
 oOpt (abin Tryd.prog .shr 106 t7 t2) fun t8 =>
 oOpt (abin Tryd.prog .shl 106 t8 t2) fun t9 =>
 oOpt (anil t0) fun t10 =>
 oOpt (fa 0 t10) fun t11 =>
 oOpt (ld1 m t11) fun t12 =>
 oOpt (abin Tryd.prog .shl 106 (.int .u64 (.ofNat 1)) t12) fun t13 =>
 oInt .sub .u64 t13 (.int .u64 (.ofNat 1)) fun t14 =>
 oInt .and .u64 t9 t14 fun t15 =>
 oInt .eql .u64 t15 (.int .u64 (.ofNat 0)) fun t16 =>
 oIf t16 (oOpt (bu Tryd.prog 85 []) fun t17 =>
 oOpt (aiface Tryd.prog 85 t17) fun t18 =>
 k t18 m) (call 86 [t15] L m fun t19 m20 =>
 oOpt (anil t0) fun t21 =>
 oOpt (fa 1 t21) fun t22 =>
 oOpt (ld1 m20 t22) fun t23 =>
 oOpt (abin Tryd.prog .shl 106 (.int .u64 (.ofNat 1)) t19) fun t24 =>
 oInt .or .u64 t23 t24 fun t25 =>
 oOpt (anil t0) fun t26 =>
 oOpt (fa 1 t26) fun t27 =>
 oRes (st1 1 L m20 t27 t25) fun t28 m29 =>
 oInt .sub .i64 t19 t2 fun t30 =>
 oOpt (bu Tryd.prog 66 [(0, t19), (1, t30)]) fun t31 =>
 oOpt (aiface Tryd.prog 66 t31) fun t32 =>
 k t32 m29))
theorem S65_ok (lf : Nat) (cK : CallK β) (args : List Value) (L : Nat) (m : Mem) (k : Value → Mem → Option β)  : S65 lf cK args L m k = denF Tryd.prog fsT 2 K65 lf cK 65 args L m k := by kernel_rfl

/-- vitola/wrap.around -/
def K66 : Kat := [(761, (0, [8, 9, 23]))]
noncomputable def S66 (lf : Nat) : FnK β := fun call args L m k =>
 uc args fun t0 l1 =>
 uc l1 fun t2 l3 =>
 un0 l3 (oRes (abox m t0) fun t4 m5 =>
 oOpt (ldN m5 3 t4) fun t6 =>
 call 87 [t6] L m5 fun t7 m8 =>
 oOpt (aextract t7 0) fun t9 =>
 oOpt (aextract t7 1) fun t10 =>
 oInt .neq .i64 t10 (.int .i64 (.ofNat 0)) fun t11 =>
 oIf t11 (k (.tuple ⟨[(.slice none 0 0), t10]⟩) m8) (oOpt (anil t9) fun t12 =>
 oOpt (fa 0 t12) fun t13 =>
 oOpt (fa 2 t13) fun t14 =>
 oOpt (ld1 m8 t14) fun t15 =>
 loopS (fun j18 l16 m17 =>
 uc l16 fun t19 l20 =>
 uc l20 fun t21 l22 =>
 uc l22 fun t23 l24 =>
 oInt .lss .i64 t23 t15 fun t25 =>
 oIf t25 (oCallV call t2 [t9, t21] L m17 fun t26 m27 =>
 oRes (bs Tryd.prog m27 25 1 [(0, t26)]) fun t28 m29 =>
 oRes (aappend Tryd.prog L m29 25 t19 t28) fun t30 m31 =>
 call 88 [t9, t21] L m31 fun t32 m33 =>
 oInt .add .i64 t23 (.int .i64 (.ofNat 1)) fun t34 =>
 j18 [t30, t32, t34] m33) (k (.tuple ⟨[t19, (.int .i64 (.ofNat 0))]⟩) m17)) lf [(.slice none 0 0), (.int .i64 (.ofNat 0)), (.int .i64 (.ofNat 0))] m8))
theorem S66_ok (lf : Nat) (cK : CallK β) (args : List Value) (L : Nat) (m : Mem) (k : Value → Mem → Option β)  : S66 lf cK args L m k = denF Tryd.prog fsT 2 K66 lf cK 66 args L m k := by kernel_rfl

/-- vitola/wrap.Round$1 -/
def K67 : Kat := []
noncomputable def S67 (lf : Nat) : FnK β := fun call args L m k =>
 uc args fun t0 l1 =>
 uc l1 fun t2 l3 =>
 un0 l3 (k t2 m)
theorem S67_ok (lf : Nat) (cK : CallK β) (args : List Value) (L : Nat) (m : Mem) (k : Value → Mem → Option β)  : S67 lf cK args L m k = denF Tryd.prog fsT 2 K67 lf cK 67 args L m k := by kernel_rfl

/-- vitola/grade.Code -/
def K68 : Kat := [(377, (0, [5, 6, 20]))]
noncomputable def S68 (lf : Nat) : FnK β := fun call args L m k =>
 uc args fun t0 l1 =>
 un0 l1 (call 89 [t0] L m fun t2 m3 =>
 oInt .neq .i64 t2 (.int .i64 (.ofNat 0)) fun t4 =>
 oIf t4 (k (.tuple ⟨[(.slice none 0 0), t2]⟩) m3) (oOpt (ln t0) fun t5 =>
 oOpt (abin Tryd.prog .shl 106 (.int .u64 (.ofNat 1)) t5) fun t6 =>
 oInt .sub .u64 t6 (.int .u64 (.ofNat 1)) fun t7 =>
 oOpt (ln t0) fun t8 =>
 loopS (fun j11 l9 m10 =>
 uc l9 fun t12 l13 =>
 uc l13 fun t14 l15 =>
 uc l15 fun t16 l17 =>
 oInt .lss .i64 t16 t8 fun t18 =>
 oIf t18 (oOpt (ia 1 t0 t16) fun t19 =>
 oOpt (ld1 m10 t19) fun t20 =>
 oOpt (abin Tryd.prog .shl 106 (.int .u64 (.ofNat 1)) t20) fun t21 =>
 oInt .andNot .u64 t12 t21 fun t22 =>
 oOpt (abin Tryd.prog .shl 106 (.int .u64 (.ofNat 1)) t20) fun t23 =>
 oInt .sub .u64 t23 (.int .u64 (.ofNat 1)) fun t24 =>
 oInt .and .u64 t22 t24 fun t25 =>
 call 90 [t25] L m10 fun t26 m27 =>
 oRes (bs Tryd.prog m27 25 1 [(0, t26)]) fun t28 m29 =>
 oRes (aappend Tryd.prog L m29 25 t14 t28) fun t30 m31 =>
 oInt .add .i64 t16 (.int .i64 (.ofNat 1)) fun t32 =>
 j11 [t22, t30, t32] m31) (k (.tuple ⟨[t14, (.int .i64 (.ofNat 0))]⟩) m10)) lf [t7, (.slice none 0 0), (.int .i64 (.ofNat 0))] m3))
theorem S68_ok (lf : Nat) (cK : CallK β) (args : List Value) (L : Nat) (m : Mem) (k : Value → Mem → Option β)  : S68 lf cK args L m k = denF Tryd.prog fsT 2 K68 lf cK 68 args L m k := by kernel_rfl

/-- vitola/grade.Way -/
def K69 : Kat := [(761, (0, [10, 9])), (3048, (0, [10, 9]))]
noncomputable def S69 (lf : Nat) : FnK β := fun call args L m k =>
 uc args fun t0 l1 =>
 uc l1 fun t2 l3 =>
 un0 l3 (oRes (bs Tryd.prog m 154 2 [(0, t0), (1, t2)]) fun t4 m5 =>
 call 91 [t4] L m5 fun t6 m7 =>
 oInt .neq .i64 t6 (.int .i64 (.ofNat 0)) fun t8 =>
 oIf t8 (k (.tuple ⟨[(.slice none 0 0), t6]⟩) m7) (call 92 [t2] L m7 fun t9 m10 =>
 oRes (anew m10 1 [(.int .i64 (.ofNat 0)), (.int .i64 (.ofNat 0)), (.int .i64 (.ofNat 0)), (.int .i64 (.ofNat 0)), (.int .i64 (.ofNat 0)), (.int .i64 (.ofNat 0)), (.int .i64 (.ofNat 0))] ptrTo) fun t11 m12 =>
 oRes (st1 7 L m12 t11 t9) fun t13 m14 =>
 call 93 [t0] L m14 fun t15 m16 =>
 loopS (fun j19 l17 m18 =>
 uc l17 fun t20 l21 =>
 uc l21 fun t22 l23 =>
 oInt .add .i64 t20 (.int .i64 (.ofNat 1)) fun t24 =>
 oOpt (ln t15) fun t25 =>
 oInt .lss .i64 t24 t25 fun t26 =>
 oIf t26 (join (fun l27 m28 =>
 uc l27 fun t30 l31 =>
 uc l31 fun t32 l33 =>
 j19 [t30, t32] m28) fun j29 =>
 oOpt (ia 1 t15 t20) fun t34 =>
 oOpt (ld1 m18 t34) fun t35 =>
 oInt .add .i64 t20 (.int .i64 (.ofNat 1)) fun t36 =>
 oOpt (ia 1 t15 t36) fun t37 =>
 oOpt (ld1 m18 t37) fun t38 =>
 call 94 [t11, t35, t38] L m18 fun t39 m40 =>
 oIf t39 (oInt .add .i64 t20 (.int .i64 (.ofNat 1)) fun t41 =>
 j29 [t41, t22] m40) (call 95 [t15, t20] L m40 fun t42 m43 =>
 oRes (bs Tryd.prog m43 25 1 [(0, t20)]) fun t44 m45 =>
 oRes (aappend Tryd.prog L m45 25 t22 t44) fun t46 m47 =>
 oInt .sub .i64 t20 (.int .i64 (.ofNat 1)) fun t48 =>
 oOpt (abuiltin Tryd.prog .max #[3, 3] [(.int .i64 (.ofNat 0)), t48]) fun t49 =>
 j29 [t49, t46] m47)) (k (.tuple ⟨[t22, (.int .i64 (.ofNat 0))]⟩) m18)) lf [(.int .i64 (.ofNat 0)), (.slice none 0 0)] m16))
theorem S69_ok (lf : Nat) (cK : CallK β) (args : List Value) (L : Nat) (m : Mem) (k : Value → Mem → Option β)  : S69 lf cK args L m k = denF Tryd.prog fsT 2 K69 lf cK 69 args L m k := by kernel_rfl

end
end Go.Vit
