/- Shallow texts of the seat's functions, printed by a program: part 3. -/
import Derived.Test.YtffomiamkiakcaaRows
import Derived.Test.YtffomiamkiakcaaFs
set_option linter.unusedVariables false
set_option maxRecDepth 100000
namespace Go.Vit
open Go Go.Proofs
section
variable {β : Type}
/-- vitola/vitolaref07.Count -/
def K38 : Kat := []
noncomputable def S38 (lf : Nat) : FnK β := fun call args L m k =>
 uc args fun t0 l1 =>
 un0 l1 (call 67 [t0, (.int .i64 (.ofNat 1)), (.int .i64 (.ofNat 9))] L m fun t2 m3 =>
 oOpt (aun .not t2) fun t4 =>
 oIf t4 (k (.tuple ⟨[(.int .i64 (.ofNat 0)), (.int .i64 (.ofNat 1))]⟩) m3) (call 82 [t0, (.slice none 0 0)] L m3 fun t5 m6 =>
 k (.tuple ⟨[t5, (.int .i64 (.ofNat 0))]⟩) m6))
theorem S38_ok (lf : Nat) (cK : CallK β) (args : List Value) (L : Nat) (m : Mem) (k : Value → Mem → Option β)  : S38 lf cK args L m k = denF Try.prog fsT 0 K38 lf cK 38 args L m k := by kernel_rfl

/-- vitola/shade.Begin -/
def K39 : Kat := [(19, (1, [14]))]
noncomputable def S39 (lf : Nat) : FnK β := fun call args L m k =>
 uc args fun t0 l1 =>
 uc l1 fun t2 l3 =>
 un0 l3 (call 66 [t0, (.int .i64 (.ofNat 1)), (.int .i64 (.ofNat 9))] L m fun t4 m5 =>
 oOpt (aun .not t4) fun t6 =>
 join (fun l7 m8 =>
 uc l7 fun t10 l11 =>
 oPick t6 (.bool true) t10 fun t12 =>
 oIf t12 (k (.tuple ⟨[(.int .i64 (.ofNat 0)), (.int .i64 (.ofNat 1))]⟩) m8) (call 81 [] L m8 fun t13 m14 =>
 oOpt (aindex Try.prog 85 t13 t0) fun t15 =>
 oOpt (aindex Try.prog 84 t15 t2) fun t16 =>
 k (.tuple ⟨[t16, (.int .i64 (.ofNat 0))]⟩) m14)) fun j9 =>
 oGF t6 (oInt .sub .i64 t0 (.int .i64 (.ofNat 1)) fun t17 =>
 call 66 [t2, (.int .i64 (.ofNat 0)), t17] L m5 fun t18 m19 =>
 oOpt (aun .not t18) fun t20 =>
 j9 [t20] m19) (j9 [Go.undef] m5))
theorem S39_ok (lf : Nat) (cK : CallK β) (args : List Value) (L : Nat) (m : Mem) (k : Value → Mem → Option β)  : S39 lf cK args L m k = denF Try.prog fsT 0 K39 lf cK 39 args L m k := by kernel_rfl

/-- vitola/vitolaref07.Begin -/
def K40 : Kat := [(19, (1, [14]))]
noncomputable def S40 (lf : Nat) : FnK β := fun call args L m k =>
 uc args fun t0 l1 =>
 uc l1 fun t2 l3 =>
 un0 l3 (call 67 [t0, (.int .i64 (.ofNat 1)), (.int .i64 (.ofNat 9))] L m fun t4 m5 =>
 oOpt (aun .not t4) fun t6 =>
 join (fun l7 m8 =>
 uc l7 fun t10 l11 =>
 oPick t6 (.bool true) t10 fun t12 =>
 oIf t12 (k (.tuple ⟨[(.int .i64 (.ofNat 0)), (.int .i64 (.ofNat 1))]⟩) m8) (oRes (bs Try.prog m8 22 1 [(0, t2)]) fun t13 m14 =>
 call 82 [t0, t13] L m14 fun t15 m16 =>
 k (.tuple ⟨[t15, (.int .i64 (.ofNat 0))]⟩) m16)) fun j9 =>
 oGF t6 (oInt .sub .i64 t0 (.int .i64 (.ofNat 1)) fun t17 =>
 call 67 [t2, (.int .i64 (.ofNat 0)), t17] L m5 fun t18 m19 =>
 oOpt (aun .not t18) fun t20 =>
 j9 [t20] m19) (j9 [Go.undef] m5))
theorem S40_ok (lf : Nat) (cK : CallK β) (args : List Value) (L : Nat) (m : Mem) (k : Value → Mem → Option β)  : S40 lf cK args L m k = denF Try.prog fsT 0 K40 lf cK 40 args L m k := by kernel_rfl

/-- vitola/shade.At -/
def K41 : Kat := [(1529, (0, [1, 10, 9, 31])), (97944, (0, [1, 10, 9])), (195889, (0, [1, 10, 9, 38])), (3134245, (0, [1, 10, 9]))]
noncomputable def S41 (lf : Nat) : FnK β := fun call args L m k =>
 uc args fun t0 l1 =>
 uc l1 fun t2 l3 =>
 un0 l3 (call 37 [t0] L m fun t4 m5 =>
 oOpt (aextract t4 0) fun t6 =>
 oOpt (aextract t4 1) fun t7 =>
 oInt .neq .i64 t7 (.int .i64 (.ofNat 0)) fun t8 =>
 oIf t8 (k (.tuple ⟨[(.slice none 0 0), t7]⟩) m5) (oInt .sub .i64 t6 (.int .i64 (.ofNat 1)) fun t9 =>
 call 66 [t2, (.int .i64 (.ofNat 0)), t9] L m5 fun t10 m11 =>
 oOpt (aun .not t10) fun t12 =>
 oIf t12 (k (.tuple ⟨[(.slice none 0 0), (.int .i64 (.ofNat 1))]⟩) m11) (call 83 [t0] L m11 fun t13 m14 =>
 loopS (fun j17 l15 m16 =>
 uc l15 fun t18 l19 =>
 uc l19 fun t20 l21 =>
 uc l21 fun t22 l23 =>
 uc l23 fun t24 l25 =>
 oInt .lss .i64 t24 t0 fun t26 =>
 oIf t26 (oOpt (anil t13) fun t27 =>
 oOpt (fa 0 t27) fun t28 =>
 oOpt (ld1 m16 t28) fun t29 =>
 oOpt (ln t29) fun t30 =>
 join (fun l31 m32 =>
 uc l31 fun t34 l35 =>
 uc l35 fun t36 l37 =>
 uc l37 fun t38 l39 =>
 oInt .add .i64 t24 (.int .i64 (.ofNat 1)) fun t40 =>
 j17 [t34, t36, t38, t40] m32) fun j33 =>
 loopS (fun j43 l41 m42 =>
 uc l41 fun t44 l45 =>
 uc l45 fun t46 l47 =>
 uc l47 fun t48 l49 =>
 uc l49 fun t50 l51 =>
 oInt .lss .i64 t50 t30 fun t52 =>
 oIf t52 (join (fun l53 m54 =>
 uc l53 fun t56 l57 =>
 uc l57 fun t58 l59 =>
 uc l59 fun t60 l61 =>
 oInt .add .i64 t50 (.int .i64 (.ofNat 1)) fun t62 =>
 j43 [t56, t58, t60, t62] m54) fun j55 =>
 call 84 [t13, t46, t50] L m42 fun t63 m64 =>
 oOpt (aun .not t63) fun t65 =>
 oIf t65 (j55 [t44, t46, t48] m64) (call 85 [t13, t50] L m64 fun t66 m67 =>
 oInt .geq .i64 t44 t66 fun t68 =>
 oIf t68 (oInt .sub .i64 t44 t66 fun t69 =>
 j55 [t69, t46, t48] m67) (call 86 [t13, t50] L m67 fun t70 m71 =>
 oRes (bs Try.prog m71 22 1 [(0, t70)]) fun t72 m73 =>
 oRes (aappend Try.prog L m73 22 t48 t72) fun t74 m75 =>
 j33 [t44, t70, t74] m75))) (j33 [t44, t46, t48] m42)) lf [t18, t20, t22, (.int .i64 (.ofNat 0))] m16) (k (.tuple ⟨[t22, (.int .i64 (.ofNat 0))]⟩) m16)) lf [t2, (.int .i64 (.negSucc 0)), (.slice none 0 0), (.int .i64 (.ofNat 0))] m14)))
theorem S41_ok (lf : Nat) (cK : CallK β) (args : List Value) (L : Nat) (m : Mem) (k : Value → Mem → Option β)  : S41 lf cK args L m k = denF Try.prog fsT 0 K41 lf cK 41 args L m k := by kernel_rfl

/-- vitola/vitolaref07.At -/
def K42 : Kat := [(43, (1, [23])), (44, (0, [7])), (379, (0, [1, 8])), (24339, (0, [1, 9])), (778884, (0, [10]))]
noncomputable def S42 (lf : Nat) : FnK β := fun call args L m k =>
 uc args fun t0 l1 =>
 uc l1 fun t2 l3 =>
 un0 l3 (call 38 [t0] L m fun t4 m5 =>
 oOpt (aextract t4 0) fun t6 =>
 oOpt (aextract t4 1) fun t7 =>
 oInt .eql .i64 t7 (.int .i64 (.ofNat 0)) fun t8 =>
 join (fun l9 m10 =>
 uc l9 fun t12 l13 =>
 oPick t8 t12 (.bool false) fun t14 =>
 join (fun l15 m16 =>
 uc l15 fun t18 l19 =>
 oInt .neq .i64 t18 (.int .i64 (.ofNat 0)) fun t20 =>
 oIf t20 (k (.tuple ⟨[(.slice none 0 0), t18]⟩) m16) (loopS (fun j23 l21 m22 =>
 uc l21 fun t24 l25 =>
 uc l25 fun t26 l27 =>
 oOpt (ln t26) fun t28 =>
 oInt .lss .i64 t28 t0 fun t29 =>
 oIf t29 (loopS (fun j32 l30 m31 =>
 uc l30 fun t33 l34 =>
 uc l34 fun t35 l36 =>
 call 79 [t26, t35] L m31 fun t37 m38 =>
 oOpt (aun .not t37) fun t39 =>
 join (fun l40 m41 =>
 uc l40 fun t43 l44 =>
 oInt .lss .i64 t33 t43 fun t45 =>
 oIf t45 (oRes (bs Try.prog m41 22 1 [(0, t35)]) fun t46 m47 =>
 oRes (aappend Try.prog L m47 22 t26 t46) fun t48 m49 =>
 j23 [t33, t48] m49) (oInt .sub .i64 t33 t43 fun t50 =>
 oInt .add .i64 t35 (.int .i64 (.ofNat 1)) fun t51 =>
 j32 [t50, t51] m41)) fun j42 =>
 oIf t39 (oRes (bs Try.prog m38 22 0 []) fun t52 m53 =>
 oRes (aappend Try.prog L m53 22 t52 t26) fun t54 m55 =>
 oRes (bs Try.prog m55 22 1 [(0, t35)]) fun t56 m57 =>
 oRes (aappend Try.prog L m57 22 t54 t56) fun t58 m59 =>
 call 82 [t0, t58] L m59 fun t60 m61 =>
 j42 [t60] m61) (j42 [(.int .i64 (.ofNat 0))] m38)) lf [t24, (.int .i64 (.ofNat 0))] m22) (k (.tuple ⟨[t26, (.int .i64 (.ofNat 0))]⟩) m22)) lf [t2, (.slice none 0 0)] m16)) fun j17 =>
 oIf t14 (j17 [(.int .i64 (.ofNat 1))] m10) (j17 [t7] m10)) fun j11 =>
 oGT t8 (oInt .sub .i64 t6 (.int .i64 (.ofNat 1)) fun t62 =>
 call 67 [t2, (.int .i64 (.ofNat 0)), t62] L m5 fun t63 m64 =>
 oOpt (aun .not t63) fun t65 =>
 j11 [t65] m64) (j11 [Go.undef] m5))
theorem S42_ok (lf : Nat) (cK : CallK β) (args : List Value) (L : Nat) (m : Mem) (k : Value → Mem → Option β)  : S42 lf cK args L m k = denF Try.prog fsT 0 K42 lf cK 42 args L m k := by kernel_rfl

/-- vitola/shade.Number -/
def K43 : Kat := [(761, (0, [7, 8, 29])), (390347, (0, [7, 11])), (12491144, (0, [7]))]
noncomputable def S43 (lf : Nat) : FnK β := fun call args L m k =>
 uc args fun t0 l1 =>
 un0 l1 (call 35 [t0] L m fun t2 m3 =>
 oOpt (aextract t2 0) fun t4 =>
 oOpt (aextract t2 1) fun t5 =>
 oInt .neq .i64 t5 (.int .i64 (.ofNat 0)) fun t6 =>
 oIf t6 (k (.tuple ⟨[(.int .i64 (.ofNat 0)), t5]⟩) m3) (oOpt (aun .not t4) fun t7 =>
 oIf t7 (k (.tuple ⟨[(.int .i64 (.ofNat 0)), (.int .i64 (.ofNat 12))]⟩) m3) (oOpt (ln t0) fun t8 =>
 call 83 [t8] L m3 fun t9 m10 =>
 oOpt (ln t0) fun t11 =>
 loopS (fun j14 l12 m13 =>
 uc l12 fun t15 l16 =>
 uc l16 fun t17 l18 =>
 uc l18 fun t19 l20 =>
 oInt .lss .i64 t19 t11 fun t21 =>
 oIf t21 (oOpt (ia 1 t0 t19) fun t22 =>
 oOpt (ld1 m13 t22) fun t23 =>
 loopS (fun j26 l24 m25 =>
 uc l24 fun t27 l28 =>
 uc l28 fun t29 l30 =>
 oOpt (anil t9) fun t31 =>
 oOpt (fa 0 t31) fun t32 =>
 oOpt (ld1 m25 t32) fun t33 =>
 oOpt (ia 1 t33 t29) fun t34 =>
 oOpt (ld1 m25 t34) fun t35 =>
 oInt .neq .i64 t35 t23 fun t36 =>
 oIf t36 (call 84 [t9, t17, t29] L m25 fun t37 m38 =>
 join (fun l39 m40 =>
 uc l39 fun t42 l43 =>
 oInt .add .i64 t29 (.int .i64 (.ofNat 1)) fun t44 =>
 j26 [t42, t44] m40) fun j41 =>
 oIf t37 (call 85 [t9, t29] L m38 fun t45 m46 =>
 oInt .add .i64 t27 t45 fun t47 =>
 j41 [t47] m46) (j41 [t27] m38)) (call 86 [t9, t29] L m25 fun t48 m49 =>
 oInt .add .i64 t19 (.int .i64 (.ofNat 1)) fun t50 =>
 j14 [t27, t48, t50] m49)) lf [t15, (.int .i64 (.ofNat 0))] m13) (k (.tuple ⟨[t15, (.int .i64 (.ofNat 0))]⟩) m13)) lf [(.int .i64 (.ofNat 0)), (.int .i64 (.negSucc 0)), (.int .i64 (.ofNat 0))] m10)))
theorem S43_ok (lf : Nat) (cK : CallK β) (args : List Value) (L : Nat) (m : Mem) (k : Value → Mem → Option β)  : S43 lf cK args L m k = denF Try.prog fsT 0 K43 lf cK 43 args L m k := by kernel_rfl

/-- vitola/vitolaref07.Number -/
def K44 : Kat := [(43, (1, [18])), (44, (0, [5])), (761, (0, [6, 7])), (48785, (0, [6, 8])), (1561160, (0, [6]))]
noncomputable def S44 (lf : Nat) : FnK β := fun call args L m k =>
 uc args fun t0 l1 =>
 un0 l1 (call 36 [t0] L m fun t2 m3 =>
 oOpt (aextract t2 0) fun t4 =>
 oOpt (aextract t2 1) fun t5 =>
 oInt .eql .i64 t5 (.int .i64 (.ofNat 0)) fun t6 =>
 join (fun l7 m8 =>
 uc l7 fun t10 l11 =>
 oPick t6 t10 (.bool false) fun t12 =>
 join (fun l13 m14 =>
 uc l13 fun t16 l17 =>
 oInt .neq .i64 t16 (.int .i64 (.ofNat 0)) fun t18 =>
 oIf t18 (k (.tuple ⟨[(.int .i64 (.ofNat 0)), t16]⟩) m14) (loopS (fun j21 l19 m20 =>
 uc l19 fun t22 l23 =>
 uc l23 fun t24 l25 =>
 oOpt (ln t0) fun t26 =>
 oInt .lss .i64 t24 t26 fun t27 =>
 oIf t27 (loopS (fun j30 l28 m29 =>
 uc l28 fun t31 l32 =>
 uc l32 fun t33 l34 =>
 oOpt (ia 1 t0 t24) fun t35 =>
 oOpt (ld1 m29 t35) fun t36 =>
 oInt .lss .i64 t33 t36 fun t37 =>
 oIf t37 (oOpt (sl Try.prog 22 t0 none (some t24) none) fun t38 =>
 call 79 [t38, t33] L m29 fun t39 m40 =>
 oOpt (aun .not t39) fun t41 =>
 join (fun l42 m43 =>
 uc l42 fun t45 l46 =>
 oInt .add .i64 t33 (.int .i64 (.ofNat 1)) fun t47 =>
 j30 [t45, t47] m43) fun j44 =>
 oIf t41 (oOpt (ln t0) fun t48 =>
 oRes (bs Try.prog m40 22 0 []) fun t49 m50 =>
 oOpt (sl Try.prog 22 t0 none (some t24) none) fun t51 =>
 oRes (aappend Try.prog L m50 22 t49 t51) fun t52 m53 =>
 oRes (bs Try.prog m53 22 1 [(0, t33)]) fun t54 m55 =>
 oRes (aappend Try.prog L m55 22 t52 t54) fun t56 m57 =>
 call 82 [t48, t56] L m57 fun t58 m59 =>
 oInt .add .i64 t31 t58 fun t60 =>
 j44 [t60] m59) (j44 [t31] m40)) (oInt .add .i64 t24 (.int .i64 (.ofNat 1)) fun t61 =>
 j21 [t31, t61] m29)) lf [t22, (.int .i64 (.ofNat 0))] m20) (k (.tuple ⟨[t22, (.int .i64 (.ofNat 0))]⟩) m20)) lf [(.int .i64 (.ofNat 0)), (.int .i64 (.ofNat 0))] m14)) fun j15 =>
 oIf t12 (j15 [(.int .i64 (.ofNat 12))] m8) (j15 [t5] m8)) fun j9 =>
 oGT t6 (oOpt (aun .not t4) fun t62 =>
 j9 [t62] m3) (j9 [Go.undef] m3))
theorem S44_ok (lf : Nat) (cK : CallK β) (args : List Value) (L : Nat) (m : Mem) (k : Value → Mem → Option β)  : S44 lf cK args L m k = denF Try.prog fsT 0 K44 lf cK 44 args L m k := by kernel_rfl

/-- (vitola/vitolalaw07.Tray).made -/
def K45 : Kat := [(89, (0, [5, 17]))]
noncomputable def S45 (lf : Nat) : FnK β := fun call args L m k =>
 uc args fun t0 l1 =>
 uc l1 fun t2 l3 =>
 un0 l3 (oRes (abox m t0) fun t4 m5 =>
 oOpt (fa 1 t4) fun t6 =>
 oOpt (fa 0 t4) fun t7 =>
 oOpt (ld1 m5 t7) fun t8 =>
 oCv .i64 t8 fun t9 =>
 oInt .rem .i64 t9 t2 fun t10 =>
 oInt .add .i64 (.int .i64 (.ofNat 1)) t10 fun t11 =>
 oOpt (sl Try.prog 42 t6 none (some t11) none) fun t12 =>
 oOpt (ln t12) fun t13 =>
 loopS (fun j16 l14 m15 =>
 uc l14 fun t17 l18 =>
 uc l18 fun t19 l20 =>
 oInt .lss .i64 t19 t13 fun t21 =>
 oIf t21 (oOpt (ia 1 t12 t19) fun t22 =>
 oOpt (ld1 m15 t22) fun t23 =>
 oCv .i64 t23 fun t24 =>
 oInt .rem .i64 t24 (.int .i64 (.ofNat 61)) fun t25 =>
 oRes (bs Try.prog m15 22 1 [(0, t25)]) fun t26 m27 =>
 oRes (aappend Try.prog L m27 22 t17 t26) fun t28 m29 =>
 oInt .add .i64 t19 (.int .i64 (.ofNat 1)) fun t30 =>
 j16 [t28, t30] m29) (k t17 m15)) lf [(.slice none 0 0), (.int .i64 (.ofNat 0))] m5)
theorem S45_ok (lf : Nat) (cK : CallK β) (args : List Value) (L : Nat) (m : Mem) (k : Value → Mem → Option β)  : S45 lf cK args L m k = denF Try.prog fsT 0 K45 lf cK 45 args L m k := by kernel_rfl

/-- slices.Clone[[]int,int] -/
def K46 : Kat := []
noncomputable def S46 (lf : Nat) : FnK β := fun call args L m k =>
 uc args fun t0 l1 =>
 un0 l1 (oOpt (abin Try.prog .eql 22 t0 (.slice none 0 0)) fun t2 =>
 oIf t2 (k (.slice none 0 0) m) (oRes (bs Try.prog m 22 0 []) fun t3 m4 =>
 oRes (aappend Try.prog L m4 22 t3 t0) fun t5 m6 =>
 k t5 m6))
theorem S46_ok (lf : Nat) (cK : CallK β) (args : List Value) (L : Nat) (m : Mem) (k : Value → Mem → Option β)  : S46 lf cK args L m k = denF Try.prog fsT 0 K46 lf cK 46 args L m k := by kernel_rfl

/-- vitola/vitolalaw07.S -/
def K47 : Kat := []
noncomputable def S47 (lf : Nat) : FnK β := fun call args L m k =>
 un0 args (oRes (bs Try.prog m 22 5 [(0, (.int .i64 (.ofNat 10))), (1, (.int .i64 (.ofNat 40))), (2, (.int .i64 (.ofNat 12))), (3, (.int .i64 (.ofNat 30))), (4, (.int .i64 (.ofNat 11)))]) fun t0 m1 =>
 call 48 [t0] L m1 fun t2 m3 =>
 k t2 m3)
theorem S47_ok (lf : Nat) (cK : CallK β) (args : List Value) (L : Nat) (m : Mem) (k : Value → Mem → Option β)  : S47 lf cK args L m k = denF Try.prog fsT 0 K47 lf cK 47 args L m k := by kernel_rfl

/-- vitola/vitolalaw07.list -/
def K48 : Kat := []
noncomputable def S48 (lf : Nat) : FnK β := fun call args L m k =>
 uc args fun t0 l1 =>
 un0 l1 (k t0 m)
theorem S48_ok (lf : Nat) (cK : CallK β) (args : List Value) (L : Nat) (m : Mem) (k : Value → Mem → Option β)  : S48 lf cK args L m k = denF Try.prog fsT 0 K48 lf cK 48 args L m k := by kernel_rfl

/-- slices.Sorted[int] -/
def K49 : Kat := []
noncomputable def S49 (lf : Nat) : FnK β := fun call args L m k =>
 uc args fun t0 l1 =>
 un0 l1 (call 87 [t0] L m fun t2 m3 =>
 call 88 [t2] L m3 fun t4 m5 =>
 k t2 m5)
theorem S49_ok (lf : Nat) (cK : CallK β) (args : List Value) (L : Nat) (m : Mem) (k : Value → Mem → Option β)  : S49 lf cK args L m k = denF Try.prog fsT 0 K49 lf cK 49 args L m k := by kernel_rfl

/-- slices.Values[[]int,int] -/
def K50 : Kat := []
noncomputable def S50 (lf : Nat) : FnK β := fun call args L m k =>
 uc args fun t0 l1 =>
 un0 l1 (oRes (abox m t0) fun t2 m3 =>
 k (.func (.func 89) #[] ⟨[t2]⟩) m3)
theorem S50_ok (lf : Nat) (cK : CallK β) (args : List Value) (L : Nat) (m : Mem) (k : Value → Mem → Option β)  : S50 lf cK args L m k = denF Try.prog fsT 0 K50 lf cK 50 args L m k := by kernel_rfl

/-- vitola/vitolalaw07.all -/
def K51 : Kat := []
noncomputable def S51 (lf : Nat) : FnK β := fun call args L m k =>
 uc args fun t0 l1 =>
 uc l1 fun t2 l3 =>
 un0 l3 (oRes (abox m t0) fun t4 m5 =>
 oRes (abox m5 t2) fun t6 m7 =>
 oRes (anew m7 1 [.nilFunc] ptrTo) fun t8 m9 =>
 oRes (st1 1 L m9 t8 (.func (.func 90) #[] ⟨[t4, t6, t8]⟩)) fun t10 m11 =>
 oOpt (ld1 m11 t8) fun t12 =>
 oCallV call t12 [(.slice none 0 0), (.int .u64 (.ofNat 0))] L m11 fun t13 m14 =>
 k (.tuple ⟨[]⟩) m14)
theorem S51_ok (lf : Nat) (cK : CallK β) (args : List Value) (L : Nat) (m : Mem) (k : Value → Mem → Option β)  : S51 lf cK args L m k = denF Try.prog fsT 0 K51 lf cK 51 args L m k := by kernel_rfl

/-- vitola/vitolalaw07.ShadeWidest$1 -/
def K52 : Kat := [(10, (0, []))]
noncomputable def S52 (lf : Nat) : FnK β := fun call args L m k =>
 uc args fun t0 l1 =>
 uc l1 fun t2 l3 =>
 uc l3 fun t4 l5 =>
 uc l5 fun t6 l7 =>
 un0 l7 (oOpt (ld1 m t2) fun t8 =>
 call 54 [t0, t8] L m fun t9 m10 =>
 call 53 [t9] L m10 fun t11 m12 =>
 oOpt (ld1 m12 t4) fun t13 =>
 oInt .gtr .i64 t11 t13 fun t14 =>
 join (fun l15 m16 =>
 k (.tuple ⟨[]⟩) m16) fun j17 =>
 oIf t14 (oRes (st1 1 L m12 t4 t11) fun t18 m19 =>
 oRes (st1 1 L m19 t6 t0) fun t20 m21 =>
 j17 [] m21) (j17 [] m12))
theorem S52_ok (lf : Nat) (cK : CallK β) (args : List Value) (L : Nat) (m : Mem) (k : Value → Mem → Option β)  : S52 lf cK args L m k = denF Try.prog fsT 0 K52 lf cK 52 args L m k := by kernel_rfl

/-- vitola/vitolalaw07.sum -/
def K53 : Kat := [(89, (0, [3, 8]))]
noncomputable def S53 (lf : Nat) : FnK β := fun call args L m k =>
 uc args fun t0 l1 =>
 un0 l1 (oOpt (ln t0) fun t2 =>
 loopS (fun j5 l3 m4 =>
 uc l3 fun t6 l7 =>
 uc l7 fun t8 l9 =>
 oInt .lss .i64 t8 t2 fun t10 =>
 oIf t10 (oOpt (ia 1 t0 t8) fun t11 =>
 oOpt (ld1 m4 t11) fun t12 =>
 oInt .add .i64 t6 t12 fun t13 =>
 oInt .add .i64 t8 (.int .i64 (.ofNat 1)) fun t14 =>
 j5 [t13, t14] m4) (k t6 m4)) lf [(.int .i64 (.ofNat 0)), (.int .i64 (.ofNat 0))] m)
theorem S53_ok (lf : Nat) (cK : CallK β) (args : List Value) (L : Nat) (m : Mem) (k : Value → Mem → Option β)  : S53 lf cK args L m k = denF Try.prog fsT 0 K53 lf cK 53 args L m k := by kernel_rfl

/-- vitola/vitolalaw07.steps -/
def K54 : Kat := [(44, (0, [5])), (89, (0, [5, 10])), (46284, (0, [7])), (370279, (1, [23]))]
noncomputable def S54 (lf : Nat) : FnK β := fun call args L m k =>
 uc args fun t0 l1 =>
 uc l1 fun t2 l3 =>
 un0 l3 (oOpt (ln t0) fun t4 =>
 join (fun l5 m6 =>
 uc l5 fun t8 l9 =>
 k t8 m6) fun j7 =>
 loopS (fun j12 l10 m11 =>
 uc l10 fun t13 l14 =>
 uc l14 fun t15 l16 =>
 oInt .lss .i64 t15 t4 fun t17 =>
 oIf t17 (oInt .add .i64 t15 (.int .i64 (.ofNat 1)) fun t18 =>
 oOpt (ln t0) fun t19 =>
 oInt .eql .i64 t18 t19 fun t20 =>
 join (fun l21 m22 =>
 uc l21 fun t24 l25 =>
 oOpt (ia 1 t0 t15) fun t26 =>
 oOpt (ld1 m22 t26) fun t27 =>
 oOpt (ia 1 t0 t24) fun t28 =>
 oOpt (ld1 m22 t28) fun t29 =>
 oInt .sub .i64 t27 t29 fun t30 =>
 oOpt (ia 1 t0 t24) fun t31 =>
 oOpt (ld1 m22 t31) fun t32 =>
 oOpt (ia 1 t0 t15) fun t33 =>
 oOpt (ld1 m22 t33) fun t34 =>
 oInt .sub .i64 t32 t34 fun t35 =>
 oOpt (abuiltin Try.prog .max #[3, 3] [t30, t35]) fun t36 =>
 oRes (bs Try.prog m22 22 1 [(0, t36)]) fun t37 m38 =>
 oRes (aappend Try.prog L m38 22 t13 t37) fun t39 m40 =>
 oInt .add .i64 t15 (.int .i64 (.ofNat 1)) fun t41 =>
 j12 [t39, t41] m40) fun j23 =>
 oIf t20 (oOpt (aun .not t2) fun t42 =>
 join (fun l43 m44 =>
 uc l43 fun t46 l47 =>
 oPick t42 (.bool true) t46 fun t48 =>
 oIf t48 (j7 [t13] m44) (j23 [(.int .i64 (.ofNat 0))] m44)) fun j45 =>
 oGF t42 (oInt .eql .i64 t18 (.int .i64 (.ofNat 1)) fun t49 =>
 j45 [t49] m11) (j45 [Go.undef] m11)) (j23 [t18] m11)) (j7 [t13] m11)) lf [(.slice none 0 0), (.int .i64 (.ofNat 0))] m)
theorem S54_ok (lf : Nat) (cK : CallK β) (args : List Value) (L : Nat) (m : Mem) (k : Value → Mem → Option β)  : S54 lf cK args L m k = denF Try.prog fsT 0 K54 lf cK 54 args L m k := by kernel_rfl

/-- vitola/vitolalaw07.ShadeTurns$1 -/
def K55 : Kat := [(89, (0, [6, 7])), (1443, (1, [36])), (91, (1, [43])), (381, (1, [60])), (6131, (1, [67])), (6131, (3, [71])), (1533, (1, [76])), (1533, (3, [81])), (6139, (1, [87])), (6140, (0, [])), (24564, (1, [100]))]
noncomputable def S55 (lf : Nat) : FnK β := fun call args L m k =>
 uc args fun t0 l1 =>
 uc l1 fun t2 l3 =>
 uc l3 fun t4 l5 =>
 uc l5 fun t6 l7 =>
 uc l7 fun t8 l9 =>
 un0 l9 (oOpt (ld1 m t2) fun t10 =>
 oOpt (aun .not t10) fun t11 =>
 oIf t11 (k (.tuple ⟨[]⟩) m) (loopS (fun j14 l12 m13 =>
 uc l12 fun t15 l16 =>
 uc l16 fun t17 l18 =>
 oOpt (ld1 m13 t4) fun t19 =>
 oInt .lss .i64 t17 t19 fun t20 =>
 oIf t20 (join (fun l21 m22 =>
 uc l21 fun t24 l25 =>
 oPick t15 t24 (.bool false) fun t26 =>
 oInt .add .i64 t17 (.int .i64 (.ofNat 1)) fun t27 =>
 j14 [t26, t27] m22) fun j23 =>
 oGT t15 (oOpt (ia 1 t0 t17) fun t28 =>
 oOpt (ld1 m13 t28) fun t29 =>
 oInt .sub .i64 t17 (.int .i64 (.ofNat 1)) fun t30 =>
 oOpt (ia 1 t0 t30) fun t31 =>
 oOpt (ld1 m13 t31) fun t32 =>
 oInt .gtr .i64 t29 t32 fun t33 =>
 oInt .rem .i64 t17 (.int .i64 (.ofNat 2)) fun t34 =>
 oInt .eql .i64 t34 (.int .i64 (.ofNat 1)) fun t35 =>
 oOpt (abin Try.prog .eql 4 t33 t35) fun t36 =>
 j23 [t36] m13) (j23 [Go.undef] m13)) (oOpt (aun .not t15) fun t37 =>
 join (fun l38 m39 =>
 uc l38 fun t41 l42 =>
 oPick t37 t41 (.bool false) fun t43 =>
 oIf t43 (k (.tuple ⟨[]⟩) m39) (call 35 [t0] L m39 fun t44 m45 =>
 oOpt (aextract t44 0) fun t46 =>
 oOpt (aextract t44 1) fun t47 =>
 call 43 [t0] L m45 fun t48 m49 =>
 oOpt (aextract t48 0) fun t50 =>
 oOpt (aextract t48 1) fun t51 =>
 oInt .eql .i64 t47 (.int .i64 (.ofNat 0)) fun t52 =>
 join (fun l53 m54 =>
 uc l53 fun t56 l57 =>
 oPick t52 t56 (.bool false) fun t58 =>
 oRes (st1 1 L m54 t2 t58) fun t59 m60 =>
 oOpt (aun .not t15) fun t61 =>
 oIf t61 (oOpt (ld1 m60 t2) fun t62 =>
 join (fun l63 m64 =>
 uc l63 fun t66 l67 =>
 oPick t62 t66 (.bool false) fun t68 =>
 join (fun l69 m70 =>
 uc l69 fun t72 l73 =>
 oPick t68 t72 (.bool false) fun t74 =>
 oRes (st1 1 L m70 t2 t74) fun t75 m76 =>
 k (.tuple ⟨[]⟩) m76) fun j71 =>
 oGT t68 (oInt .eql .i64 t50 (.int .i64 (.ofNat 0)) fun t77 =>
 j71 [t77] m64) (j71 [Go.undef] m64)) fun j65 =>
 oGT t62 (oInt .eql .i64 t51 (.int .i64 (.ofNat 12)) fun t78 =>
 j65 [t78] m60) (j65 [Go.undef] m60)) (oOpt (ld1 m60 t2) fun t79 =>
 join (fun l80 m81 =>
 uc l80 fun t83 l84 =>
 oPick t79 t83 (.bool false) fun t85 =>
 join (fun l86 m87 =>
 uc l86 fun t89 l90 =>
 oPick t85 t89 (.bool false) fun t91 =>
 oRes (st1 1 L m87 t2 t91) fun t92 m93 =>
 oOpt (ld1 m93 t2) fun t94 =>
 join (fun l95 m96 =>
 uc l95 fun t98 l99 =>
 oPick t94 t98 (.bool false) fun t100 =>
 join (fun l101 m102 =>
 oOpt (ia 1 t0 (.int .i64 (.ofNat 0))) fun t104 =>
 oOpt (ld1 m102 t104) fun t105 =>
 oOpt (iaA 8 1 t8 t105) fun t106 =>
 oOpt (ld1 m102 t106) fun t107 =>
 oInt .add .i64 t107 (.int .i64 (.ofNat 1)) fun t108 =>
 oOpt (iaA 8 1 t8 t105) fun t109 =>
 oRes (st1 1 L m102 t109 t108) fun t110 m111 =>
 oOpt (ld1 m111 t6) fun t112 =>
 oInt .add .i64 t112 (.int .i64 (.ofNat 1)) fun t113 =>
 oRes (st1 1 L m111 t6 t113) fun t114 m115 =>
 k (.tuple ⟨[]⟩) m115) fun j103 =>
 oIf t100 (oOpt (ld1 m96 t4) fun t116 =>
 oOpt (ld1 m96 t6) fun t117 =>
 call 41 [t116, t117] L m96 fun t118 m119 =>
 oOpt (aextract t118 0) fun t120 =>
 oOpt (aextract t118 1) fun t121 =>
 oInt .eql .i64 t121 (.int .i64 (.ofNat 0)) fun t122 =>
 join (fun l123 m124 =>
 uc l123 fun t126 l127 =>
 oPick t122 t126 (.bool false) fun t128 =>
 oRes (st1 1 L m124 t2 t128) fun t129 m130 =>
 j103 [] m130) fun j125 =>
 oGT t122 (call 30 [t120, t0] L m119 fun t131 m132 =>
 j125 [t131] m132) (j125 [Go.undef] m119)) (j103 [] m96)) fun j97 =>
 oGT t94 (oOpt (ld1 m93 t6) fun t133 =>
 oInt .rem .i64 t133 (.int .i64 (.ofNat 3)) fun t134 =>
 oInt .eql .i64 t134 (.int .i64 (.ofNat 0)) fun t135 =>
 j97 [t135] m93) (j97 [Go.undef] m93)) fun j88 =>
 oGT t85 (oOpt (ld1 m81 t6) fun t136 =>
 oInt .eql .i64 t50 t136 fun t137 =>
 j88 [t137] m81) (j88 [Go.undef] m81)) fun j82 =>
 oGT t79 (oInt .eql .i64 t51 (.int .i64 (.ofNat 0)) fun t138 =>
 j82 [t138] m60) (j82 [Go.undef] m60))) fun j55 =>
 oGT t52 (oOpt (abin Try.prog .eql 4 t46 t15) fun t139 =>
 j55 [t139] m49) (j55 [Go.undef] m49))) fun j40 =>
 oGT t37 (oOpt (ld1 m13 t6) fun t140 =>
 oInt .rem .i64 t140 (.int .i64 (.ofNat 5)) fun t141 =>
 oInt .neq .i64 t141 (.int .i64 (.ofNat 0)) fun t142 =>
 j40 [t142] m13) (j40 [Go.undef] m13))) lf [(.bool true), (.int .i64 (.ofNat 1))] m))
theorem S55_ok (lf : Nat) (cK : CallK β) (args : List Value) (L : Nat) (m : Mem) (k : Value → Mem → Option β)  : S55 lf cK args L m k = denF Try.prog fsT 0 K55 lf cK 55 args L m k := by kernel_rfl

end
end Go.Vit
