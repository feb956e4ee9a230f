/- Shallow texts of the seat's functions, printed by a program: part 5. -/
import Derived.Test.YticlkfhmmcepjaaDoorRows
import Derived.Test.YticlkfhmmcepjaaDoorFs
set_option linter.unusedVariables false
set_option maxRecDepth 100000
namespace Go.Vit
open Go Go.Proofs
section
variable {β : Type}
/-- vitola/vitolalaw10.T -/
def K56 : Kat := []
noncomputable def S56 (lf : Nat) : FnK β := fun call args L m k =>
 un0 args (oRes (anew m 1 [(.int .i64 (.ofNat 0)), (.slice none 0 0)] ptrTo) fun t0 m1 =>
 oRes (bs Tryd.prog m1 22 3 [(0, (.int .i64 (.ofNat 3))), (1, (.int .i64 (.ofNat 5))), (2, (.int .i64 (.ofNat 6)))]) fun t2 m3 =>
 call 26 [(.int .i64 (.ofNat 3)), t2] L m3 fun t4 m5 =>
 oRes (st1 2 L m5 t0 t4) fun t6 m7 =>
 oOpt (ldN m7 2 t0) fun t8 =>
 k t8 m7)
theorem S56_ok (lf : Nat) (cK : CallK β) (args : List Value) (L : Nat) (m : Mem) (k : Value → Mem → Option β)  : S56 lf cK args L m k = denF Tryd.prog fsT 2 K56 lf cK 56 args L m k := by kernel_rfl

/-- vitola/vitolalaw10.list -/
def K57 : Kat := []
noncomputable def S57 (lf : Nat) : FnK β := fun call args L m k =>
 uc args fun t0 l1 =>
 un0 l1 (k t0 m)
theorem S57_ok (lf : Nat) (cK : CallK β) (args : List Value) (L : Nat) (m : Mem) (k : Value → Mem → Option β)  : S57 lf cK args L m k = denF Tryd.prog fsT 2 K57 lf cK 57 args L m k := by kernel_rfl

/-- slices.Clone[[]int,int] -/
def K58 : Kat := []
noncomputable def S58 (lf : Nat) : FnK β := fun call args L m k =>
 uc args fun t0 l1 =>
 un0 l1 (oOpt (abin Tryd.prog .eql 22 t0 (.slice none 0 0)) fun t2 =>
 oIf t2 (k (.slice none 0 0) m) (oRes (bs Tryd.prog m 22 0 []) fun t3 m4 =>
 oRes (aappend Tryd.prog L m4 22 t3 t0) fun t5 m6 =>
 k t5 m6))
theorem S58_ok (lf : Nat) (cK : CallK β) (args : List Value) (L : Nat) (m : Mem) (k : Value → Mem → Option β)  : S58 lf cK args L m k = denF Tryd.prog fsT 2 K58 lf cK 58 args L m k := by kernel_rfl

/-- slices.Delete[[]int,int] -/
def K59 : Kat := []
noncomputable def S59 (lf : Nat) : FnK β := fun call args L m k =>
 uc args fun t0 l1 =>
 uc l1 fun t2 l3 =>
 uc l3 fun t4 l5 =>
 un0 l5 (oOpt (ln t0) fun t6 =>
 oOpt (sl Tryd.prog 22 t0 (some t2) (some t4) (some t6)) fun t7 =>
 oInt .eql .i64 t2 t4 fun t8 =>
 oIf t8 (k t0 m) (oOpt (ln t0) fun t9 =>
 oOpt (sl Tryd.prog 22 t0 none (some t2) none) fun t10 =>
 oOpt (sl Tryd.prog 22 t0 (some t4) none none) fun t11 =>
 oRes (aappend Tryd.prog L m 22 t10 t11) fun t12 m13 =>
 oOpt (ln t12) fun t14 =>
 oOpt (sl Tryd.prog 22 t12 (some t14) (some t9) none) fun t15 =>
 oRes (aclear Tryd.prog L m13 22 t15) fun t16 m17 =>
 k t12 m17))
theorem S59_ok (lf : Nat) (cK : CallK β) (args : List Value) (L : Nat) (m : Mem) (k : Value → Mem → Option β)  : S59 lf cK args L m k = denF Tryd.prog fsT 2 K59 lf cK 59 args L m k := by kernel_rfl

/-- vitola/vitolalaw10.BondNamed$1 -/
def K60 : Kat := [(89, (0, [5, 12])), (92569, (0, [8, 17]))]
noncomputable def S60 (lf : Nat) : FnK β := fun call args L m k =>
 uc args fun t0 l1 =>
 uc l1 fun t2 l3 =>
 uc l3 fun t4 l5 =>
 un0 l5 (oOpt (ln t0) fun t6 =>
 loopS (fun j9 l7 m8 =>
 uc l7 fun t10 l11 =>
 uc l11 fun t12 l13 =>
 oInt .lss .i64 t12 t6 fun t14 =>
 oIf t14 (oOpt (ia 1 t0 t12) fun t15 =>
 oOpt (ld1 m8 t15) fun t16 =>
 oOpt (ld1 m8 t2) fun t17 =>
 loopS (fun j20 l18 m19 =>
 uc l18 fun t21 l22 =>
 uc l22 fun t23 l24 =>
 oInt .lss .i64 t23 t17 fun t25 =>
 oIf t25 (oOpt (abin Tryd.prog .shr 3 t16 t23) fun t26 =>
 oInt .and .i64 t26 (.int .i64 (.ofNat 1)) fun t27 =>
 oOpt (ld1 m19 t4) fun t28 =>
 oOpt (ia 1 t28 t23) fun t29 =>
 oOpt (ld1 m19 t29) fun t30 =>
 oOpt (abin Tryd.prog .shl 3 t27 t30) fun t31 =>
 oInt .or .i64 t21 t31 fun t32 =>
 oInt .add .i64 t23 (.int .i64 (.ofNat 1)) fun t33 =>
 j20 [t32, t33] m19) (oRes (bs Tryd.prog m19 22 1 [(0, t21)]) fun t34 m35 =>
 oRes (aappend Tryd.prog L m35 22 t10 t34) fun t36 m37 =>
 oInt .add .i64 t12 (.int .i64 (.ofNat 1)) fun t38 =>
 j9 [t36, t38] m37)) lf [(.int .i64 (.ofNat 0)), (.int .i64 (.ofNat 0))] m8) (k t10 m8)) lf [(.slice none 0 0), (.int .i64 (.ofNat 0))] m)
theorem S60_ok (lf : Nat) (cK : CallK β) (args : List Value) (L : Nat) (m : Mem) (k : Value → Mem → Option β)  : S60 lf cK args L m k = denF Tryd.prog fsT 2 K60 lf cK 60 args L m k := by kernel_rfl

/-- vitola/vitolalaw10.BondNamed$2 -/
def K61 : Kat := []
noncomputable def S61 (lf : Nat) : FnK β := fun call args L m k =>
 uc args fun t0 l1 =>
 un0 l1 (call 58 [t0] L m fun t2 m3 =>
 call 43 [t2] L m3 fun t4 m5 =>
 k t2 m5)
theorem S61_ok (lf : Nat) (cK : CallK β) (args : List Value) (L : Nat) (m : Mem) (k : Value → Mem → Option β)  : S61 lf cK args L m k = denF Tryd.prog fsT 2 K61 lf cK 61 args L m k := by kernel_rfl

/-- vitola/vitolalaw10.R -/
def K62 : Kat := []
noncomputable def S62 (lf : Nat) : FnK β := fun call args L m k =>
 un0 args (oRes (anew m 1 [(.int .i64 (.ofNat 0)), (.slice none 0 0)] ptrTo) fun t0 m1 =>
 oRes (bs Tryd.prog m1 22 2 [(0, (.int .i64 (.ofNat 3))), (1, (.int .i64 (.ofNat 12)))]) fun t2 m3 =>
 call 26 [(.int .i64 (.ofNat 4)), t2] L m3 fun t4 m5 =>
 oRes (st1 2 L m5 t0 t4) fun t6 m7 =>
 oOpt (ldN m7 2 t0) fun t8 =>
 k t8 m7)
theorem S62_ok (lf : Nat) (cK : CallK β) (args : List Value) (L : Nat) (m : Mem) (k : Value → Mem → Option β)  : S62 lf cK args L m k = denF Tryd.prog fsT 2 K62 lf cK 62 args L m k := by kernel_rfl

/-- vitola/bond.ruled -/
def K63 : Kat := []
noncomputable def S63 (lf : Nat) : FnK β := fun call args L m k =>
 uc args fun t0 l1 =>
 un0 l1 (oRes (abox m t0) fun t2 m3 =>
 oRes (anew m3 1 [(.int .i64 (.ofNat 0)), (.slice none 0 0)] ptrTo) fun t4 m5 =>
 oOpt (fa 0 t2) fun t6 =>
 oOpt (ld1 m5 t6) fun t7 =>
 oOpt (fa 1 t2) fun t8 =>
 oOpt (ld1 m5 t8) fun t9 =>
 oOpt (bu Tryd.prog 92 [(0, t7), (1, t9)]) fun t10 =>
 oOpt (bu Tryd.prog 94 [(0, t10)]) fun t11 =>
 oRes (anew m5 1 [(.int .i64 (.ofNat 0)), (.slice none 0 0)] ptrTo) fun t12 m13 =>
 oRes (st1 2 L m13 t12 t11) fun t14 m15 =>
 oOpt (ldN m15 2 t12) fun t16 =>
 oOpt (fa 0 t12) fun t17 =>
 oOpt (ldN m15 2 t17) fun t18 =>
 call 87 [t18] L m15 fun t19 m20 =>
 oSm m15 m20 t12 (
 oRes (st1 2 L m20 t4 t16) fun t21 m22 =>
 oOpt (ldN m22 2 t4) fun t23 =>
 k (.tuple ⟨[t23, t19]⟩) m22))
theorem S63_ok (lf : Nat) (cK : CallK β) (args : List Value) (L : Nat) (m : Mem) (k : Value → Mem → Option β)  : S63 lf cK args L m k = denF Tryd.prog fsT 2 K63 lf cK 63 args L m k := by kernel_rfl

/-- (vitola/bond.circle).meeting -/
def K64 : Kat := [(89, (0, [17])), (92569, (0, [6, 24])), (1481125, (0, [6])), (47396045, (0, [6, 9]))]
noncomputable def S64 (lf : Nat) : FnK β := fun call args L m k =>
 uc args fun t0 l1 =>
 un0 l1 (oRes (abox m t0) fun t2 m3 =>
 oOpt (fa 0 t2) fun t4 =>
 oOpt (ld1 m3 t4) fun t5 =>
 oRes (bs Tryd.prog m3 22 1 [(0, (.int .i64 (.ofNat 0)))]) fun t6 m7 =>
 oOpt (bu Tryd.prog 92 [(0, t5), (1, t6)]) fun t8 =>
 oRes (anew m7 1 [(.int .i64 (.ofNat 0)), (.slice none 0 0)] ptrTo) fun t9 m10 =>
 oRes (st1 2 L m10 t9 t8) fun t11 m12 =>
 oOpt (ldN m12 2 t2) fun t13 =>
 call 72 [t13] L m12 fun t14 m15 =>
 oOpt (ln t14) fun t16 =>
 loopS (fun j19 l17 m18 =>
 uc l17 fun t20 l21 =>
 oInt .lss .i64 t20 t16 fun t22 =>
 oIf t22 (oOpt (ia 1 t14 t20) fun t23 =>
 oOpt (ld1 m18 t23) fun t24 =>
 oOpt (fa 1 t9) fun t25 =>
 oOpt (ld1 m18 t25) fun t26 =>
 oOpt (ln t26) fun t27 =>
 loopS (fun j30 l28 m29 =>
 uc l28 fun t31 l32 =>
 uc l32 fun t33 l34 =>
 oInt .lss .i64 t33 t27 fun t35 =>
 oIf t35 (join (fun l36 m37 =>
 uc l36 fun t39 l40 =>
 oInt .add .i64 t33 (.int .i64 (.ofNat 1)) fun t41 =>
 j30 [t39, t41] m37) fun j38 =>
 oOpt (ia 1 t26 t33) fun t42 =>
 oOpt (ld1 m29 t42) fun t43 =>
 oInt .and .i64 t43 t24 fun t44 =>
 oInt .neq .i64 t44 (.int .i64 (.ofNat 0)) fun t45 =>
 oIf t45 (oRes (bs Tryd.prog m29 22 1 [(0, t43)]) fun t46 m47 =>
 oRes (aappend Tryd.prog L m47 22 t31 t46) fun t48 m49 =>
 j38 [t48] m49) (loopS (fun j52 l50 m51 =>
 uc l50 fun t53 l54 =>
 uc l54 fun t55 l56 =>
 oInt .neq .i64 t55 (.int .i64 (.ofNat 0)) fun t57 =>
 oIf t57 (oOpt (aun .neg t55) fun t58 =>
 oInt .and .i64 t55 t58 fun t59 =>
 oInt .or .i64 t43 t59 fun t60 =>
 oRes (bs Tryd.prog m51 22 1 [(0, t60)]) fun t61 m62 =>
 oRes (aappend Tryd.prog L m62 22 t53 t61) fun t63 m64 =>
 oInt .sub .i64 t55 (.int .i64 (.ofNat 1)) fun t65 =>
 oInt .and .i64 t55 t65 fun t66 =>
 j52 [t63, t66] m64) (j38 [t53] m51)) lf [t31, t24] m29)) (oOpt (fa 0 t2) fun t67 =>
 oOpt (ld1 m29 t67) fun t68 =>
 oOpt (bu Tryd.prog 92 [(0, t68), (1, t31)]) fun t69 =>
 call 72 [t69] L m29 fun t70 m71 =>
 oOpt (fa 1 t9) fun t72 =>
 oRes (st1 1 L m71 t72 t70) fun t73 m74 =>
 oInt .add .i64 t20 (.int .i64 (.ofNat 1)) fun t75 =>
 j19 [t75] m74)) lf [(.slice none 0 0), (.int .i64 (.ofNat 0))] m18) (oOpt (fa 1 t9) fun t76 =>
 oOpt (ld1 m18 t76) fun t77 =>
 k t77 m18)) lf [(.int .i64 (.ofNat 0))] m15)
theorem S64_ok (lf : Nat) (cK : CallK β) (args : List Value) (L : Nat) (m : Mem) (k : Value → Mem → Option β)  : S64 lf cK args L m k = denF Tryd.prog fsT 2 K64 lf cK 64 args L m k := by kernel_rfl

/-- vitola/vitolaref10.barred -/
def K65 : Kat := [(89, (0, [3, 4])), (23113, (0, [5, 6])), (369827, (1, [30])), (369827, (2, [33])), (369827, (3, [35])), (369827, (4, [39])), (369827, (5, [41])), (11558, (0, [3]))]
noncomputable def S65 (lf : Nat) : FnK β := fun call args L m k =>
 uc args fun t0 l1 =>
 un0 l1 (oRes (abox m t0) fun t2 m3 =>
 loopS (fun j6 l4 m5 =>
 uc l4 fun t7 l8 =>
 uc l8 fun t9 l10 =>
 oOpt (fa 0 t2) fun t11 =>
 oOpt (ld1 m5 t11) fun t12 =>
 oOpt (abin Tryd.prog .shl 3 (.int .i64 (.ofNat 1)) t12) fun t13 =>
 oInt .lss .i64 t9 t13 fun t14 =>
 oIf t14 (oOpt (ldN m5 2 t2) fun t15 =>
 call 70 [t15, t9] L m5 fun t16 m17 =>
 oOpt (aun .not t16) fun t18 =>
 loopS (fun j21 l19 m20 =>
 uc l19 fun t22 l23 =>
 uc l23 fun t24 l25 =>
 oOpt (fa 0 t2) fun t26 =>
 oOpt (ld1 m20 t26) fun t27 =>
 oOpt (abin Tryd.prog .shl 3 (.int .i64 (.ofNat 1)) t27) fun t28 =>
 oInt .lss .i64 t24 t28 fun t29 =>
 oIf t29 (join (fun l30 m31 =>
 uc l30 fun t33 l34 =>
 join (fun l35 m36 =>
 uc l35 fun t38 l39 =>
 join (fun l40 m41 =>
 uc l40 fun t43 l44 =>
 join (fun l45 m46 =>
 uc l45 fun t48 l49 =>
 join (fun l50 m51 =>
 uc l50 fun t53 l54 =>
 oPick t22 t53 (.bool false) fun t55 =>
 oInt .add .i64 t24 (.int .i64 (.ofNat 1)) fun t56 =>
 j21 [t55, t56] m51) fun j52 =>
 oGT t22 (oPick t43 t48 (.bool false) fun t57 =>
 oOpt (aun .not t57) fun t58 =>
 j52 [t58] m46) (j52 [Go.undef] m46)) fun j47 =>
 oGT t43 (oOpt (ldN m41 2 t2) fun t59 =>
 call 70 [t59, t24] L m41 fun t60 m61 =>
 oOpt (aun .not t60) fun t62 =>
 j47 [t62] m61) (j47 [Go.undef] m41)) fun j42 =>
 oGT t22 (oPick t33 t38 (.bool false) fun t63 =>
 j42 [t63] m36) (j42 [Go.undef] m36)) fun j37 =>
 oGT t33 (call 73 [t9, t24] L m31 fun t64 m65 =>
 j37 [t64] m65) (j37 [Go.undef] m31)) fun j32 =>
 oGT t22 (oInt .neq .i64 t24 t9 fun t66 =>
 j32 [t66] m20) (j32 [Go.undef] m20)) (join (fun l67 m68 =>
 uc l67 fun t70 l71 =>
 oInt .add .i64 t9 (.int .i64 (.ofNat 1)) fun t72 =>
 j6 [t70, t72] m68) fun j69 =>
 oIf t22 (oRes (bs Tryd.prog m20 22 1 [(0, t9)]) fun t73 m74 =>
 oRes (aappend Tryd.prog L m74 22 t7 t73) fun t75 m76 =>
 j69 [t75] m76) (j69 [t7] m20))) lf [t18, (.int .i64 (.ofNat 0))] m17) (k t7 m5)) lf [(.slice none 0 0), (.int .i64 (.ofNat 0))] m3)
theorem S65_ok (lf : Nat) (cK : CallK β) (args : List Value) (L : Nat) (m : Mem) (k : Value → Mem → Option β)  : S65 lf cK args L m k = denF Tryd.prog fsT 2 K65 lf cK 65 args L m k := by kernel_rfl

/-- vitola/bond.planned -/
def K66 : Kat := []
noncomputable def S66 (lf : Nat) : FnK β := fun call args L m k =>
 uc args fun t0 l1 =>
 un0 l1 (oRes (abox m t0) fun t2 m3 =>
 oRes (anew m3 1 [(.int .i64 (.ofNat 0)), (.slice none 0 0)] ptrTo) fun t4 m5 =>
 oOpt (fa 0 t2) fun t6 =>
 oOpt (ld1 m5 t6) fun t7 =>
 oOpt (fa 1 t2) fun t8 =>
 oOpt (ld1 m5 t8) fun t9 =>
 oOpt (bu Tryd.prog 92 [(0, t7), (1, t9)]) fun t10 =>
 oOpt (bu Tryd.prog 99 [(0, t10)]) fun t11 =>
 oRes (anew m5 1 [(.int .i64 (.ofNat 0)), (.slice none 0 0)] ptrTo) fun t12 m13 =>
 oRes (st1 2 L m13 t12 t11) fun t14 m15 =>
 oOpt (ldN m15 2 t12) fun t16 =>
 oOpt (fa 0 t12) fun t17 =>
 oOpt (ldN m15 2 t17) fun t18 =>
 call 87 [t18] L m15 fun t19 m20 =>
 oSm m15 m20 t12 (
 oRes (st1 2 L m20 t4 t16) fun t21 m22 =>
 oOpt (ldN m22 2 t4) fun t23 =>
 k (.tuple ⟨[t23, t19]⟩) m22))
theorem S66_ok (lf : Nat) (cK : CallK β) (args : List Value) (L : Nat) (m : Mem) (k : Value → Mem → Option β)  : S66 lf cK args L m k = denF Tryd.prog fsT 2 K66 lf cK 66 args L m k := by kernel_rfl

/-- (vitola/bond.circle).all -/
def K67 : Kat := []
noncomputable def S67 (lf : Nat) : FnK β := fun call args L m k =>
 uc args fun t0 l1 =>
 un0 l1 (oRes (abox m t0) fun t2 m3 =>
 oOpt (fa 0 t2) fun t4 =>
 oOpt (ld1 m3 t4) fun t5 =>
 oOpt (abin Tryd.prog .shl 3 (.int .i64 (.ofNat 1)) t5) fun t6 =>
 oInt .sub .i64 t6 (.int .i64 (.ofNat 1)) fun t7 =>
 k t7 m3)
theorem S67_ok (lf : Nat) (cK : CallK β) (args : List Value) (L : Nat) (m : Mem) (k : Value → Mem → Option β)  : S67 lf cK args L m k = denF Tryd.prog fsT 2 K67 lf cK 67 args L m k := by kernel_rfl

/-- (vitola/bond.rule).may -/
def K68 : Kat := []
noncomputable def S68 (lf : Nat) : FnK β := fun call args L m k =>
 uc args fun t0 l1 =>
 uc l1 fun t2 l3 =>
 un0 l3 (oRes (abox m t0) fun t4 m5 =>
 oRes (abox m5 t2) fun t6 m7 =>
 oOpt (fa 0 t4) fun t8 =>
 oOpt (fa 1 t8) fun t9 =>
 oOpt (ld1 m7 t9) fun t10 =>
 call 41 [t10, (.func (.func 88) #[] ⟨[t6]⟩)] L m7 fun t11 m12 =>
 k t11 m12)
theorem S68_ok (lf : Nat) (cK : CallK β) (args : List Value) (L : Nat) (m : Mem) (k : Value → Mem → Option β)  : S68 lf cK args L m k = denF Tryd.prog fsT 2 K68 lf cK 68 args L m k := by kernel_rfl

/-- (vitola/bond.plan).lacks -/
def K69 : Kat := [(89, (0, [5, 12])), (11570, (0, [5]))]
noncomputable def S69 (lf : Nat) : FnK β := fun call args L m k =>
 uc args fun t0 l1 =>
 uc l1 fun t2 l3 =>
 un0 l3 (oRes (abox m t0) fun t4 m5 =>
 oOpt (fa 0 t4) fun t6 =>
 oOpt (fa 1 t6) fun t7 =>
 oOpt (ld1 m5 t7) fun t8 =>
 oOpt (ln t8) fun t9 =>
 loopS (fun j12 l10 m11 =>
 uc l10 fun t13 l14 =>
 uc l14 fun t15 l16 =>
 oInt .lss .i64 t15 t9 fun t17 =>
 oIf t17 (oOpt (ia 1 t8 t15) fun t18 =>
 oOpt (ld1 m11 t18) fun t19 =>
 oInt .and .i64 t19 t2 fun t20 =>
 oInt .eql .i64 t20 (.int .i64 (.ofNat 0)) fun t21 =>
 join (fun l22 m23 =>
 uc l22 fun t25 l26 =>
 oInt .add .i64 t15 (.int .i64 (.ofNat 1)) fun t27 =>
 j12 [t25, t27] m23) fun j24 =>
 oIf t21 (oRes (bs Tryd.prog m11 22 1 [(0, t15)]) fun t28 m29 =>
 oRes (aappend Tryd.prog L m29 22 t13 t28) fun t30 m31 =>
 j24 [t30] m31) (j24 [t13] m11)) (k t13 m11)) lf [(.slice none 0 0), (.int .i64 (.ofNat 0))] m5)
theorem S69_ok (lf : Nat) (cK : CallK β) (args : List Value) (L : Nat) (m : Mem) (k : Value → Mem → Option β)  : S69 lf cK args L m k = denF Tryd.prog fsT 2 K69 lf cK 69 args L m k := by kernel_rfl

/-- vitola/vitolaref10.may -/
def K70 : Kat := [(41, (0, [5]))]
noncomputable def S70 (lf : Nat) : FnK β := fun call args L m k =>
 uc args fun t0 l1 =>
 uc l1 fun t2 l3 =>
 un0 l3 (oRes (abox m t0) fun t4 m5 =>
 loopS (fun j8 l6 m7 =>
 uc l6 fun t9 l10 =>
 oOpt (fa 1 t4) fun t11 =>
 oOpt (ld1 m7 t11) fun t12 =>
 oOpt (ln t12) fun t13 =>
 oInt .lss .i64 t9 t13 fun t14 =>
 oIf t14 (oOpt (fa 1 t4) fun t15 =>
 oOpt (ld1 m7 t15) fun t16 =>
 oOpt (ia 1 t16 t9) fun t17 =>
 oOpt (ld1 m7 t17) fun t18 =>
 call 73 [t18, t2] L m7 fun t19 m20 =>
 oIf t19 (k (.bool true) m20) (oInt .add .i64 t9 (.int .i64 (.ofNat 1)) fun t21 =>
 j8 [t21] m20)) (k (.bool false) m7)) lf [(.int .i64 (.ofNat 0))] m5)
theorem S70_ok (lf : Nat) (cK : CallK β) (args : List Value) (L : Nat) (m : Mem) (k : Value → Mem → Option β)  : S70 lf cK args L m k = denF Tryd.prog fsT 2 K70 lf cK 70 args L m k := by kernel_rfl

/-- vitola/vitolaref10.lacks -/
def K71 : Kat := [(89, (0, [5, 6])), (2888, (0, [5]))]
noncomputable def S71 (lf : Nat) : FnK β := fun call args L m k =>
 uc args fun t0 l1 =>
 uc l1 fun t2 l3 =>
 un0 l3 (oRes (abox m t0) fun t4 m5 =>
 loopS (fun j8 l6 m7 =>
 uc l6 fun t9 l10 =>
 uc l10 fun t11 l12 =>
 oOpt (fa 1 t4) fun t13 =>
 oOpt (ld1 m7 t13) fun t14 =>
 oOpt (ln t14) fun t15 =>
 oInt .lss .i64 t11 t15 fun t16 =>
 oIf t16 (oOpt (fa 1 t4) fun t17 =>
 oOpt (ld1 m7 t17) fun t18 =>
 oOpt (ia 1 t18 t11) fun t19 =>
 oOpt (ld1 m7 t19) fun t20 =>
 oInt .and .i64 t20 t2 fun t21 =>
 oInt .eql .i64 t21 (.int .i64 (.ofNat 0)) fun t22 =>
 join (fun l23 m24 =>
 uc l23 fun t26 l27 =>
 oInt .add .i64 t11 (.int .i64 (.ofNat 1)) fun t28 =>
 j8 [t26, t28] m24) fun j25 =>
 oIf t22 (oRes (bs Tryd.prog m7 22 1 [(0, t11)]) fun t29 m30 =>
 oRes (aappend Tryd.prog L m30 22 t9 t29) fun t31 m32 =>
 j25 [t31] m32) (j25 [t9] m7)) (k t9 m7)) lf [(.slice none 0 0), (.int .i64 (.ofNat 0))] m5)
theorem S71_ok (lf : Nat) (cK : CallK β) (args : List Value) (L : Nat) (m : Mem) (k : Value → Mem → Option β)  : S71 lf cK args L m k = denF Tryd.prog fsT 2 K71 lf cK 71 args L m k := by kernel_rfl

/-- (vitola/bond.circle).inner -/
def K72 : Kat := [(89, (0, [3, 9])), (11570, (0, [3]))]
noncomputable def S72 (lf : Nat) : FnK β := fun call args L m k =>
 uc args fun t0 l1 =>
 un0 l1 (oRes (abox m t0) fun t2 m3 =>
 oOpt (fa 1 t2) fun t4 =>
 oOpt (ld1 m3 t4) fun t5 =>
 oOpt (ln t5) fun t6 =>
 loopS (fun j9 l7 m8 =>
 uc l7 fun t10 l11 =>
 uc l11 fun t12 l13 =>
 oInt .lss .i64 t12 t6 fun t14 =>
 oIf t14 (oOpt (ia 1 t5 t12) fun t15 =>
 oOpt (ld1 m8 t15) fun t16 =>
 oRes (anew m8 1 [(.int .i64 (.ofNat 0))] ptrTo) fun t17 m18 =>
 oRes (st1 1 L m18 t17 t16) fun t19 m20 =>
 oOpt (fa 1 t2) fun t21 =>
 oOpt (ld1 m20 t21) fun t22 =>
 call 41 [t22, (.func (.func 90) #[] ⟨[t17]⟩)] L m20 fun t23 m24 =>
 oOpt (aun .not t23) fun t25 =>
 join (fun l26 m27 =>
 uc l26 fun t29 l30 =>
 oInt .add .i64 t12 (.int .i64 (.ofNat 1)) fun t31 =>
 j9 [t29, t31] m27) fun j28 =>
 oIf t25 (oOpt (ld1 m24 t17) fun t32 =>
 oRes (bs Tryd.prog m24 22 1 [(0, t32)]) fun t33 m34 =>
 oRes (aappend Tryd.prog L m34 22 t10 t33) fun t35 m36 =>
 j28 [t35] m36) (j28 [t10] m24)) (call 43 [t10] L m8 fun t37 m38 =>
 call 44 [t10] L m38 fun t39 m40 =>
 k t39 m40)) lf [(.slice none 0 0), (.int .i64 (.ofNat 0))] m3)
theorem S72_ok (lf : Nat) (cK : CallK β) (args : List Value) (L : Nat) (m : Mem) (k : Value → Mem → Option β)  : S72 lf cK args L m k = denF Tryd.prog fsT 2 K72 lf cK 72 args L m k := by kernel_rfl

/-- vitola/vitolaref10.lies -/
def K73 : Kat := []
noncomputable def S73 (lf : Nat) : FnK β := fun call args L m k =>
 uc args fun t0 l1 =>
 uc l1 fun t2 l3 =>
 un0 l3 (oInt .and .i64 t0 t2 fun t4 =>
 oInt .eql .i64 t4 t0 fun t5 =>
 k t5 m)
theorem S73_ok (lf : Nat) (cK : CallK β) (args : List Value) (L : Nat) (m : Mem) (k : Value → Mem → Option β)  : S73 lf cK args L m k = denF Tryd.prog fsT 2 K73 lf cK 73 args L m k := by kernel_rfl

/-- vitola/bond.within -/
def K74 : Kat := [(9, (1, [13]))]
noncomputable def S74 (lf : Nat) : FnK β := fun call args L m k =>
 uc args fun t0 l1 =>
 uc l1 fun t2 l3 =>
 uc l3 fun t4 l5 =>
 un0 l5 (oInt .leq .i64 t2 t0 fun t6 =>
 join (fun l7 m8 =>
 uc l7 fun t10 l11 =>
 oPick t6 t10 (.bool false) fun t12 =>
 k t12 m8) fun j9 =>
 oGT t6 (oInt .leq .i64 t0 t4 fun t13 =>
 j9 [t13] m) (j9 [Go.undef] m))
theorem S74_ok (lf : Nat) (cK : CallK β) (args : List Value) (L : Nat) (m : Mem) (k : Value → Mem → Option β)  : S74 lf cK args L m k = denF Tryd.prog fsT 2 K74 lf cK 74 args L m k := by kernel_rfl

/-- vitola/vitolaref10.in -/
def K75 : Kat := [(9, (1, [13]))]
noncomputable def S75 (lf : Nat) : FnK β := fun call args L m k =>
 uc args fun t0 l1 =>
 uc l1 fun t2 l3 =>
 uc l3 fun t4 l5 =>
 un0 l5 (oInt .geq .i64 t0 t2 fun t6 =>
 join (fun l7 m8 =>
 uc l7 fun t10 l11 =>
 oPick t6 t10 (.bool false) fun t12 =>
 k t12 m8) fun j9 =>
 oGT t6 (oInt .leq .i64 t0 t4 fun t13 =>
 j9 [t13] m) (j9 [Go.undef] m))
theorem S75_ok (lf : Nat) (cK : CallK β) (args : List Value) (L : Nat) (m : Mem) (k : Value → Mem → Option β)  : S75 lf cK args L m k = denF Tryd.prog fsT 2 K75 lf cK 75 args L m k := by kernel_rfl

/-- vitola/vitolaref10.size -/
def K76 : Kat := [(43, (0, [3, 0]))]
noncomputable def S76 (lf : Nat) : FnK β := fun call args L m k =>
 uc args fun t0 l1 =>
 un0 l1 (loopS (fun j4 l2 m3 =>
 uc l2 fun t5 l6 =>
 uc l6 fun t7 l8 =>
 oInt .gtr .i64 t7 (.int .i64 (.ofNat 0)) fun t9 =>
 oIf t9 (oInt .rem .i64 t7 (.int .i64 (.ofNat 2)) fun t10 =>
 oInt .add .i64 t5 t10 fun t11 =>
 oInt .quo .i64 t7 (.int .i64 (.ofNat 2)) fun t12 =>
 j4 [t11, t12] m3) (k t5 m3)) lf [(.int .i64 (.ofNat 0)), t0] m)
theorem S76_ok (lf : Nat) (cK : CallK β) (args : List Value) (L : Nat) (m : Mem) (k : Value → Mem → Option β)  : S76 lf cK args L m k = denF Tryd.prog fsT 2 K76 lf cK 76 args L m k := by kernel_rfl

/-- vitola/vitolalaw10.within$1 -/
def K77 : Kat := []
noncomputable def S77 (lf : Nat) : FnK β := fun call args L m k =>
 uc args fun t0 l1 =>
 uc l1 fun t2 l3 =>
 un0 l3 (oOpt (ld1 m t2) fun t4 =>
 oInt .and .i64 t0 t4 fun t5 =>
 oInt .eql .i64 t5 t0 fun t6 =>
 k t6 m)
theorem S77_ok (lf : Nat) (cK : CallK β) (args : List Value) (L : Nat) (m : Mem) (k : Value → Mem → Option β)  : S77 lf cK args L m k = denF Tryd.prog fsT 2 K77 lf cK 77 args L m k := by kernel_rfl

/-- vitola/vitolalaw10.meets$1 -/
def K78 : Kat := []
noncomputable def S78 (lf : Nat) : FnK β := fun call args L m k =>
 uc args fun t0 l1 =>
 uc l1 fun t2 l3 =>
 un0 l3 (oOpt (ld1 m t2) fun t4 =>
 oInt .and .i64 t0 t4 fun t5 =>
 oInt .eql .i64 t5 (.int .i64 (.ofNat 0)) fun t6 =>
 k t6 m)
theorem S78_ok (lf : Nat) (cK : CallK β) (args : List Value) (L : Nat) (m : Mem) (k : Value → Mem → Option β)  : S78 lf cK args L m k = denF Tryd.prog fsT 2 K78 lf cK 78 args L m k := by kernel_rfl

/-- (vitola/bond.circle).has -/
def K79 : Kat := []
noncomputable def S79 (lf : Nat) : FnK β := fun call args L m k =>
 uc args fun t0 l1 =>
 uc l1 fun t2 l3 =>
 un0 l3 (oRes (abox m t0) fun t4 m5 =>
 oOpt (ldN m5 2 t4) fun t6 =>
 call 67 [t6] L m5 fun t7 m8 =>
 call 74 [t2, (.int .i64 (.ofNat 0)), t7] L m8 fun t9 m10 =>
 k t9 m10)
theorem S79_ok (lf : Nat) (cK : CallK β) (args : List Value) (L : Nat) (m : Mem) (k : Value → Mem → Option β)  : S79 lf cK args L m k = denF Tryd.prog fsT 2 K79 lf cK 79 args L m k := by kernel_rfl

/-- math/bits.TrailingZeros -/
def K80 : Kat := []
noncomputable def S80 (lf : Nat) : FnK β := fun call args L m k =>
 uc args fun t0 l1 =>
 un0 l1 (oIf (.bool false) (oCv .u32 t0 fun t2 =>
 call 91 [t2] L m fun t3 m4 =>
 k t3 m4) (call 92 [t0] L m fun t5 m6 =>
 k t5 m6))
theorem S80_ok (lf : Nat) (cK : CallK β) (args : List Value) (L : Nat) (m : Mem) (k : Value → Mem → Option β)  : S80 lf cK args L m k = denF Tryd.prog fsT 2 K80 lf cK 80 args L m k := by kernel_rfl

/-- math/bits.OnesCount32 -/
def K81 : Kat := []
noncomputable def S81 (lf : Nat) : FnK β := fun call args L m k =>
 uc args fun t0 l1 =>
 un0 l1 (oOpt (abin Tryd.prog .shr 110 t0 (.int .u64 (.ofNat 24))) fun t2 =>
 oOpt (aindex Tryd.prog 9 (.string ⟨#[0, 1, 1, 2, 1, 2, 2, 3, 1, 2, 2, 3, 2, 3, 3, 4, 1, 2, 2, 3, 2, 3, 3, 4, 2, 3, 3, 4, 3, 4, 4, 5, 1, 2, 2, 3, 2, 3, 3, 4, 2, 3, 3, 4, 3, 4, 4, 5, 2, 3, 3, 4, 3, 4, 4, 5, 3, 4, 4, 5, 4, 5, 5, 6, 1, 2, 2, 3, 2, 3, 3, 4, 2, 3, 3, 4, 3, 4, 4, 5, 2, 3, 3, 4, 3, 4, 4, 5, 3, 4, 4, 5, 4, 5, 5, 6, 2, 3, 3, 4, 3, 4, 4, 5, 3, 4, 4, 5, 4, 5, 5, 6, 3, 4, 4, 5, 4, 5, 5, 6, 4, 5, 5, 6, 5, 6, 6, 7, 1, 2, 2, 3, 2, 3, 3, 4, 2, 3, 3, 4, 3, 4, 4, 5, 2, 3, 3, 4, 3, 4, 4, 5, 3, 4, 4, 5, 4, 5, 5, 6, 2, 3, 3, 4, 3, 4, 4, 5, 3, 4, 4, 5, 4, 5, 5, 6, 3, 4, 4, 5, 4, 5, 5, 6, 4, 5, 5, 6, 5, 6, 6, 7, 2, 3, 3, 4, 3, 4, 4, 5, 3, 4, 4, 5, 4, 5, 5, 6, 3, 4, 4, 5, 4, 5, 5, 6, 4, 5, 5, 6, 5, 6, 6, 7, 3, 4, 4, 5, 4, 5, 5, 6, 4, 5, 5, 6, 5, 6, 6, 7, 4, 5, 5, 6, 5, 6, 6, 7, 5, 6, 6, 7, 6, 7, 7, 8]⟩) t2) fun t3 =>
 oOpt (abin Tryd.prog .shr 110 t0 (.int .u64 (.ofNat 16))) fun t4 =>
 oInt .and .u32 t4 (.int .u32 (.ofNat 255)) fun t5 =>
 oOpt (aindex Tryd.prog 9 (.string ⟨#[0, 1, 1, 2, 1, 2, 2, 3, 1, 2, 2, 3, 2, 3, 3, 4, 1, 2, 2, 3, 2, 3, 3, 4, 2, 3, 3, 4, 3, 4, 4, 5, 1, 2, 2, 3, 2, 3, 3, 4, 2, 3, 3, 4, 3, 4, 4, 5, 2, 3, 3, 4, 3, 4, 4, 5, 3, 4, 4, 5, 4, 5, 5, 6, 1, 2, 2, 3, 2, 3, 3, 4, 2, 3, 3, 4, 3, 4, 4, 5, 2, 3, 3, 4, 3, 4, 4, 5, 3, 4, 4, 5, 4, 5, 5, 6, 2, 3, 3, 4, 3, 4, 4, 5, 3, 4, 4, 5, 4, 5, 5, 6, 3, 4, 4, 5, 4, 5, 5, 6, 4, 5, 5, 6, 5, 6, 6, 7, 1, 2, 2, 3, 2, 3, 3, 4, 2, 3, 3, 4, 3, 4, 4, 5, 2, 3, 3, 4, 3, 4, 4, 5, 3, 4, 4, 5, 4, 5, 5, 6, 2, 3, 3, 4, 3, 4, 4, 5, 3, 4, 4, 5, 4, 5, 5, 6, 3, 4, 4, 5, 4, 5, 5, 6, 4, 5, 5, 6, 5, 6, 6, 7, 2, 3, 3, 4, 3, 4, 4, 5, 3, 4, 4, 5, 4, 5, 5, 6, 3, 4, 4, 5, 4, 5, 5, 6, 4, 5, 5, 6, 5, 6, 6, 7, 3, 4, 4, 5, 4, 5, 5, 6, 4, 5, 5, 6, 5, 6, 6, 7, 4, 5, 5, 6, 5, 6, 6, 7, 5, 6, 6, 7, 6, 7, 7, 8]⟩) t5) fun t6 =>
 oInt .add .u8 t3 t6 fun t7 =>
 oOpt (abin Tryd.prog .shr 110 t0 (.int .u64 (.ofNat 8))) fun t8 =>
 oInt .and .u32 t8 (.int .u32 (.ofNat 255)) fun t9 =>
 oOpt (aindex Tryd.prog 9 (.string ⟨#[0, 1, 1, 2, 1, 2, 2, 3, 1, 2, 2, 3, 2, 3, 3, 4, 1, 2, 2, 3, 2, 3, 3, 4, 2, 3, 3, 4, 3, 4, 4, 5, 1, 2, 2, 3, 2, 3, 3, 4, 2, 3, 3, 4, 3, 4, 4, 5, 2, 3, 3, 4, 3, 4, 4, 5, 3, 4, 4, 5, 4, 5, 5, 6, 1, 2, 2, 3, 2, 3, 3, 4, 2, 3, 3, 4, 3, 4, 4, 5, 2, 3, 3, 4, 3, 4, 4, 5, 3, 4, 4, 5, 4, 5, 5, 6, 2, 3, 3, 4, 3, 4, 4, 5, 3, 4, 4, 5, 4, 5, 5, 6, 3, 4, 4, 5, 4, 5, 5, 6, 4, 5, 5, 6, 5, 6, 6, 7, 1, 2, 2, 3, 2, 3, 3, 4, 2, 3, 3, 4, 3, 4, 4, 5, 2, 3, 3, 4, 3, 4, 4, 5, 3, 4, 4, 5, 4, 5, 5, 6, 2, 3, 3, 4, 3, 4, 4, 5, 3, 4, 4, 5, 4, 5, 5, 6, 3, 4, 4, 5, 4, 5, 5, 6, 4, 5, 5, 6, 5, 6, 6, 7, 2, 3, 3, 4, 3, 4, 4, 5, 3, 4, 4, 5, 4, 5, 5, 6, 3, 4, 4, 5, 4, 5, 5, 6, 4, 5, 5, 6, 5, 6, 6, 7, 3, 4, 4, 5, 4, 5, 5, 6, 4, 5, 5, 6, 5, 6, 6, 7, 4, 5, 5, 6, 5, 6, 6, 7, 5, 6, 6, 7, 6, 7, 7, 8]⟩) t9) fun t10 =>
 oInt .add .u8 t7 t10 fun t11 =>
 oInt .and .u32 t0 (.int .u32 (.ofNat 255)) fun t12 =>
 oOpt (aindex Tryd.prog 9 (.string ⟨#[0, 1, 1, 2, 1, 2, 2, 3, 1, 2, 2, 3, 2, 3, 3, 4, 1, 2, 2, 3, 2, 3, 3, 4, 2, 3, 3, 4, 3, 4, 4, 5, 1, 2, 2, 3, 2, 3, 3, 4, 2, 3, 3, 4, 3, 4, 4, 5, 2, 3, 3, 4, 3, 4, 4, 5, 3, 4, 4, 5, 4, 5, 5, 6, 1, 2, 2, 3, 2, 3, 3, 4, 2, 3, 3, 4, 3, 4, 4, 5, 2, 3, 3, 4, 3, 4, 4, 5, 3, 4, 4, 5, 4, 5, 5, 6, 2, 3, 3, 4, 3, 4, 4, 5, 3, 4, 4, 5, 4, 5, 5, 6, 3, 4, 4, 5, 4, 5, 5, 6, 4, 5, 5, 6, 5, 6, 6, 7, 1, 2, 2, 3, 2, 3, 3, 4, 2, 3, 3, 4, 3, 4, 4, 5, 2, 3, 3, 4, 3, 4, 4, 5, 3, 4, 4, 5, 4, 5, 5, 6, 2, 3, 3, 4, 3, 4, 4, 5, 3, 4, 4, 5, 4, 5, 5, 6, 3, 4, 4, 5, 4, 5, 5, 6, 4, 5, 5, 6, 5, 6, 6, 7, 2, 3, 3, 4, 3, 4, 4, 5, 3, 4, 4, 5, 4, 5, 5, 6, 3, 4, 4, 5, 4, 5, 5, 6, 4, 5, 5, 6, 5, 6, 6, 7, 3, 4, 4, 5, 4, 5, 5, 6, 4, 5, 5, 6, 5, 6, 6, 7, 4, 5, 5, 6, 5, 6, 6, 7, 5, 6, 6, 7, 6, 7, 7, 8]⟩) t12) fun t13 =>
 oInt .add .u8 t11 t13 fun t14 =>
 oCv .i64 t14 fun t15 =>
 k t15 m)
theorem S81_ok (lf : Nat) (cK : CallK β) (args : List Value) (L : Nat) (m : Mem) (k : Value → Mem → Option β)  : S81 lf cK args L m k = denF Tryd.prog fsT 2 K81 lf cK 81 args L m k := by kernel_rfl

end
end Go.Vit
