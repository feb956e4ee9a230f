/- Shallow texts of the seat's functions, printed by a program: part 3. -/
import Derived.Test.YticlkfhmmcepjaaDoorRows
import Derived.Test.YticlkfhmmcepjaaDoorFs
set_option linter.unusedVariables false
set_option maxRecDepth 100000
namespace Go.Vit
open Go Go.Proofs
section
variable {β : Type}
/-- vitola/bond.Make -/
def K16 : Kat := []
noncomputable def S16 (lf : Nat) : FnK β := fun call args L m k =>
 uc args fun t0 l1 =>
 un0 l1 (oRes (abox m t0) fun t2 m3 =>
 oRes (anew m3 1 [(.int .i64 (.ofNat 0)), (.slice none 0 0)] ptrTo) fun t4 m5 =>
 oOpt (ldN m5 2 t2) fun t6 =>
 call 63 [t6] L m5 fun t7 m8 =>
 oOpt (aextract t7 0) fun t9 =>
 oOpt (aextract t7 1) fun t10 =>
 oRes (anew m8 1 [(.int .i64 (.ofNat 0)), (.slice none 0 0)] ptrTo) fun t11 m12 =>
 oRes (st1 2 L m12 t11 t9) fun t13 m14 =>
 oInt .neq .i64 t10 (.int .i64 (.ofNat 0)) fun t15 =>
 oIf t15 (oOpt (bu Tryd.prog 26 []) fun t16 =>
 oRes (st1 2 L m14 t4 t16) fun t17 m18 =>
 oOpt (ldN m18 2 t4) fun t19 =>
 k (.tuple ⟨[t19, t10]⟩) m18) (oOpt (fa 0 t11) fun t20 =>
 oOpt (fa 0 t20) fun t21 =>
 oOpt (ld1 m14 t21) fun t22 =>
 oOpt (fa 0 t11) fun t23 =>
 oOpt (ldN m14 2 t23) fun t24 =>
 call 64 [t24] L m14 fun t25 m26 =>
 oSm m14 m26 t21 (
 oOpt (bu Tryd.prog 26 [(0, t22), (1, t25)]) fun t27 =>
 oRes (st1 2 L m26 t4 t27) fun t28 m29 =>
 oOpt (ldN m29 2 t4) fun t30 =>
 k (.tuple ⟨[t30, (.int .i64 (.ofNat 0))]⟩) m29)))
theorem S16_ok (lf : Nat) (cK : CallK β) (args : List Value) (L : Nat) (m : Mem) (k : Value → Mem → Option β)  : S16 lf cK args L m k = denF Tryd.prog fsT 2 K16 lf cK 16 args L m k := by kernel_rfl

/-- vitola/vitolaref10.Make -/
def K17 : Kat := [(761, (0, [7])), (48785, (0, [8])), (1561160, (0, []))]
noncomputable def S17 (lf : Nat) : FnK β := fun call args L m k =>
 uc args fun t0 l1 =>
 un0 l1 (oRes (abox m t0) fun t2 m3 =>
 oRes (anew m3 1 [(.int .i64 (.ofNat 0)), (.slice none 0 0)] ptrTo) fun t4 m5 =>
 oOpt (ldN m5 2 t2) fun t6 =>
 call 49 [t6] L m5 fun t7 m8 =>
 oInt .neq .i64 t7 (.int .i64 (.ofNat 0)) fun t9 =>
 oIf t9 (oOpt (bu Tryd.prog 30 []) fun t10 =>
 oRes (st1 2 L m8 t4 t10) fun t11 m12 =>
 oOpt (ldN m12 2 t4) fun t13 =>
 k (.tuple ⟨[t13, t7]⟩) m12) (oOpt (fa 0 t2) fun t14 =>
 oOpt (ld1 m8 t14) fun t15 =>
 oOpt (bu Tryd.prog 30 [(0, t15)]) fun t16 =>
 oRes (anew m8 1 [(.int .i64 (.ofNat 0)), (.slice none 0 0)] ptrTo) fun t17 m18 =>
 oRes (st1 2 L m18 t17 t16) fun t19 m20 =>
 oOpt (ldN m20 2 t2) fun t21 =>
 call 65 [t21] L m20 fun t22 m23 =>
 loopS (fun j26 l24 m25 =>
 uc l24 fun t27 l28 =>
 oOpt (fa 0 t2) fun t29 =>
 oOpt (ld1 m25 t29) fun t30 =>
 oOpt (abin Tryd.prog .shl 3 (.int .i64 (.ofNat 1)) t30) fun t31 =>
 oInt .lss .i64 t27 t31 fun t32 =>
 oIf t32 (loopS (fun j35 l33 m34 =>
 uc l33 fun t36 l37 =>
 oOpt (ln t22) fun t38 =>
 oInt .lss .i64 t36 t38 fun t39 =>
 oIf t39 (oOpt (ia 1 t22 t36) fun t40 =>
 oOpt (ld1 m34 t40) fun t41 =>
 oInt .add .i64 t41 t27 fun t42 =>
 oOpt (fa 0 t2) fun t43 =>
 oOpt (ld1 m34 t43) fun t44 =>
 oOpt (abin Tryd.prog .shl 3 (.int .i64 (.ofNat 1)) t44) fun t45 =>
 oInt .sub .i64 t45 (.int .i64 (.ofNat 1)) fun t46 =>
 oInt .eql .i64 t42 t46 fun t47 =>
 join (fun l48 m49 =>
 oInt .add .i64 t36 (.int .i64 (.ofNat 1)) fun t51 =>
 j35 [t51] m49) fun j50 =>
 oIf t47 (oOpt (fa 1 t17) fun t52 =>
 oOpt (ld1 m34 t52) fun t53 =>
 oRes (bs Tryd.prog m34 22 1 [(0, t27)]) fun t54 m55 =>
 oRes (aappend Tryd.prog L m55 22 t53 t54) fun t56 m57 =>
 oOpt (fa 1 t17) fun t58 =>
 oRes (st1 1 L m57 t58 t56) fun t59 m60 =>
 j50 [] m60) (j50 [] m34)) (oInt .add .i64 t27 (.int .i64 (.ofNat 1)) fun t61 =>
 j26 [t61] m34)) lf [(.int .i64 (.ofNat 0))] m25) (oOpt (ldN m25 2 t17) fun t62 =>
 oRes (st1 2 L m25 t4 t62) fun t63 m64 =>
 oOpt (ldN m64 2 t4) fun t65 =>
 k (.tuple ⟨[t65, (.int .i64 (.ofNat 0))]⟩) m64)) lf [(.int .i64 (.ofNat 0))] m23))
theorem S17_ok (lf : Nat) (cK : CallK β) (args : List Value) (L : Nat) (m : Mem) (k : Value → Mem → Option β)  : S17 lf cK args L m k = denF Tryd.prog fsT 2 K17 lf cK 17 args L m k := by kernel_rfl

/-- vitola/bond.Fits -/
def K18 : Kat := [(761, (0, [39]))]
noncomputable def S18 (lf : Nat) : FnK β := fun call args L m k =>
 uc args fun t0 l1 =>
 uc l1 fun t2 l3 =>
 un0 l3 (oRes (abox m t0) fun t4 m5 =>
 oRes (abox m5 t2) fun t6 m7 =>
 oOpt (ldN m7 2 t4) fun t8 =>
 call 63 [t8] L m7 fun t9 m10 =>
 oOpt (aextract t9 0) fun t11 =>
 oOpt (aextract t9 1) fun t12 =>
 oRes (anew m10 1 [(.int .i64 (.ofNat 0)), (.slice none 0 0)] ptrTo) fun t13 m14 =>
 oRes (st1 2 L m14 t13 t11) fun t15 m16 =>
 oInt .neq .i64 t12 (.int .i64 (.ofNat 0)) fun t17 =>
 oIf t17 (k (.tuple ⟨[(.int .i64 (.ofNat 0)), t12]⟩) m16) (oOpt (ldN m16 2 t6) fun t18 =>
 call 66 [t18] L m16 fun t19 m20 =>
 oOpt (aextract t19 0) fun t21 =>
 oOpt (aextract t19 1) fun t22 =>
 oRes (anew m20 1 [(.int .i64 (.ofNat 0)), (.slice none 0 0)] ptrTo) fun t23 m24 =>
 oRes (st1 2 L m24 t23 t21) fun t25 m26 =>
 oInt .neq .i64 t22 (.int .i64 (.ofNat 0)) fun t27 =>
 oIf t27 (k (.tuple ⟨[(.int .i64 (.ofNat 0)), t22]⟩) m26) (oOpt (fa 0 t13) fun t28 =>
 oOpt (fa 0 t28) fun t29 =>
 oOpt (ld1 m26 t29) fun t30 =>
 oOpt (fa 0 t23) fun t31 =>
 oOpt (fa 0 t31) fun t32 =>
 oOpt (ld1 m26 t32) fun t33 =>
 oInt .neq .i64 t30 t33 fun t34 =>
 oIf t34 (k (.tuple ⟨[(.int .i64 (.ofNat 0)), (.int .i64 (.ofNat 5))]⟩) m26) (oOpt (fa 0 t13) fun t35 =>
 oOpt (ldN m26 2 t35) fun t36 =>
 call 67 [t36] L m26 fun t37 m38 =>
 oInt .add .i64 t37 (.int .i64 (.ofNat 1)) fun t39 =>
 loopS (fun j42 l40 m41 =>
 uc l40 fun t43 l44 =>
 oInt .lss .i64 t43 t39 fun t45 =>
 oIf t45 (oOpt (ldN m41 2 t13) fun t46 =>
 call 68 [t46, t43] m41.next m41 fun t47 m48 =>
 oOpt (ldN m48 2 t23) fun t49 =>
 call 69 [t49, t43] L m48 fun t50 m51 =>
 oOpt (ln t50) fun t52 =>
 oInt .eql .i64 t52 (.int .i64 (.ofNat 0)) fun t53 =>
 oOpt (abin Tryd.prog .neq 4 t47 t53) fun t54 =>
 oIf t54 (k (.tuple ⟨[t43, (.int .i64 (.ofNat 0))]⟩) m51) (oInt .add .i64 t43 (.int .i64 (.ofNat 1)) fun t55 =>
 j42 [t55] m51)) (k (.tuple ⟨[(.int .i64 (.ofNat 0)), (.int .i64 (.ofNat 13))]⟩) m41)) lf [(.int .i64 (.ofNat 0))] m38))))
theorem S18_ok (lf : Nat) (cK : CallK β) (args : List Value) (L : Nat) (m : Mem) (k : Value → Mem → Option β)  : S18 lf cK args L m k = denF Tryd.prog fsT 2 K18 lf cK 18 args L m k := by kernel_rfl

/-- vitola/vitolaref10.Fits -/
def K19 : Kat := [(44, (0, [6])), (91, (1, [21])), (92, (0, [6])), (761, (0, [7]))]
noncomputable def S19 (lf : Nat) : FnK β := fun call args L m k =>
 uc args fun t0 l1 =>
 uc l1 fun t2 l3 =>
 un0 l3 (oRes (abox m t0) fun t4 m5 =>
 oRes (abox m5 t2) fun t6 m7 =>
 oOpt (ldN m7 2 t4) fun t8 =>
 call 49 [t8] L m7 fun t9 m10 =>
 oInt .eql .i64 t9 (.int .i64 (.ofNat 0)) fun t11 =>
 join (fun l12 m13 =>
 uc l12 fun t15 l16 =>
 oInt .eql .i64 t15 (.int .i64 (.ofNat 0)) fun t17 =>
 join (fun l18 m19 =>
 uc l18 fun t21 l22 =>
 oPick t17 t21 (.bool false) fun t23 =>
 join (fun l24 m25 =>
 uc l24 fun t27 l28 =>
 oInt .neq .i64 t27 (.int .i64 (.ofNat 0)) fun t29 =>
 oIf t29 (k (.tuple ⟨[(.int .i64 (.ofNat 0)), t27]⟩) m25) (loopS (fun j32 l30 m31 =>
 uc l30 fun t33 l34 =>
 oOpt (fa 0 t4) fun t35 =>
 oOpt (ld1 m31 t35) fun t36 =>
 oOpt (abin Tryd.prog .shl 3 (.int .i64 (.ofNat 1)) t36) fun t37 =>
 oInt .lss .i64 t33 t37 fun t38 =>
 oIf t38 (oOpt (ldN m31 2 t4) fun t39 =>
 call 70 [t39, t33] m31.next m31 fun t40 m41 =>
 oOpt (ldN m41 2 t6) fun t42 =>
 call 71 [t42, t33] L m41 fun t43 m44 =>
 oOpt (ln t43) fun t45 =>
 oInt .eql .i64 t45 (.int .i64 (.ofNat 0)) fun t46 =>
 oOpt (abin Tryd.prog .neq 4 t40 t46) fun t47 =>
 oIf t47 (k (.tuple ⟨[t33, (.int .i64 (.ofNat 0))]⟩) m44) (oInt .add .i64 t33 (.int .i64 (.ofNat 1)) fun t48 =>
 j32 [t48] m44)) (k (.tuple ⟨[(.int .i64 (.ofNat 0)), (.int .i64 (.ofNat 13))]⟩) m31)) lf [(.int .i64 (.ofNat 0))] m25)) fun j26 =>
 oIf t23 (j26 [(.int .i64 (.ofNat 5))] m19) (j26 [t15] m19)) fun j20 =>
 oGT t17 (oOpt (fa 0 t4) fun t49 =>
 oOpt (ld1 m13 t49) fun t50 =>
 oOpt (fa 0 t6) fun t51 =>
 oOpt (ld1 m13 t51) fun t52 =>
 oInt .neq .i64 t50 t52 fun t53 =>
 j20 [t53] m13) (j20 [Go.undef] m13)) fun j14 =>
 oIf t11 (oOpt (ldN m10 2 t6) fun t54 =>
 call 55 [t54] L m10 fun t55 m56 =>
 j14 [t55] m56) (j14 [t9] m10))
theorem S19_ok (lf : Nat) (cK : CallK β) (args : List Value) (L : Nat) (m : Mem) (k : Value → Mem → Option β)  : S19 lf cK args L m k = denF Tryd.prog fsT 2 K19 lf cK 19 args L m k := by kernel_rfl

/-- vitola/bond.Thin -/
def K20 : Kat := []
noncomputable def S20 (lf : Nat) : FnK β := fun call args L m k =>
 uc args fun t0 l1 =>
 un0 l1 (oRes (abox m t0) fun t2 m3 =>
 oRes (anew m3 1 [(.int .i64 (.ofNat 0)), (.slice none 0 0)] ptrTo) fun t4 m5 =>
 oOpt (ldN m5 2 t2) fun t6 =>
 call 66 [t6] L m5 fun t7 m8 =>
 oOpt (aextract t7 0) fun t9 =>
 oOpt (aextract t7 1) fun t10 =>
 oRes (anew m8 1 [(.int .i64 (.ofNat 0)), (.slice none 0 0)] ptrTo) fun t11 m12 =>
 oRes (st1 2 L m12 t11 t9) fun t13 m14 =>
 oInt .neq .i64 t10 (.int .i64 (.ofNat 0)) fun t15 =>
 oIf t15 (oOpt (bu Tryd.prog 26 []) fun t16 =>
 oRes (st1 2 L m14 t4 t16) fun t17 m18 =>
 oOpt (ldN m18 2 t4) fun t19 =>
 k (.tuple ⟨[t19, t10]⟩) m18) (oOpt (fa 0 t11) fun t20 =>
 oOpt (fa 0 t20) fun t21 =>
 oOpt (ld1 m14 t21) fun t22 =>
 oOpt (fa 0 t11) fun t23 =>
 oOpt (ldN m14 2 t23) fun t24 =>
 call 72 [t24] L m14 fun t25 m26 =>
 oSm m14 m26 t21 (
 oOpt (bu Tryd.prog 26 [(0, t22), (1, t25)]) fun t27 =>
 oRes (st1 2 L m26 t4 t27) fun t28 m29 =>
 oOpt (ldN m29 2 t4) fun t30 =>
 k (.tuple ⟨[t30, (.int .i64 (.ofNat 0))]⟩) m29)))
theorem S20_ok (lf : Nat) (cK : CallK β) (args : List Value) (L : Nat) (m : Mem) (k : Value → Mem → Option β)  : S20 lf cK args L m k = denF Tryd.prog fsT 2 K20 lf cK 20 args L m k := by kernel_rfl

/-- vitola/vitolaref10.Thin -/
def K21 : Kat := [(377, (0, [6])), (96841, (0, [7, 8, 9])), (3098951, (1, [41])), (3098952, (1, [52])), (3098952, (2, [60])), (3098952, (3, [61])), (48421, (1, [65])), (48422, (0, []))]
noncomputable def S21 (lf : Nat) : FnK β := fun call args L m k =>
 uc args fun t0 l1 =>
 un0 l1 (oRes (abox m t0) fun t2 m3 =>
 oRes (anew m3 1 [(.int .i64 (.ofNat 0)), (.slice none 0 0)] ptrTo) fun t4 m5 =>
 oOpt (ldN m5 2 t2) fun t6 =>
 call 55 [t6] L m5 fun t7 m8 =>
 oInt .neq .i64 t7 (.int .i64 (.ofNat 0)) fun t9 =>
 oIf t9 (oOpt (bu Tryd.prog 30 []) fun t10 =>
 oRes (st1 2 L m8 t4 t10) fun t11 m12 =>
 oOpt (ldN m12 2 t4) fun t13 =>
 k (.tuple ⟨[t13, t7]⟩) m12) (oOpt (fa 0 t2) fun t14 =>
 oOpt (ld1 m8 t14) fun t15 =>
 oOpt (bu Tryd.prog 30 [(0, t15)]) fun t16 =>
 oRes (anew m8 1 [(.int .i64 (.ofNat 0)), (.slice none 0 0)] ptrTo) fun t17 m18 =>
 oRes (st1 2 L m18 t17 t16) fun t19 m20 =>
 loopS (fun j23 l21 m22 =>
 uc l21 fun t24 l25 =>
 oOpt (fa 0 t2) fun t26 =>
 oOpt (ld1 m22 t26) fun t27 =>
 oOpt (abin Tryd.prog .shl 3 (.int .i64 (.ofNat 1)) t27) fun t28 =>
 oInt .lss .i64 t24 t28 fun t29 =>
 oIf t29 (loopS (fun j32 l30 m31 =>
 uc l30 fun t33 l34 =>
 uc l34 fun t35 l36 =>
 uc l36 fun t37 l38 =>
 oOpt (fa 1 t2) fun t39 =>
 oOpt (ld1 m31 t39) fun t40 =>
 oOpt (ln t40) fun t41 =>
 oInt .lss .i64 t37 t41 fun t42 =>
 oIf t42 (join (fun l43 m44 =>
 uc l43 fun t46 l47 =>
 oPick t33 (.bool true) t46 fun t48 =>
 join (fun l49 m50 =>
 uc l49 fun t52 l53 =>
 join (fun l54 m55 =>
 uc l54 fun t57 l58 =>
 join (fun l59 m60 =>
 uc l59 fun t62 l63 =>
 oPick t35 t62 (.bool false) fun t64 =>
 oInt .add .i64 t37 (.int .i64 (.ofNat 1)) fun t65 =>
 j32 [t48, t64, t65] m60) fun j61 =>
 oGT t35 (oPick t52 (.bool true) t57 fun t66 =>
 j61 [t66] m55) (j61 [Go.undef] m55)) fun j56 =>
 oGF t52 (oOpt (fa 1 t2) fun t67 =>
 oOpt (ld1 m50 t67) fun t68 =>
 oOpt (ia 1 t68 t37) fun t69 =>
 oOpt (ld1 m50 t69) fun t70 =>
 call 73 [t70, t24] L m50 fun t71 m72 =>
 oOpt (aun .not t71) fun t73 =>
 j56 [t73] m72) (j56 [Go.undef] m50)) fun j51 =>
 oGT t35 (oOpt (fa 1 t2) fun t74 =>
 oOpt (ld1 m44 t74) fun t75 =>
 oOpt (ia 1 t75 t37) fun t76 =>
 oOpt (ld1 m44 t76) fun t77 =>
 oInt .eql .i64 t77 t24 fun t78 =>
 j51 [t78] m44) (j51 [Go.undef] m44)) fun j45 =>
 oGF t33 (oOpt (fa 1 t2) fun t79 =>
 oOpt (ld1 m31 t79) fun t80 =>
 oOpt (ia 1 t80 t37) fun t81 =>
 oOpt (ld1 m31 t81) fun t82 =>
 oInt .eql .i64 t82 t24 fun t83 =>
 j45 [t83] m31) (j45 [Go.undef] m31)) (join (fun l84 m85 =>
 uc l84 fun t87 l88 =>
 oPick t33 t87 (.bool false) fun t89 =>
 join (fun l90 m91 =>
 oInt .add .i64 t24 (.int .i64 (.ofNat 1)) fun t93 =>
 j23 [t93] m91) fun j92 =>
 oIf t89 (oOpt (fa 1 t17) fun t94 =>
 oOpt (ld1 m85 t94) fun t95 =>
 oRes (bs Tryd.prog m85 22 1 [(0, t24)]) fun t96 m97 =>
 oRes (aappend Tryd.prog L m97 22 t95 t96) fun t98 m99 =>
 oOpt (fa 1 t17) fun t100 =>
 oRes (st1 1 L m99 t100 t98) fun t101 m102 =>
 j92 [] m102) (j92 [] m85)) fun j86 =>
 oGT t33 (j86 [t35] m31) (j86 [Go.undef] m31))) lf [(.bool false), (.bool true), (.int .i64 (.ofNat 0))] m22) (oOpt (ldN m22 2 t17) fun t103 =>
 oRes (st1 2 L m22 t4 t103) fun t104 m105 =>
 oOpt (ldN m105 2 t4) fun t106 =>
 k (.tuple ⟨[t106, (.int .i64 (.ofNat 0))]⟩) m105)) lf [(.int .i64 (.ofNat 0))] m20))
theorem S21_ok (lf : Nat) (cK : CallK β) (args : List Value) (L : Nat) (m : Mem) (k : Value → Mem → Option β)  : S21 lf cK args L m k = denF Tryd.prog fsT 2 K21 lf cK 21 args L m k := by kernel_rfl

/-- vitola/vitolalaw10.same -/
def K22 : Kat := [(89, (0, [5]))]
noncomputable def S22 (lf : Nat) : FnK β := fun call args L m k =>
 uc args fun t0 l1 =>
 uc l1 fun t2 l3 =>
 un0 l3 (oOpt (ln t0) fun t4 =>
 oOpt (ln t2) fun t5 =>
 oInt .neq .i64 t4 t5 fun t6 =>
 oIf t6 (k (.bool false) m) (loopS (fun j9 l7 m8 =>
 uc l7 fun t10 l11 =>
 oOpt (ln t0) fun t12 =>
 oInt .lss .i64 t10 t12 fun t13 =>
 oIf t13 (oOpt (ia 1 t0 t10) fun t14 =>
 oOpt (ld1 m8 t14) fun t15 =>
 oOpt (ia 1 t2 t10) fun t16 =>
 oOpt (ld1 m8 t16) fun t17 =>
 oInt .neq .i64 t15 t17 fun t18 =>
 oIf t18 (k (.bool false) m8) (oInt .add .i64 t10 (.int .i64 (.ofNat 1)) fun t19 =>
 j9 [t19] m8)) (k (.bool true) m8)) lf [(.int .i64 (.ofNat 0))] m))
theorem S22_ok (lf : Nat) (cK : CallK β) (args : List Value) (L : Nat) (m : Mem) (k : Value → Mem → Option β)  : S22 lf cK args L m k = denF Tryd.prog fsT 2 K22 lf cK 22 args L m k := by kernel_rfl

/-- vitola/bond.Any -/
def K23 : Kat := [(19, (1, [15])), (185, (0, [22])), (23858, (0, []))]
noncomputable def S23 (lf : Nat) : FnK β := fun call args L m k =>
 uc args fun t0 l1 =>
 uc l1 fun t2 l3 =>
 un0 l3 (oRes (anew m 1 [(.int .i64 (.ofNat 0)), (.slice none 0 0)] ptrTo) fun t4 m5 =>
 call 74 [t0, (.int .i64 (.ofNat 1)), (.int .i64 (.ofNat 6))] L m5 fun t6 m7 =>
 oOpt (aun .not t6) fun t8 =>
 join (fun l9 m10 =>
 uc l9 fun t12 l13 =>
 oPick t8 (.bool true) t12 fun t14 =>
 oIf t14 (oOpt (bu Tryd.prog 24 []) fun t15 =>
 oRes (st1 2 L m10 t4 t15) fun t16 m17 =>
 oOpt (ldN m17 2 t4) fun t18 =>
 k (.tuple ⟨[t18, (.int .i64 (.ofNat 1))]⟩) m17) (oOpt (bu Tryd.prog 24 [(0, t0)]) fun t19 =>
 oRes (anew m10 1 [(.int .i64 (.ofNat 0)), (.slice none 0 0)] ptrTo) fun t20 m21 =>
 oRes (st1 2 L m21 t20 t19) fun t22 m23 =>
 oOpt (abin Tryd.prog .shl 3 (.int .i64 (.ofNat 1)) t0) fun t24 =>
 loopS (fun j27 l25 m26 =>
 uc l25 fun t28 l29 =>
 oInt .lss .i64 t28 t24 fun t30 =>
 oIf t30 (oCv .u64 t28 fun t31 =>
 call 40 [t31] L m26 fun t32 m33 =>
 oInt .eql .i64 t32 t2 fun t34 =>
 join (fun l35 m36 =>
 oInt .add .i64 t28 (.int .i64 (.ofNat 1)) fun t38 =>
 j27 [t38] m36) fun j37 =>
 oIf t34 (oOpt (fa 1 t20) fun t39 =>
 oOpt (ld1 m33 t39) fun t40 =>
 oRes (bs Tryd.prog m33 22 1 [(0, t28)]) fun t41 m42 =>
 oRes (aappend Tryd.prog L m42 22 t40 t41) fun t43 m44 =>
 oOpt (fa 1 t20) fun t45 =>
 oRes (st1 1 L m44 t45 t43) fun t46 m47 =>
 j37 [] m47) (j37 [] m33)) (oOpt (ldN m26 2 t20) fun t48 =>
 oRes (st1 2 L m26 t4 t48) fun t49 m50 =>
 oOpt (ldN m50 2 t4) fun t51 =>
 k (.tuple ⟨[t51, (.int .i64 (.ofNat 0))]⟩) m50)) lf [(.int .i64 (.ofNat 0))] m23)) fun j11 =>
 oGF t8 (call 74 [t2, (.int .i64 (.ofNat 0)), t0] L m7 fun t52 m53 =>
 oOpt (aun .not t52) fun t54 =>
 j11 [t54] m53) (j11 [Go.undef] m7))
theorem S23_ok (lf : Nat) (cK : CallK β) (args : List Value) (L : Nat) (m : Mem) (k : Value → Mem → Option β)  : S23 lf cK args L m k = denF Tryd.prog fsT 2 K23 lf cK 23 args L m k := by kernel_rfl

/-- vitola/vitolaref10.Any -/
def K24 : Kat := [(19, (1, [15])), (185, (0, [7])), (5960, (0, []))]
noncomputable def S24 (lf : Nat) : FnK β := fun call args L m k =>
 uc args fun t0 l1 =>
 uc l1 fun t2 l3 =>
 un0 l3 (oRes (anew m 1 [(.int .i64 (.ofNat 0)), (.slice none 0 0)] ptrTo) fun t4 m5 =>
 call 75 [t0, (.int .i64 (.ofNat 1)), (.int .i64 (.ofNat 6))] L m5 fun t6 m7 =>
 oOpt (aun .not t6) fun t8 =>
 join (fun l9 m10 =>
 uc l9 fun t12 l13 =>
 oPick t8 (.bool true) t12 fun t14 =>
 oIf t14 (oOpt (bu Tryd.prog 29 []) fun t15 =>
 oRes (st1 2 L m10 t4 t15) fun t16 m17 =>
 oOpt (ldN m17 2 t4) fun t18 =>
 k (.tuple ⟨[t18, (.int .i64 (.ofNat 1))]⟩) m17) (oOpt (bu Tryd.prog 29 [(0, t0)]) fun t19 =>
 oRes (anew m10 1 [(.int .i64 (.ofNat 0)), (.slice none 0 0)] ptrTo) fun t20 m21 =>
 oRes (st1 2 L m21 t20 t19) fun t22 m23 =>
 loopS (fun j26 l24 m25 =>
 uc l24 fun t27 l28 =>
 oOpt (abin Tryd.prog .shl 3 (.int .i64 (.ofNat 1)) t0) fun t29 =>
 oInt .lss .i64 t27 t29 fun t30 =>
 oIf t30 (call 76 [t27] L m25 fun t31 m32 =>
 oInt .eql .i64 t31 t2 fun t33 =>
 join (fun l34 m35 =>
 oInt .add .i64 t27 (.int .i64 (.ofNat 1)) fun t37 =>
 j26 [t37] m35) fun j36 =>
 oIf t33 (oOpt (fa 1 t20) fun t38 =>
 oOpt (ld1 m32 t38) fun t39 =>
 oRes (bs Tryd.prog m32 22 1 [(0, t27)]) fun t40 m41 =>
 oRes (aappend Tryd.prog L m41 22 t39 t40) fun t42 m43 =>
 oOpt (fa 1 t20) fun t44 =>
 oRes (st1 1 L m43 t44 t42) fun t45 m46 =>
 j36 [] m46) (j36 [] m32)) (oOpt (ldN m25 2 t20) fun t47 =>
 oRes (st1 2 L m25 t4 t47) fun t48 m49 =>
 oOpt (ldN m49 2 t4) fun t50 =>
 k (.tuple ⟨[t50, (.int .i64 (.ofNat 0))]⟩) m49)) lf [(.int .i64 (.ofNat 0))] m23)) fun j11 =>
 oGF t8 (call 75 [t2, (.int .i64 (.ofNat 0)), t0] L m7 fun t51 m52 =>
 oOpt (aun .not t51) fun t53 =>
 j11 [t53] m52) (j11 [Go.undef] m7))
theorem S24_ok (lf : Nat) (cK : CallK β) (args : List Value) (L : Nat) (m : Mem) (k : Value → Mem → Option β)  : S24 lf cK args L m k = denF Tryd.prog fsT 2 K24 lf cK 24 args L m k := by kernel_rfl

/-- (vitola/vitolalaw10.Seal).made -/
def K25 : Kat := [(185, (0, [7, 23]))]
noncomputable def S25 (lf : Nat) : FnK β := fun call args L m k =>
 uc args fun t0 l1 =>
 uc l1 fun t2 l3 =>
 un0 l3 (oRes (abox m t0) fun t4 m5 =>
 oOpt (fa 0 t4) fun t6 =>
 oOpt (ld1 m5 t6) fun t7 =>
 oCv .i64 t7 fun t8 =>
 oInt .rem .i64 t8 t2 fun t9 =>
 oInt .add .i64 (.int .i64 (.ofNat 1)) t9 fun t10 =>
 oOpt (fa 2 t4) fun t11 =>
 oOpt (fa 1 t4) fun t12 =>
 oOpt (ld1 m5 t12) fun t13 =>
 oCv .i64 t13 fun t14 =>
 oInt .rem .i64 t14 (.int .i64 (.ofNat 9)) fun t15 =>
 oOpt (sl Tryd.prog 48 t11 none (some t15) none) fun t16 =>
 oOpt (ln t16) fun t17 =>
 loopS (fun j20 l18 m19 =>
 uc l18 fun t21 l22 =>
 uc l22 fun t23 l24 =>
 oInt .lss .i64 t23 t17 fun t25 =>
 oIf t25 (oOpt (ia 1 t16 t23) fun t26 =>
 oOpt (ld1 m19 t26) fun t27 =>
 oCv .i64 t27 fun t28 =>
 oOpt (abin Tryd.prog .shl 3 (.int .i64 (.ofNat 1)) t10) fun t29 =>
 oInt .rem .i64 t28 t29 fun t30 =>
 oRes (bs Tryd.prog m19 22 1 [(0, t30)]) fun t31 m32 =>
 oRes (aappend Tryd.prog L m32 22 t21 t31) fun t33 m34 =>
 oInt .add .i64 t23 (.int .i64 (.ofNat 1)) fun t35 =>
 j20 [t33, t35] m34) (k (.tuple ⟨[t10, t21]⟩) m19)) lf [(.slice none 0 0), (.int .i64 (.ofNat 0))] m5)
theorem S25_ok (lf : Nat) (cK : CallK β) (args : List Value) (L : Nat) (m : Mem) (k : Value → Mem → Option β)  : S25 lf cK args L m k = denF Tryd.prog fsT 2 K25 lf cK 25 args L m k := by kernel_rfl

/-- vitola/vitolalaw10.rule -/
def K26 : Kat := []
noncomputable def S26 (lf : Nat) : FnK β := fun call args L m k =>
 uc args fun t0 l1 =>
 uc l1 fun t2 l3 =>
 un0 l3 (oRes (anew m 1 [(.int .i64 (.ofNat 0)), (.slice none 0 0)] ptrTo) fun t4 m5 =>
 oOpt (bu Tryd.prog 24 [(0, t0), (1, t2)]) fun t6 =>
 oRes (st1 2 L m5 t4 t6) fun t7 m8 =>
 oOpt (ldN m8 2 t4) fun t9 =>
 k t9 m8)
theorem S26_ok (lf : Nat) (cK : CallK β) (args : List Value) (L : Nat) (m : Mem) (k : Value → Mem → Option β)  : S26 lf cK args L m k = denF Tryd.prog fsT 2 K26 lf cK 26 args L m k := by kernel_rfl

/-- vitola/bond.Barred -/
def K27 : Kat := [(377, (0, [6, 21]))]
noncomputable def S27 (lf : Nat) : FnK β := fun call args L m k =>
 uc args fun t0 l1 =>
 un0 l1 (oRes (abox m t0) fun t2 m3 =>
 oOpt (ldN m3 2 t2) fun t4 =>
 call 63 [t4] L m3 fun t5 m6 =>
 oOpt (aextract t5 0) fun t7 =>
 oOpt (aextract t5 1) fun t8 =>
 oRes (anew m6 1 [(.int .i64 (.ofNat 0)), (.slice none 0 0)] ptrTo) fun t9 m10 =>
 oRes (st1 2 L m10 t9 t7) fun t11 m12 =>
 oInt .neq .i64 t8 (.int .i64 (.ofNat 0)) fun t13 =>
 oIf t13 (k (.tuple ⟨[(.slice none 0 0), t8]⟩) m12) (oOpt (fa 0 t9) fun t14 =>
 oOpt (ldN m12 2 t14) fun t15 =>
 call 64 [t15] L m12 fun t16 m17 =>
 oOpt (ln t16) fun t18 =>
 loopS (fun j21 l19 m20 =>
 uc l19 fun t22 l23 =>
 uc l23 fun t24 l25 =>
 oInt .lss .i64 t24 t18 fun t26 =>
 oIf t26 (oOpt (ia 1 t16 t24) fun t27 =>
 oOpt (ld1 m20 t27) fun t28 =>
 oOpt (fa 0 t9) fun t29 =>
 oOpt (ldN m20 2 t29) fun t30 =>
 call 67 [t30] L m20 fun t31 m32 =>
 oInt .andNot .i64 t31 t28 fun t33 =>
 oRes (bs Tryd.prog m32 22 1 [(0, t33)]) fun t34 m35 =>
 oRes (aappend Tryd.prog L m35 22 t22 t34) fun t36 m37 =>
 oInt .add .i64 t24 (.int .i64 (.ofNat 1)) fun t38 =>
 j21 [t36, t38] m37) (call 43 [t22] L m20 fun t39 m40 =>
 k (.tuple ⟨[t22, (.int .i64 (.ofNat 0))]⟩) m40)) lf [(.slice none 0 0), (.int .i64 (.ofNat 0))] m17))
theorem S27_ok (lf : Nat) (cK : CallK β) (args : List Value) (L : Nat) (m : Mem) (k : Value → Mem → Option β)  : S27 lf cK args L m k = denF Tryd.prog fsT 2 K27 lf cK 27 args L m k := by kernel_rfl

/-- vitola/vitolalaw10.within -/
def K28 : Kat := []
noncomputable def S28 (lf : Nat) : FnK β := fun call args L m k =>
 uc args fun t0 l1 =>
 uc l1 fun t2 l3 =>
 un0 l3 (oRes (abox m t2) fun t4 m5 =>
 call 41 [t0, (.func (.func 77) #[] ⟨[t4]⟩)] L m5 fun t6 m7 =>
 k t6 m7)
theorem S28_ok (lf : Nat) (cK : CallK β) (args : List Value) (L : Nat) (m : Mem) (k : Value → Mem → Option β)  : S28 lf cK args L m k = denF Tryd.prog fsT 2 K28 lf cK 28 args L m k := by kernel_rfl

/-- vitola/vitolalaw10.meets -/
def K29 : Kat := []
noncomputable def S29 (lf : Nat) : FnK β := fun call args L m k =>
 uc args fun t0 l1 =>
 uc l1 fun t2 l3 =>
 un0 l3 (oRes (abox m t2) fun t4 m5 =>
 call 41 [t0, (.func (.func 78) #[] ⟨[t4]⟩)] L m5 fun t6 m7 =>
 oOpt (aun .not t6) fun t8 =>
 k t8 m7)
theorem S29_ok (lf : Nat) (cK : CallK β) (args : List Value) (L : Nat) (m : Mem) (k : Value → Mem → Option β)  : S29 lf cK args L m k = denF Tryd.prog fsT 2 K29 lf cK 29 args L m k := by kernel_rfl

/-- vitola/vitolalaw10.plan -/
def K30 : Kat := []
noncomputable def S30 (lf : Nat) : FnK β := fun call args L m k =>
 uc args fun t0 l1 =>
 uc l1 fun t2 l3 =>
 un0 l3 (oRes (anew m 1 [(.int .i64 (.ofNat 0)), (.slice none 0 0)] ptrTo) fun t4 m5 =>
 oOpt (bu Tryd.prog 26 [(0, t0), (1, t2)]) fun t6 =>
 oRes (st1 2 L m5 t4 t6) fun t7 m8 =>
 oOpt (ldN m8 2 t4) fun t9 =>
 k t9 m8)
theorem S30_ok (lf : Nat) (cK : CallK β) (args : List Value) (L : Nat) (m : Mem) (k : Value → Mem → Option β)  : S30 lf cK args L m k = denF Tryd.prog fsT 2 K30 lf cK 30 args L m k := by kernel_rfl

/-- vitola/bond.Lacks -/
def K31 : Kat := []
noncomputable def S31 (lf : Nat) : FnK β := fun call args L m k =>
 uc args fun t0 l1 =>
 uc l1 fun t2 l3 =>
 un0 l3 (oRes (abox m t0) fun t4 m5 =>
 oOpt (ldN m5 2 t4) fun t6 =>
 call 66 [t6] L m5 fun t7 m8 =>
 oOpt (aextract t7 0) fun t9 =>
 oOpt (aextract t7 1) fun t10 =>
 oRes (anew m8 1 [(.int .i64 (.ofNat 0)), (.slice none 0 0)] ptrTo) fun t11 m12 =>
 oRes (st1 2 L m12 t11 t9) fun t13 m14 =>
 oInt .neq .i64 t10 (.int .i64 (.ofNat 0)) fun t15 =>
 oIf t15 (k (.tuple ⟨[(.slice none 0 0), t10]⟩) m14) (oOpt (fa 0 t11) fun t16 =>
 oOpt (ldN m14 2 t16) fun t17 =>
 call 79 [t17, t2] L m14 fun t18 m19 =>
 oOpt (aun .not t18) fun t20 =>
 oIf t20 (k (.tuple ⟨[(.slice none 0 0), (.int .i64 (.ofNat 2))]⟩) m19) (oOpt (ldN m19 2 t11) fun t21 =>
 call 69 [t21, t2] L m19 fun t22 m23 =>
 k (.tuple ⟨[t22, (.int .i64 (.ofNat 0))]⟩) m23)))
theorem S31_ok (lf : Nat) (cK : CallK β) (args : List Value) (L : Nat) (m : Mem) (k : Value → Mem → Option β)  : S31 lf cK args L m k = denF Tryd.prog fsT 2 K31 lf cK 31 args L m k := by kernel_rfl

/-- vitola/bond.May -/
def K32 : Kat := []
noncomputable def S32 (lf : Nat) : FnK β := fun call args L m k =>
 uc args fun t0 l1 =>
 uc l1 fun t2 l3 =>
 un0 l3 (oRes (abox m t0) fun t4 m5 =>
 oOpt (ldN m5 2 t4) fun t6 =>
 call 63 [t6] L m5 fun t7 m8 =>
 oOpt (aextract t7 0) fun t9 =>
 oOpt (aextract t7 1) fun t10 =>
 oRes (anew m8 1 [(.int .i64 (.ofNat 0)), (.slice none 0 0)] ptrTo) fun t11 m12 =>
 oRes (st1 2 L m12 t11 t9) fun t13 m14 =>
 oInt .neq .i64 t10 (.int .i64 (.ofNat 0)) fun t15 =>
 oIf t15 (k (.tuple ⟨[(.bool false), t10]⟩) m14) (oOpt (fa 0 t11) fun t16 =>
 oOpt (ldN m14 2 t16) fun t17 =>
 call 79 [t17, t2] L m14 fun t18 m19 =>
 oOpt (aun .not t18) fun t20 =>
 oIf t20 (k (.tuple ⟨[(.bool false), (.int .i64 (.ofNat 2))]⟩) m19) (oOpt (ldN m19 2 t11) fun t21 =>
 call 68 [t21, t2] L m19 fun t22 m23 =>
 k (.tuple ⟨[t22, (.int .i64 (.ofNat 0))]⟩) m23)))
theorem S32_ok (lf : Nat) (cK : CallK β) (args : List Value) (L : Nat) (m : Mem) (k : Value → Mem → Option β)  : S32 lf cK args L m k = denF Tryd.prog fsT 2 K32 lf cK 32 args L m k := by kernel_rfl

/-- vitola/bond.Opens -/
def K33 : Kat := []
noncomputable def S33 (lf : Nat) : FnK β := fun call args L m k =>
 uc args fun t0 l1 =>
 uc l1 fun t2 l3 =>
 un0 l3 (oRes (abox m t0) fun t4 m5 =>
 oOpt (ldN m5 2 t4) fun t6 =>
 call 66 [t6] L m5 fun t7 m8 =>
 oOpt (aextract t7 0) fun t9 =>
 oOpt (aextract t7 1) fun t10 =>
 oRes (anew m8 1 [(.int .i64 (.ofNat 0)), (.slice none 0 0)] ptrTo) fun t11 m12 =>
 oRes (st1 2 L m12 t11 t9) fun t13 m14 =>
 oInt .neq .i64 t10 (.int .i64 (.ofNat 0)) fun t15 =>
 oIf t15 (k (.tuple ⟨[(.bool false), t10]⟩) m14) (oOpt (fa 0 t11) fun t16 =>
 oOpt (ldN m14 2 t16) fun t17 =>
 call 79 [t17, t2] L m14 fun t18 m19 =>
 oOpt (aun .not t18) fun t20 =>
 oIf t20 (k (.tuple ⟨[(.bool false), (.int .i64 (.ofNat 2))]⟩) m19) (oOpt (ldN m19 2 t11) fun t21 =>
 call 69 [t21, t2] L m19 fun t22 m23 =>
 oOpt (abin Tryd.prog .eql 22 t22 (.slice none 0 0)) fun t24 =>
 k (.tuple ⟨[t24, (.int .i64 (.ofNat 0))]⟩) m23)))
theorem S33_ok (lf : Nat) (cK : CallK β) (args : List Value) (L : Nat) (m : Mem) (k : Value → Mem → Option β)  : S33 lf cK args L m k = denF Tryd.prog fsT 2 K33 lf cK 33 args L m k := by kernel_rfl

end
end Go.Vit
