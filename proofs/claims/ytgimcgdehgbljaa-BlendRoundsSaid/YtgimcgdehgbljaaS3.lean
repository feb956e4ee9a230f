/- Shallow texts of the seat's functions, printed by a program: part 3. -/
import Derived.Test.YtgimcgdehgbljaaRows
import Derived.Test.YtgimcgdehgbljaaFs
set_option linter.unusedVariables false
set_option maxRecDepth 100000
namespace Go.Vit
open Go Go.Proofs
section
variable {β : Type}
/-- vitola/blend.Nearest -/
def K38 : Kat := []
noncomputable def S38 (lf : Nat) : FnK β := fun call args L m k =>
 uc args fun t0 l1 =>
 uc l1 fun t2 l3 =>
 un0 l3 (oRes (abox m t0) fun t4 m5 =>
 oRes (abox m5 t2) fun t6 m7 =>
 oOpt (ldN m7 3 t4) fun t8 =>
 oOpt (ld1 m7 t6) fun t9 =>
 call 76 [t8, t9] L m7 fun t10 m11 =>
 oInt .neq .i64 t10 (.int .i64 (.ofNat 0)) fun t12 =>
 oIf t12 (k (.tuple ⟨[(.slice none 0 0), t10]⟩) m11) (oRes (anew m11 1 [(.slice none 0 0)] ptrTo) fun t13 m14 =>
 oRes (anew m14 1 [(.int .i64 (.ofNat 0))] ptrTo) fun t15 m16 =>
 oRes (st1 1 L m16 t15 (.int .i64 (.ofNat 11))) fun t17 m18 =>
 oOpt (ldN m18 3 t4) fun t19 =>
 oOpt (ld1 m18 t6) fun t20 =>
 oOpt (ln t20) fun t21 =>
 call 80 [t19, t21] L m18 fun t22 m23 =>
 oRange call 38 t22 [t15, t13, t6] L m23 fun m24 =>
 oOpt (ld1 m24 t15) fun t25 =>
 oInt .gtr .i64 t25 (.int .i64 (.ofNat 10)) fun t26 =>
 oIf t26 (k (.tuple ⟨[(.slice none 0 0), (.int .i64 (.ofNat 12))]⟩) m24) (oOpt (ld1 m24 t13) fun t27 =>
 k (.tuple ⟨[t27, (.int .i64 (.ofNat 0))]⟩) m24)))
theorem S38_ok (lf : Nat) (cK : CallK β) (args : List Value) (L : Nat) (m : Mem) (k : Value → Mem → Option β)  : S38 lf cK args L m k = denF Try.prog fsT 0 K38 lf cK 38 args L m k := by kernel_rfl

/-- vitola/vitolaref04.Nearest -/
def K39 : Kat := [(1529, (0, [7, 8, 10])), (12241, (0, [7, 8])), (195877, (1, [57])), (195877, (3, [66])), (195877, (4, [72])), (195877, (5, [73])), (195878, (0, [7, 8]))]
noncomputable def S39 (lf : Nat) : FnK β := fun call args L m k =>
 uc args fun t0 l1 =>
 uc l1 fun t2 l3 =>
 un0 l3 (oRes (abox m t0) fun t4 m5 =>
 oOpt (ldN m5 3 t4) fun t6 =>
 call 78 [t6, t2] L m5 fun t7 m8 =>
 oInt .neq .i64 t7 (.int .i64 (.ofNat 0)) fun t9 =>
 oIf t9 (k (.tuple ⟨[(.slice none 0 0), t7]⟩) m8) (oOpt (fa 0 t4) fun t10 =>
 oOpt (ld1 m8 t10) fun t11 =>
 oOpt (ln t11) fun t12 =>
 oOpt (ln t2) fun t13 =>
 call 62 [t12, t13] L m8 fun t14 m15 =>
 loopS (fun j18 l16 m17 =>
 uc l16 fun t19 l20 =>
 uc l20 fun t21 l22 =>
 uc l22 fun t23 l24 =>
 oOpt (ln t14) fun t25 =>
 oInt .lss .i64 t23 t25 fun t26 =>
 oIf t26 (join (fun l27 m28 =>
 uc l27 fun t30 l31 =>
 uc l31 fun t32 l33 =>
 oInt .add .i64 t23 (.int .i64 (.ofNat 1)) fun t34 =>
 j18 [t30, t32, t34] m28) fun j29 =>
 oOpt (ldN m17 3 t4) fun t35 =>
 oOpt (ia 1 t14 t23) fun t36 =>
 oOpt (ld1 m17 t36) fun t37 =>
 call 79 [t35, t37] m17.next m17 fun t38 m39 =>
 oOpt (fa 1 t4) fun t40 =>
 oOpt (ld1 m39 t40) fun t41 =>
 oOpt (fa 2 t4) fun t42 =>
 oOpt (ld1 m39 t42) fun t43 =>
 call 67 [t38, t41, t43] L m39 fun t44 m45 =>
 oOpt (aun .not t44) fun t46 =>
 oIf t46 (j29 [t19, t21] m45) (oOpt (ia 1 t14 t23) fun t47 =>
 oOpt (ld1 m45 t47) fun t48 =>
 call 69 [t48, t2] L m45 fun t49 m50 =>
 oOpt (ln t49) fun t51 =>
 oOpt (aun .not t21) fun t52 =>
 join (fun l53 m54 =>
 uc l53 fun t56 l57 =>
 oPick t52 (.bool true) t56 fun t58 =>
 join (fun l59 m60 =>
 uc l59 fun t62 l63 =>
 join (fun l64 m65 =>
 uc l64 fun t67 l68 =>
 join (fun l69 m70 =>
 uc l69 fun t72 l73 =>
 oPick t58 (.bool true) t72 fun t74 =>
 join (fun l75 m76 =>
 uc l75 fun t78 l79 =>
 uc l79 fun t80 l81 =>
 j29 [t78, t80] m76) fun j77 =>
 oIf t74 (oOpt (ia 1 t14 t23) fun t82 =>
 oOpt (ld1 m70 t82) fun t83 =>
 j77 [t83, (.bool true)] m70) (j77 [t19, t21] m70)) fun j71 =>
 oGF t58 (oPick t62 t67 (.bool false) fun t84 =>
 j71 [t84] m65) (j71 [Go.undef] m65)) fun j66 =>
 oGT t62 (oOpt (ia 1 t14 t23) fun t85 =>
 oOpt (ld1 m60 t85) fun t86 =>
 call 83 [t86, t19] L m60 fun t87 m88 =>
 j66 [t87] m88) (j66 [Go.undef] m60)) fun j61 =>
 oGF t58 (call 69 [t19, t2] L m54 fun t89 m90 =>
 oOpt (ln t89) fun t91 =>
 oInt .eql .i64 t51 t91 fun t92 =>
 j61 [t92] m90) (j61 [Go.undef] m54)) fun j55 =>
 oGF t52 (call 69 [t19, t2] L m50 fun t93 m94 =>
 oOpt (ln t93) fun t95 =>
 oInt .lss .i64 t51 t95 fun t96 =>
 j55 [t96] m94) (j55 [Go.undef] m50))) (oOpt (aun .not t21) fun t97 =>
 oIf t97 (k (.tuple ⟨[(.slice none 0 0), (.int .i64 (.ofNat 12))]⟩) m17) (k (.tuple ⟨[t19, (.int .i64 (.ofNat 0))]⟩) m17))) lf [(.slice none 0 0), (.bool false), (.int .i64 (.ofNat 0))] m15))
theorem S39_ok (lf : Nat) (cK : CallK β) (args : List Value) (L : Nat) (m : Mem) (k : Value → Mem → Option β)  : S39 lf cK args L m k = denF Try.prog fsT 0 K39 lf cK 39 args L m k := by kernel_rfl

/-- vitola/blend.Reach -/
def K40 : Kat := [(377, (0, [9, 10, 30])), (48434, (0, [9, 10])), (24569, (0, [6, 7, 63]))]
noncomputable def S40 (lf : Nat) : FnK β := fun call args L m k =>
 uc args fun t0 l1 =>
 uc l1 fun t2 l3 =>
 uc l3 fun t4 l5 =>
 un0 l5 (oRes (abox m t0) fun t6 m7 =>
 oOpt (ldN m7 3 t6) fun t8 =>
 call 76 [t8, t2] L m7 fun t9 m10 =>
 oInt .neq .i64 t9 (.int .i64 (.ofNat 0)) fun t11 =>
 oIf t11 (k (.tuple ⟨[(.int .i64 (.ofNat 0)), (.int .i64 (.ofNat 0)), t9]⟩) m10) (call 65 [t4, (.int .i64 (.ofNat 0)), (.int .i64 (.ofNat 10))] L m10 fun t12 m13 =>
 oOpt (aun .not t12) fun t14 =>
 oIf t14 (k (.tuple ⟨[(.int .i64 (.ofNat 0)), (.int .i64 (.ofNat 0)), (.int .i64 (.ofNat 1))]⟩) m13) (oOpt (fa 0 t6) fun t15 =>
 oOpt (ld1 m13 t15) fun t16 =>
 oOpt (ln t16) fun t17 =>
 loopS (fun j20 l18 m19 =>
 uc l18 fun t21 l22 =>
 uc l22 fun t23 l24 =>
 uc l24 fun t25 l26 =>
 oInt .lss .i64 t25 t17 fun t27 =>
 oIf t27 (oOpt (ia 1 t16 t25) fun t28 =>
 oOpt (ld1 m19 t28) fun t29 =>
 call 48 [t2, t25] L m19 fun t30 m31 =>
 join (fun l32 m33 =>
 uc l32 fun t35 l36 =>
 uc l36 fun t37 l38 =>
 oInt .add .i64 t25 (.int .i64 (.ofNat 1)) fun t39 =>
 j20 [t35, t37, t39] m33) fun j34 =>
 oIf t30 (oRes (bs Try.prog m31 22 1 [(0, t29)]) fun t40 m41 =>
 oRes (aappend Try.prog L m41 22 t21 t40) fun t42 m43 =>
 j34 [t42, t23] m43) (oRes (bs Try.prog m31 22 1 [(0, t29)]) fun t44 m45 =>
 oRes (aappend Try.prog L m45 22 t23 t44) fun t46 m47 =>
 j34 [t21, t46] m47)) (call 55 [t21] L m19 fun t48 m49 =>
 call 55 [t23] L m49 fun t50 m51 =>
 oOpt (ldN m51 3 t6) fun t52 =>
 call 77 [t52, t2] L m51 fun t53 m54 =>
 oOpt (ln t21) fun t55 =>
 oOpt (ln t23) fun t56 =>
 oOpt (abuiltin Try.prog .min #[3, 3, 3] [t4, t55, t56]) fun t57 =>
 loopS (fun j60 l58 m59 =>
 uc l58 fun t61 l62 =>
 uc l62 fun t63 l64 =>
 uc l64 fun t65 l66 =>
 oInt .lss .i64 t65 t57 fun t67 =>
 oIf t67 (oOpt (ia 1 t23 t65) fun t68 =>
 oOpt (ld1 m59 t68) fun t69 =>
 oInt .sub .i64 t55 (.int .i64 (.ofNat 1)) fun t70 =>
 oInt .sub .i64 t70 t65 fun t71 =>
 oOpt (ia 1 t21 t71) fun t72 =>
 oOpt (ld1 m59 t72) fun t73 =>
 oInt .sub .i64 t69 t73 fun t74 =>
 oOpt (abuiltin Try.prog .min #[3, 3] [(.int .i64 (.ofNat 0)), t74]) fun t75 =>
 oInt .add .i64 t61 t75 fun t76 =>
 oInt .sub .i64 t56 (.int .i64 (.ofNat 1)) fun t77 =>
 oInt .sub .i64 t77 t65 fun t78 =>
 oOpt (ia 1 t23 t78) fun t79 =>
 oOpt (ld1 m59 t79) fun t80 =>
 oOpt (ia 1 t21 t65) fun t81 =>
 oOpt (ld1 m59 t81) fun t82 =>
 oInt .sub .i64 t80 t82 fun t83 =>
 oOpt (abuiltin Try.prog .max #[3, 3] [(.int .i64 (.ofNat 0)), t83]) fun t84 =>
 oInt .add .i64 t63 t84 fun t85 =>
 oInt .add .i64 t65 (.int .i64 (.ofNat 1)) fun t86 =>
 j60 [t76, t85, t86] m59) (k (.tuple ⟨[t61, t63, (.int .i64 (.ofNat 0))]⟩) m59)) lf [t53, t53, (.int .i64 (.ofNat 0))] m54)) lf [(.slice none 0 0), (.slice none 0 0), (.int .i64 (.ofNat 0))] m13)))
theorem S40_ok (lf : Nat) (cK : CallK β) (args : List Value) (L : Nat) (m : Mem) (k : Value → Mem → Option β)  : S40 lf cK args L m k = denF Try.prog fsT 0 K40 lf cK 40 args L m k := by kernel_rfl

/-- vitola/vitolaref04.Reach -/
def K41 : Kat := [(43, (1, [22])), (44, (0, [9])), (1529, (0, [10, 11, 13])), (48968, (0, [10, 11]))]
noncomputable def S41 (lf : Nat) : FnK β := fun call args L m k =>
 uc args fun t0 l1 =>
 uc l1 fun t2 l3 =>
 uc l3 fun t4 l5 =>
 un0 l5 (oRes (abox m t0) fun t6 m7 =>
 oOpt (ldN m7 3 t6) fun t8 =>
 call 78 [t8, t2] L m7 fun t9 m10 =>
 oInt .eql .i64 t9 (.int .i64 (.ofNat 0)) fun t11 =>
 join (fun l12 m13 =>
 uc l12 fun t15 l16 =>
 oPick t11 t15 (.bool false) fun t17 =>
 join (fun l18 m19 =>
 uc l18 fun t21 l22 =>
 oInt .neq .i64 t21 (.int .i64 (.ofNat 0)) fun t23 =>
 oIf t23 (k (.tuple ⟨[(.int .i64 (.ofNat 0)), (.int .i64 (.ofNat 0)), t21]⟩) m19) (oOpt (ldN m19 3 t6) fun t24 =>
 call 79 [t24, t2] m19.next m19 fun t25 m26 =>
 oOpt (ldN m26 3 t6) fun t27 =>
 call 79 [t27, t2] L m26 fun t28 m29 =>
 oOpt (fa 0 t6) fun t30 =>
 oOpt (ld1 m29 t30) fun t31 =>
 oOpt (ln t31) fun t32 =>
 oOpt (ln t2) fun t33 =>
 call 62 [t32, t33] L m29 fun t34 m35 =>
 loopS (fun j38 l36 m37 =>
 uc l36 fun t39 l40 =>
 uc l40 fun t41 l42 =>
 uc l42 fun t43 l44 =>
 oOpt (ln t34) fun t45 =>
 oInt .lss .i64 t43 t45 fun t46 =>
 oIf t46 (oOpt (ia 1 t34 t43) fun t47 =>
 oOpt (ld1 m37 t47) fun t48 =>
 call 69 [t48, t2] L m37 fun t49 m50 =>
 oOpt (ln t49) fun t51 =>
 oInt .leq .i64 t51 t4 fun t52 =>
 join (fun l53 m54 =>
 uc l53 fun t56 l57 =>
 uc l57 fun t58 l59 =>
 oInt .add .i64 t43 (.int .i64 (.ofNat 1)) fun t60 =>
 j38 [t56, t58, t60] m54) fun j55 =>
 oIf t52 (oOpt (ldN m50 3 t6) fun t61 =>
 oOpt (ia 1 t34 t43) fun t62 =>
 oOpt (ld1 m50 t62) fun t63 =>
 call 79 [t61, t63] L m50 fun t64 m65 =>
 oOpt (abuiltin Try.prog .min #[3, 3] [t39, t64]) fun t66 =>
 oOpt (ldN m65 3 t6) fun t67 =>
 oOpt (ia 1 t34 t43) fun t68 =>
 oOpt (ld1 m65 t68) fun t69 =>
 call 79 [t67, t69] L m65 fun t70 m71 =>
 oOpt (abuiltin Try.prog .max #[3, 3] [t41, t70]) fun t72 =>
 j55 [t66, t72] m71) (j55 [t39, t41] m50)) (k (.tuple ⟨[t39, t41, (.int .i64 (.ofNat 0))]⟩) m37)) lf [t25, t28, (.int .i64 (.ofNat 0))] m35)) fun j20 =>
 oIf t17 (j20 [(.int .i64 (.ofNat 1))] m13) (j20 [t9] m13)) fun j14 =>
 oGT t11 (call 67 [t4, (.int .i64 (.ofNat 0)), (.int .i64 (.ofNat 10))] L m10 fun t73 m74 =>
 oOpt (aun .not t73) fun t75 =>
 j14 [t75] m74) (j14 [Go.undef] m10))
theorem S41_ok (lf : Nat) (cK : CallK β) (args : List Value) (L : Nat) (m : Mem) (k : Value → Mem → Option β)  : S41 lf cK args L m k = denF Try.prog fsT 0 K41 lf cK 41 args L m k := by kernel_rfl

/-- vitola/vitolalaw04.list -/
def K42 : Kat := []
noncomputable def S42 (lf : Nat) : FnK β := fun call args L m k =>
 uc args fun t0 l1 =>
 un0 l1 (k t0 m)
theorem S42_ok (lf : Nat) (cK : CallK β) (args : List Value) (L : Nat) (m : Mem) (k : Value → Mem → Option β)  : S42 lf cK args L m k = denF Try.prog fsT 0 K42 lf cK 42 args L m k := by kernel_rfl

/-- vitola/vitolalaw04.K -/
def K43 : Kat := []
noncomputable def S43 (lf : Nat) : FnK β := fun call args L m k =>
 un0 args (oRes (anew m 1 [(.slice none 0 0), (.int .i64 (.ofNat 0)), (.int .i64 (.ofNat 0))] ptrTo) fun t0 m1 =>
 oRes (bs Try.prog m1 22 5 [(0, (.int .i64 (.ofNat 5))), (1, (.int .i64 (.ofNat 3))), (2, (.int .i64 (.ofNat 8))), (3, (.int .i64 (.ofNat 2))), (4, (.int .i64 (.ofNat 9)))]) fun t2 m3 =>
 call 42 [t2] L m3 fun t4 m5 =>
 oOpt (bu Try.prog 43 [(0, t4), (1, (.int .i64 (.ofNat 12))), (2, (.int .i64 (.ofNat 14)))]) fun t6 =>
 oRes (st1 3 L m5 t0 t6) fun t7 m8 =>
 oOpt (ldN m8 3 t0) fun t9 =>
 k t9 m8)
theorem S43_ok (lf : Nat) (cK : CallK β) (args : List Value) (L : Nat) (m : Mem) (k : Value → Mem → Option β)  : S43 lf cK args L m k = denF Try.prog fsT 0 K43 lf cK 43 args L m k := by kernel_rfl

/-- vitola/vitolalaw04.blends -/
def K44 : Kat := [(9, (0, [9])), (1330, (0, []))]
noncomputable def S44 (lf : Nat) : FnK β := fun call args L m k =>
 uc args fun t0 l1 =>
 uc l1 fun t2 l3 =>
 uc l3 fun t4 l5 =>
 un0 l5 (oOpt (abin Try.prog .shl 63 (.int .u16 (.ofNat 1)) t0) fun t6 =>
 loopS (fun j9 l7 m8 =>
 uc l7 fun t10 l11 =>
 oInt .lss .u16 t10 t6 fun t12 =>
 oIf t12 (call 84 [t10] L m8 fun t13 m14 =>
 oInt .eql .i64 t13 t2 fun t15 =>
 join (fun l16 m17 =>
 oInt .add .u16 t10 (.int .u16 (.ofNat 1)) fun t19 =>
 j9 [t19] m17) fun j18 =>
 oIf t15 (call 85 [t10, t0] L m14 fun t20 m21 =>
 oCallV call t4 [t20] L m21 fun t22 m23 =>
 j18 [] m23) (j18 [] m14)) (k (.tuple ⟨[]⟩) m8)) lf [(.int .u16 (.ofNat 0))] m)
theorem S44_ok (lf : Nat) (cK : CallK β) (args : List Value) (L : Nat) (m : Mem) (k : Value → Mem → Option β)  : S44 lf cK args L m k = denF Try.prog fsT 0 K44 lf cK 44 args L m k := by kernel_rfl

/-- vitola/vitolalaw04.BlendDoor$1 -/
def K45 : Kat := []
noncomputable def S45 (lf : Nat) : FnK β := fun call args L m k =>
 uc args fun t0 l1 =>
 uc l1 fun t2 l3 =>
 un0 l3 (oOpt (ld1 m t2) fun t4 =>
 oInt .add .i64 t4 (.int .i64 (.ofNat 1)) fun t5 =>
 oRes (st1 1 L m t2 t5) fun t6 m7 =>
 k (.tuple ⟨[]⟩) m7)
theorem S45_ok (lf : Nat) (cK : CallK β) (args : List Value) (L : Nat) (m : Mem) (k : Value → Mem → Option β)  : S45 lf cK args L m k = denF Try.prog fsT 0 K45 lf cK 45 args L m k := by kernel_rfl

/-- vitola/vitolalaw04.valid -/
def K46 : Kat := [(41, (0, [11])), (5425, (1, [21])), (5425, (3, [26])), (5425, (4, [33])), (5425, (5, [34]))]
noncomputable def S46 (lf : Nat) : FnK β := fun call args L m k =>
 uc args fun t0 l1 =>
 uc l1 fun t2 l3 =>
 uc l3 fun t4 l5 =>
 un0 l5 (oOpt (ln t0) fun t6 =>
 loopS (fun j9 l7 m8 =>
 uc l7 fun t10 l11 =>
 oInt .lss .i64 t10 t6 fun t12 =>
 oIf t12 (oOpt (ia 1 t0 t10) fun t13 =>
 oOpt (ld1 m8 t13) fun t14 =>
 oInt .lss .i64 t14 (.int .i64 (.ofNat 0)) fun t15 =>
 join (fun l16 m17 =>
 uc l16 fun t19 l20 =>
 oPick t15 (.bool true) t19 fun t21 =>
 join (fun l22 m23 =>
 uc l22 fun t25 l26 =>
 join (fun l27 m28 =>
 uc l27 fun t30 l31 =>
 join (fun l32 m33 =>
 uc l32 fun t35 l36 =>
 oPick t21 (.bool true) t35 fun t37 =>
 oIf t37 (k (.bool false) m33) (oInt .add .i64 t10 (.int .i64 (.ofNat 1)) fun t38 =>
 j9 [t38] m33)) fun j34 =>
 oGF t21 (oPick t25 t30 (.bool false) fun t39 =>
 j34 [t39] m28) (j34 [Go.undef] m28)) fun j29 =>
 oGT t25 (oInt .sub .i64 t10 (.int .i64 (.ofNat 1)) fun t40 =>
 oOpt (ia 1 t0 t40) fun t41 =>
 oOpt (ld1 m23 t41) fun t42 =>
 oInt .leq .i64 t14 t42 fun t43 =>
 j29 [t43] m23) (j29 [Go.undef] m23)) fun j24 =>
 oGF t21 (oInt .gtr .i64 t10 (.int .i64 (.ofNat 0)) fun t44 =>
 j24 [t44] m17) (j24 [Go.undef] m17)) fun j18 =>
 oGF t15 (oInt .geq .i64 t14 t2 fun t45 =>
 j18 [t45] m8) (j18 [Go.undef] m8)) (oOpt (ln t0) fun t46 =>
 oInt .eql .i64 t46 t4 fun t47 =>
 k t47 m8)) lf [(.int .i64 (.ofNat 0))] m)
theorem S46_ok (lf : Nat) (cK : CallK β) (args : List Value) (L : Nat) (m : Mem) (k : Value → Mem → Option β)  : S46 lf cK args L m k = denF Try.prog fsT 0 K46 lf cK 46 args L m k := by kernel_rfl

/-- vitola/vitolalaw04.apart -/
def K47 : Kat := [(89, (0, [5, 10])), (11570, (0, [5]))]
noncomputable def S47 (lf : Nat) : FnK β := fun call args L m k =>
 uc args fun t0 l1 =>
 uc l1 fun t2 l3 =>
 un0 l3 (oOpt (ln t0) fun t4 =>
 loopS (fun j7 l5 m6 =>
 uc l5 fun t8 l9 =>
 uc l9 fun t10 l11 =>
 oInt .lss .i64 t10 t4 fun t12 =>
 oIf t12 (oOpt (ia 1 t0 t10) fun t13 =>
 oOpt (ld1 m6 t13) fun t14 =>
 call 48 [t2, t14] L m6 fun t15 m16 =>
 oOpt (aun .not t15) fun t17 =>
 join (fun l18 m19 =>
 uc l18 fun t21 l22 =>
 oInt .add .i64 t10 (.int .i64 (.ofNat 1)) fun t23 =>
 j7 [t21, t23] m19) fun j20 =>
 oIf t17 (oInt .add .i64 t8 (.int .i64 (.ofNat 1)) fun t24 =>
 j20 [t24] m16) (j20 [t8] m16)) (k t8 m6)) lf [(.int .i64 (.ofNat 0)), (.int .i64 (.ofNat 0))] m)
theorem S47_ok (lf : Nat) (cK : CallK β) (args : List Value) (L : Nat) (m : Mem) (k : Value → Mem → Option β)  : S47 lf cK args L m k = denF Try.prog fsT 0 K47 lf cK 47 args L m k := by kernel_rfl

/-- slices.Contains[[]int,int] -/
def K48 : Kat := []
noncomputable def S48 (lf : Nat) : FnK β := fun call args L m k =>
 uc args fun t0 l1 =>
 uc l1 fun t2 l3 =>
 un0 l3 (call 74 [t0, t2] L m fun t4 m5 =>
 oInt .geq .i64 t4 (.int .i64 (.ofNat 0)) fun t6 =>
 k t6 m5)
theorem S48_ok (lf : Nat) (cK : CallK β) (args : List Value) (L : Nat) (m : Mem) (k : Value → Mem → Option β)  : S48 lf cK args L m k = denF Try.prog fsT 0 K48 lf cK 48 args L m k := by kernel_rfl

/-- vitola/vitolalaw04.chosen -/
def K49 : Kat := [(89, (0, [7, 13])), (185, (0, [8, 7, 22]))]
noncomputable def S49 (lf : Nat) : FnK β := fun call args L m k =>
 uc args fun t0 l1 =>
 uc l1 fun t2 l3 =>
 uc l3 fun t4 l5 =>
 un0 l5 (oRes (abox m t0) fun t6 m7 =>
 loopS (fun j10 l8 m9 =>
 uc l8 fun t11 l12 =>
 uc l12 fun t13 l14 =>
 oInt .lss .i64 t13 t2 fun t15 =>
 oIf t15 (oRes (bs Try.prog m9 22 1 [(0, t13)]) fun t16 m17 =>
 oRes (aappend Try.prog L m17 22 t11 t16) fun t18 m19 =>
 oInt .add .i64 t13 (.int .i64 (.ofNat 1)) fun t20 =>
 j10 [t18, t20] m19) (loopS (fun j23 l21 m22 =>
 uc l21 fun t24 l25 =>
 uc l25 fun t26 l27 =>
 uc l27 fun t28 l29 =>
 oInt .lss .i64 t28 t4 fun t30 =>
 oIf t30 (oOpt (iaA 10 1 t6 t28) fun t31 =>
 oOpt (ld1 m22 t31) fun t32 =>
 oCv .i64 t32 fun t33 =>
 oOpt (ln t26) fun t34 =>
 oInt .rem .i64 t33 t34 fun t35 =>
 oOpt (ia 1 t26 t35) fun t36 =>
 oOpt (ld1 m22 t36) fun t37 =>
 oRes (bs Try.prog m22 22 1 [(0, t37)]) fun t38 m39 =>
 oRes (aappend Try.prog L m39 22 t24 t38) fun t40 m41 =>
 oInt .add .i64 t35 (.int .i64 (.ofNat 1)) fun t42 =>
 call 53 [t26, t35, t42] L m41 fun t43 m44 =>
 oInt .add .i64 t28 (.int .i64 (.ofNat 1)) fun t45 =>
 j23 [t40, t43, t45] m44) (call 55 [t24] L m22 fun t46 m47 =>
 k t24 m47)) lf [(.slice none 0 0), t11, (.int .i64 (.ofNat 0))] m9)) lf [(.slice none 0 0), (.int .i64 (.ofNat 0))] m7)
theorem S49_ok (lf : Nat) (cK : CallK β) (args : List Value) (L : Nat) (m : Mem) (k : Value → Mem → Option β)  : S49 lf cK args L m k = denF Try.prog fsT 0 K49 lf cK 49 args L m k := by kernel_rfl

/-- vitola/vitolalaw04.out1 -/
def K50 : Kat := []
noncomputable def S50 (lf : Nat) : FnK β := fun call args L m k =>
 uc args fun t0 l1 =>
 un0 l1 (oOpt (ln t0) fun t2 =>
 oInt .eql .i64 t2 (.int .i64 (.ofNat 0)) fun t3 =>
 oIf t3 (k (.int .i64 (.negSucc 0)) m) (oOpt (ia 1 t0 (.int .i64 (.ofNat 0))) fun t4 =>
 oOpt (ld1 m t4) fun t5 =>
 k t5 m))
theorem S50_ok (lf : Nat) (cK : CallK β) (args : List Value) (L : Nat) (m : Mem) (k : Value → Mem → Option β)  : S50 lf cK args L m k = denF Try.prog fsT 0 K50 lf cK 50 args L m k := by kernel_rfl

/-- vitola/vitolalaw04.BlendMetric$1 -/
def K51 : Kat := [(89, (0, [4, 7])), (11570, (0, [4]))]
noncomputable def S51 (lf : Nat) : FnK β := fun call args L m k =>
 uc args fun t0 l1 =>
 uc l1 fun t2 l3 =>
 un0 l3 (oOpt (ld1 m t2) fun t4 =>
 loopS (fun j7 l5 m6 =>
 uc l5 fun t8 l9 =>
 uc l9 fun t10 l11 =>
 oInt .lss .i64 t10 t4 fun t12 =>
 oIf t12 (call 48 [t0, t10] L m6 fun t13 m14 =>
 oOpt (aun .not t13) fun t15 =>
 join (fun l16 m17 =>
 uc l16 fun t19 l20 =>
 oInt .add .i64 t10 (.int .i64 (.ofNat 1)) fun t21 =>
 j7 [t19, t21] m17) fun j18 =>
 oIf t15 (oRes (bs Try.prog m14 22 1 [(0, t10)]) fun t22 m23 =>
 oRes (aappend Try.prog L m23 22 t8 t22) fun t24 m25 =>
 j18 [t24] m25) (j18 [t8] m14)) (k t8 m6)) lf [(.slice none 0 0), (.int .i64 (.ofNat 0))] m)
theorem S51_ok (lf : Nat) (cK : CallK β) (args : List Value) (L : Nat) (m : Mem) (k : Value → Mem → Option β)  : S51 lf cK args L m k = denF Try.prog fsT 0 K51 lf cK 51 args L m k := by kernel_rfl

/-- (vitola/vitolalaw04.Mix).made -/
def K52 : Kat := [(89, (0, [17]))]
noncomputable def S52 (lf : Nat) : FnK β := fun call args L m k =>
 uc args fun t0 l1 =>
 uc l1 fun t2 l3 =>
 un0 l3 (oRes (abox m t0) fun t4 m5 =>
 oRes (anew m5 1 [(.slice none 0 0), (.int .i64 (.ofNat 0)), (.int .i64 (.ofNat 0))] ptrTo) fun t6 m7 =>
 oRes (anew m7 1 [(.slice none 0 0), (.int .i64 (.ofNat 0)), (.int .i64 (.ofNat 0))] ptrTo) fun t8 m9 =>
 oOpt (fa 1 t4) fun t10 =>
 oOpt (fa 0 t4) fun t11 =>
 oOpt (ld1 m9 t11) fun t12 =>
 oCv .i64 t12 fun t13 =>
 oInt .rem .i64 t13 t2 fun t14 =>
 oInt .add .i64 (.int .i64 (.ofNat 1)) t14 fun t15 =>
 oOpt (sl Try.prog 67 t10 none (some t15) none) fun t16 =>
 oOpt (ln t16) fun t17 =>
 loopS (fun j20 l18 m19 =>
 uc l18 fun t21 l22 =>
 oInt .lss .i64 t21 t17 fun t23 =>
 oIf t23 (oOpt (ia 1 t16 t21) fun t24 =>
 oOpt (ld1 m19 t24) fun t25 =>
 oOpt (fa 0 t8) fun t26 =>
 oOpt (ld1 m19 t26) fun t27 =>
 oCv .i64 t25 fun t28 =>
 oInt .rem .i64 t28 (.int .i64 (.ofNat 51)) fun t29 =>
 oRes (bs Try.prog m19 22 1 [(0, t29)]) fun t30 m31 =>
 oRes (aappend Try.prog L m31 22 t27 t30) fun t32 m33 =>
 oOpt (fa 0 t8) fun t34 =>
 oRes (st1 1 L m33 t34 t32) fun t35 m36 =>
 oInt .add .i64 t21 (.int .i64 (.ofNat 1)) fun t37 =>
 j20 [t37] m36) (oOpt (fa 11 t4) fun t38 =>
 oOpt (ld1 m19 t38) fun t39 =>
 oCv .i64 t39 fun t40 =>
 oInt .rem .i64 t40 (.int .i64 (.ofNat 260)) fun t41 =>
 oInt .sub .i64 t41 (.int .i64 (.ofNat 5)) fun t42 =>
 oOpt (fa 1 t8) fun t43 =>
 oRes (st1 1 L m19 t43 t42) fun t44 m45 =>
 oOpt (fa 1 t8) fun t46 =>
 oOpt (ld1 m45 t46) fun t47 =>
 oOpt (fa 12 t4) fun t48 =>
 oOpt (ld1 m45 t48) fun t49 =>
 oCv .i64 t49 fun t50 =>
 oInt .rem .i64 t50 (.int .i64 (.ofNat 60)) fun t51 =>
 oInt .add .i64 t47 t51 fun t52 =>
 oOpt (fa 2 t8) fun t53 =>
 oRes (st1 1 L m45 t53 t52) fun t54 m55 =>
 oOpt (ldN m55 3 t8) fun t56 =>
 oRes (st1 3 L m55 t6 t56) fun t57 m58 =>
 oOpt (ldN m58 3 t6) fun t59 =>
 k t59 m58)) lf [(.int .i64 (.ofNat 0))] m9)
theorem S52_ok (lf : Nat) (cK : CallK β) (args : List Value) (L : Nat) (m : Mem) (k : Value → Mem → Option β)  : S52 lf cK args L m k = denF Try.prog fsT 0 K52 lf cK 52 args L m k := by kernel_rfl

/-- slices.Delete[[]int,int] -/
def K53 : Kat := []
noncomputable def S53 (lf : Nat) : FnK β := fun call args L m k =>
 uc args fun t0 l1 =>
 uc l1 fun t2 l3 =>
 uc l3 fun t4 l5 =>
 un0 l5 (oOpt (ln t0) fun t6 =>
 oOpt (sl Try.prog 22 t0 (some t2) (some t4) (some t6)) fun t7 =>
 oInt .eql .i64 t2 t4 fun t8 =>
 oIf t8 (k t0 m) (oOpt (ln t0) fun t9 =>
 oOpt (sl Try.prog 22 t0 none (some t2) none) fun t10 =>
 oOpt (sl Try.prog 22 t0 (some t4) none none) fun t11 =>
 oRes (aappend Try.prog L m 22 t10 t11) fun t12 m13 =>
 oOpt (ln t12) fun t14 =>
 oOpt (sl Try.prog 22 t12 (some t14) (some t9) none) fun t15 =>
 oRes (aclear Try.prog L m13 22 t15) fun t16 m17 =>
 k t12 m17))
theorem S53_ok (lf : Nat) (cK : CallK β) (args : List Value) (L : Nat) (m : Mem) (k : Value → Mem → Option β)  : S53 lf cK args L m k = denF Try.prog fsT 0 K53 lf cK 53 args L m k := by kernel_rfl

/-- vitola/vitolalaw04.BlendNamed$1 -/
def K54 : Kat := [(89, (0, [4, 9]))]
noncomputable def S54 (lf : Nat) : FnK β := fun call args L m k =>
 uc args fun t0 l1 =>
 uc l1 fun t2 l3 =>
 un0 l3 (oOpt (ln t0) fun t4 =>
 loopS (fun j7 l5 m6 =>
 uc l5 fun t8 l9 =>
 uc l9 fun t10 l11 =>
 oInt .lss .i64 t10 t4 fun t12 =>
 oIf t12 (oOpt (ia 1 t0 t10) fun t13 =>
 oOpt (ld1 m6 t13) fun t14 =>
 oOpt (ld1 m6 t2) fun t15 =>
 oOpt (ia 1 t15 t14) fun t16 =>
 oOpt (ld1 m6 t16) fun t17 =>
 oRes (bs Try.prog m6 22 1 [(0, t17)]) fun t18 m19 =>
 oRes (aappend Try.prog L m19 22 t8 t18) fun t20 m21 =>
 oInt .add .i64 t10 (.int .i64 (.ofNat 1)) fun t22 =>
 j7 [t20, t22] m21) (call 55 [t8] L m6 fun t23 m24 =>
 k t8 m24)) lf [(.slice none 0 0), (.int .i64 (.ofNat 0))] m)
theorem S54_ok (lf : Nat) (cK : CallK β) (args : List Value) (L : Nat) (m : Mem) (k : Value → Mem → Option β)  : S54 lf cK args L m k = denF Try.prog fsT 0 K54 lf cK 54 args L m k := by kernel_rfl


/-- vitola/vitolalaw04.BlendFound$1 -/
def K56 : Kat := [(20, (0, [])), (43, (1, [35])), (93, (1, [46])), (93, (2, [50])), (93, (3, [51])), (94, (0, []))]
noncomputable def S56 (lf : Nat) : FnK β := fun call args L m k =>
 uc args fun t0 l1 =>
 uc l1 fun t2 l3 =>
 uc l3 fun t4 l5 =>
 uc l5 fun t6 l7 =>
 uc l7 fun t8 l9 =>
 uc l9 fun t10 l11 =>
 uc l11 fun t12 l13 =>
 uc l13 fun t14 l15 =>
 uc l15 fun t16 l17 =>
 un0 l17 (oOpt (ldN m 3 t2) fun t18 =>
 call 57 [t18, t0] m.next m fun t19 m20 =>
 oOpt (ld1 m20 t4) fun t21 =>
 call 47 [t0, t21] L m20 fun t22 m23 =>
 oOpt (ld1 m23 t6) fun t24 =>
 oInt .leq .i64 t22 t24 fun t25 =>
 join (fun l26 m27 =>
 oOpt (fa 1 t2) fun t29 =>
 oOpt (ld1 m27 t29) fun t30 =>
 oInt .lss .i64 t19 t30 fun t31 =>
 join (fun l32 m33 =>
 uc l32 fun t35 l36 =>
 oPick t31 (.bool true) t35 fun t37 =>
 oIf t37 (k (.tuple ⟨[]⟩) m33) (oOpt (ld1 m33 t12) fun t38 =>
 oInt .add .i64 t38 (.int .i64 (.ofNat 1)) fun t39 =>
 oRes (st1 1 L m33 t12 t39) fun t40 m41 =>
 oOpt (ld1 m41 t14) fun t42 =>
 oInt .lss .i64 t22 t42 fun t43 =>
 join (fun l44 m45 =>
 uc l44 fun t47 l48 =>
 join (fun l49 m50 =>
 uc l49 fun t52 l53 =>
 join (fun l54 m55 =>
 uc l54 fun t57 l58 =>
 oPick t43 (.bool true) t57 fun t59 =>
 join (fun l60 m61 =>
 k (.tuple ⟨[]⟩) m61) fun j62 =>
 oIf t59 (oRes (st1 1 L m55 t16 t0) fun t63 m64 =>
 oRes (st1 1 L m64 t14 t22) fun t65 m66 =>
 j62 [] m66) (j62 [] m55)) fun j56 =>
 oGF t43 (oPick t47 t52 (.bool false) fun t67 =>
 j56 [t67] m50) (j56 [Go.undef] m50)) fun j51 =>
 oGT t47 (oOpt (ld1 m45 t16) fun t68 =>
 call 58 [t0, t68] L m45 fun t69 m70 =>
 oInt .lss .i64 t69 (.int .i64 (.ofNat 0)) fun t71 =>
 j51 [t71] m70) (j51 [Go.undef] m45)) fun j46 =>
 oGF t43 (oOpt (ld1 m41 t14) fun t72 =>
 oInt .eql .i64 t22 t72 fun t73 =>
 j46 [t73] m41) (j46 [Go.undef] m41))) fun j34 =>
 oGF t31 (oOpt (fa 2 t2) fun t74 =>
 oOpt (ld1 m27 t74) fun t75 =>
 oInt .gtr .i64 t19 t75 fun t76 =>
 j34 [t76] m27) (j34 [Go.undef] m27)) fun j28 =>
 oIf t25 (oOpt (ld1 m23 t8) fun t77 =>
 oOpt (abuiltin Try.prog .min #[3, 3] [t77, t19]) fun t78 =>
 oOpt (ld1 m23 t10) fun t79 =>
 oOpt (abuiltin Try.prog .max #[3, 3] [t79, t19]) fun t80 =>
 oRes (st1 1 L m23 t8 t78) fun t81 m82 =>
 oSm m23 m82 t10 (
 oRes (st1 1 L m82 t10 t80) fun t83 m84 =>
 j28 [] m84)) (j28 [] m23))
theorem S56_ok (lf : Nat) (cK : CallK β) (args : List Value) (L : Nat) (m : Mem) (k : Value → Mem → Option β)  : S56 lf cK args L m k = denF Try.prog fsT 0 K56 lf cK 56 args L m k := by kernel_rfl

end
end Go.Vit
