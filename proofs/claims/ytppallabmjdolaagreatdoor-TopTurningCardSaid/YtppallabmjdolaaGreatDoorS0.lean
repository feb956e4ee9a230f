/- Shallow texts of the seat's functions, printed by a program: part 0. -/
import Derived.Test.YtppallabmjdolaaGreatDoorRows
import Derived.Test.YtppallabmjdolaaGreatDoorFs
set_option linter.unusedVariables false
set_option maxRecDepth 100000
namespace Go.Vit
open Go Go.Proofs
section
variable {β : Type}
/-- vitola/vitolatop.TopKeys: the general reading itself -/
def K3 : Kat := [(6139, (1, [79])), (6139, (3, [83])), (6139, (5, [87])), (6139, (7, [91])), (6139, (9, [95])), (6139, (11, [101])), (6139, (13, [108])), (6139, (15, [114])), (6139, (17, [121])), (49145, (0, [129])), (25162955, (1, [151])), (100651837, (1, [172])), (100651837, (3, [175])), (100651837, (5, [179]))]
noncomputable def S3 (lf : Nat) : FnK β := fun cK args L m k => denF Tryz.prog fsT 2 K3 lf cK 3 args L m k
theorem S3_ok (lf : Nat) (cK : CallK β) (args : List Value) (L : Nat) (m : Mem) (k : Value → Mem → Option β)  : S3 lf cK args L m k = denF Tryz.prog fsT 2 K3 lf cK 3 args L m k := rfl

/-- vitola/vitolatop.TopHitting: the general reading itself -/
def K4 : Kat := [(185, (0, [7, 32])), (1527033, (0, [11, 12])), (377, (0, [74])), (193741, (1, [93])), (193741, (3, [98])), (193741, (4, [100])), (193741, (5, [101])), (3067, (1, [123])), (3067, (3, [127])), (3067, (5, [132])), (3067, (7, [139])), (49145, (0, [23, 24, 143])), (25162957, (1, [162])), (25162957, (2, [166])), (25162957, (3, [167])), (25162958, (0, [23, 24])), (24573, (1, [175])), (24573, (3, [178]))]
noncomputable def S4 (lf : Nat) : FnK β := fun cK args L m k => denF Tryz.prog fsT 2 K4 lf cK 4 args L m k
theorem S4_ok (lf : Nat) (cK : CallK β) (args : List Value) (L : Nat) (m : Mem) (k : Value → Mem → Option β)  : S4 lf cK args L m k = denF Tryz.prog fsT 2 K4 lf cK 4 args L m k := rfl

/-- vitola/vitolatop.TopGapped -/
def K5 : Kat := [(187, (1, [38])), (3065, (0, [11, 12, 48])), (784998, (0, [12])), (3068, (0, [12])), (12285, (1, [86])), (12285, (3, [91])), (12285, (5, [96])), (12285, (7, [99]))]
noncomputable def S5 (lf : Nat) : FnK β := fun call args L m k =>
 uc args fun t0 l1 =>
 uc l1 fun t2 l3 =>
 uc l3 fun t4 l5 =>
 un0 l5 (call 26 [t0, t2, t4, (.int .i64 (.ofNat 60))] L m fun t6 m7 =>
 oRes (anew m7 1 [(.int .i64 (.ofNat 0)), (.int .i64 (.ofNat 0)), (.int .i64 (.ofNat 0))] ptrTo) fun t8 m9 =>
 oRes (st1 3 L m9 t8 t6) fun t10 m11 =>
 oOpt (fa 2 t8) fun t12 =>
 oOpt (ld1 m11 t12) fun t13 =>
 oOpt (abuiltin Tryz.prog .min #[3, 3] [t13, (.int .i64 (.ofNat 7))]) fun t14 =>
 oOpt (fa 2 t8) fun t15 =>
 oRes (st1 1 L m11 t15 t14) fun t16 m17 =>
 oOpt (ldN m17 3 t8) fun t18 =>
 call 27 [t18] L m17 fun t19 m20 =>
 oOpt (aextract t19 0) fun t21 =>
 oOpt (aextract t19 1) fun t22 =>
 oInt .neq .i64 t22 (.int .i64 (.ofNat 0)) fun t23 =>
 join (fun l24 m25 =>
 uc l24 fun t27 l28 =>
 oPick t23 (.bool true) t27 fun t29 =>
 oIf t29 (k (.bool false) m25) (oOpt (ldN m25 3 t8) fun t30 =>
 call 28 [t30] L m25 fun t31 m32 =>
 oOpt (ln t21) fun t33 =>
 oInt .sub .i64 t33 (.int .i64 (.ofNat 1)) fun t34 =>
 oOpt (sl Tryz.prog 22 t21 none (some t34) none) fun t35 =>
 oOpt (ln t35) fun t36 =>
 loopS (fun j39 l37 m38 =>
 uc l37 fun t40 l41 =>
 uc l41 fun t42 l43 =>
 uc l43 fun t44 l45 =>
 oInt .lss .i64 t44 t36 fun t46 =>
 oIf t46 (oOpt (ia 1 t35 t44) fun t47 =>
 oOpt (ld1 m38 t47) fun t48 =>
 oOpt (abuiltin Tryz.prog .max #[3, 3] [t40, t48]) fun t49 =>
 oInt .gtr .i64 t44 (.int .i64 (.ofNat 0)) fun t50 =>
 join (fun l51 m52 =>
 uc l51 fun t54 l55 =>
 oInt .add .i64 t44 (.int .i64 (.ofNat 1)) fun t56 =>
 j39 [t49, t54, t56] m52) fun j53 =>
 oIf t50 (oInt .sub .i64 t44 (.int .i64 (.ofNat 1)) fun t57 =>
 oOpt (ia 1 t21 t57) fun t58 =>
 oOpt (ld1 m38 t58) fun t59 =>
 oInt .add .i64 t48 t59 fun t60 =>
 oOpt (abuiltin Tryz.prog .max #[3, 3] [t42, t60]) fun t61 =>
 j53 [t61] m38) (j53 [t42] m38)) (oOpt (fa 2 t8) fun t62 =>
 oOpt (ld1 m38 t62) fun t63 =>
 oInt .eql .i64 t63 (.int .i64 (.ofNat 2)) fun t64 =>
 join (fun l65 m66 =>
 uc l65 fun t68 l69 =>
 call 29 [t31, (.bool false)] L m66 fun t70 m71 =>
 oOpt (aextract t70 0) fun t72 =>
 oOpt (aextract t70 1) fun t73 =>
 call 29 [t31, (.bool true)] L m71 fun t74 m75 =>
 oOpt (aextract t74 0) fun t76 =>
 oOpt (aextract t74 1) fun t77 =>
 oInt .eql .i64 t73 (.int .i64 (.ofNat 0)) fun t78 =>
 join (fun l79 m80 =>
 uc l79 fun t82 l83 =>
 oPick t78 t82 (.bool false) fun t84 =>
 join (fun l85 m86 =>
 uc l85 fun t88 l89 =>
 oPick t84 t88 (.bool false) fun t90 =>
 join (fun l91 m92 =>
 uc l91 fun t94 l95 =>
 oPick t90 t94 (.bool false) fun t96 =>
 join (fun l97 m98 =>
 uc l97 fun t100 l101 =>
 oPick t96 t100 (.bool false) fun t102 =>
 k t102 m98) fun j99 =>
 oGT t96 (call 30 [] L m92 fun t103 m104 =>
 j99 [t103] m104) (j99 [Go.undef] m92)) fun j93 =>
 oGT t90 (oInt .eql .i64 t76 t68 fun t105 =>
 j93 [t105] m86) (j93 [Go.undef] m86)) fun j87 =>
 oGT t84 (oInt .eql .i64 t72 t40 fun t106 =>
 j87 [t106] m80) (j87 [Go.undef] m80)) fun j81 =>
 oGT t78 (oInt .eql .i64 t77 (.int .i64 (.ofNat 0)) fun t107 =>
 j81 [t107] m75) (j81 [Go.undef] m75)) fun j67 =>
 oIf t64 (j67 [t40] m38) (j67 [t42] m38))) lf [(.int .i64 (.ofNat 0)), (.int .i64 (.ofNat 0)), (.int .i64 (.ofNat 0))] m32)) fun j26 =>
 oGF t23 (oOpt (ln t21) fun t108 =>
 oOpt (fa 2 t8) fun t109 =>
 oOpt (ld1 m20 t109) fun t110 =>
 oInt .neq .i64 t108 t110 fun t111 =>
 j26 [t111] m20) (j26 [Go.undef] m20))
theorem S5_ok (lf : Nat) (cK : CallK β) (args : List Value) (L : Nat) (m : Mem) (k : Value → Mem → Option β)  : S5 lf cK args L m k = denF Tryz.prog fsT 2 K5 lf cK 5 args L m k := by kernel_rfl

/-- vitola/vitolatop.TopReached: the general reading itself -/
def K6 : Kat := [(761, (0, [51])), (390350, (0, [])), (12283, (1, [103])), (12283, (3, [107])), (12283, (5, [111])), (12283, (7, [116])), (196601, (0, [20, 21, 120])), (100660429, (1, [138])), (100660429, (2, [142])), (100660429, (3, [143])), (100660430, (0, [20, 21])), (196603, (1, [153])), (786425, (0, [25])), (402650265, (0, [27, 171])), (25769617048, (1, [181])), (805300539, (1, [192])), (805300539, (3, [196])), (805300539, (4, [198])), (805300539, (5, [199])), (805300539, (7, [204])), (805300539, (8, [206])), (805300539, (9, [207])), (805300542, (0, [])), (6442404345, (0, [31])), (393213, (1, [233]))]
noncomputable def S6 (lf : Nat) : FnK β := fun cK args L m k => denF Tryz.prog fsT 2 K6 lf cK 6 args L m k
theorem S6_ok (lf : Nat) (cK : CallK β) (args : List Value) (L : Nat) (m : Mem) (k : Value → Mem → Option β)  : S6 lf cK args L m k = denF Tryz.prog fsT 2 K6 lf cK 6 args L m k := rfl

/-- vitola/vitolatop.TopCovered: the general reading itself -/
def K7 : Kat := [(187, (1, [46])), (6139, (1, [70])), (6139, (3, [74])), (6139, (5, [80])), (98297, (0, [16, 83])), (25164389, (0, [16, 87])), (6442083941, (0, [16, 91])), (1649173489253, (1, [110])), (1649173489254, (0, [16])), (196601, (0, [119])), (100660425, (0, [126])), (12884534577, (1, [137])), (100660429, (0, [142])), (12884535089, (1, [155])), (196605, (1, [169])), (196605, (3, [172]))]
noncomputable def S7 (lf : Nat) : FnK β := fun cK args L m k => denF Tryz.prog fsT 2 K7 lf cK 7 args L m k
theorem S7_ok (lf : Nat) (cK : CallK β) (args : List Value) (L : Nat) (m : Mem) (k : Value → Mem → Option β)  : S7 lf cK args L m k = denF Tryz.prog fsT 2 K7 lf cK 7 args L m k := rfl

/-- vitola/vitolatop.TopTurning -/
def K8 : Kat := [(91, (1, [35])), (763, (1, [55])), (763, (3, [59])), (763, (5, [65])), (6137, (0, [11, 12])), (24571, (1, [89])), (24571, (3, [94])), (196603, (1, [110])), (196603, (3, [116])), (1572857, (0, [19, 120])), (786429, (1, [132]))]
noncomputable def S8 (lf : Nat) : FnK β := fun call args L m k =>
 uc args fun t0 l1 =>
 uc l1 fun t2 l3 =>
 un0 l3 (oCv .i64 t0 fun t4 =>
 oInt .rem .i64 t4 (.int .i64 (.ofNat 7)) fun t5 =>
 oInt .add .i64 (.int .i64 (.ofNat 1)) t5 fun t6 =>
 call 47 [t6] L m fun t7 m8 =>
 oOpt (aextract t7 0) fun t9 =>
 oOpt (aextract t7 1) fun t10 =>
 oInt .neq .i64 t10 (.int .i64 (.ofNat 0)) fun t11 =>
 join (fun l12 m13 =>
 uc l12 fun t15 l16 =>
 oPick t11 (.bool true) t15 fun t17 =>
 oIf t17 (k (.bool false) m13) (oCv .i64 t2 fun t18 =>
 oInt .rem .i64 t18 t9 fun t19 =>
 call 48 [t6, t19] L m13 fun t20 m21 =>
 oOpt (aextract t20 0) fun t22 =>
 oOpt (aextract t20 1) fun t23 =>
 call 49 [t22] L m21 fun t24 m25 =>
 oOpt (aextract t24 0) fun t26 =>
 oOpt (aextract t24 1) fun t27 =>
 oInt .neq .i64 t23 (.int .i64 (.ofNat 0)) fun t28 =>
 join (fun l29 m30 =>
 uc l29 fun t32 l33 =>
 oPick t28 (.bool true) t32 fun t34 =>
 join (fun l35 m36 =>
 uc l35 fun t38 l39 =>
 oPick t34 (.bool true) t38 fun t40 =>
 join (fun l41 m42 =>
 uc l41 fun t44 l45 =>
 oPick t40 (.bool true) t44 fun t46 =>
 oIf t46 (k (.bool false) m42) (loopS (fun j49 l47 m48 =>
 uc l47 fun t50 l51 =>
 uc l51 fun t52 l53 =>
 oInt .lss .i64 t52 t6 fun t54 =>
 oIf t54 (oInt .add .i64 t50 t52 fun t55 =>
 oInt .add .i64 t52 (.int .i64 (.ofNat 2)) fun t56 =>
 j49 [t55, t56] m48) (call 50 [t22] L m48 fun t57 m58 =>
 oOpt (aextract t57 0) fun t59 =>
 oOpt (aextract t57 1) fun t60 =>
 call 51 [t22] L m58 fun t61 m62 =>
 oOpt (aextract t61 0) fun t63 =>
 oOpt (aextract t61 1) fun t64 =>
 oInt .neq .i64 t60 (.int .i64 (.ofNat 0)) fun t65 =>
 join (fun l66 m67 =>
 uc l66 fun t69 l70 =>
 oPick t65 (.bool true) t69 fun t71 =>
 join (fun l72 m73 =>
 uc l72 fun t75 l76 =>
 oPick t71 (.bool true) t75 fun t77 =>
 oIf t77 (k (.bool false) m73) (call 52 [t63] L m73 fun t78 m79 =>
 oOpt (aextract t78 0) fun t80 =>
 oOpt (aextract t78 1) fun t81 =>
 call 53 [t63] L m79 fun t82 m83 =>
 oOpt (aextract t82 0) fun t84 =>
 oOpt (aextract t82 1) fun t85 =>
 oInt .neq .i64 t81 (.int .i64 (.ofNat 0)) fun t86 =>
 join (fun l87 m88 =>
 uc l87 fun t90 l91 =>
 oPick t86 (.bool true) t90 fun t92 =>
 join (fun l93 m94 =>
 uc l93 fun t96 l97 =>
 oPick t92 (.bool true) t96 fun t98 =>
 oIf t98 (k (.bool false) m94) (oOpt (ln t80) fun t99 =>
 loopS (fun j102 l100 m101 =>
 uc l100 fun t103 l104 =>
 uc l104 fun t105 l106 =>
 oInt .lss .i64 t105 t99 fun t107 =>
 oIf t107 (oOpt (ia 1 t80 t105) fun t108 =>
 oOpt (ld1 m101 t108) fun t109 =>
 oInt .add .i64 t103 t109 fun t110 =>
 oInt .add .i64 t105 (.int .i64 (.ofNat 1)) fun t111 =>
 j102 [t110, t111] m101) (oInt .eql .i64 t103 t50 fun t112 =>
 join (fun l113 m114 =>
 uc l113 fun t116 l117 =>
 oPick t112 t116 (.bool false) fun t118 =>
 k t118 m114) fun j115 =>
 oGT t112 (call 30 [] L m101 fun t119 m120 =>
 j115 [t119] m120) (j115 [Go.undef] m101))) lf [(.int .i64 (.ofNat 0)), (.int .i64 (.ofNat 0))] m94)) fun j95 =>
 oGF t92 (call 13 [t84, t22] L m88 fun t121 m122 =>
 oOpt (aun .not t121) fun t123 =>
 j95 [t123] m122) (j95 [Go.undef] m88)) fun j89 =>
 oGF t86 (oInt .neq .i64 t85 (.int .i64 (.ofNat 0)) fun t124 =>
 j89 [t124] m83) (j89 [Go.undef] m83))) fun j74 =>
 oGF t71 (oInt .neq .i64 t59 t50 fun t125 =>
 j74 [t125] m67) (j74 [Go.undef] m67)) fun j68 =>
 oGF t65 (oInt .neq .i64 t64 (.int .i64 (.ofNat 0)) fun t126 =>
 j68 [t126] m62) (j68 [Go.undef] m62))) lf [(.int .i64 (.ofNat 0)), (.int .i64 (.ofNat 2))] m42)) fun j43 =>
 oGF t40 (oOpt (ln t22) fun t127 =>
 oInt .neq .i64 t127 t6 fun t128 =>
 j43 [t128] m36) (j43 [Go.undef] m36)) fun j37 =>
 oGF t34 (oOpt (aun .not t26) fun t129 =>
 j37 [t129] m30) (j37 [Go.undef] m30)) fun j31 =>
 oGF t28 (oInt .neq .i64 t27 (.int .i64 (.ofNat 0)) fun t130 =>
 j31 [t130] m25) (j31 [Go.undef] m25))) fun j14 =>
 oGF t11 (oInt .lss .i64 t9 (.int .i64 (.ofNat 1)) fun t131 =>
 j14 [t131] m8) (j14 [Go.undef] m8))
theorem S8_ok (lf : Nat) (cK : CallK β) (args : List Value) (L : Nat) (m : Mem) (k : Value → Mem → Option β)  : S8 lf cK args L m k = denF Tryz.prog fsT 2 K8 lf cK 8 args L m k := by kernel_rfl

/-- vitola/bond.Any -/
def K9 : Kat := [(19, (1, [15])), (185, (0, [22])), (23858, (0, []))]
noncomputable def S9 (lf : Nat) : FnK β := fun call args L m k =>
 uc args fun t0 l1 =>
 uc l1 fun t2 l3 =>
 un0 l3 (oRes (anew m 1 [(.int .i64 (.ofNat 0)), (.slice none 0 0)] ptrTo) fun t4 m5 =>
 call 54 [t0, (.int .i64 (.ofNat 1)), (.int .i64 (.ofNat 6))] L m5 fun t6 m7 =>
 oOpt (aun .not t6) fun t8 =>
 join (fun l9 m10 =>
 uc l9 fun t12 l13 =>
 oPick t8 (.bool true) t12 fun t14 =>
 oIf t14 (oOpt (bu Tryz.prog 24 []) fun t15 =>
 oRes (st1 2 L m10 t4 t15) fun t16 m17 =>
 oOpt (ldN m17 2 t4) fun t18 =>
 k (.tuple ⟨[t18, (.int .i64 (.ofNat 1))]⟩) m17) (oOpt (bu Tryz.prog 24 [(0, t0)]) fun t19 =>
 oRes (anew m10 1 [(.int .i64 (.ofNat 0)), (.slice none 0 0)] ptrTo) fun t20 m21 =>
 oRes (st1 2 L m21 t20 t19) fun t22 m23 =>
 oOpt (abin Tryz.prog .shl 3 (.int .i64 (.ofNat 1)) t0) fun t24 =>
 loopS (fun j27 l25 m26 =>
 uc l25 fun t28 l29 =>
 oInt .lss .i64 t28 t24 fun t30 =>
 oIf t30 (oCv .u64 t28 fun t31 =>
 call 55 [t31] L m26 fun t32 m33 =>
 oInt .eql .i64 t32 t2 fun t34 =>
 join (fun l35 m36 =>
 oInt .add .i64 t28 (.int .i64 (.ofNat 1)) fun t38 =>
 j27 [t38] m36) fun j37 =>
 oIf t34 (oOpt (fa 1 t20) fun t39 =>
 oOpt (ld1 m33 t39) fun t40 =>
 oRes (bs Tryz.prog m33 22 1 [(0, t28)]) fun t41 m42 =>
 oRes (aappend Tryz.prog L m42 22 t40 t41) fun t43 m44 =>
 oOpt (fa 1 t20) fun t45 =>
 oRes (st1 1 L m44 t45 t43) fun t46 m47 =>
 j37 [] m47) (j37 [] m33)) (oOpt (ldN m26 2 t20) fun t48 =>
 oRes (st1 2 L m26 t4 t48) fun t49 m50 =>
 oOpt (ldN m50 2 t4) fun t51 =>
 k (.tuple ⟨[t51, (.int .i64 (.ofNat 0))]⟩) m50)) lf [(.int .i64 (.ofNat 0))] m23)) fun j11 =>
 oGF t8 (call 54 [t2, (.int .i64 (.ofNat 0)), t0] L m7 fun t52 m53 =>
 oOpt (aun .not t52) fun t54 =>
 j11 [t54] m53) (j11 [Go.undef] m7))
theorem S9_ok (lf : Nat) (cK : CallK β) (args : List Value) (L : Nat) (m : Mem) (k : Value → Mem → Option β)  : S9 lf cK args L m k = denF Tryz.prog fsT 2 K9 lf cK 9 args L m k := by kernel_rfl

/-- vitola/bond.Make -/
def K10 : Kat := []
noncomputable def S10 (lf : Nat) : FnK β := fun call args L m k =>
 uc args fun t0 l1 =>
 un0 l1 (oRes (abox m t0) fun t2 m3 =>
 oRes (anew m3 1 [(.int .i64 (.ofNat 0)), (.slice none 0 0)] ptrTo) fun t4 m5 =>
 oOpt (ldN m5 2 t2) fun t6 =>
 call 56 [t6] L m5 fun t7 m8 =>
 oOpt (aextract t7 0) fun t9 =>
 oOpt (aextract t7 1) fun t10 =>
 oRes (anew m8 1 [(.int .i64 (.ofNat 0)), (.slice none 0 0)] ptrTo) fun t11 m12 =>
 oRes (st1 2 L m12 t11 t9) fun t13 m14 =>
 oInt .neq .i64 t10 (.int .i64 (.ofNat 0)) fun t15 =>
 oIf t15 (oOpt (bu Tryz.prog 29 []) fun t16 =>
 oRes (st1 2 L m14 t4 t16) fun t17 m18 =>
 oOpt (ldN m18 2 t4) fun t19 =>
 k (.tuple ⟨[t19, t10]⟩) m18) (oOpt (fa 0 t11) fun t20 =>
 oOpt (fa 0 t20) fun t21 =>
 oOpt (ld1 m14 t21) fun t22 =>
 oOpt (fa 0 t11) fun t23 =>
 oOpt (ldN m14 2 t23) fun t24 =>
 call 57 [t24] L m14 fun t25 m26 =>
 oSm m14 m26 t21 (
 oOpt (bu Tryz.prog 29 [(0, t22), (1, t25)]) fun t27 =>
 oRes (st1 2 L m26 t4 t27) fun t28 m29 =>
 oOpt (ldN m29 2 t4) fun t30 =>
 k (.tuple ⟨[t30, (.int .i64 (.ofNat 0))]⟩) m29)))
theorem S10_ok (lf : Nat) (cK : CallK β) (args : List Value) (L : Nat) (m : Mem) (k : Value → Mem → Option β)  : S10 lf cK args L m k = denF Tryz.prog fsT 2 K10 lf cK 10 args L m k := by kernel_rfl

/-- vitola/bond.Barred -/
def K11 : Kat := [(377, (0, [6, 21]))]
noncomputable def S11 (lf : Nat) : FnK β := fun call args L m k =>
 uc args fun t0 l1 =>
 un0 l1 (oRes (abox m t0) fun t2 m3 =>
 oOpt (ldN m3 2 t2) fun t4 =>
 call 56 [t4] L m3 fun t5 m6 =>
 oOpt (aextract t5 0) fun t7 =>
 oOpt (aextract t5 1) fun t8 =>
 oRes (anew m6 1 [(.int .i64 (.ofNat 0)), (.slice none 0 0)] ptrTo) fun t9 m10 =>
 oRes (st1 2 L m10 t9 t7) fun t11 m12 =>
 oInt .neq .i64 t8 (.int .i64 (.ofNat 0)) fun t13 =>
 oIf t13 (k (.tuple ⟨[(.slice none 0 0), t8]⟩) m12) (oOpt (fa 0 t9) fun t14 =>
 oOpt (ldN m12 2 t14) fun t15 =>
 call 57 [t15] L m12 fun t16 m17 =>
 oOpt (ln t16) fun t18 =>
 loopS (fun j21 l19 m20 =>
 uc l19 fun t22 l23 =>
 uc l23 fun t24 l25 =>
 oInt .lss .i64 t24 t18 fun t26 =>
 oIf t26 (oOpt (ia 1 t16 t24) fun t27 =>
 oOpt (ld1 m20 t27) fun t28 =>
 oOpt (fa 0 t9) fun t29 =>
 oOpt (ldN m20 2 t29) fun t30 =>
 call 58 [t30] L m20 fun t31 m32 =>
 oInt .andNot .i64 t31 t28 fun t33 =>
 oRes (bs Tryz.prog m32 22 1 [(0, t33)]) fun t34 m35 =>
 oRes (aappend Tryz.prog L m35 22 t22 t34) fun t36 m37 =>
 oInt .add .i64 t24 (.int .i64 (.ofNat 1)) fun t38 =>
 j21 [t36, t38] m37) (call 59 [t22] L m20 fun t39 m40 =>
 k (.tuple ⟨[t22, (.int .i64 (.ofNat 0))]⟩) m40)) lf [(.slice none 0 0), (.int .i64 (.ofNat 0))] m17))
theorem S11_ok (lf : Nat) (cK : CallK β) (args : List Value) (L : Nat) (m : Mem) (k : Value → Mem → Option β)  : S11 lf cK args L m k = denF Tryz.prog fsT 2 K11 lf cK 11 args L m k := by kernel_rfl

/-- vitola/vitolatop.groupsOf -/
def K12 : Kat := [(43, (1, [22])), (43, (3, [26])), (377, (0, [8, 29])), (193739, (1, [46]))]
noncomputable def S12 (lf : Nat) : FnK β := fun call args L m k =>
 uc args fun t0 l1 =>
 uc l1 fun t2 l3 =>
 un0 l3 (call 60 [t0, t2] L m fun t4 m5 =>
 oOpt (aextract t4 0) fun t6 =>
 oOpt (aextract t4 1) fun t7 =>
 oInt .neq .i64 t7 (.int .i64 (.ofNat 0)) fun t8 =>
 join (fun l9 m10 =>
 uc l9 fun t12 l13 =>
 oPick t8 (.bool true) t12 fun t14 =>
 join (fun l15 m16 =>
 uc l15 fun t18 l19 =>
 oPick t14 (.bool true) t18 fun t20 =>
 oIf t20 (k (.tuple ⟨[(.slice none 0 0), (.bool false)]⟩) m16) (loopS (fun j23 l21 m22 =>
 uc l21 fun t24 l25 =>
 uc l25 fun t26 l27 =>
 oInt .lss .i64 t26 t6 fun t28 =>
 oIf t28 (call 61 [t0, t2, t26] L m22 fun t29 m30 =>
 oOpt (aextract t29 0) fun t31 =>
 oOpt (aextract t29 1) fun t32 =>
 oInt .neq .i64 t32 (.int .i64 (.ofNat 0)) fun t33 =>
 join (fun l34 m35 =>
 uc l34 fun t37 l38 =>
 oPick t33 (.bool true) t37 fun t39 =>
 oIf t39 (k (.tuple ⟨[(.slice none 0 0), (.bool false)]⟩) m35) (call 19 [t31] L m35 fun t40 m41 =>
 oRes (bs Tryz.prog m41 22 1 [(0, t40)]) fun t42 m43 =>
 oRes (aappend Tryz.prog L m43 22 t24 t42) fun t44 m45 =>
 oInt .add .i64 t26 (.int .i64 (.ofNat 1)) fun t46 =>
 j23 [t44, t46] m45)) fun j36 =>
 oGF t33 (call 17 [t31, t0, t2] L m30 fun t47 m48 =>
 oOpt (aun .not t47) fun t49 =>
 j36 [t49] m48) (j36 [Go.undef] m30)) (call 59 [t24] L m22 fun t50 m51 =>
 k (.tuple ⟨[t24, (.bool true)]⟩) m51)) lf [(.slice none 0 0), (.int .i64 (.ofNat 0))] m16)) fun j17 =>
 oGF t14 (oInt .gtr .i64 t6 (.int .i64 (.ofNat 20)) fun t52 =>
 j17 [t52] m10) (j17 [Go.undef] m10)) fun j11 =>
 oGF t8 (oInt .lss .i64 t6 (.int .i64 (.ofNat 1)) fun t53 =>
 j11 [t53] m5) (j11 [Go.undef] m5))
theorem S12_ok (lf : Nat) (cK : CallK β) (args : List Value) (L : Nat) (m : Mem) (k : Value → Mem → Option β)  : S12 lf cK args L m k = denF Tryz.prog fsT 2 K12 lf cK 12 args L m k := by kernel_rfl

/-- vitola/vitolatop.same -/
def K13 : Kat := [(89, (0, [13]))]
noncomputable def S13 (lf : Nat) : FnK β := fun call args L m k =>
 uc args fun t0 l1 =>
 uc l1 fun t2 l3 =>
 un0 l3 (oOpt (ln t0) fun t4 =>
 oOpt (ln t2) fun t5 =>
 oInt .neq .i64 t4 t5 fun t6 =>
 oIf t6 (k (.bool false) m) (oOpt (ln t0) fun t7 =>
 loopS (fun j10 l8 m9 =>
 uc l8 fun t11 l12 =>
 oInt .lss .i64 t11 t7 fun t13 =>
 oIf t13 (oOpt (ia 1 t0 t11) fun t14 =>
 oOpt (ld1 m9 t14) fun t15 =>
 oOpt (ia 1 t2 t11) fun t16 =>
 oOpt (ld1 m9 t16) fun t17 =>
 oInt .neq .i64 t15 t17 fun t18 =>
 oIf t18 (k (.bool false) m9) (oInt .add .i64 t11 (.int .i64 (.ofNat 1)) fun t19 =>
 j10 [t19] m9)) (k (.bool true) m9)) lf [(.int .i64 (.ofNat 0))] m))
theorem S13_ok (lf : Nat) (cK : CallK β) (args : List Value) (L : Nat) (m : Mem) (k : Value → Mem → Option β)  : S13 lf cK args L m k = denF Tryz.prog fsT 2 K13 lf cK 13 args L m k := by kernel_rfl

/-- vitola/vitolatop.bondWorks: the general reading itself -/
def K14 : Kat := [(21, (1, [17])), (21, (3, [20]))]
noncomputable def S14 (lf : Nat) : FnK β := fun cK args L m k => denF Tryz.prog fsT 2 K14 lf cK 14 args L m k
theorem S14_ok (lf : Nat) (cK : CallK β) (args : List Value) (L : Nat) (m : Mem) (k : Value → Mem → Option β)  : S14 lf cK args L m k = denF Tryz.prog fsT 2 K14 lf cK 14 args L m k := rfl

/-- vitola/blend.Next -/
def K15 : Kat := []
noncomputable def S15 (lf : Nat) : FnK β := fun call args L m k =>
 uc args fun t0 l1 =>
 uc l1 fun t2 l3 =>
 un0 l3 (call 64 [t0, t2] L m fun t4 m5 =>
 oOpt (ln t2) fun t6 =>
 call 65 [t0, t6] L m5 fun t7 m8 =>
 oInt .neq .i64 t4 (.int .i64 (.ofNat 0)) fun t9 =>
 oIf t9 (k (.tuple ⟨[(.slice none 0 0), (.int .i64 (.ofNat 0)), (.int .i64 (.ofNat 0)), t4]⟩) m8) (oInt .eql .i64 t7 (.int .i64 (.ofNat 1)) fun t10 =>
 oIf t10 (k (.tuple ⟨[(.slice none 0 0), (.int .i64 (.ofNat 0)), (.int .i64 (.ofNat 0)), (.int .i64 (.ofNat 12))]⟩) m8) (oOpt (ln t2) fun t11 =>
 call 67 [t2] L m8 fun t12 m13 =>
 oInt .add .i64 t12 (.int .i64 (.ofNat 1)) fun t14 =>
 oInt .rem .i64 t14 t7 fun t15 =>
 call 66 [t11, t15] L m13 fun t16 m17 =>
 call 68 [t2, t16] L m17 fun t18 m19 =>
 call 68 [t16, t2] L m19 fun t20 m21 =>
 k (.tuple ⟨[t16, t18, t20, (.int .i64 (.ofNat 0))]⟩) m21)))
theorem S15_ok (lf : Nat) (cK : CallK β) (args : List Value) (L : Nat) (m : Mem) (k : Value → Mem → Option β)  : S15 lf cK args L m k = denF Tryz.prog fsT 2 K15 lf cK 15 args L m k := by kernel_rfl

/-- vitola/vitolatop.members -/
def K16 : Kat := [(89, (0, [5, 8])), (11570, (0, [5]))]
noncomputable def S16 (lf : Nat) : FnK β := fun call args L m k =>
 uc args fun t0 l1 =>
 uc l1 fun t2 l3 =>
 un0 l3 (loopS (fun j6 l4 m5 =>
 uc l4 fun t7 l8 =>
 uc l8 fun t9 l10 =>
 oInt .lss .i64 t9 t2 fun t11 =>
 oIf t11 (oOpt (abin Tryz.prog .shr 3 t0 t9) fun t12 =>
 oInt .and .i64 t12 (.int .i64 (.ofNat 1)) fun t13 =>
 oInt .eql .i64 t13 (.int .i64 (.ofNat 1)) fun t14 =>
 join (fun l15 m16 =>
 uc l15 fun t18 l19 =>
 oInt .add .i64 t9 (.int .i64 (.ofNat 1)) fun t20 =>
 j6 [t18, t20] m16) fun j17 =>
 oIf t14 (oRes (bs Tryz.prog m5 22 1 [(0, t9)]) fun t21 m22 =>
 oRes (aappend Tryz.prog L m22 22 t7 t21) fun t23 m24 =>
 j17 [t23] m24) (j17 [t7] m5)) (k t7 m5)) lf [(.slice none 0 0), (.int .i64 (.ofNat 0))] m)
theorem S16_ok (lf : Nat) (cK : CallK β) (args : List Value) (L : Nat) (m : Mem) (k : Value → Mem → Option β)  : S16 lf cK args L m k = denF Tryz.prog fsT 2 K16 lf cK 16 args L m k := by kernel_rfl

/-- vitola/vitolatop.inside -/
def K17 : Kat := [(41, (0, [11])), (5425, (1, [21])), (5425, (3, [26])), (5425, (4, [33])), (5425, (5, [34]))]
noncomputable def S17 (lf : Nat) : FnK β := fun call args L m k =>
 uc args fun t0 l1 =>
 uc l1 fun t2 l3 =>
 uc l3 fun t4 l5 =>
 un0 l5 (oOpt (ln t0) fun t6 =>
 loopS (fun j9 l7 m8 =>
 uc l7 fun t10 l11 =>
 oInt .lss .i64 t10 t6 fun t12 =>
 oIf t12 (oOpt (ia 1 t0 t10) fun t13 =>
 oOpt (ld1 m8 t13) fun t14 =>
 oInt .lss .i64 t14 (.int .i64 (.ofNat 0)) fun t15 =>
 join (fun l16 m17 =>
 uc l16 fun t19 l20 =>
 oPick t15 (.bool true) t19 fun t21 =>
 join (fun l22 m23 =>
 uc l22 fun t25 l26 =>
 join (fun l27 m28 =>
 uc l27 fun t30 l31 =>
 join (fun l32 m33 =>
 uc l32 fun t35 l36 =>
 oPick t21 (.bool true) t35 fun t37 =>
 oIf t37 (k (.bool false) m33) (oInt .add .i64 t10 (.int .i64 (.ofNat 1)) fun t38 =>
 j9 [t38] m33)) fun j34 =>
 oGF t21 (oPick t25 t30 (.bool false) fun t39 =>
 j34 [t39] m28) (j34 [Go.undef] m28)) fun j29 =>
 oGT t25 (oInt .sub .i64 t10 (.int .i64 (.ofNat 1)) fun t40 =>
 oOpt (ia 1 t0 t40) fun t41 =>
 oOpt (ld1 m23 t41) fun t42 =>
 oInt .leq .i64 t14 t42 fun t43 =>
 j29 [t43] m23) (j29 [Go.undef] m23)) fun j24 =>
 oGF t21 (oInt .gtr .i64 t10 (.int .i64 (.ofNat 0)) fun t44 =>
 j24 [t44] m17) (j24 [Go.undef] m17)) fun j18 =>
 oGF t15 (oInt .geq .i64 t14 t2 fun t45 =>
 j18 [t45] m8) (j18 [Go.undef] m8)) (oOpt (ln t0) fun t46 =>
 oInt .eql .i64 t46 t4 fun t47 =>
 k t47 m8)) lf [(.int .i64 (.ofNat 0))] m)
theorem S17_ok (lf : Nat) (cK : CallK β) (args : List Value) (L : Nat) (m : Mem) (k : Value → Mem → Option β)  : S17 lf cK args L m k = denF Tryz.prog fsT 2 K17 lf cK 17 args L m k := by kernel_rfl

end
end Go.Vit
