/- Shallow texts of the seat's functions, printed by a program: part 3. -/
import Derived.Test.YtnmmjbclidbdbaaDoorRows
import Derived.Test.YtnmmjbclidbdbaaDoorFs
set_option linter.unusedVariables false
set_option maxRecDepth 100000
namespace Go.Vit
open Go Go.Proofs
section
variable {β : Type}
/-- vitola/vitolaref01.Turns -/
def K40 : Kat := [(185, (0, [6])), (761, (0, [7, 8])), (195145, (0, [9, 10])), (97573, (1, [61])), (97574, (0, [7]))]
noncomputable def S40 (lf : Nat) : FnK β := fun call args L m k =>
 uc args fun t0 l1 =>
 uc l1 fun t2 l3 =>
 un0 l3 (call 63 [t0, (.int .i64 (.ofNat 1)), (.int .i64 (.ofNat 8))] L m fun t4 m5 =>
 oOpt (aun .not t4) fun t6 =>
 oIf t6 (k (.tuple ⟨[(.slice none 0 0), (.int .i64 (.ofNat 1))]⟩) m5) (oOpt (ln t2) fun t7 =>
 oInt .gtr .i64 t7 t0 fun t8 =>
 oIf t8 (k (.tuple ⟨[(.slice none 0 0), (.int .i64 (.ofNat 3))]⟩) m5) (loopS (fun j11 l9 m10 =>
 uc l9 fun t12 l13 =>
 oOpt (ln t2) fun t14 =>
 oInt .lss .i64 t12 t14 fun t15 =>
 oIf t15 (oOpt (ia 1 t2 t12) fun t16 =>
 oOpt (ld1 m10 t16) fun t17 =>
 call 63 [t17, (.int .i64 (.ofNat 0)), t0] L m10 fun t18 m19 =>
 oOpt (aun .not t18) fun t20 =>
 oIf t20 (k (.tuple ⟨[(.slice none 0 0), (.int .i64 (.ofNat 2))]⟩) m19) (oInt .add .i64 t12 (.int .i64 (.ofNat 1)) fun t21 =>
 j11 [t21] m19)) (loopS (fun j24 l22 m23 =>
 uc l22 fun t25 l26 =>
 uc l26 fun t27 l28 =>
 oInt .leq .i64 t27 t0 fun t29 =>
 oIf t29 (loopS (fun j32 l30 m31 =>
 uc l30 fun t33 l34 =>
 uc l34 fun t35 l36 =>
 oOpt (ln t2) fun t37 =>
 oInt .lss .i64 t35 t37 fun t38 =>
 oIf t38 (oOpt (ia 1 t2 t35) fun t39 =>
 oOpt (ld1 m31 t39) fun t40 =>
 oInt .add .i64 t40 t27 fun t41 =>
 oInt .add .i64 t0 (.int .i64 (.ofNat 1)) fun t42 =>
 oInt .rem .i64 t41 t42 fun t43 =>
 oRes (bs Tryd.prog m31 22 1 [(0, t43)]) fun t44 m45 =>
 oRes (aappend Tryd.prog L m45 22 t33 t44) fun t46 m47 =>
 oInt .add .i64 t35 (.int .i64 (.ofNat 1)) fun t48 =>
 j32 [t46, t48] m47) (call 28 [t0, t33] L m31 fun t49 m50 =>
 oInt .eql .i64 t49 (.int .i64 (.ofNat 0)) fun t51 =>
 join (fun l52 m53 =>
 uc l52 fun t55 l56 =>
 oPick t51 t55 (.bool false) fun t57 =>
 join (fun l58 m59 =>
 uc l58 fun t61 l62 =>
 oInt .add .i64 t27 (.int .i64 (.ofNat 1)) fun t63 =>
 j24 [t61, t63] m59) fun j60 =>
 oIf t57 (oRes (bs Tryd.prog m53 22 1 [(0, t27)]) fun t64 m65 =>
 oRes (aappend Tryd.prog L m65 22 t25 t64) fun t66 m67 =>
 j60 [t66] m67) (j60 [t25] m53)) fun j54 =>
 oGT t51 (call 59 [t0, t33] L m50 fun t68 m69 =>
 j54 [t68] m69) (j54 [Go.undef] m50))) lf [(.slice none 0 0), (.int .i64 (.ofNat 0))] m23) (k (.tuple ⟨[t25, (.int .i64 (.ofNat 0))]⟩) m23)) lf [(.slice none 0 0), (.int .i64 (.ofNat 0))] m10)) lf [(.int .i64 (.ofNat 0))] m5)))
theorem S40_ok (lf : Nat) (cK : CallK β) (args : List Value) (L : Nat) (m : Mem) (k : Value → Mem → Option β)  : S40 lf cK args L m k = denF Tryd.prog fsT 2 K40 lf cK 40 args L m k := by kernel_rfl

/-- vitola/dock.Ways -/
def K41 : Kat := [(761, (0, [9, 34]))]
noncomputable def S41 (lf : Nat) : FnK β := fun call args L m k =>
 uc args fun t0 l1 =>
 uc l1 fun t2 l3 =>
 un0 l3 (oOpt (bu Tryd.prog 76 [(0, t0)]) fun t4 =>
 oRes (anew m 1 [(.int .i64 (.ofNat 0)), (.int .u64 (.ofNat 0))] ptrTo) fun t5 m6 =>
 oRes (st1 2 L m6 t5 t4) fun t7 m8 =>
 call 61 [t0, (.int .i64 (.ofNat 1)), (.int .i64 (.ofNat 8))] L m8 fun t9 m10 =>
 oOpt (aun .not t9) fun t11 =>
 oIf t11 (k (.tuple ⟨[(.int .i64 (.ofNat 0)), (.int .i64 (.ofNat 1))]⟩) m10) (oOpt (ln t2) fun t12 =>
 oInt .gtr .i64 t12 t0 fun t13 =>
 oIf t13 (k (.tuple ⟨[(.int .i64 (.ofNat 0)), (.int .i64 (.ofNat 3))]⟩) m10) (call 60 [t0, t2] L m10 fun t14 m15 =>
 oOpt (aextract t14 0) fun t16 =>
 oOpt (aextract t14 1) fun t17 =>
 oRes (anew m15 1 [(.int .i64 (.ofNat 0)), (.int .u64 (.ofNat 0))] ptrTo) fun t18 m19 =>
 oRes (st1 2 L m19 t18 t16) fun t20 m21 =>
 oInt .neq .i64 t17 (.int .i64 (.ofNat 0)) fun t22 =>
 oIf t22 (k (.tuple ⟨[(.int .i64 (.ofNat 0)), t17]⟩) m21) (oOpt (ln t2) fun t23 =>
 loopS (fun j26 l24 m25 =>
 uc l24 fun t27 l28 =>
 uc l28 fun t29 l30 =>
 oInt .lss .i64 t29 t23 fun t31 =>
 oIf t31 (oOpt (ia 1 t2 t29) fun t32 =>
 oOpt (ld1 m25 t32) fun t33 =>
 oOpt (ldN m25 2 t5) fun t34 =>
 call 72 [t34, t33] L m25 fun t35 m36 =>
 oInt .mul .i64 t27 t35 fun t37 =>
 oOpt (fa 1 t5) fun t38 =>
 oOpt (ld1 m36 t38) fun t39 =>
 oOpt (abin Tryd.prog .shl 74 (.int .u64 (.ofNat 1)) t33) fun t40 =>
 oInt .or .u64 t39 t40 fun t41 =>
 oOpt (fa 1 t5) fun t42 =>
 oRes (st1 1 L m36 t42 t41) fun t43 m44 =>
 oInt .add .i64 t29 (.int .i64 (.ofNat 1)) fun t45 =>
 j26 [t37, t45] m44) (k (.tuple ⟨[t27, (.int .i64 (.ofNat 0))]⟩) m25)) lf [(.int .i64 (.ofNat 1)), (.int .i64 (.ofNat 0))] m21))))
theorem S41_ok (lf : Nat) (cK : CallK β) (args : List Value) (L : Nat) (m : Mem) (k : Value → Mem → Option β)  : S41 lf cK args L m k = denF Tryd.prog fsT 2 K41 lf cK 41 args L m k := by kernel_rfl

/-- vitola/vitolaref01.Ways -/
def K42 : Kat := [(1529, (0, [7, 8])), (391753, (0, [9, 10])), (12536136, (0, [9]))]
noncomputable def S42 (lf : Nat) : FnK β := fun call args L m k =>
 uc args fun t0 l1 =>
 uc l1 fun t2 l3 =>
 un0 l3 (call 63 [t0, (.int .i64 (.ofNat 1)), (.int .i64 (.ofNat 8))] L m fun t4 m5 =>
 oOpt (aun .not t4) fun t6 =>
 oIf t6 (k (.tuple ⟨[(.int .i64 (.ofNat 0)), (.int .i64 (.ofNat 1))]⟩) m5) (oOpt (ln t2) fun t7 =>
 oInt .gtr .i64 t7 t0 fun t8 =>
 oIf t8 (k (.tuple ⟨[(.int .i64 (.ofNat 0)), (.int .i64 (.ofNat 3))]⟩) m5) (call 64 [t0, t2] L m5 fun t9 m10 =>
 oInt .neq .i64 t9 (.int .i64 (.ofNat 0)) fun t11 =>
 oIf t11 (k (.tuple ⟨[(.int .i64 (.ofNat 0)), t9]⟩) m10) (loopS (fun j14 l12 m13 =>
 uc l12 fun t15 l16 =>
 uc l16 fun t17 l18 =>
 oOpt (ln t2) fun t19 =>
 oInt .lss .i64 t17 t19 fun t20 =>
 oIf t20 (loopS (fun j23 l21 m22 =>
 uc l21 fun t24 l25 =>
 uc l25 fun t26 l27 =>
 oInt .lss .i64 t26 t0 fun t28 =>
 oIf t28 (oOpt (sl Tryd.prog 22 t2 none (some t17) none) fun t29 =>
 call 65 [t0, t29, t26] m22.next m22 fun t30 m31 =>
 oOpt (ia 1 t2 t17) fun t32 =>
 oOpt (ld1 m31 t32) fun t33 =>
 oInt .eql .i64 t30 t33 fun t34 =>
 join (fun l35 m36 =>
 uc l35 fun t38 l39 =>
 oInt .add .i64 t26 (.int .i64 (.ofNat 1)) fun t40 =>
 j23 [t38, t40] m36) fun j37 =>
 oIf t34 (oInt .add .i64 t24 (.int .i64 (.ofNat 1)) fun t41 =>
 j37 [t41] m31) (j37 [t24] m31)) (oInt .mul .i64 t15 t24 fun t42 =>
 oInt .add .i64 t17 (.int .i64 (.ofNat 1)) fun t43 =>
 j14 [t42, t43] m22)) lf [(.int .i64 (.ofNat 0)), (.int .i64 (.ofNat 0))] m13) (k (.tuple ⟨[t15, (.int .i64 (.ofNat 0))]⟩) m13)) lf [(.int .i64 (.ofNat 1)), (.int .i64 (.ofNat 0))] m10))))
theorem S42_ok (lf : Nat) (cK : CallK β) (args : List Value) (L : Nat) (m : Mem) (k : Value → Mem → Option β)  : S42 lf cK args L m k = denF Tryd.prog fsT 2 K42 lf cK 42 args L m k := by kernel_rfl

/-- vitola/vitolalaw01.list -/
def K43 : Kat := []
noncomputable def S43 (lf : Nat) : FnK β := fun call args L m k =>
 uc args fun t0 l1 =>
 un0 l1 (k t0 m)
theorem S43_ok (lf : Nat) (cK : CallK β) (args : List Value) (L : Nat) (m : Mem) (k : Value → Mem → Option β)  : S43 lf cK args L m k = denF Tryd.prog fsT 2 K43 lf cK 43 args L m k := by kernel_rfl

/-- vitola/vitolalaw01.all -/
def K44 : Kat := [(9, (0, [])), (651, (0, [7])), (5215, (1, [24]))]
noncomputable def S44 (lf : Nat) : FnK β := fun call args L m k =>
 uc args fun t0 l1 =>
 uc l1 fun t2 l3 =>
 uc l3 fun t4 l5 =>
 un0 l5 (oRes (amakeSlice Tryd.prog m 22 t0 t0) fun t6 m7 =>
 loopS (fun j10 l8 m9 =>
 oCallV call t4 [t6] L m9 fun t11 m12 =>
 oInt .sub .i64 t0 (.int .i64 (.ofNat 1)) fun t13 =>
 loopS (fun j16 l14 m15 =>
 uc l14 fun t17 l18 =>
 oInt .geq .i64 t17 (.int .i64 (.ofNat 0)) fun t19 =>
 join (fun l20 m21 =>
 uc l20 fun t23 l24 =>
 oPick t19 t23 (.bool false) fun t25 =>
 oIf t25 (oOpt (ia 1 t6 t17) fun t26 =>
 oRes (st1 1 L m21 t26 (.int .i64 (.ofNat 0))) fun t27 m28 =>
 oInt .sub .i64 t17 (.int .i64 (.ofNat 1)) fun t29 =>
 j16 [t29] m28) (oInt .lss .i64 t17 (.int .i64 (.ofNat 0)) fun t30 =>
 oIf t30 (k (.tuple ⟨[]⟩) m21) (oOpt (ia 1 t6 t17) fun t31 =>
 oOpt (ld1 m21 t31) fun t32 =>
 oInt .add .i64 t32 (.int .i64 (.ofNat 1)) fun t33 =>
 oOpt (ia 1 t6 t17) fun t34 =>
 oRes (st1 1 L m21 t34 t33) fun t35 m36 =>
 j10 [] m36))) fun j22 =>
 oGT t19 (oOpt (ia 1 t6 t17) fun t37 =>
 oOpt (ld1 m15 t37) fun t38 =>
 oInt .sub .i64 t2 (.int .i64 (.ofNat 1)) fun t39 =>
 oInt .eql .i64 t38 t39 fun t40 =>
 j22 [t40] m15) (j22 [Go.undef] m15)) lf [t13] m12) lf [] m7)
theorem S44_ok (lf : Nat) (cK : CallK β) (args : List Value) (L : Nat) (m : Mem) (k : Value → Mem → Option β)  : S44 lf cK args L m k = denF Tryd.prog fsT 2 K44 lf cK 44 args L m k := by kernel_rfl

/-- vitola/vitolalaw01.DockWeiss$1 -/
def K45 : Kat := [(93, (1, [37])), (1523, (1, [44])), (1523, (3, [48])), (381, (1, [53])), (381, (3, [58])), (1531, (1, [64])), (1532, (0, [])), (6132, (1, [78]))]
noncomputable def S45 (lf : Nat) : FnK β := fun call args L m k =>
 uc args fun t0 l1 =>
 uc l1 fun t2 l3 =>
 uc l3 fun t4 l5 =>
 uc l5 fun t6 l7 =>
 uc l7 fun t8 l9 =>
 un0 l9 (oOpt (ld1 m t2) fun t10 =>
 oOpt (aun .not t10) fun t11 =>
 oIf t11 (k (.tuple ⟨[]⟩) m) (oOpt (ld1 m t4) fun t12 =>
 call 47 [t12, t0] L m fun t13 m14 =>
 call 46 [t13, (.int .i64 (.negSucc 0))] L m14 fun t15 m16 =>
 oOpt (aun .not t15) fun t17 =>
 oOpt (ld1 m16 t4) fun t18 =>
 call 18 [t18, t0] L m16 fun t19 m20 =>
 oOpt (aextract t19 0) fun t21 =>
 oOpt (aextract t19 1) fun t22 =>
 oOpt (ld1 m20 t4) fun t23 =>
 call 37 [t23, t0] L m20 fun t24 m25 =>
 oOpt (aextract t24 0) fun t26 =>
 oOpt (aextract t24 1) fun t27 =>
 oInt .eql .i64 t22 (.int .i64 (.ofNat 0)) fun t28 =>
 join (fun l29 m30 =>
 uc l29 fun t32 l33 =>
 oPick t28 t32 (.bool false) fun t34 =>
 oRes (st1 1 L m30 t2 t34) fun t35 m36 =>
 oOpt (aun .not t17) fun t37 =>
 oIf t37 (oOpt (ld1 m36 t2) fun t38 =>
 join (fun l39 m40 =>
 uc l39 fun t42 l43 =>
 oPick t38 t42 (.bool false) fun t44 =>
 join (fun l45 m46 =>
 uc l45 fun t48 l49 =>
 oPick t44 t48 (.bool false) fun t50 =>
 oRes (st1 1 L m46 t2 t50) fun t51 m52 =>
 k (.tuple ⟨[]⟩) m52) fun j47 =>
 oGT t44 (oInt .eql .i64 t26 (.int .i64 (.ofNat 0)) fun t53 =>
 j47 [t53] m40) (j47 [Go.undef] m40)) fun j41 =>
 oGT t38 (oInt .eql .i64 t27 (.int .i64 (.ofNat 14)) fun t54 =>
 j41 [t54] m36) (j41 [Go.undef] m36)) (oOpt (ld1 m36 t2) fun t55 =>
 join (fun l56 m57 =>
 uc l56 fun t59 l60 =>
 oPick t55 t59 (.bool false) fun t61 =>
 join (fun l62 m63 =>
 uc l62 fun t65 l66 =>
 oPick t61 t65 (.bool false) fun t67 =>
 oRes (st1 1 L m63 t2 t67) fun t68 m69 =>
 oOpt (ld1 m69 t2) fun t70 =>
 join (fun l71 m72 =>
 uc l71 fun t74 l75 =>
 oPick t70 t74 (.bool false) fun t76 =>
 join (fun l77 m78 =>
 oOpt (ld1 m78 t6) fun t80 =>
 oInt .add .i64 t80 (.int .i64 (.ofNat 1)) fun t81 =>
 oRes (st1 1 L m78 t6 t81) fun t82 m83 =>
 k (.tuple ⟨[]⟩) m83) fun j79 =>
 oIf t76 (oOpt (ld1 m72 t4) fun t84 =>
 oOpt (ld1 m72 t8) fun t85 =>
 call 35 [t84, t85, t26] L m72 fun t86 m87 =>
 oOpt (aextract t86 0) fun t88 =>
 oOpt (aextract t86 1) fun t89 =>
 oInt .eql .i64 t89 (.int .i64 (.ofNat 0)) fun t90 =>
 join (fun l91 m92 =>
 uc l91 fun t94 l95 =>
 oPick t90 t94 (.bool false) fun t96 =>
 oRes (st1 1 L m92 t2 t96) fun t97 m98 =>
 j79 [] m98) fun j93 =>
 oGT t90 (call 22 [t88, t0] L m87 fun t99 m100 =>
 j93 [t99] m100) (j93 [Go.undef] m87)) (j79 [] m72)) fun j73 =>
 oGT t70 (oOpt (ld1 m69 t6) fun t101 =>
 oInt .rem .i64 t101 (.int .i64 (.ofNat 3)) fun t102 =>
 oInt .eql .i64 t102 (.int .i64 (.ofNat 0)) fun t103 =>
 j73 [t103] m69) (j73 [Go.undef] m69)) fun j64 =>
 oGT t61 (oOpt (ld1 m57 t6) fun t104 =>
 oInt .eql .i64 t26 t104 fun t105 =>
 j64 [t105] m57) (j64 [Go.undef] m57)) fun j58 =>
 oGT t55 (oInt .eql .i64 t27 (.int .i64 (.ofNat 0)) fun t106 =>
 j58 [t106] m36) (j58 [Go.undef] m36))) fun j31 =>
 oGT t28 (oOpt (abin Tryd.prog .eql 4 t21 t17) fun t107 =>
 j31 [t107] m25) (j31 [Go.undef] m25)))
theorem S45_ok (lf : Nat) (cK : CallK β) (args : List Value) (L : Nat) (m : Mem) (k : Value → Mem → Option β)  : S45 lf cK args L m k = denF Tryd.prog fsT 2 K45 lf cK 45 args L m k := by kernel_rfl

/-- slices.Contains[[]int,int] -/
def K46 : Kat := []
noncomputable def S46 (lf : Nat) : FnK β := fun call args L m k =>
 uc args fun t0 l1 =>
 uc l1 fun t2 l3 =>
 un0 l3 (call 73 [t0, t2] L m fun t4 m5 =>
 oInt .geq .i64 t4 (.int .i64 (.ofNat 0)) fun t6 =>
 k t6 m5)
theorem S46_ok (lf : Nat) (cK : CallK β) (args : List Value) (L : Nat) (m : Mem) (k : Value → Mem → Option β)  : S46 lf cK args L m k = denF Tryd.prog fsT 2 K46 lf cK 46 args L m k := by kernel_rfl

/-- vitola/vitolalaw01.come -/
def K47 : Kat := [(89, (0, [11])), (377, (0, [7, 19])), (6053, (0, [7])), (96867, (0, [9])), (774943, (1, [30]))]
noncomputable def S47 (lf : Nat) : FnK β := fun call args L m k =>
 uc args fun t0 l1 =>
 uc l1 fun t2 l3 =>
 un0 l3 (oRes (anew m 1 [(.bool false), (.bool false), (.bool false), (.bool false), (.bool false), (.bool false), (.bool false), (.bool false), (.bool false)] ptrTo) fun t4 m5 =>
 loopS (fun j8 l6 m7 =>
 uc l6 fun t9 l10 =>
 oInt .lss .i64 t9 t0 fun t11 =>
 oIf t11 (oOpt (iaA 9 1 t4 t9) fun t12 =>
 oRes (st1 1 L m7 t12 (.bool true)) fun t13 m14 =>
 oInt .add .i64 t9 (.int .i64 (.ofNat 1)) fun t15 =>
 j8 [t15] m14) (oOpt (ln t2) fun t16 =>
 loopS (fun j19 l17 m18 =>
 uc l17 fun t20 l21 =>
 uc l21 fun t22 l23 =>
 oInt .lss .i64 t22 t16 fun t24 =>
 oIf t24 (join (fun l25 m26 =>
 uc l25 fun t28 l29 =>
 oInt .add .i64 t22 (.int .i64 (.ofNat 1)) fun t30 =>
 j19 [t28, t30] m26) fun j27 =>
 oOpt (ia 1 t2 t22) fun t31 =>
 oOpt (ld1 m18 t31) fun t32 =>
 loopS (fun j35 l33 m34 =>
 uc l33 fun t36 l37 =>
 oInt .lss .i64 t36 t0 fun t38 =>
 join (fun l39 m40 =>
 uc l39 fun t42 l43 =>
 oPick t38 t42 (.bool false) fun t44 =>
 oIf t44 (oInt .add .i64 t36 (.int .i64 (.ofNat 1)) fun t45 =>
 j35 [t45] m40) (oInt .eql .i64 t36 t0 fun t46 =>
 oIf t46 (oRes (bs Tryd.prog m40 22 1 [(0, (.int .i64 (.negSucc 0)))]) fun t47 m48 =>
 oRes (aappend Tryd.prog L m48 22 t20 t47) fun t49 m50 =>
 j27 [t49] m50) (oOpt (iaA 9 1 t4 t36) fun t51 =>
 oRes (st1 1 L m40 t51 (.bool false)) fun t52 m53 =>
 oRes (bs Tryd.prog m53 22 1 [(0, t36)]) fun t54 m55 =>
 oRes (aappend Tryd.prog L m55 22 t20 t54) fun t56 m57 =>
 j27 [t56] m57))) fun j41 =>
 oGT t38 (oOpt (iaA 9 1 t4 t36) fun t58 =>
 oOpt (ld1 m34 t58) fun t59 =>
 oOpt (aun .not t59) fun t60 =>
 j41 [t60] m34) (j41 [Go.undef] m34)) lf [t32] m18) (k t20 m18)) lf [(.slice none 0 0), (.int .i64 (.ofNat 0))] m7)) lf [(.int .i64 (.ofNat 0))] m5)
theorem S47_ok (lf : Nat) (cK : CallK β) (args : List Value) (L : Nat) (m : Mem) (k : Value → Mem → Option β)  : S47 lf cK args L m k = denF Tryd.prog fsT 2 K47 lf cK 47 args L m k := by kernel_rfl

/-- vitola/vitolalaw01.power -/
def K48 : Kat := [(89, (0, [5, 7]))]
noncomputable def S48 (lf : Nat) : FnK β := fun call args L m k =>
 uc args fun t0 l1 =>
 uc l1 fun t2 l3 =>
 un0 l3 (loopS (fun j6 l4 m5 =>
 uc l4 fun t7 l8 =>
 uc l8 fun t9 l10 =>
 oInt .lss .i64 t9 t2 fun t11 =>
 oIf t11 (oInt .mul .i64 t7 t0 fun t12 =>
 oInt .add .i64 t9 (.int .i64 (.ofNat 1)) fun t13 =>
 j6 [t12, t13] m5) (k t7 m5)) lf [(.int .i64 (.ofNat 1)), (.int .i64 (.ofNat 0))] m)
theorem S48_ok (lf : Nat) (cK : CallK β) (args : List Value) (L : Nat) (m : Mem) (k : Value → Mem → Option β)  : S48 lf cK args L m k = denF Tryd.prog fsT 2 K48 lf cK 48 args L m k := by kernel_rfl

/-- (vitola/vitolalaw01.Carts).made -/
def K49 : Kat := [(185, (0, [9, 23]))]
noncomputable def S49 (lf : Nat) : FnK β := fun call args L m k =>
 uc args fun t0 l1 =>
 uc l1 fun t2 l3 =>
 uc l3 fun t4 l5 =>
 un0 l5 (oRes (abox m t0) fun t6 m7 =>
 oOpt (fa 0 t6) fun t8 =>
 oOpt (ld1 m7 t8) fun t9 =>
 oCv .i64 t9 fun t10 =>
 oInt .rem .i64 t10 t2 fun t11 =>
 oInt .add .i64 (.int .i64 (.ofNat 1)) t11 fun t12 =>
 oOpt (fa 1 t6) fun t13 =>
 oOpt (ld1 m7 t13) fun t14 =>
 oCv .i64 t14 fun t15 =>
 oInt .add .i64 t12 (.int .i64 (.ofNat 1)) fun t16 =>
 oInt .rem .i64 t15 t16 fun t17 =>
 loopS (fun j20 l18 m19 =>
 uc l18 fun t21 l22 =>
 uc l22 fun t23 l24 =>
 oInt .lss .i64 t23 t17 fun t25 =>
 oIf t25 (oOpt (fa 2 t6) fun t26 =>
 oOpt (iaA 8 1 t26 t23) fun t27 =>
 oOpt (ld1 m19 t27) fun t28 =>
 oCv .i64 t28 fun t29 =>
 oInt .add .i64 t12 t4 fun t30 =>
 oInt .rem .i64 t29 t30 fun t31 =>
 oRes (bs Tryd.prog m19 22 1 [(0, t31)]) fun t32 m33 =>
 oRes (aappend Tryd.prog L m33 22 t21 t32) fun t34 m35 =>
 oInt .add .i64 t23 (.int .i64 (.ofNat 1)) fun t36 =>
 j20 [t34, t36] m35) (k (.tuple ⟨[t12, t21]⟩) m19)) lf [(.slice none 0 0), (.int .i64 (.ofNat 0))] m7)
theorem S49_ok (lf : Nat) (cK : CallK β) (args : List Value) (L : Nat) (m : Mem) (k : Value → Mem → Option β)  : S49 lf cK args L m k = denF Tryd.prog fsT 2 K49 lf cK 49 args L m k := by kernel_rfl

/-- slices.Clone[[]int,int] -/
def K50 : Kat := []
noncomputable def S50 (lf : Nat) : FnK β := fun call args L m k =>
 uc args fun t0 l1 =>
 un0 l1 (oOpt (abin Tryd.prog .eql 22 t0 (.slice none 0 0)) fun t2 =>
 oIf t2 (k (.slice none 0 0) m) (oRes (bs Tryd.prog m 22 0 []) fun t3 m4 =>
 oRes (aappend Tryd.prog L m4 22 t3 t0) fun t5 m6 =>
 k t5 m6))
theorem S50_ok (lf : Nat) (cK : CallK β) (args : List Value) (L : Nat) (m : Mem) (k : Value → Mem → Option β)  : S50 lf cK args L m k = denF Tryd.prog fsT 2 K50 lf cK 50 args L m k := by kernel_rfl

/-- slices.Sorted[int] -/
def K51 : Kat := []
noncomputable def S51 (lf : Nat) : FnK β := fun call args L m k =>
 uc args fun t0 l1 =>
 un0 l1 (call 74 [t0] L m fun t2 m3 =>
 call 75 [t2] L m3 fun t4 m5 =>
 k t2 m5)
theorem S51_ok (lf : Nat) (cK : CallK β) (args : List Value) (L : Nat) (m : Mem) (k : Value → Mem → Option β)  : S51 lf cK args L m k = denF Tryd.prog fsT 2 K51 lf cK 51 args L m k := by kernel_rfl

/-- slices.Values[[]int,int] -/
def K52 : Kat := []
noncomputable def S52 (lf : Nat) : FnK β := fun call args L m k =>
 uc args fun t0 l1 =>
 un0 l1 (oRes (abox m t0) fun t2 m3 =>
 k (.func (.func 76) #[] ⟨[t2]⟩) m3)
theorem S52_ok (lf : Nat) (cK : CallK β) (args : List Value) (L : Nat) (m : Mem) (k : Value → Mem → Option β)  : S52 lf cK args L m k = denF Tryd.prog fsT 2 K52 lf cK 52 args L m k := by kernel_rfl

/-- vitola/vitolalaw01.DockWays$1 -/
def K53 : Kat := [(89, (0, [3, 8]))]
noncomputable def S53 (lf : Nat) : FnK β := fun call args L m k =>
 uc args fun t0 l1 =>
 un0 l1 (oOpt (ln t0) fun t2 =>
 loopS (fun j5 l3 m4 =>
 uc l3 fun t6 l7 =>
 uc l7 fun t8 l9 =>
 oInt .lss .i64 t8 t2 fun t10 =>
 oIf t10 (oOpt (ia 1 t0 t8) fun t11 =>
 oOpt (ld1 m4 t11) fun t12 =>
 oInt .add .i64 (.int .i64 (.ofNat 97)) t12 fun t13 =>
 oCv .i32 t13 fun t14 =>
 oOpt (aconv Tryd.prog 21 9 t14) fun t15 =>
 oOpt (abin Tryd.prog .add 9 t6 t15) fun t16 =>
 oInt .add .i64 t8 (.int .i64 (.ofNat 1)) fun t17 =>
 j5 [t16, t17] m4) (k t6 m4)) lf [(.string ⟨#[]⟩), (.int .i64 (.ofNat 0))] m)
theorem S53_ok (lf : Nat) (cK : CallK β) (args : List Value) (L : Nat) (m : Mem) (k : Value → Mem → Option β)  : S53 lf cK args L m k = denF Tryd.prog fsT 2 K53 lf cK 53 args L m k := by kernel_rfl

/-- vitola/vitolalaw01.DockWays$2 -/
def K54 : Kat := [(10, (0, []))]
noncomputable def S54 (lf : Nat) : FnK β := fun call args L m k =>
 uc args fun t0 l1 =>
 uc l1 fun t2 l3 =>
 uc l3 fun t4 l5 =>
 uc l5 fun t6 l7 =>
 un0 l7 (oOpt (ld1 m t2) fun t8 =>
 call 47 [t8, t0] L m fun t9 m10 =>
 call 46 [t9, (.int .i64 (.negSucc 0))] L m10 fun t11 m12 =>
 oOpt (aun .not t11) fun t13 =>
 join (fun l14 m15 =>
 k (.tuple ⟨[]⟩) m15) fun j16 =>
 oIf t13 (oOpt (ld1 m12 t4) fun t17 =>
 oOpt (ld1 m12 t6) fun t18 =>
 oCallV call t18 [t9] L m12 fun t19 m20 =>
 oSm m12 m20 t4 (
 oOpt (alookup Tryd.prog m20 60 t17 t19 false) fun t21 =>
 oInt .add .i64 t21 (.int .i64 (.ofNat 1)) fun t22 =>
 oRes (amapUpdate Tryd.prog L m20 60 t17 t19 t22) fun t23 m24 =>
 j16 [] m24)) (j16 [] m12))
theorem S54_ok (lf : Nat) (cK : CallK β) (args : List Value) (L : Nat) (m : Mem) (k : Value → Mem → Option β)  : S54 lf cK args L m k = denF Tryd.prog fsT 2 K54 lf cK 54 args L m k := by kernel_rfl

/-- slices.Delete[[]int,int] -/
def K55 : Kat := []
noncomputable def S55 (lf : Nat) : FnK β := fun call args L m k =>
 uc args fun t0 l1 =>
 uc l1 fun t2 l3 =>
 uc l3 fun t4 l5 =>
 un0 l5 (oOpt (ln t0) fun t6 =>
 oOpt (sl Tryd.prog 22 t0 (some t2) (some t4) (some t6)) fun t7 =>
 oInt .eql .i64 t2 t4 fun t8 =>
 oIf t8 (k t0 m) (oOpt (ln t0) fun t9 =>
 oOpt (sl Tryd.prog 22 t0 none (some t2) none) fun t10 =>
 oOpt (sl Tryd.prog 22 t0 (some t4) none none) fun t11 =>
 oRes (aappend Tryd.prog L m 22 t10 t11) fun t12 m13 =>
 oOpt (ln t12) fun t14 =>
 oOpt (sl Tryd.prog 22 t12 (some t14) (some t9) none) fun t15 =>
 oRes (aclear Tryd.prog L m13 22 t15) fun t16 m17 =>
 k t12 m17))
theorem S55_ok (lf : Nat) (cK : CallK β) (args : List Value) (L : Nat) (m : Mem) (k : Value → Mem → Option β)  : S55 lf cK args L m k = denF Tryd.prog fsT 2 K55 lf cK 55 args L m k := by kernel_rfl

/-- vitola/dock.come -/
def K56 : Kat := [(377, (0, [8, 21]))]
noncomputable def S56 (lf : Nat) : FnK β := fun call args L m k =>
 uc args fun t0 l1 =>
 uc l1 fun t2 l3 =>
 un0 l3 (call 27 [t0, t2] L m fun t4 m5 =>
 oInt .neq .i64 t4 (.int .i64 (.ofNat 0)) fun t6 =>
 oIf t6 (k (.tuple ⟨[(.slice none 0 0), t4]⟩) m5) (oOpt (bu Tryd.prog 76 [(0, t0)]) fun t7 =>
 oRes (anew m5 1 [(.int .i64 (.ofNat 0)), (.int .u64 (.ofNat 0))] ptrTo) fun t8 m9 =>
 oRes (st1 2 L m9 t8 t7) fun t10 m11 =>
 oOpt (ln t2) fun t12 =>
 loopS (fun j15 l13 m14 =>
 uc l13 fun t16 l17 =>
 uc l17 fun t18 l19 =>
 oInt .lss .i64 t18 t12 fun t20 =>
 oIf t20 (oOpt (ia 1 t2 t18) fun t21 =>
 oOpt (ld1 m14 t21) fun t22 =>
 call 62 [t8, t22] L m14 fun t23 m24 =>
 oRes (bs Tryd.prog m24 64 1 [(0, t23)]) fun t25 m26 =>
 oRes (aappend Tryd.prog L m26 64 t16 t25) fun t27 m28 =>
 oInt .add .i64 t18 (.int .i64 (.ofNat 1)) fun t29 =>
 j15 [t27, t29] m28) (k (.tuple ⟨[t16, (.int .i64 (.ofNat 0))]⟩) m14)) lf [(.slice none 0 0), (.int .i64 (.ofNat 0))] m11))
theorem S56_ok (lf : Nat) (cK : CallK β) (args : List Value) (L : Nat) (m : Mem) (k : Value → Mem → Option β)  : S56 lf cK args L m k = denF Tryd.prog fsT 2 K56 lf cK 56 args L m k := by kernel_rfl

end
end Go.Vit
