/- Shallow texts of the seat's functions, printed by a program: part 4. -/
import Derived.Test.YticlkfhmmcepjaaDoorRows
import Derived.Test.YticlkfhmmcepjaaDoorFs
set_option linter.unusedVariables false
set_option maxRecDepth 100000
namespace Go.Vit
open Go Go.Proofs
section
variable {β : Type}
/-- vitola/vitolalaw10.edges -/
def K34 : Kat := [(41, (0, [4, 5, 11])), (43417, (0, [7, 16])), (5557553, (1, [29])), (5557553, (3, [35])), (5557553, (4, [40])), (5557553, (5, [42])), (5557553, (6, [47])), (5557553, (7, [52])), (5557553, (8, [53])), (5557553, (9, [54])), (5557554, (0, [7])), (43419, (1, [62])), (43420, (0, [4, 5])), (173686, (0, [5]))]
noncomputable def S34 (lf : Nat) : FnK β := fun call args L m k =>
 uc args fun t0 l1 =>
 uc l1 fun t2 l3 =>
 un0 l3 (oOpt (abin Tryd.prog .shl 3 (.int .i64 (.ofNat 1)) t0) fun t4 =>
 loopS (fun j7 l5 m6 =>
 uc l5 fun t8 l9 =>
 uc l9 fun t10 l11 =>
 uc l11 fun t12 l13 =>
 oInt .lss .i64 t12 t4 fun t14 =>
 oIf t14 (oOpt (abin Tryd.prog .shl 3 (.int .i64 (.ofNat 1)) t0) fun t15 =>
 loopS (fun j18 l16 m17 =>
 uc l16 fun t19 l20 =>
 uc l20 fun t21 l22 =>
 oInt .lss .i64 t21 t15 fun t23 =>
 oIf t23 (oInt .neq .i64 t21 t12 fun t24 =>
 join (fun l25 m26 =>
 uc l25 fun t28 l29 =>
 oPick t24 t28 (.bool false) fun t30 =>
 join (fun l31 m32 =>
 uc l31 fun t34 l35 =>
 join (fun l36 m37 =>
 uc l36 fun t39 l40 =>
 join (fun l41 m42 =>
 uc l41 fun t44 l45 =>
 join (fun l46 m47 =>
 uc l46 fun t49 l50 =>
 join (fun l51 m52 =>
 uc l51 fun t54 l55 =>
 join (fun l56 m57 =>
 uc l56 fun t59 l60 =>
 join (fun l61 m62 =>
 uc l61 fun t64 l65 =>
 oPick t30 t64 (.bool false) fun t66 =>
 join (fun l67 m68 =>
 uc l67 fun t70 l71 =>
 oInt .add .i64 t21 (.int .i64 (.ofNat 1)) fun t72 =>
 j18 [t70, t72] m68) fun j69 =>
 oIf t66 (j69 [(.bool false)] m62) (j69 [t19] m62)) fun j63 =>
 oGT t30 (oPick t44 (.bool true) t59 fun t73 =>
 j63 [t73] m57) (j63 [Go.undef] m57)) fun j58 =>
 oGF t44 (oPick t49 t54 (.bool false) fun t74 =>
 j58 [t74] m52) (j58 [Go.undef] m52)) fun j53 =>
 oGT t49 (oInt .and .i64 t21 t12 fun t75 =>
 oInt .eql .i64 t75 t12 fun t76 =>
 j53 [t76] m47) (j53 [Go.undef] m47)) fun j48 =>
 oGF t44 (oCallV call t2 [t12] L m42 fun t77 m78 =>
 oOpt (aun .not t77) fun t79 =>
 j48 [t79] m78) (j48 [Go.undef] m42)) fun j43 =>
 oGT t30 (oPick t34 t39 (.bool false) fun t80 =>
 j43 [t80] m37) (j43 [Go.undef] m37)) fun j38 =>
 oGT t34 (oInt .and .i64 t21 t12 fun t81 =>
 oInt .eql .i64 t81 t21 fun t82 =>
 j38 [t82] m32) (j38 [Go.undef] m32)) fun j33 =>
 oGT t30 (oCallV call t2 [t12] L m26 fun t83 m84 =>
 j33 [t83] m84) (j33 [Go.undef] m26)) fun j27 =>
 oGT t24 (oCallV call t2 [t21] L m17 fun t85 m86 =>
 oCallV call t2 [t12] L m86 fun t87 m88 =>
 oOpt (abin Tryd.prog .eql 4 t85 t87) fun t89 =>
 j27 [t89] m88) (j27 [Go.undef] m17)) (join (fun l90 m91 =>
 uc l90 fun t93 l94 =>
 oPick t19 t93 (.bool false) fun t95 =>
 join (fun l96 m97 =>
 uc l96 fun t99 l100 =>
 uc l100 fun t101 l102 =>
 oInt .add .i64 t12 (.int .i64 (.ofNat 1)) fun t103 =>
 j7 [t99, t101, t103] m97) fun j98 =>
 oIf t95 (oRes (bs Tryd.prog m91 22 1 [(0, t12)]) fun t104 m105 =>
 oRes (aappend Tryd.prog L m105 22 t8 t104) fun t106 m107 =>
 j98 [t106, t10] m107) (join (fun l108 m109 =>
 uc l108 fun t111 l112 =>
 j98 [t8, t111] m109) fun j110 =>
 oIf t19 (oRes (bs Tryd.prog m91 22 1 [(0, t12)]) fun t113 m114 =>
 oRes (aappend Tryd.prog L m114 22 t10 t113) fun t115 m116 =>
 j110 [t115] m116) (j110 [t10] m91))) fun j92 =>
 oGT t19 (oCallV call t2 [t12] L m17 fun t117 m118 =>
 j92 [t117] m118) (j92 [Go.undef] m17))) lf [(.bool true), (.int .i64 (.ofNat 0))] m6) (k (.tuple ⟨[t8, t10]⟩) m6)) lf [(.slice none 0 0), (.slice none 0 0), (.int .i64 (.ofNat 0))] m)
theorem S34_ok (lf : Nat) (cK : CallK β) (args : List Value) (L : Nat) (m : Mem) (k : Value → Mem → Option β)  : S34 lf cK args L m k = denF Tryd.prog fsT 2 K34 lf cK 34 args L m k := by kernel_rfl

/-- vitola/vitolalaw10.BondEdges$1 -/
def K35 : Kat := []
noncomputable def S35 (lf : Nat) : FnK β := fun call args L m k =>
 uc args fun t0 l1 =>
 uc l1 fun t2 l3 =>
 un0 l3 (oOpt (ld1 m t2) fun t4 =>
 call 28 [t4, t0] L m fun t5 m6 =>
 k t5 m6)
theorem S35_ok (lf : Nat) (cK : CallK β) (args : List Value) (L : Nat) (m : Mem) (k : Value → Mem → Option β)  : S35 lf cK args L m k = denF Tryd.prog fsT 2 K35 lf cK 35 args L m k := by kernel_rfl

/-- vitola/vitolalaw10.BondEdges$2 -/
def K36 : Kat := []
noncomputable def S36 (lf : Nat) : FnK β := fun call args L m k =>
 uc args fun t0 l1 =>
 uc l1 fun t2 l3 =>
 un0 l3 (oOpt (ld1 m t2) fun t4 =>
 call 29 [t4, t0] L m fun t5 m6 =>
 k t5 m6)
theorem S36_ok (lf : Nat) (cK : CallK β) (args : List Value) (L : Nat) (m : Mem) (k : Value → Mem → Option β)  : S36 lf cK args L m k = denF Tryd.prog fsT 2 K36 lf cK 36 args L m k := by kernel_rfl

/-- vitola/bond.Least -/
def K37 : Kat := []
noncomputable def S37 (lf : Nat) : FnK β := fun call args L m k =>
 uc args fun t0 l1 =>
 un0 l1 (oRes (abox m t0) fun t2 m3 =>
 oOpt (ldN m3 2 t2) fun t4 =>
 call 63 [t4] L m3 fun t5 m6 =>
 oOpt (aextract t5 0) fun t7 =>
 oOpt (aextract t5 1) fun t8 =>
 oRes (anew m6 1 [(.int .i64 (.ofNat 0)), (.slice none 0 0)] ptrTo) fun t9 m10 =>
 oRes (st1 2 L m10 t9 t7) fun t11 m12 =>
 oInt .neq .i64 t8 (.int .i64 (.ofNat 0)) fun t13 =>
 oIf t13 (k (.tuple ⟨[(.slice none 0 0), t8]⟩) m12) (oOpt (fa 0 t9) fun t14 =>
 oOpt (ldN m12 2 t14) fun t15 =>
 call 72 [t15] L m12 fun t16 m17 =>
 k (.tuple ⟨[t16, (.int .i64 (.ofNat 0))]⟩) m17))
theorem S37_ok (lf : Nat) (cK : CallK β) (args : List Value) (L : Nat) (m : Mem) (k : Value → Mem → Option β)  : S37 lf cK args L m k = denF Tryd.prog fsT 2 K37 lf cK 37 args L m k := by kernel_rfl

/-- vitola/bond.Smallest -/
def K38 : Kat := []
noncomputable def S38 (lf : Nat) : FnK β := fun call args L m k =>
 uc args fun t0 l1 =>
 un0 l1 (oRes (abox m t0) fun t2 m3 =>
 oOpt (ldN m3 2 t2) fun t4 =>
 call 66 [t4] L m3 fun t5 m6 =>
 oOpt (aextract t5 0) fun t7 =>
 oOpt (aextract t5 1) fun t8 =>
 oRes (anew m6 1 [(.int .i64 (.ofNat 0)), (.slice none 0 0)] ptrTo) fun t9 m10 =>
 oRes (st1 2 L m10 t9 t7) fun t11 m12 =>
 oInt .neq .i64 t8 (.int .i64 (.ofNat 0)) fun t13 =>
 oIf t13 (k (.tuple ⟨[(.slice none 0 0), t8]⟩) m12) (oOpt (fa 0 t9) fun t14 =>
 oOpt (ldN m12 2 t14) fun t15 =>
 call 64 [t15] L m12 fun t16 m17 =>
 k (.tuple ⟨[t16, (.int .i64 (.ofNat 0))]⟩) m17))
theorem S38_ok (lf : Nat) (cK : CallK β) (args : List Value) (L : Nat) (m : Mem) (k : Value → Mem → Option β)  : S38 lf cK args L m k = denF Tryd.prog fsT 2 K38 lf cK 38 args L m k := by kernel_rfl

/-- vitola/bond.Keys -/
def K39 : Kat := [(377, (0, [26])), (96869, (0, [9]))]
noncomputable def S39 (lf : Nat) : FnK β := fun call args L m k =>
 uc args fun t0 l1 =>
 un0 l1 (oRes (abox m t0) fun t2 m3 =>
 oOpt (ldN m3 2 t2) fun t4 =>
 call 66 [t4] L m3 fun t5 m6 =>
 oOpt (aextract t5 0) fun t7 =>
 oOpt (aextract t5 1) fun t8 =>
 oRes (anew m6 1 [(.int .i64 (.ofNat 0)), (.slice none 0 0)] ptrTo) fun t9 m10 =>
 oRes (st1 2 L m10 t9 t7) fun t11 m12 =>
 oInt .neq .i64 t8 (.int .i64 (.ofNat 0)) fun t13 =>
 oIf t13 (k (.tuple ⟨[(.slice none 0 0), t8]⟩) m12) (oOpt (fa 0 t9) fun t14 =>
 oOpt (fa 0 t14) fun t15 =>
 oOpt (ld1 m12 t15) fun t16 =>
 oRes (amakeSlice Tryd.prog m12 22 t16 t16) fun t17 m18 =>
 oOpt (fa 0 t9) fun t19 =>
 oOpt (fa 1 t19) fun t20 =>
 oOpt (ld1 m18 t20) fun t21 =>
 oOpt (ln t21) fun t22 =>
 loopS (fun j25 l23 m24 =>
 uc l23 fun t26 l27 =>
 oInt .lss .i64 t26 t22 fun t28 =>
 oIf t28 (oOpt (ia 1 t21 t26) fun t29 =>
 oOpt (ld1 m24 t29) fun t30 =>
 oCv .u64 t30 fun t31 =>
 loopS (fun j34 l32 m33 =>
 uc l32 fun t35 l36 =>
 oInt .neq .u64 t35 (.int .u64 (.ofNat 0)) fun t37 =>
 oIf t37 (call 80 [t35] L m33 fun t38 m39 =>
 oOpt (ia 1 t17 t38) fun t40 =>
 oOpt (ld1 m39 t40) fun t41 =>
 oInt .add .i64 t41 (.int .i64 (.ofNat 1)) fun t42 =>
 oOpt (ia 1 t17 t38) fun t43 =>
 oRes (st1 1 L m39 t43 t42) fun t44 m45 =>
 oInt .sub .u64 t35 (.int .u64 (.ofNat 1)) fun t46 =>
 oInt .and .u64 t35 t46 fun t47 =>
 j34 [t47] m45) (oInt .add .i64 t26 (.int .i64 (.ofNat 1)) fun t48 =>
 j25 [t48] m33)) lf [t31] m24) (k (.tuple ⟨[t17, (.int .i64 (.ofNat 0))]⟩) m24)) lf [(.int .i64 (.ofNat 0))] m18))
theorem S39_ok (lf : Nat) (cK : CallK β) (args : List Value) (L : Nat) (m : Mem) (k : Value → Mem → Option β)  : S39 lf cK args L m k = denF Tryd.prog fsT 2 K39 lf cK 39 args L m k := by kernel_rfl

/-- math/bits.OnesCount -/
def K40 : Kat := []
noncomputable def S40 (lf : Nat) : FnK β := fun call args L m k =>
 uc args fun t0 l1 =>
 un0 l1 (oIf (.bool false) (oCv .u32 t0 fun t2 =>
 call 81 [t2] L m fun t3 m4 =>
 k t3 m4) (call 82 [t0] L m fun t5 m6 =>
 k t5 m6))
theorem S40_ok (lf : Nat) (cK : CallK β) (args : List Value) (L : Nat) (m : Mem) (k : Value → Mem → Option β)  : S40 lf cK args L m k = denF Tryd.prog fsT 2 K40 lf cK 40 args L m k := by kernel_rfl

/-- slices.ContainsFunc[[]int,int] -/
def K41 : Kat := []
noncomputable def S41 (lf : Nat) : FnK β := fun call args L m k =>
 uc args fun t0 l1 =>
 uc l1 fun t2 l3 =>
 un0 l3 (call 83 [t0, t2] L m fun t4 m5 =>
 oInt .geq .i64 t4 (.int .i64 (.ofNat 0)) fun t6 =>
 k t6 m5)
theorem S41_ok (lf : Nat) (cK : CallK β) (args : List Value) (L : Nat) (m : Mem) (k : Value → Mem → Option β)  : S41 lf cK args L m k = denF Tryd.prog fsT 2 K41 lf cK 41 args L m k := by kernel_rfl

/-- vitola/vitolalaw10.BondDual$1 -/
def K42 : Kat := [(9, (1, [12]))]
noncomputable def S42 (lf : Nat) : FnK β := fun call args L m k =>
 uc args fun t0 l1 =>
 uc l1 fun t2 l3 =>
 un0 l3 (oOpt (ld1 m t2) fun t4 =>
 oInt .neq .i64 t0 t4 fun t5 =>
 join (fun l6 m7 =>
 uc l6 fun t9 l10 =>
 oPick t5 t9 (.bool false) fun t11 =>
 k t11 m7) fun j8 =>
 oGT t5 (oOpt (ld1 m t2) fun t12 =>
 oInt .and .i64 t0 t12 fun t13 =>
 oInt .eql .i64 t13 t0 fun t14 =>
 j8 [t14] m) (j8 [Go.undef] m))
theorem S42_ok (lf : Nat) (cK : CallK β) (args : List Value) (L : Nat) (m : Mem) (k : Value → Mem → Option β)  : S42 lf cK args L m k = denF Tryd.prog fsT 2 K42 lf cK 42 args L m k := by kernel_rfl


/-- slices.Compact[[]int,int] -/
def K44 : Kat := [(89, (0, [3])), (92457, (0, [3, 5])), (2958664, (0, [3]))]
noncomputable def S44 (lf : Nat) : FnK β := fun call args L m k =>
 uc args fun t0 l1 =>
 un0 l1 (oOpt (ln t0) fun t2 =>
 oInt .lss .i64 t2 (.int .i64 (.ofNat 2)) fun t3 =>
 oIf t3 (k t0 m) (loopS (fun j6 l4 m5 =>
 uc l4 fun t7 l8 =>
 oOpt (ln t0) fun t9 =>
 oInt .lss .i64 t7 t9 fun t10 =>
 oIf t10 (oOpt (ia 1 t0 t7) fun t11 =>
 oOpt (ld1 m5 t11) fun t12 =>
 oInt .sub .i64 t7 (.int .i64 (.ofNat 1)) fun t13 =>
 oOpt (ia 1 t0 t13) fun t14 =>
 oOpt (ld1 m5 t14) fun t15 =>
 oInt .eql .i64 t12 t15 fun t16 =>
 oIf t16 (oOpt (sl Tryd.prog 22 t0 (some t7) none none) fun t17 =>
 loopS (fun j20 l18 m19 =>
 uc l18 fun t21 l22 =>
 uc l22 fun t23 l24 =>
 oOpt (ln t17) fun t25 =>
 oInt .lss .i64 t23 t25 fun t26 =>
 oIf t26 (oOpt (ia 1 t17 t23) fun t27 =>
 oOpt (ld1 m19 t27) fun t28 =>
 oInt .sub .i64 t23 (.int .i64 (.ofNat 1)) fun t29 =>
 oOpt (ia 1 t17 t29) fun t30 =>
 oOpt (ld1 m19 t30) fun t31 =>
 oInt .neq .i64 t28 t31 fun t32 =>
 join (fun l33 m34 =>
 uc l33 fun t36 l37 =>
 oInt .add .i64 t23 (.int .i64 (.ofNat 1)) fun t38 =>
 j20 [t36, t38] m34) fun j35 =>
 oIf t32 (oOpt (ia 1 t17 t23) fun t39 =>
 oOpt (ld1 m19 t39) fun t40 =>
 oOpt (ia 1 t0 t21) fun t41 =>
 oRes (st1 1 L m19 t41 t40) fun t42 m43 =>
 oInt .add .i64 t21 (.int .i64 (.ofNat 1)) fun t44 =>
 j35 [t44] m43) (j35 [t21] m19)) (oOpt (sl Tryd.prog 22 t0 (some t21) none none) fun t45 =>
 oRes (aclear Tryd.prog L m19 22 t45) fun t46 m47 =>
 oOpt (sl Tryd.prog 22 t0 none (some t21) none) fun t48 =>
 k t48 m47)) lf [t7, (.int .i64 (.ofNat 1))] m5) (oInt .add .i64 t7 (.int .i64 (.ofNat 1)) fun t49 =>
 j6 [t49] m5)) (k t0 m5)) lf [(.int .i64 (.ofNat 1))] m))
theorem S44_ok (lf : Nat) (cK : CallK β) (args : List Value) (L : Nat) (m : Mem) (k : Value → Mem → Option β)  : S44 lf cK args L m k = denF Tryd.prog fsT 2 K44 lf cK 44 args L m k := by kernel_rfl

/-- vitola/vitolaref10.May -/
def K45 : Kat := [(43, (1, [18])), (44, (0, [6]))]
noncomputable def S45 (lf : Nat) : FnK β := fun call args L m k =>
 uc args fun t0 l1 =>
 uc l1 fun t2 l3 =>
 un0 l3 (oRes (abox m t0) fun t4 m5 =>
 oOpt (ldN m5 2 t4) fun t6 =>
 call 49 [t6] L m5 fun t7 m8 =>
 oInt .eql .i64 t7 (.int .i64 (.ofNat 0)) fun t9 =>
 join (fun l10 m11 =>
 uc l10 fun t13 l14 =>
 oPick t9 t13 (.bool false) fun t15 =>
 join (fun l16 m17 =>
 uc l16 fun t19 l20 =>
 oInt .neq .i64 t19 (.int .i64 (.ofNat 0)) fun t21 =>
 oIf t21 (k (.tuple ⟨[(.bool false), t19]⟩) m17) (oOpt (ldN m17 2 t4) fun t22 =>
 call 70 [t22, t2] L m17 fun t23 m24 =>
 k (.tuple ⟨[t23, (.int .i64 (.ofNat 0))]⟩) m24)) fun j18 =>
 oIf t15 (j18 [(.int .i64 (.ofNat 2))] m11) (j18 [t7] m11)) fun j12 =>
 oGT t9 (oOpt (fa 0 t4) fun t25 =>
 oOpt (ld1 m8 t25) fun t26 =>
 oOpt (abin Tryd.prog .shl 3 (.int .i64 (.ofNat 1)) t26) fun t27 =>
 oInt .sub .i64 t27 (.int .i64 (.ofNat 1)) fun t28 =>
 call 75 [t2, (.int .i64 (.ofNat 0)), t28] L m8 fun t29 m30 =>
 oOpt (aun .not t29) fun t31 =>
 j12 [t31] m30) (j12 [Go.undef] m8))
theorem S45_ok (lf : Nat) (cK : CallK β) (args : List Value) (L : Nat) (m : Mem) (k : Value → Mem → Option β)  : S45 lf cK args L m k = denF Tryd.prog fsT 2 K45 lf cK 45 args L m k := by kernel_rfl

/-- vitola/vitolaref10.Least -/
def K46 : Kat := [(377, (0, [5, 6])), (96841, (0, [7, 8])), (1549475, (1, [36])), (1549475, (2, [39])), (1549475, (3, [41])), (1549475, (4, [44])), (1549475, (5, [46])), (48422, (0, [5]))]
noncomputable def S46 (lf : Nat) : FnK β := fun call args L m k =>
 uc args fun t0 l1 =>
 un0 l1 (oRes (abox m t0) fun t2 m3 =>
 oOpt (ldN m3 2 t2) fun t4 =>
 call 49 [t4] L m3 fun t5 m6 =>
 oInt .neq .i64 t5 (.int .i64 (.ofNat 0)) fun t7 =>
 oIf t7 (k (.tuple ⟨[(.slice none 0 0), t5]⟩) m6) (loopS (fun j10 l8 m9 =>
 uc l8 fun t11 l12 =>
 uc l12 fun t13 l14 =>
 oOpt (fa 0 t2) fun t15 =>
 oOpt (ld1 m9 t15) fun t16 =>
 oOpt (abin Tryd.prog .shl 3 (.int .i64 (.ofNat 1)) t16) fun t17 =>
 oInt .lss .i64 t13 t17 fun t18 =>
 oIf t18 (oOpt (ldN m9 2 t2) fun t19 =>
 call 70 [t19, t13] L m9 fun t20 m21 =>
 loopS (fun j24 l22 m23 =>
 uc l22 fun t25 l26 =>
 uc l26 fun t27 l28 =>
 oOpt (fa 0 t2) fun t29 =>
 oOpt (ld1 m23 t29) fun t30 =>
 oOpt (abin Tryd.prog .shl 3 (.int .i64 (.ofNat 1)) t30) fun t31 =>
 oInt .lss .i64 t27 t31 fun t32 =>
 oIf t32 (join (fun l33 m34 =>
 uc l33 fun t36 l37 =>
 join (fun l38 m39 =>
 uc l38 fun t41 l42 =>
 join (fun l43 m44 =>
 uc l43 fun t46 l47 =>
 join (fun l48 m49 =>
 uc l48 fun t51 l52 =>
 join (fun l53 m54 =>
 uc l53 fun t56 l57 =>
 oPick t25 t56 (.bool false) fun t58 =>
 oInt .add .i64 t27 (.int .i64 (.ofNat 1)) fun t59 =>
 j24 [t58, t59] m54) fun j55 =>
 oGT t25 (oPick t46 t51 (.bool false) fun t60 =>
 oOpt (aun .not t60) fun t61 =>
 j55 [t61] m49) (j55 [Go.undef] m49)) fun j50 =>
 oGT t46 (oOpt (ldN m44 2 t2) fun t62 =>
 call 70 [t62, t27] L m44 fun t63 m64 =>
 j50 [t63] m64) (j50 [Go.undef] m44)) fun j45 =>
 oGT t25 (oPick t36 t41 (.bool false) fun t65 =>
 j45 [t65] m39) (j45 [Go.undef] m39)) fun j40 =>
 oGT t36 (call 73 [t27, t13] L m34 fun t66 m67 =>
 j40 [t66] m67) (j40 [Go.undef] m34)) fun j35 =>
 oGT t25 (oInt .neq .i64 t27 t13 fun t68 =>
 j35 [t68] m23) (j35 [Go.undef] m23)) (join (fun l69 m70 =>
 uc l69 fun t72 l73 =>
 oInt .add .i64 t13 (.int .i64 (.ofNat 1)) fun t74 =>
 j10 [t72, t74] m70) fun j71 =>
 oIf t25 (oRes (bs Tryd.prog m23 22 1 [(0, t13)]) fun t75 m76 =>
 oRes (aappend Tryd.prog L m76 22 t11 t75) fun t77 m78 =>
 j71 [t77] m78) (j71 [t11] m23))) lf [t20, (.int .i64 (.ofNat 0))] m21) (k (.tuple ⟨[t11, (.int .i64 (.ofNat 0))]⟩) m9)) lf [(.slice none 0 0), (.int .i64 (.ofNat 0))] m6))
theorem S46_ok (lf : Nat) (cK : CallK β) (args : List Value) (L : Nat) (m : Mem) (k : Value → Mem → Option β)  : S46 lf cK args L m k = denF Tryd.prog fsT 2 K46 lf cK 46 args L m k := by kernel_rfl

/-- vitola/vitolaref10.Barred -/
def K47 : Kat := []
noncomputable def S47 (lf : Nat) : FnK β := fun call args L m k =>
 uc args fun t0 l1 =>
 un0 l1 (oRes (abox m t0) fun t2 m3 =>
 oOpt (ldN m3 2 t2) fun t4 =>
 call 49 [t4] L m3 fun t5 m6 =>
 oInt .neq .i64 t5 (.int .i64 (.ofNat 0)) fun t7 =>
 oIf t7 (k (.tuple ⟨[(.slice none 0 0), t5]⟩) m6) (oOpt (ldN m6 2 t2) fun t8 =>
 call 65 [t8] L m6 fun t9 m10 =>
 k (.tuple ⟨[t9, (.int .i64 (.ofNat 0))]⟩) m10))
theorem S47_ok (lf : Nat) (cK : CallK β) (args : List Value) (L : Nat) (m : Mem) (k : Value → Mem → Option β)  : S47 lf cK args L m k = denF Tryd.prog fsT 2 K47 lf cK 47 args L m k := by kernel_rfl

/-- vitola/bond.Check -/
def K48 : Kat := []
noncomputable def S48 (lf : Nat) : FnK β := fun call args L m k =>
 uc args fun t0 l1 =>
 un0 l1 (oRes (abox m t0) fun t2 m3 =>
 oOpt (ldN m3 2 t2) fun t4 =>
 call 63 [t4] L m3 fun t5 m6 =>
 oOpt (aextract t5 0) fun t7 =>
 oOpt (aextract t5 1) fun t8 =>
 oRes (anew m6 1 [(.int .i64 (.ofNat 0)), (.slice none 0 0)] ptrTo) fun t9 m10 =>
 oRes (st1 2 L m10 t9 t7) fun t11 m12 =>
 k t8 m12)
theorem S48_ok (lf : Nat) (cK : CallK β) (args : List Value) (L : Nat) (m : Mem) (k : Value → Mem → Option β)  : S48 lf cK args L m k = denF Tryd.prog fsT 2 K48 lf cK 48 args L m k := by kernel_rfl

/-- vitola/vitolaref10.Check -/
def K49 : Kat := []
noncomputable def S49 (lf : Nat) : FnK β := fun call args L m k =>
 uc args fun t0 l1 =>
 un0 l1 (oRes (abox m t0) fun t2 m3 =>
 oOpt (fa 0 t2) fun t4 =>
 oOpt (ld1 m3 t4) fun t5 =>
 oOpt (fa 1 t2) fun t6 =>
 oOpt (ld1 m3 t6) fun t7 =>
 call 86 [t5, t7] L m3 fun t8 m9 =>
 k t8 m9)
theorem S49_ok (lf : Nat) (cK : CallK β) (args : List Value) (L : Nat) (m : Mem) (k : Value → Mem → Option β)  : S49 lf cK args L m k = denF Tryd.prog fsT 2 K49 lf cK 49 args L m k := by kernel_rfl

/-- vitola/vitolaref10.Opens -/
def K50 : Kat := [(21, (1, [19]))]
noncomputable def S50 (lf : Nat) : FnK β := fun call args L m k =>
 uc args fun t0 l1 =>
 uc l1 fun t2 l3 =>
 un0 l3 (oRes (abox m t0) fun t4 m5 =>
 oOpt (ldN m5 2 t4) fun t6 =>
 call 51 [t6, t2] L m5 fun t7 m8 =>
 oOpt (aextract t7 0) fun t9 =>
 oOpt (aextract t7 1) fun t10 =>
 oInt .eql .i64 t10 (.int .i64 (.ofNat 0)) fun t11 =>
 join (fun l12 m13 =>
 uc l12 fun t15 l16 =>
 oPick t11 t15 (.bool false) fun t17 =>
 k (.tuple ⟨[t17, t10]⟩) m13) fun j14 =>
 oGT t11 (oOpt (ln t9) fun t18 =>
 oInt .eql .i64 t18 (.int .i64 (.ofNat 0)) fun t19 =>
 j14 [t19] m8) (j14 [Go.undef] m8))
theorem S50_ok (lf : Nat) (cK : CallK β) (args : List Value) (L : Nat) (m : Mem) (k : Value → Mem → Option β)  : S50 lf cK args L m k = denF Tryd.prog fsT 2 K50 lf cK 50 args L m k := by kernel_rfl

/-- vitola/vitolaref10.Lacks -/
def K51 : Kat := [(43, (1, [18])), (44, (0, [6]))]
noncomputable def S51 (lf : Nat) : FnK β := fun call args L m k =>
 uc args fun t0 l1 =>
 uc l1 fun t2 l3 =>
 un0 l3 (oRes (abox m t0) fun t4 m5 =>
 oOpt (ldN m5 2 t4) fun t6 =>
 call 55 [t6] L m5 fun t7 m8 =>
 oInt .eql .i64 t7 (.int .i64 (.ofNat 0)) fun t9 =>
 join (fun l10 m11 =>
 uc l10 fun t13 l14 =>
 oPick t9 t13 (.bool false) fun t15 =>
 join (fun l16 m17 =>
 uc l16 fun t19 l20 =>
 oInt .neq .i64 t19 (.int .i64 (.ofNat 0)) fun t21 =>
 oIf t21 (k (.tuple ⟨[(.slice none 0 0), t19]⟩) m17) (oOpt (ldN m17 2 t4) fun t22 =>
 call 71 [t22, t2] L m17 fun t23 m24 =>
 k (.tuple ⟨[t23, (.int .i64 (.ofNat 0))]⟩) m24)) fun j18 =>
 oIf t15 (j18 [(.int .i64 (.ofNat 2))] m11) (j18 [t7] m11)) fun j12 =>
 oGT t9 (oOpt (fa 0 t4) fun t25 =>
 oOpt (ld1 m8 t25) fun t26 =>
 oOpt (abin Tryd.prog .shl 3 (.int .i64 (.ofNat 1)) t26) fun t27 =>
 oInt .sub .i64 t27 (.int .i64 (.ofNat 1)) fun t28 =>
 call 75 [t2, (.int .i64 (.ofNat 0)), t28] L m8 fun t29 m30 =>
 oOpt (aun .not t29) fun t31 =>
 j12 [t31] m30) (j12 [Go.undef] m8))
theorem S51_ok (lf : Nat) (cK : CallK β) (args : List Value) (L : Nat) (m : Mem) (k : Value → Mem → Option β)  : S51 lf cK args L m k = denF Tryd.prog fsT 2 K51 lf cK 51 args L m k := by kernel_rfl

/-- vitola/vitolaref10.Smallest -/
def K52 : Kat := [(377, (0, [5, 6])), (96841, (0, [7, 8])), (1549475, (1, [38])), (1549475, (2, [41])), (1549475, (3, [43])), (1549475, (4, [48])), (1549475, (5, [50])), (48422, (0, [5]))]
noncomputable def S52 (lf : Nat) : FnK β := fun call args L m k =>
 uc args fun t0 l1 =>
 un0 l1 (oRes (abox m t0) fun t2 m3 =>
 oOpt (ldN m3 2 t2) fun t4 =>
 call 55 [t4] L m3 fun t5 m6 =>
 oInt .neq .i64 t5 (.int .i64 (.ofNat 0)) fun t7 =>
 oIf t7 (k (.tuple ⟨[(.slice none 0 0), t5]⟩) m6) (loopS (fun j10 l8 m9 =>
 uc l8 fun t11 l12 =>
 uc l12 fun t13 l14 =>
 oOpt (fa 0 t2) fun t15 =>
 oOpt (ld1 m9 t15) fun t16 =>
 oOpt (abin Tryd.prog .shl 3 (.int .i64 (.ofNat 1)) t16) fun t17 =>
 oInt .lss .i64 t13 t17 fun t18 =>
 oIf t18 (oOpt (ldN m9 2 t2) fun t19 =>
 call 71 [t19, t13] L m9 fun t20 m21 =>
 oOpt (ln t20) fun t22 =>
 oInt .eql .i64 t22 (.int .i64 (.ofNat 0)) fun t23 =>
 loopS (fun j26 l24 m25 =>
 uc l24 fun t27 l28 =>
 uc l28 fun t29 l30 =>
 oOpt (fa 0 t2) fun t31 =>
 oOpt (ld1 m25 t31) fun t32 =>
 oOpt (abin Tryd.prog .shl 3 (.int .i64 (.ofNat 1)) t32) fun t33 =>
 oInt .lss .i64 t29 t33 fun t34 =>
 oIf t34 (join (fun l35 m36 =>
 uc l35 fun t38 l39 =>
 join (fun l40 m41 =>
 uc l40 fun t43 l44 =>
 join (fun l45 m46 =>
 uc l45 fun t48 l49 =>
 join (fun l50 m51 =>
 uc l50 fun t53 l54 =>
 join (fun l55 m56 =>
 uc l55 fun t58 l59 =>
 oPick t27 t58 (.bool false) fun t60 =>
 oInt .add .i64 t29 (.int .i64 (.ofNat 1)) fun t61 =>
 j26 [t60, t61] m56) fun j57 =>
 oGT t27 (oPick t48 t53 (.bool false) fun t62 =>
 oOpt (aun .not t62) fun t63 =>
 j57 [t63] m51) (j57 [Go.undef] m51)) fun j52 =>
 oGT t48 (oOpt (ldN m46 2 t2) fun t64 =>
 call 71 [t64, t29] L m46 fun t65 m66 =>
 oOpt (ln t65) fun t67 =>
 oInt .eql .i64 t67 (.int .i64 (.ofNat 0)) fun t68 =>
 j52 [t68] m66) (j52 [Go.undef] m46)) fun j47 =>
 oGT t27 (oPick t38 t43 (.bool false) fun t69 =>
 j47 [t69] m41) (j47 [Go.undef] m41)) fun j42 =>
 oGT t38 (call 73 [t29, t13] L m36 fun t70 m71 =>
 j42 [t70] m71) (j42 [Go.undef] m36)) fun j37 =>
 oGT t27 (oInt .neq .i64 t29 t13 fun t72 =>
 j37 [t72] m25) (j37 [Go.undef] m25)) (join (fun l73 m74 =>
 uc l73 fun t76 l77 =>
 oInt .add .i64 t13 (.int .i64 (.ofNat 1)) fun t78 =>
 j10 [t76, t78] m74) fun j75 =>
 oIf t27 (oRes (bs Tryd.prog m25 22 1 [(0, t13)]) fun t79 m80 =>
 oRes (aappend Tryd.prog L m80 22 t11 t79) fun t81 m82 =>
 j75 [t81] m82) (j75 [t11] m25))) lf [t23, (.int .i64 (.ofNat 0))] m21) (k (.tuple ⟨[t11, (.int .i64 (.ofNat 0))]⟩) m9)) lf [(.slice none 0 0), (.int .i64 (.ofNat 0))] m6))
theorem S52_ok (lf : Nat) (cK : CallK β) (args : List Value) (L : Nat) (m : Mem) (k : Value → Mem → Option β)  : S52 lf cK args L m k = denF Tryd.prog fsT 2 K52 lf cK 52 args L m k := by kernel_rfl

/-- vitola/vitolaref10.Keys -/
def K53 : Kat := [(377, (0, [5, 6])), (96841, (0, [7, 8])), (3098952, (0, [7]))]
noncomputable def S53 (lf : Nat) : FnK β := fun call args L m k =>
 uc args fun t0 l1 =>
 un0 l1 (oRes (abox m t0) fun t2 m3 =>
 oOpt (ldN m3 2 t2) fun t4 =>
 call 55 [t4] L m3 fun t5 m6 =>
 oInt .neq .i64 t5 (.int .i64 (.ofNat 0)) fun t7 =>
 oIf t7 (k (.tuple ⟨[(.slice none 0 0), t5]⟩) m6) (loopS (fun j10 l8 m9 =>
 uc l8 fun t11 l12 =>
 uc l12 fun t13 l14 =>
 oOpt (fa 0 t2) fun t15 =>
 oOpt (ld1 m9 t15) fun t16 =>
 oInt .lss .i64 t13 t16 fun t17 =>
 oIf t17 (loopS (fun j20 l18 m19 =>
 uc l18 fun t21 l22 =>
 uc l22 fun t23 l24 =>
 oOpt (fa 1 t2) fun t25 =>
 oOpt (ld1 m19 t25) fun t26 =>
 oOpt (ln t26) fun t27 =>
 oInt .lss .i64 t23 t27 fun t28 =>
 oIf t28 (oOpt (fa 1 t2) fun t29 =>
 oOpt (ld1 m19 t29) fun t30 =>
 oOpt (ia 1 t30 t23) fun t31 =>
 oOpt (ld1 m19 t31) fun t32 =>
 oOpt (abin Tryd.prog .shr 3 t32 t13) fun t33 =>
 oInt .rem .i64 t33 (.int .i64 (.ofNat 2)) fun t34 =>
 oInt .eql .i64 t34 (.int .i64 (.ofNat 1)) fun t35 =>
 join (fun l36 m37 =>
 uc l36 fun t39 l40 =>
 oInt .add .i64 t23 (.int .i64 (.ofNat 1)) fun t41 =>
 j20 [t39, t41] m37) fun j38 =>
 oIf t35 (oInt .add .i64 t21 (.int .i64 (.ofNat 1)) fun t42 =>
 j38 [t42] m19) (j38 [t21] m19)) (oRes (bs Tryd.prog m19 22 1 [(0, t21)]) fun t43 m44 =>
 oRes (aappend Tryd.prog L m44 22 t11 t43) fun t45 m46 =>
 oInt .add .i64 t13 (.int .i64 (.ofNat 1)) fun t47 =>
 j10 [t45, t47] m46)) lf [(.int .i64 (.ofNat 0)), (.int .i64 (.ofNat 0))] m9) (k (.tuple ⟨[t11, (.int .i64 (.ofNat 0))]⟩) m9)) lf [(.slice none 0 0), (.int .i64 (.ofNat 0))] m6))
theorem S53_ok (lf : Nat) (cK : CallK β) (args : List Value) (L : Nat) (m : Mem) (k : Value → Mem → Option β)  : S53 lf cK args L m k = denF Tryd.prog fsT 2 K53 lf cK 53 args L m k := by kernel_rfl

/-- vitola/bond.CheckPlan -/
def K54 : Kat := []
noncomputable def S54 (lf : Nat) : FnK β := fun call args L m k =>
 uc args fun t0 l1 =>
 un0 l1 (oRes (abox m t0) fun t2 m3 =>
 oOpt (ldN m3 2 t2) fun t4 =>
 call 66 [t4] L m3 fun t5 m6 =>
 oOpt (aextract t5 0) fun t7 =>
 oOpt (aextract t5 1) fun t8 =>
 oRes (anew m6 1 [(.int .i64 (.ofNat 0)), (.slice none 0 0)] ptrTo) fun t9 m10 =>
 oRes (st1 2 L m10 t9 t7) fun t11 m12 =>
 k t8 m12)
theorem S54_ok (lf : Nat) (cK : CallK β) (args : List Value) (L : Nat) (m : Mem) (k : Value → Mem → Option β)  : S54 lf cK args L m k = denF Tryd.prog fsT 2 K54 lf cK 54 args L m k := by kernel_rfl

/-- vitola/vitolaref10.CheckPlan -/
def K55 : Kat := []
noncomputable def S55 (lf : Nat) : FnK β := fun call args L m k =>
 uc args fun t0 l1 =>
 un0 l1 (oRes (abox m t0) fun t2 m3 =>
 oOpt (fa 0 t2) fun t4 =>
 oOpt (ld1 m3 t4) fun t5 =>
 oOpt (fa 1 t2) fun t6 =>
 oOpt (ld1 m3 t6) fun t7 =>
 call 86 [t5, t7] L m3 fun t8 m9 =>
 k t8 m9)
theorem S55_ok (lf : Nat) (cK : CallK β) (args : List Value) (L : Nat) (m : Mem) (k : Value → Mem → Option β)  : S55 lf cK args L m k = denF Tryd.prog fsT 2 K55 lf cK 55 args L m k := by kernel_rfl

end
end Go.Vit
