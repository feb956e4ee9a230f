/- Shallow texts of the seat's functions, printed by a program: part 2. -/
import Derived.Test.YtppallabmjdolaaGreatDoorRows
import Derived.Test.YtppallabmjdolaaGreatDoorFs
set_option linter.unusedVariables false
set_option maxRecDepth 100000
namespace Go.Vit
open Go Go.Proofs
section
variable {β : Type}
/-- slices.Contains[[]int,int] -/
def K36 : Kat := []
noncomputable def S36 (lf : Nat) : FnK β := fun call args L m k => uc args fun t0 l1 => uc l1 fun t2 l3 => un0 l3 (call 101 [t0, t2] L m fun t4 m5 => oInt .geq .i64 t4 (.int .i64 (.ofNat 0)) fun t6 => k t6 m5)
theorem S36_ok (lf : Nat) (cK : CallK β) (args : List Value) (L : Nat) (m : Mem) (k : Value → Mem → Option β)  : S36 lf cK args L m k = denF Tryz.prog fsT 2 K36 lf cK 36 args L m k := by kernel_rfl

/-- vitola/vitolatop.seated -/
def K37 : Kat := [(185, (0, [6, 12])), (47717, (0, [6, 8])), (3053968, (0, []))]
noncomputable def S37 (lf : Nat) : FnK β := fun call args L m k => uc args fun t0 l1 => uc l1 fun t2 l3 => un0 l3 (oRes (anew m 1 [(.int .i64 (.ofNat 0)), (.slice none 0 0)] ptrTo) fun t4 m5 => oOpt (bu Tryz.prog 74 [(0, t0)]) fun t6 => oRes (anew m5 1 [(.int .i64 (.ofNat 0)), (.slice none 0 0)] ptrTo) fun t7 m8 => oRes (st1 2 L m8 t7 t6) fun t9 m10 => loopS (fun j13 l11 m12 => uc l11 fun t14 l15 => uc l15 fun t16 l17 => oInt .lss .i64 t16 t0 fun t18 => oIf t18 (oInt .add .i64 t16 (.int .i64 (.ofNat 1)) fun t19 => loopS (fun j22 l20 m21 => uc l20 fun t23 l24 => uc l24 fun t25 l26 => oInt .lss .i64 t25 t0 fun t27 => oIf t27 (oOpt (abin Tryz.prog .shr 71 t2 t23) fun t28 => oInt .and .u32 t28 (.int .u32 (.ofNat 1)) fun t29 => oInt .eql .u32 t29 (.int .u32 (.ofNat 1)) fun t30 => join (fun l31 m32 => oInt .add .i64 t23 (.int .i64 (.ofNat 1)) fun t34 => oInt .add .i64 t25 (.int .i64 (.ofNat 1)) fun t35 => j22 [t34, t35] m32) fun j33 => oIf t30 (oOpt (fa 1 t7) fun t36 => oOpt (ld1 m21 t36) fun t37 => oOpt (bu Tryz.prog 79 [(0, t16), (1, t25)]) fun t38 => oRes (bs Tryz.prog m21 72 1 [(0, t38)]) fun t39 m40 => oRes (aappend Tryz.prog L m40 72 t37 t39) fun t41 m42 => oOpt (fa 1 t7) fun t43 => oRes (st1 1 L m42 t43 t41) fun t44 m45 => j33 [] m45) (j33 [] m21)) (oInt .add .i64 t16 (.int .i64 (.ofNat 1)) fun t46 => j13 [t23, t46] m21)) lf [t14, t19] m12) (oOpt (ldN m12 2 t7) fun t47 => oRes (st1 2 L m12 t4 t47) fun t48 m49 => oOpt (ldN m49 2 t4) fun t50 => k t50 m49)) lf [(.int .i64 (.ofNat 0)), (.int .i64 (.ofNat 0))] m10)
theorem S37_ok (lf : Nat) (cK : CallK β) (args : List Value) (L : Nat) (m : Mem) (k : Value → Mem → Option β)  : S37 lf cK args L m k = denF Tryz.prog fsT 2 K37 lf cK 37 args L m k := by kernel_rfl

/-- vitola/club.Others -/
def K38 : Kat := []
noncomputable def S38 (lf : Nat) : FnK β := fun call args L m k => uc args fun t0 l1 => un0 l1 (oRes (abox m t0) fun t2 m3 => oRes (anew m3 1 [(.int .i64 (.ofNat 0)), (.slice none 0 0)] ptrTo) fun t4 m5 => oOpt (ldN m5 2 t2) fun t6 => call 102 [t6, (.func (.func 103) #[] #[])] L m5 fun t7 m8 => oOpt (aextract t7 0) fun t9 => oOpt (aextract t7 1) fun t10 => oOpt (aassert Tryz.prog t9 74 true) fun t11 => oOpt (aextract t11 0) fun t12 => oOpt (aextract t11 1) fun t13 => oRes (anew m8 1 [(.int .i64 (.ofNat 0)), (.slice none 0 0)] ptrTo) fun t14 m15 => oRes (st1 2 L m15 t14 t12) fun t16 m17 => oOpt (ldN m17 2 t14) fun t18 => oRes (st1 2 L m17 t4 t18) fun t19 m20 => oOpt (ldN m20 2 t4) fun t21 => k (.tuple ⟨[t21, t10]⟩) m20)
theorem S38_ok (lf : Nat) (cK : CallK β) (args : List Value) (L : Nat) (m : Mem) (k : Value → Mem → Option β)  : S38 lf cK args L m k = denF Tryz.prog fsT 2 K38 lf cK 38 args L m k := by kernel_rfl

/-- vitola/vitolatop.tidy -/
def K39 : Kat := [(41, (0, [10])), (5425, (1, [22])), (5425, (3, [28])), (21, (1, [39]))]
noncomputable def S39 (lf : Nat) : FnK β := fun call args L m k => uc args fun t0 l1 => uc l1 fun t2 l3 => un0 l3 (oRes (abox m t0) fun t4 m5 => oOpt (fa 1 t4) fun t6 => oOpt (ld1 m5 t6) fun t7 => oOpt (ln t7) fun t8 => loopS (fun j11 l9 m10 => uc l9 fun t12 l13 => oInt .lss .i64 t12 t8 fun t14 => oIf t14 (oOpt (ia 2 t7 t12) fun t15 => oOpt (ldN m10 2 t15) fun t16 => oRes (anew m10 1 [(.int .i64 (.ofNat 0)), (.int .i64 (.ofNat 0))] ptrTo) fun t17 m18 => oRes (st1 2 L m18 t17 t16) fun t19 m20 => oOpt (iaA 2 1 t17 (.int .i64 (.ofNat 0))) fun t21 => oOpt (ld1 m20 t21) fun t22 => oInt .lss .i64 t22 (.int .i64 (.ofNat 0)) fun t23 => join (fun l24 m25 => uc l24 fun t27 l28 => oPick t23 (.bool true) t27 fun t29 => join (fun l30 m31 => uc l30 fun t33 l34 => oPick t29 (.bool true) t33 fun t35 => oIf t35 (k (.bool false) m31) (oInt .add .i64 t12 (.int .i64 (.ofNat 1)) fun t36 => j11 [t36] m31)) fun j32 => oGF t29 (oOpt (iaA 2 1 t17 (.int .i64 (.ofNat 1))) fun t37 => oOpt (ld1 m25 t37) fun t38 => oInt .geq .i64 t38 t2 fun t39 => j32 [t39] m25) (j32 [Go.undef] m25)) fun j26 => oGF t23 (oOpt (iaA 2 1 t17 (.int .i64 (.ofNat 1))) fun t40 => oOpt (ld1 m20 t40) fun t41 => oOpt (iaA 2 1 t17 (.int .i64 (.ofNat 0))) fun t42 => oOpt (ld1 m20 t42) fun t43 => oInt .leq .i64 t41 t43 fun t44 => j26 [t44] m20) (j26 [Go.undef] m20)) (oOpt (fa 0 t4) fun t45 => oOpt (ld1 m10 t45) fun t46 => oInt .eql .i64 t46 t2 fun t47 => join (fun l48 m49 => uc l48 fun t51 l52 => oPick t47 t51 (.bool false) fun t53 => k t53 m49) fun j50 => oGT t47 (oOpt (fa 1 t4) fun t54 => oOpt (ld1 m10 t54) fun t55 => oOpt (ln t55) fun t56 => oInt .leq .i64 t56 (.int .i64 (.ofNat 28)) fun t57 => j50 [t57] m10) (j50 [Go.undef] m10))) lf [(.int .i64 (.ofNat 0))] m5)
theorem S39_ok (lf : Nat) (cK : CallK β) (args : List Value) (L : Nat) (m : Mem) (k : Value → Mem → Option β)  : S39 lf cK args L m k = denF Tryz.prog fsT 2 K39 lf cK 39 args L m k := by kernel_rfl

/-- vitola/vitolatop.TopCovered$1 -/
def K40 : Kat := [(89, (0, [15])), (93, (1, [43]))]
noncomputable def S40 (lf : Nat) : FnK β := fun call args L m k => uc args fun t0 l1 => uc l1 fun t2 l3 => un0 l3 (oRes (abox m t0) fun t4 m5 => oOpt (ld1 m5 t2) fun t6 => oOpt (bu Tryz.prog 24 [(0, t6)]) fun t7 => oRes (anew m5 1 [(.int .i64 (.ofNat 0)), (.slice none 0 0)] ptrTo) fun t8 m9 => oRes (st1 2 L m9 t8 t7) fun t10 m11 => oOpt (fa 1 t4) fun t12 => oOpt (ld1 m11 t12) fun t13 => oOpt (ln t13) fun t14 => loopS (fun j17 l15 m16 => uc l15 fun t18 l19 => oInt .lss .i64 t18 t14 fun t20 => oIf t20 (oOpt (ia 2 t13 t18) fun t21 => oOpt (ldN m16 2 t21) fun t22 => oRes (anew m16 1 [(.int .i64 (.ofNat 0)), (.int .i64 (.ofNat 0))] ptrTo) fun t23 m24 => oRes (st1 2 L m24 t23 t22) fun t25 m26 => oOpt (fa 1 t8) fun t27 => oOpt (ld1 m26 t27) fun t28 => oOpt (iaA 2 1 t23 (.int .i64 (.ofNat 0))) fun t29 => oOpt (ld1 m26 t29) fun t30 => oOpt (abin Tryz.prog .shl 3 (.int .i64 (.ofNat 1)) t30) fun t31 => oOpt (iaA 2 1 t23 (.int .i64 (.ofNat 1))) fun t32 => oOpt (ld1 m26 t32) fun t33 => oOpt (abin Tryz.prog .shl 3 (.int .i64 (.ofNat 1)) t33) fun t34 => oInt .or .i64 t31 t34 fun t35 => oRes (bs Tryz.prog m26 22 1 [(0, t35)]) fun t36 m37 => oSm m26 m37 t27 ( oRes (aappend Tryz.prog L m37 22 t28 t36) fun t38 m39 => oOpt (fa 1 t8) fun t40 => oRes (st1 1 L m39 t40 t38) fun t41 m42 => oInt .add .i64 t18 (.int .i64 (.ofNat 1)) fun t43 => j17 [t43] m42)) (oOpt (ldN m16 2 t8) fun t44 => call 11 [t44] L m16 fun t45 m46 => oOpt (aextract t45 0) fun t47 => oOpt (aextract t45 1) fun t48 => oInt .eql .i64 t48 (.int .i64 (.ofNat 0)) fun t49 => join (fun l50 m51 => uc l50 fun t53 l54 => oPick t49 t53 (.bool false) fun t55 => k (.tuple ⟨[t47, t55]⟩) m51) fun j52 => oGT t49 (oOpt (ln t47) fun t56 => oInt .gtr .i64 t56 (.int .i64 (.ofNat 0)) fun t57 => j52 [t57] m46) (j52 [Go.undef] m46))) lf [(.int .i64 (.ofNat 0))] m11)
theorem S40_ok (lf : Nat) (cK : CallK β) (args : List Value) (L : Nat) (m : Mem) (k : Value → Mem → Option β)  : S40 lf cK args L m k = denF Tryz.prog fsT 2 K40 lf cK 40 args L m k := by kernel_rfl

/-- vitola/club.Counts -/
def K41 : Kat := []
noncomputable def S41 (lf : Nat) : FnK β := fun call args L m k => uc args fun t0 l1 => un0 l1 (oRes (abox m t0) fun t2 m3 => oOpt (ldN m3 2 t2) fun t4 => call 102 [t4, (.func (.func 104) #[] #[])] L m3 fun t5 m6 => oOpt (aextract t5 0) fun t7 => oOpt (aextract t5 1) fun t8 => oOpt (aassert Tryz.prog t7 22 true) fun t9 => oOpt (aextract t9 0) fun t10 => oOpt (aextract t9 1) fun t11 => k (.tuple ⟨[t10, t8]⟩) m6)
theorem S41_ok (lf : Nat) (cK : CallK β) (args : List Value) (L : Nat) (m : Mem) (k : Value → Mem → Option β)  : S41 lf cK args L m k = denF Tryz.prog fsT 2 K41 lf cK 41 args L m k := by kernel_rfl

/-- vitola/vitolatop.TopCovered$2 -/
def K42 : Kat := []
noncomputable def S42 (lf : Nat) : FnK β := fun call args L m k => uc args fun t0 l1 => uc l1 fun t2 l3 => un0 l3 (oRes (abox m t0) fun t4 m5 => call 43 [t2, (.func (.func 44) #[] ⟨[t4]⟩)] L m5 fun t6 m7 => k t6 m7)
theorem S42_ok (lf : Nat) (cK : CallK β) (args : List Value) (L : Nat) (m : Mem) (k : Value → Mem → Option β)  : S42 lf cK args L m k = denF Tryz.prog fsT 2 K42 lf cK 42 args L m k := by kernel_rfl

/-- slices.ContainsFunc[[]int,int] -/
def K43 : Kat := []
noncomputable def S43 (lf : Nat) : FnK β := fun call args L m k => uc args fun t0 l1 => uc l1 fun t2 l3 => un0 l3 (call 105 [t0, t2] L m fun t4 m5 => oInt .geq .i64 t4 (.int .i64 (.ofNat 0)) fun t6 => k t6 m5)
theorem S43_ok (lf : Nat) (cK : CallK β) (args : List Value) (L : Nat) (m : Mem) (k : Value → Mem → Option β)  : S43 lf cK args L m k = denF Tryz.prog fsT 2 K43 lf cK 43 args L m k := by kernel_rfl

/-- vitola/vitolatop.TopCovered$2$1 -/
def K44 : Kat := []
noncomputable def S44 (lf : Nat) : FnK β := fun call args L m k => uc args fun t0 l1 => uc l1 fun t2 l3 => un0 l3 (oOpt (ld1 m t2) fun t4 => oInt .and .i64 t0 t4 fun t5 => oOpt (ld1 m t2) fun t6 => oInt .eql .i64 t5 t6 fun t7 => k t7 m)
theorem S44_ok (lf : Nat) (cK : CallK β) (args : List Value) (L : Nat) (m : Mem) (k : Value → Mem → Option β)  : S44 lf cK args L m k = denF Tryz.prog fsT 2 K44 lf cK 44 args L m k := by kernel_rfl

/-- vitola/club.Trios -/
def K45 : Kat := []
noncomputable def S45 (lf : Nat) : FnK β := fun call args L m k => uc args fun t0 l1 => un0 l1 (oRes (abox m t0) fun t2 m3 => oOpt (ldN m3 2 t2) fun t4 => call 102 [t4, (.func (.func 106) #[] #[])] L m3 fun t5 m6 => oOpt (aextract t5 0) fun t7 => oOpt (aextract t5 1) fun t8 => oOpt (aassert Tryz.prog t7 3 true) fun t9 => oOpt (aextract t9 0) fun t10 => oOpt (aextract t9 1) fun t11 => k (.tuple ⟨[t10, t8]⟩) m6)
theorem S45_ok (lf : Nat) (cK : CallK β) (args : List Value) (L : Nat) (m : Mem) (k : Value → Mem → Option β)  : S45 lf cK args L m k = denF Tryz.prog fsT 2 K45 lf cK 45 args L m k := by kernel_rfl

/-- vitola/vitolatop.clubWorks: the general reading itself -/
def K46 : Kat := [(21, (1, [13])), (21, (3, [16]))]
noncomputable def S46 (lf : Nat) : FnK β := fun cK args L m k => denF Tryz.prog fsT 2 K46 lf cK 46 args L m k
theorem S46_ok (lf : Nat) (cK : CallK β) (args : List Value) (L : Nat) (m : Mem) (k : Value → Mem → Option β)  : S46 lf cK args L m k = denF Tryz.prog fsT 2 K46 lf cK 46 args L m k := rfl

/-- vitola/shade.Count -/
def K47 : Kat := [(185, (0, [4, 13]))]
noncomputable def S47 (lf : Nat) : FnK β := fun call args L m k => uc args fun t0 l1 => un0 l1 (call 108 [t0, (.int .i64 (.ofNat 1)), (.int .i64 (.ofNat 9))] L m fun t2 m3 => oOpt (aun .not t2) fun t4 => oIf t4 (k (.tuple ⟨[(.int .i64 (.ofNat 0)), (.int .i64 (.ofNat 1))]⟩) m3) (call 109 [] L m3 fun t5 m6 => oOpt (aindex Tryz.prog 157 t5 t0) fun t7 => loopS (fun j10 l8 m9 => uc l8 fun t11 l12 => uc l12 fun t13 l14 => oInt .lss .i64 t13 (.int .i64 (.ofNat 10)) fun t15 => oIf t15 (oOpt (aindex Tryz.prog 156 t7 t13) fun t16 => oInt .add .i64 t11 t16 fun t17 => oInt .add .i64 t13 (.int .i64 (.ofNat 1)) fun t18 => j10 [t17, t18] m9) (k (.tuple ⟨[t11, (.int .i64 (.ofNat 0))]⟩) m9)) lf [(.int .i64 (.ofNat 0)), (.int .i64 (.ofNat 0))] m6))
theorem S47_ok (lf : Nat) (cK : CallK β) (args : List Value) (L : Nat) (m : Mem) (k : Value → Mem → Option β)  : S47 lf cK args L m k = denF Tryz.prog fsT 2 K47 lf cK 47 args L m k := by kernel_rfl

/-- vitola/shade.At -/
def K48 : Kat := [(1529, (0, [1, 10, 9, 31])), (97944, (0, [1, 10, 9])), (195889, (0, [1, 10, 9, 38])), (3134245, (0, [1, 10, 9]))]
noncomputable def S48 (lf : Nat) : FnK β := fun call args L m k => uc args fun t0 l1 => uc l1 fun t2 l3 => un0 l3 (call 47 [t0] L m fun t4 m5 => oOpt (aextract t4 0) fun t6 => oOpt (aextract t4 1) fun t7 => oInt .neq .i64 t7 (.int .i64 (.ofNat 0)) fun t8 => oIf t8 (k (.tuple ⟨[(.slice none 0 0), t7]⟩) m5) (oInt .sub .i64 t6 (.int .i64 (.ofNat 1)) fun t9 => call 108 [t2, (.int .i64 (.ofNat 0)), t9] L m5 fun t10 m11 => oOpt (aun .not t10) fun t12 => oIf t12 (k (.tuple ⟨[(.slice none 0 0), (.int .i64 (.ofNat 1))]⟩) m11) (call 110 [t0] L m11 fun t13 m14 => loopS (fun j17 l15 m16 => uc l15 fun t18 l19 => uc l19 fun t20 l21 => uc l21 fun t22 l23 => uc l23 fun t24 l25 => oInt .lss .i64 t24 t0 fun t26 => oIf t26 (oOpt (anil t13) fun t27 => oOpt (fa 0 t27) fun t28 => oOpt (ld1 m16 t28) fun t29 => oOpt (ln t29) fun t30 => join (fun l31 m32 => uc l31 fun t34 l35 => uc l35 fun t36 l37 => uc l37 fun t38 l39 => oInt .add .i64 t24 (.int .i64 (.ofNat 1)) fun t40 => j17 [t34, t36, t38, t40] m32) fun j33 => loopS (fun j43 l41 m42 => uc l41 fun t44 l45 => uc l45 fun t46 l47 => uc l47 fun t48 l49 => uc l49 fun t50 l51 => oInt .lss .i64 t50 t30 fun t52 => oIf t52 (join (fun l53 m54 => uc l53 fun t56 l57 => uc l57 fun t58 l59 => uc l59 fun t60 l61 => oInt .add .i64 t50 (.int .i64 (.ofNat 1)) fun t62 => j43 [t56, t58, t60, t62] m54) fun j55 => call 111 [t13, t46, t50] L m42 fun t63 m64 => oOpt (aun .not t63) fun t65 => oIf t65 (j55 [t44, t46, t48] m64) (call 112 [t13, t50] L m64 fun t66 m67 => oInt .geq .i64 t44 t66 fun t68 => oIf t68 (oInt .sub .i64 t44 t66 fun t69 => j55 [t69, t46, t48] m67) (call 113 [t13, t50] L m67 fun t70 m71 => oRes (bs Tryz.prog m71 22 1 [(0, t70)]) fun t72 m73 => oRes (aappend Tryz.prog L m73 22 t48 t72) fun t74 m75 => j33 [t44, t70, t74] m75))) (j33 [t44, t46, t48] m42)) lf [t18, t20, t22, (.int .i64 (.ofNat 0))] m16) (k (.tuple ⟨[t22, (.int .i64 (.ofNat 0))]⟩) m16)) lf [t2, (.int .i64 (.negSucc 0)), (.slice none 0 0), (.int .i64 (.ofNat 0))] m14)))
theorem S48_ok (lf : Nat) (cK : CallK β) (args : List Value) (L : Nat) (m : Mem) (k : Value → Mem → Option β)  : S48 lf cK args L m k = denF Tryz.prog fsT 2 K48 lf cK 48 args L m k := by kernel_rfl

/-- vitola/shade.Turning -/
def K49 : Kat := [(89, (0, [14]))]
noncomputable def S49 (lf : Nat) : FnK β := fun call args L m k => uc args fun t0 l1 => un0 l1 (call 114 [t0] L m fun t2 m3 => oInt .neq .i64 t2 (.int .i64 (.ofNat 0)) fun t4 => oIf t4 (k (.tuple ⟨[(.bool false), t2]⟩) m3) (oOpt (sl Tryz.prog 22 t0 (some (.int .i64 (.ofNat 1))) none none) fun t5 => oOpt (ln t5) fun t6 => loopS (fun j9 l7 m8 => uc l7 fun t10 l11 => oInt .lss .i64 t10 t6 fun t12 => oIf t12 (oInt .add .i64 t10 (.int .i64 (.ofNat 1)) fun t13 => oOpt (ia 1 t0 t13) fun t14 => oOpt (ld1 m8 t14) fun t15 => oOpt (ia 1 t0 t10) fun t16 => oOpt (ld1 m8 t16) fun t17 => oInt .gtr .i64 t15 t17 fun t18 => oInt .rem .i64 t10 (.int .i64 (.ofNat 2)) fun t19 => oInt .eql .i64 t19 (.int .i64 (.ofNat 0)) fun t20 => oOpt (abin Tryz.prog .neq 4 t18 t20) fun t21 => oIf t21 (k (.tuple ⟨[(.bool false), (.int .i64 (.ofNat 0))]⟩) m8) (oInt .add .i64 t10 (.int .i64 (.ofNat 1)) fun t22 => j9 [t22] m8)) (k (.tuple ⟨[(.bool true), (.int .i64 (.ofNat 0))]⟩) m8)) lf [(.int .i64 (.ofNat 0))] m3))
theorem S49_ok (lf : Nat) (cK : CallK β) (args : List Value) (L : Nat) (m : Mem) (k : Value → Mem → Option β)  : S49 lf cK args L m k = denF Tryz.prog fsT 2 K49 lf cK 49 args L m k := by kernel_rfl

/-- vitola/grade.Major -/
def K50 : Kat := [(185, (0, [5, 15])), (23858, (0, [5]))]
noncomputable def S50 (lf : Nat) : FnK β := fun call args L m k => uc args fun t0 l1 => un0 l1 (call 115 [t0] L m fun t2 m3 => oInt .neq .i64 t2 (.int .i64 (.ofNat 0)) fun t4 => oIf t4 (k (.tuple ⟨[(.int .i64 (.ofNat 0)), t2]⟩) m3) (oOpt (sl Tryz.prog 22 t0 (some (.int .i64 (.ofNat 1))) none none) fun t5 => oOpt (ln t5) fun t6 => loopS (fun j9 l7 m8 => uc l7 fun t10 l11 => uc l11 fun t12 l13 => oInt .lss .i64 t12 t6 fun t14 => oIf t14 (oInt .add .i64 t12 (.int .i64 (.ofNat 1)) fun t15 => oOpt (ia 1 t0 t15) fun t16 => oOpt (ld1 m8 t16) fun t17 => oOpt (ia 1 t0 t12) fun t18 => oOpt (ld1 m8 t18) fun t19 => oInt .lss .i64 t17 t19 fun t20 => join (fun l21 m22 => uc l21 fun t24 l25 => oInt .add .i64 t12 (.int .i64 (.ofNat 1)) fun t26 => j9 [t24, t26] m22) fun j23 => oIf t20 (oInt .add .i64 t12 (.int .i64 (.ofNat 1)) fun t27 => oInt .add .i64 t10 t27 fun t28 => j23 [t28] m8) (j23 [t10] m8)) (k (.tuple ⟨[t10, (.int .i64 (.ofNat 0))]⟩) m8)) lf [(.int .i64 (.ofNat 0)), (.int .i64 (.ofNat 0))] m3))
theorem S50_ok (lf : Nat) (cK : CallK β) (args : List Value) (L : Nat) (m : Mem) (k : Value → Mem → Option β)  : S50 lf cK args L m k = denF Tryz.prog fsT 2 K50 lf cK 50 args L m k := by kernel_rfl

/-- vitola/grade.Shift -/
def K51 : Kat := [(185, (0, [5, 15]))]
noncomputable def S51 (lf : Nat) : FnK β := fun call args L m k => uc args fun t0 l1 => un0 l1 (call 115 [t0] L m fun t2 m3 => oInt .neq .i64 t2 (.int .i64 (.ofNat 0)) fun t4 => oIf t4 (k (.tuple ⟨[(.slice none 0 0), t2]⟩) m3) (oOpt (ln t0) fun t5 => loopS (fun j8 l6 m7 => uc l6 fun t9 l10 => uc l10 fun t11 l12 => oInt .lss .i64 t11 t5 fun t13 => oIf t13 (oOpt (ia 1 t0 t11) fun t14 => oOpt (ld1 m7 t14) fun t15 => call 116 [t9, t15] L m7 fun t16 m17 => oRes (bs Tryz.prog m17 22 1 [(0, t15)]) fun t18 m19 => oRes (aappend Tryz.prog L m19 22 t16 t18) fun t20 m21 => oInt .add .i64 t11 (.int .i64 (.ofNat 1)) fun t22 => j8 [t20, t22] m21) (k (.tuple ⟨[t9, (.int .i64 (.ofNat 0))]⟩) m7)) lf [(.slice none 0 0), (.int .i64 (.ofNat 0))] m3))
theorem S51_ok (lf : Nat) (cK : CallK β) (args : List Value) (L : Nat) (m : Mem) (k : Value → Mem → Option β)  : S51 lf cK args L m k = denF Tryz.prog fsT 2 K51 lf cK 51 args L m k := by kernel_rfl

/-- vitola/grade.Code -/
def K52 : Kat := [(377, (0, [5, 6, 20]))]
noncomputable def S52 (lf : Nat) : FnK β := fun call args L m k => uc args fun t0 l1 => un0 l1 (call 115 [t0] L m fun t2 m3 => oInt .neq .i64 t2 (.int .i64 (.ofNat 0)) fun t4 => oIf t4 (k (.tuple ⟨[(.slice none 0 0), t2]⟩) m3) (oOpt (ln t0) fun t5 => oOpt (abin Tryz.prog .shl 95 (.int .u64 (.ofNat 1)) t5) fun t6 => oInt .sub .u64 t6 (.int .u64 (.ofNat 1)) fun t7 => oOpt (ln t0) fun t8 => loopS (fun j11 l9 m10 => uc l9 fun t12 l13 => uc l13 fun t14 l15 => uc l15 fun t16 l17 => oInt .lss .i64 t16 t8 fun t18 => oIf t18 (oOpt (ia 1 t0 t16) fun t19 => oOpt (ld1 m10 t19) fun t20 => oOpt (abin Tryz.prog .shl 95 (.int .u64 (.ofNat 1)) t20) fun t21 => oInt .andNot .u64 t12 t21 fun t22 => oOpt (abin Tryz.prog .shl 95 (.int .u64 (.ofNat 1)) t20) fun t23 => oInt .sub .u64 t23 (.int .u64 (.ofNat 1)) fun t24 => oInt .and .u64 t22 t24 fun t25 => call 55 [t25] L m10 fun t26 m27 => oRes (bs Tryz.prog m27 22 1 [(0, t26)]) fun t28 m29 => oRes (aappend Tryz.prog L m29 22 t14 t28) fun t30 m31 => oInt .add .i64 t16 (.int .i64 (.ofNat 1)) fun t32 => j11 [t22, t30, t32] m31) (k (.tuple ⟨[t14, (.int .i64 (.ofNat 0))]⟩) m10)) lf [t7, (.slice none 0 0), (.int .i64 (.ofNat 0))] m3))
theorem S52_ok (lf : Nat) (cK : CallK β) (args : List Value) (L : Nat) (m : Mem) (k : Value → Mem → Option β)  : S52 lf cK args L m k = denF Tryz.prog fsT 2 K52 lf cK 52 args L m k := by kernel_rfl

/-- vitola/grade.Back -/
def K53 : Kat := [(377, (0, [5, 7]))]
noncomputable def S53 (lf : Nat) : FnK β := fun call args L m k => uc args fun t0 l1 => un0 l1 (call 115 [t0] L m fun t2 m3 => oInt .neq .i64 t2 (.int .i64 (.ofNat 0)) fun t4 => oIf t4 (k (.tuple ⟨[(.slice none 0 0), t2]⟩) m3) (call 117 [t0] L m3 fun t5 m6 => oOpt (ln t0) fun t7 => oRes (amakeSlice Tryz.prog m6 22 t7 t7) fun t8 m9 => oOpt (ln t0) fun t10 => oInt .sub .i64 t10 (.int .i64 (.ofNat 1)) fun t11 => loopS (fun j14 l12 m13 => uc l12 fun t15 l16 => uc l16 fun t17 l18 => oInt .geq .i64 t17 (.int .i64 (.ofNat 0)) fun t19 => oIf t19 (oOpt (ia 1 t15 t17) fun t20 => oOpt (ld1 m13 t20) fun t21 => oOpt (ia 1 t8 t17) fun t22 => oRes (st1 1 L m13 t22 t21) fun t23 m24 => oOpt (sl Tryz.prog 22 t15 none (some t17) none) fun t25 => oOpt (ia 1 t8 t17) fun t26 => oOpt (ld1 m24 t26) fun t27 => call 118 [t25, t27] L m24 fun t28 m29 => oInt .sub .i64 t17 (.int .i64 (.ofNat 1)) fun t30 => j14 [t28, t30] m29) (k (.tuple ⟨[t8, (.int .i64 (.ofNat 0))]⟩) m13)) lf [t5, t11] m9))
theorem S53_ok (lf : Nat) (cK : CallK β) (args : List Value) (L : Nat) (m : Mem) (k : Value → Mem → Option β)  : S53 lf cK args L m k = denF Tryz.prog fsT 2 K53 lf cK 53 args L m k := by kernel_rfl

/-- vitola/bond.within -/
def K54 : Kat := [(9, (1, [13]))]
noncomputable def S54 (lf : Nat) : FnK β := fun call args L m k => uc args fun t0 l1 => uc l1 fun t2 l3 => uc l3 fun t4 l5 => un0 l5 (oInt .leq .i64 t2 t0 fun t6 => join (fun l7 m8 => uc l7 fun t10 l11 => oPick t6 t10 (.bool false) fun t12 => k t12 m8) fun j9 => oGT t6 (oInt .leq .i64 t0 t4 fun t13 => j9 [t13] m) (j9 [Go.undef] m))
theorem S54_ok (lf : Nat) (cK : CallK β) (args : List Value) (L : Nat) (m : Mem) (k : Value → Mem → Option β)  : S54 lf cK args L m k = denF Tryz.prog fsT 2 K54 lf cK 54 args L m k := by kernel_rfl

/-- math/bits.OnesCount -/
def K55 : Kat := []
noncomputable def S55 (lf : Nat) : FnK β := fun call args L m k => uc args fun t0 l1 => un0 l1 (oIf (.bool false) (oCv .u32 t0 fun t2 => call 119 [t2] L m fun t3 m4 => k t3 m4) (call 120 [t0] L m fun t5 m6 => k t5 m6))
theorem S55_ok (lf : Nat) (cK : CallK β) (args : List Value) (L : Nat) (m : Mem) (k : Value → Mem → Option β)  : S55 lf cK args L m k = denF Tryz.prog fsT 2 K55 lf cK 55 args L m k := by kernel_rfl

/-- vitola/bond.ruled -/
def K56 : Kat := []
noncomputable def S56 (lf : Nat) : FnK β := fun call args L m k => uc args fun t0 l1 => un0 l1 (oRes (abox m t0) fun t2 m3 => oRes (anew m3 1 [(.int .i64 (.ofNat 0)), (.slice none 0 0)] ptrTo) fun t4 m5 => oOpt (fa 0 t2) fun t6 => oOpt (ld1 m5 t6) fun t7 => oOpt (fa 1 t2) fun t8 => oOpt (ld1 m5 t8) fun t9 => oOpt (bu Tryz.prog 97 [(0, t7), (1, t9)]) fun t10 => oOpt (bu Tryz.prog 99 [(0, t10)]) fun t11 => oRes (anew m5 1 [(.int .i64 (.ofNat 0)), (.slice none 0 0)] ptrTo) fun t12 m13 => oRes (st1 2 L m13 t12 t11) fun t14 m15 => oOpt (ldN m15 2 t12) fun t16 => oOpt (fa 0 t12) fun t17 => oOpt (ldN m15 2 t17) fun t18 => call 121 [t18] L m15 fun t19 m20 => oSm m15 m20 t12 ( oRes (st1 2 L m20 t4 t16) fun t21 m22 => oOpt (ldN m22 2 t4) fun t23 => k (.tuple ⟨[t23, t19]⟩) m22))
theorem S56_ok (lf : Nat) (cK : CallK β) (args : List Value) (L : Nat) (m : Mem) (k : Value → Mem → Option β)  : S56 lf cK args L m k = denF Tryz.prog fsT 2 K56 lf cK 56 args L m k := by kernel_rfl

end
end Go.Vit
