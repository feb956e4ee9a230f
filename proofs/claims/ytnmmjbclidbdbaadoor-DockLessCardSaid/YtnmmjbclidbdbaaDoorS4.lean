/- Shallow texts of the seat's functions, printed by a program: part 4. -/
import Derived.Test.YtnmmjbclidbdbaaDoorRows
import Derived.Test.YtnmmjbclidbdbaaDoorFs
set_option linter.unusedVariables false
set_option maxRecDepth 100000
namespace Go.Vit
open Go Go.Proofs
section
variable {β : Type}
/-- vitola/vitolaref01.park -/
def K57 : Kat := [(89, (0, [5, 6]))]
noncomputable def S57 (lf : Nat) : FnK β := fun call args L m k =>
 uc args fun t0 l1 =>
 uc l1 fun t2 l3 =>
 un0 l3 (loopS (fun j6 l4 m5 =>
 uc l4 fun t7 l8 =>
 uc l8 fun t9 l10 =>
 oOpt (ln t2) fun t11 =>
 oInt .lss .i64 t9 t11 fun t12 =>
 oIf t12 (oOpt (ia 1 t2 t9) fun t13 =>
 oOpt (ld1 m5 t13) fun t14 =>
 call 65 [t0, t7, t14] L m5 fun t15 m16 =>
 oRes (bs Tryd.prog m16 22 1 [(0, t15)]) fun t17 m18 =>
 oRes (aappend Tryd.prog L m18 22 t7 t17) fun t19 m20 =>
 oInt .add .i64 t9 (.int .i64 (.ofNat 1)) fun t21 =>
 j6 [t19, t21] m20) (k t7 m5)) lf [(.slice none 0 0), (.int .i64 (.ofNat 0))] m)
theorem S57_ok (lf : Nat) (cK : CallK β) (args : List Value) (L : Nat) (m : Mem) (k : Value → Mem → Option β)  : S57 lf cK args L m k = denF Tryd.prog fsT 2 K57 lf cK 57 args L m k := by kernel_rfl

/-- vitola/dock.served -/
def K58 : Kat := []
noncomputable def S58 (lf : Nat) : FnK β := fun call args L m k =>
 uc args fun t0 l1 =>
 un0 l1 (call 77 [t0, (.func (.func 78) #[] #[])] L m fun t2 m3 =>
 oOpt (aun .not t2) fun t4 =>
 k t4 m3)
theorem S58_ok (lf : Nat) (cK : CallK β) (args : List Value) (L : Nat) (m : Mem) (k : Value → Mem → Option β)  : S58 lf cK args L m k = denF Tryd.prog fsT 2 K58 lf cK 58 args L m k := by kernel_rfl

/-- vitola/vitolaref01.serves -/
def K59 : Kat := []
noncomputable def S59 (lf : Nat) : FnK β := fun call args L m k =>
 uc args fun t0 l1 =>
 uc l1 fun t2 l3 =>
 un0 l3 (call 57 [t0, t2] L m fun t4 m5 =>
 call 79 [t4, (.int .i64 (.negSucc 0))] L m5 fun t6 m7 =>
 oOpt (aun .not t6) fun t8 =>
 k t8 m7)
theorem S59_ok (lf : Nat) (cK : CallK β) (args : List Value) (L : Nat) (m : Mem) (k : Value → Mem → Option β)  : S59 lf cK args L m k = denF Tryd.prog fsT 2 K59 lf cK 59 args L m k := by kernel_rfl

/-- vitola/dock.filled -/
def K60 : Kat := [(185, (0, [17]))]
noncomputable def S60 (lf : Nat) : FnK β := fun call args L m k =>
 uc args fun t0 l1 =>
 uc l1 fun t2 l3 =>
 un0 l3 (oRes (anew m 1 [(.int .i64 (.ofNat 0)), (.int .u64 (.ofNat 0))] ptrTo) fun t4 m5 =>
 oOpt (bu Tryd.prog 76 [(0, t0)]) fun t6 =>
 oRes (anew m5 1 [(.int .i64 (.ofNat 0)), (.int .u64 (.ofNat 0))] ptrTo) fun t7 m8 =>
 oRes (st1 2 L m8 t7 t6) fun t9 m10 =>
 call 61 [t0, (.int .i64 (.ofNat 1)), (.int .i64 (.ofNat 8))] L m10 fun t11 m12 =>
 oOpt (aun .not t11) fun t13 =>
 oIf t13 (oOpt (ldN m12 2 t7) fun t14 =>
 oRes (st1 2 L m12 t4 t14) fun t15 m16 =>
 oOpt (ldN m16 2 t4) fun t17 =>
 k (.tuple ⟨[t17, (.int .i64 (.ofNat 1))]⟩) m16) (oOpt (ln t2) fun t18 =>
 loopS (fun j21 l19 m20 =>
 uc l19 fun t22 l23 =>
 oInt .lss .i64 t22 t18 fun t24 =>
 oIf t24 (oOpt (ia 1 t2 t22) fun t25 =>
 oOpt (ld1 m20 t25) fun t26 =>
 oInt .sub .i64 t0 (.int .i64 (.ofNat 1)) fun t27 =>
 call 61 [t26, (.int .i64 (.ofNat 0)), t27] L m20 fun t28 m29 =>
 oOpt (aun .not t28) fun t30 =>
 oIf t30 (oOpt (ldN m29 2 t7) fun t31 =>
 oRes (st1 2 L m29 t4 t31) fun t32 m33 =>
 oOpt (ldN m33 2 t4) fun t34 =>
 k (.tuple ⟨[t34, (.int .i64 (.ofNat 2))]⟩) m33) (oOpt (fa 1 t7) fun t35 =>
 oOpt (ld1 m29 t35) fun t36 =>
 oOpt (abin Tryd.prog .shr 74 t36 t26) fun t37 =>
 oInt .and .u64 t37 (.int .u64 (.ofNat 1)) fun t38 =>
 oInt .eql .u64 t38 (.int .u64 (.ofNat 1)) fun t39 =>
 oIf t39 (oOpt (ldN m29 2 t7) fun t40 =>
 oRes (st1 2 L m29 t4 t40) fun t41 m42 =>
 oOpt (ldN m42 2 t4) fun t43 =>
 k (.tuple ⟨[t43, (.int .i64 (.ofNat 6))]⟩) m42) (oOpt (fa 1 t7) fun t44 =>
 oOpt (ld1 m29 t44) fun t45 =>
 oOpt (abin Tryd.prog .shl 74 (.int .u64 (.ofNat 1)) t26) fun t46 =>
 oInt .or .u64 t45 t46 fun t47 =>
 oOpt (fa 1 t7) fun t48 =>
 oRes (st1 1 L m29 t48 t47) fun t49 m50 =>
 oInt .add .i64 t22 (.int .i64 (.ofNat 1)) fun t51 =>
 j21 [t51] m50))) (oOpt (ldN m20 2 t7) fun t52 =>
 oRes (st1 2 L m20 t4 t52) fun t53 m54 =>
 oOpt (ldN m54 2 t4) fun t55 =>
 k (.tuple ⟨[t55, (.int .i64 (.ofNat 0))]⟩) m54)) lf [(.int .i64 (.ofNat 0))] m12))
theorem S60_ok (lf : Nat) (cK : CallK β) (args : List Value) (L : Nat) (m : Mem) (k : Value → Mem → Option β)  : S60 lf cK args L m k = denF Tryd.prog fsT 2 K60 lf cK 60 args L m k := by kernel_rfl

/-- vitola/dock.within -/
def K61 : Kat := [(9, (1, [13]))]
noncomputable def S61 (lf : Nat) : FnK β := fun call args L m k =>
 uc args fun t0 l1 =>
 uc l1 fun t2 l3 =>
 uc l3 fun t4 l5 =>
 un0 l5 (oInt .leq .i64 t2 t0 fun t6 =>
 join (fun l7 m8 =>
 uc l7 fun t10 l11 =>
 oPick t6 t10 (.bool false) fun t12 =>
 k t12 m8) fun j9 =>
 oGT t6 (oInt .leq .i64 t0 t4 fun t13 =>
 j9 [t13] m) (j9 [Go.undef] m))
theorem S61_ok (lf : Nat) (cK : CallK β) (args : List Value) (L : Nat) (m : Mem) (k : Value → Mem → Option β)  : S61 lf cK args L m k = denF Tryd.prog fsT 2 K61 lf cK 61 args L m k := by kernel_rfl

/-- (*vitola/dock.row).come -/
def K62 : Kat := []
noncomputable def S62 (lf : Nat) : FnK β := fun call args L m k =>
 uc args fun t0 l1 =>
 uc l1 fun t2 l3 =>
 un0 l3 (oOpt (anil t0) fun t4 =>
 oOpt (fa 1 t4) fun t5 =>
 oOpt (ld1 m t5) fun t6 =>
 oOpt (aun .xor t6) fun t7 =>
 oOpt (abin Tryd.prog .shr 74 t7 t2) fun t8 =>
 oOpt (abin Tryd.prog .shl 74 t8 t2) fun t9 =>
 oOpt (anil t0) fun t10 =>
 oOpt (fa 0 t10) fun t11 =>
 oOpt (ld1 m t11) fun t12 =>
 oOpt (abin Tryd.prog .shl 74 (.int .u64 (.ofNat 1)) t12) fun t13 =>
 oInt .sub .u64 t13 (.int .u64 (.ofNat 1)) fun t14 =>
 oInt .and .u64 t9 t14 fun t15 =>
 oInt .eql .u64 t15 (.int .u64 (.ofNat 0)) fun t16 =>
 oIf t16 (oOpt (bu Tryd.prog 72 []) fun t17 =>
 oOpt (aiface Tryd.prog 72 t17) fun t18 =>
 k t18 m) (call 80 [t15] L m fun t19 m20 =>
 oOpt (anil t0) fun t21 =>
 oOpt (fa 1 t21) fun t22 =>
 oOpt (ld1 m20 t22) fun t23 =>
 oOpt (abin Tryd.prog .shl 74 (.int .u64 (.ofNat 1)) t19) fun t24 =>
 oInt .or .u64 t23 t24 fun t25 =>
 oOpt (anil t0) fun t26 =>
 oOpt (fa 1 t26) fun t27 =>
 oRes (st1 1 L m20 t27 t25) fun t28 m29 =>
 oInt .sub .i64 t19 t2 fun t30 =>
 oOpt (bu Tryd.prog 70 [(0, t19), (1, t30)]) fun t31 =>
 oOpt (aiface Tryd.prog 70 t31) fun t32 =>
 k t32 m29))
theorem S62_ok (lf : Nat) (cK : CallK β) (args : List Value) (L : Nat) (m : Mem) (k : Value → Mem → Option β)  : S62 lf cK args L m k = denF Tryd.prog fsT 2 K62 lf cK 62 args L m k := by kernel_rfl

/-- vitola/vitolaref01.in -/
def K63 : Kat := [(9, (1, [13]))]
noncomputable def S63 (lf : Nat) : FnK β := fun call args L m k =>
 uc args fun t0 l1 =>
 uc l1 fun t2 l3 =>
 uc l3 fun t4 l5 =>
 un0 l5 (oInt .geq .i64 t0 t2 fun t6 =>
 join (fun l7 m8 =>
 uc l7 fun t10 l11 =>
 oPick t6 t10 (.bool false) fun t12 =>
 k t12 m8) fun j9 =>
 oGT t6 (oInt .leq .i64 t0 t4 fun t13 =>
 j9 [t13] m) (j9 [Go.undef] m))
theorem S63_ok (lf : Nat) (cK : CallK β) (args : List Value) (L : Nat) (m : Mem) (k : Value → Mem → Option β)  : S63 lf cK args L m k = denF Tryd.prog fsT 2 K63 lf cK 63 args L m k := by kernel_rfl

/-- vitola/vitolaref01.different -/
def K64 : Kat := [(41, (0, [5]))]
noncomputable def S64 (lf : Nat) : FnK β := fun call args L m k =>
 uc args fun t0 l1 =>
 uc l1 fun t2 l3 =>
 un0 l3 (loopS (fun j6 l4 m5 =>
 uc l4 fun t7 l8 =>
 oOpt (ln t2) fun t9 =>
 oInt .lss .i64 t7 t9 fun t10 =>
 oIf t10 (oOpt (ia 1 t2 t7) fun t11 =>
 oOpt (ld1 m5 t11) fun t12 =>
 oInt .sub .i64 t0 (.int .i64 (.ofNat 1)) fun t13 =>
 call 63 [t12, (.int .i64 (.ofNat 0)), t13] L m5 fun t14 m15 =>
 oOpt (aun .not t14) fun t16 =>
 oIf t16 (k (.int .i64 (.ofNat 2)) m15) (oOpt (sl Tryd.prog 22 t2 none (some t7) none) fun t17 =>
 oOpt (ia 1 t2 t7) fun t18 =>
 oOpt (ld1 m15 t18) fun t19 =>
 call 79 [t17, t19] L m15 fun t20 m21 =>
 oIf t20 (k (.int .i64 (.ofNat 6)) m21) (oInt .add .i64 t7 (.int .i64 (.ofNat 1)) fun t22 =>
 j6 [t22] m21))) (k (.int .i64 (.ofNat 0)) m5)) lf [(.int .i64 (.ofNat 0))] m)
theorem S64_ok (lf : Nat) (cK : CallK β) (args : List Value) (L : Nat) (m : Mem) (k : Value → Mem → Option β)  : S64 lf cK args L m k = denF Tryd.prog fsT 2 K64 lf cK 64 args L m k := by kernel_rfl

/-- vitola/vitolaref01.next -/
def K65 : Kat := [(41, (0, [7]))]
noncomputable def S65 (lf : Nat) : FnK β := fun call args L m k =>
 uc args fun t0 l1 =>
 uc l1 fun t2 l3 =>
 uc l3 fun t4 l5 =>
 un0 l5 (loopS (fun j8 l6 m7 =>
 uc l6 fun t9 l10 =>
 oInt .lss .i64 t9 t0 fun t11 =>
 oIf t11 (call 79 [t2, t9] L m7 fun t12 m13 =>
 oOpt (aun .not t12) fun t14 =>
 oIf t14 (k t9 m13) (oInt .add .i64 t9 (.int .i64 (.ofNat 1)) fun t15 =>
 j8 [t15] m13)) (k (.int .i64 (.negSucc 0)) m7)) lf [t4] m)
theorem S65_ok (lf : Nat) (cK : CallK β) (args : List Value) (L : Nat) (m : Mem) (k : Value → Mem → Option β)  : S65 lf cK args L m k = denF Tryd.prog fsT 2 K65 lf cK 65 args L m k := by kernel_rfl

/-- vitola/dock.listed -/
def K66 : Kat := []
noncomputable def S66 (lf : Nat) : FnK β := fun call args L m k =>
 uc args fun t0 l1 =>
 uc l1 fun t2 l3 =>
 uc l3 fun t4 l5 =>
 un0 l5 (oRes (abox m t2) fun t6 m7 =>
 call 61 [t0, (.int .i64 (.ofNat 1)), (.int .i64 (.ofNat 8))] L m7 fun t8 m9 =>
 oOpt (aun .not t8) fun t10 =>
 oIf t10 (k (.int .i64 (.ofNat 1)) m9) (oOpt (ln t4) fun t11 =>
 oInt .gtr .i64 t11 t0 fun t12 =>
 oIf t12 (k (.int .i64 (.ofNat 3)) m9) (call 81 [t4, (.func (.func 82) #[] ⟨[t6]⟩)] L m9 fun t13 m14 =>
 oIf t13 (k (.int .i64 (.ofNat 2)) m14) (k (.int .i64 (.ofNat 0)) m14))))
theorem S66_ok (lf : Nat) (cK : CallK β) (args : List Value) (L : Nat) (m : Mem) (k : Value → Mem → Option β)  : S66 lf cK args L m k = denF Tryd.prog fsT 2 K66 lf cK 66 args L m k := by kernel_rfl

/-- slices.Reverse[[]int,int] -/
def K67 : Kat := [(9, (0, [2, 3]))]
noncomputable def S67 (lf : Nat) : FnK β := fun call args L m k =>
 uc args fun t0 l1 =>
 un0 l1 (oOpt (ln t0) fun t2 =>
 oInt .sub .i64 t2 (.int .i64 (.ofNat 1)) fun t3 =>
 loopS (fun j6 l4 m5 =>
 uc l4 fun t7 l8 =>
 uc l8 fun t9 l10 =>
 oInt .lss .i64 t7 t9 fun t11 =>
 oIf t11 (oOpt (ia 1 t0 t9) fun t12 =>
 oOpt (ld1 m5 t12) fun t13 =>
 oOpt (ia 1 t0 t7) fun t14 =>
 oOpt (ld1 m5 t14) fun t15 =>
 oOpt (ia 1 t0 t7) fun t16 =>
 oRes (st1 1 L m5 t16 t13) fun t17 m18 =>
 oOpt (ia 1 t0 t9) fun t19 =>
 oRes (st1 1 L m18 t19 t15) fun t20 m21 =>
 oInt .add .i64 t7 (.int .i64 (.ofNat 1)) fun t22 =>
 oInt .sub .i64 t9 (.int .i64 (.ofNat 1)) fun t23 =>
 j6 [t22, t23] m21) (k (.tuple ⟨[]⟩) m5)) lf [(.int .i64 (.ofNat 0)), t3] m)
theorem S67_ok (lf : Nat) (cK : CallK β) (args : List Value) (L : Nat) (m : Mem) (k : Value → Mem → Option β)  : S67 lf cK args L m k = denF Tryd.prog fsT 2 K67 lf cK 67 args L m k := by kernel_rfl

/-- vitola/vitolaref01.proves -/
def K68 : Kat := [(89, (0, [7, 8])), (2888, (0, [7]))]
noncomputable def S68 (lf : Nat) : FnK β := fun call args L m k =>
 uc args fun t0 l1 =>
 uc l1 fun t2 l3 =>
 uc l3 fun t4 l5 =>
 un0 l5 (loopS (fun j8 l6 m7 =>
 uc l6 fun t9 l10 =>
 uc l10 fun t11 l12 =>
 oOpt (ln t2) fun t13 =>
 oInt .lss .i64 t11 t13 fun t14 =>
 oIf t14 (oOpt (ia 1 t2 t11) fun t15 =>
 oOpt (ld1 m7 t15) fun t16 =>
 oInt .sub .i64 t0 t4 fun t17 =>
 oInt .geq .i64 t16 t17 fun t18 =>
 join (fun l19 m20 =>
 uc l19 fun t22 l23 =>
 oInt .add .i64 t11 (.int .i64 (.ofNat 1)) fun t24 =>
 j8 [t22, t24] m20) fun j21 =>
 oIf t18 (oInt .add .i64 t9 (.int .i64 (.ofNat 1)) fun t25 =>
 j21 [t25] m7) (j21 [t9] m7)) (oInt .gtr .i64 t9 t4 fun t26 =>
 k t26 m7)) lf [(.int .i64 (.ofNat 0)), (.int .i64 (.ofNat 0))] m)
theorem S68_ok (lf : Nat) (cK : CallK β) (args : List Value) (L : Nat) (m : Mem) (k : Value → Mem → Option β)  : S68 lf cK args L m k = denF Tryd.prog fsT 2 K68 lf cK 68 args L m k := by kernel_rfl

/-- vitola/dock.crowded -/
def K69 : Kat := [(89, (0, [7, 12])), (11570, (0, [7]))]
noncomputable def S69 (lf : Nat) : FnK β := fun call args L m k =>
 uc args fun t0 l1 =>
 uc l1 fun t2 l3 =>
 uc l3 fun t4 l5 =>
 un0 l5 (oOpt (ln t2) fun t6 =>
 loopS (fun j9 l7 m8 =>
 uc l7 fun t10 l11 =>
 uc l11 fun t12 l13 =>
 oInt .lss .i64 t12 t6 fun t14 =>
 oIf t14 (oOpt (ia 1 t2 t12) fun t15 =>
 oOpt (ld1 m8 t15) fun t16 =>
 oInt .sub .i64 t0 t4 fun t17 =>
 oInt .geq .i64 t16 t17 fun t18 =>
 join (fun l19 m20 =>
 uc l19 fun t22 l23 =>
 oInt .add .i64 t12 (.int .i64 (.ofNat 1)) fun t24 =>
 j9 [t22, t24] m20) fun j21 =>
 oIf t18 (oInt .add .i64 t10 (.int .i64 (.ofNat 1)) fun t25 =>
 j21 [t25] m8) (j21 [t10] m8)) (oInt .gtr .i64 t10 t4 fun t26 =>
 k t26 m8)) lf [(.int .i64 (.ofNat 0)), (.int .i64 (.ofNat 0))] m)
theorem S69_ok (lf : Nat) (cK : CallK β) (args : List Value) (L : Nat) (m : Mem) (k : Value → Mem → Option β)  : S69 lf cK args L m k = denF Tryd.prog fsT 2 K69 lf cK 69 args L m k := by kernel_rfl

/-- (vitola/dock.counter).count -/
def K70 : Kat := [(761, (0, [10, 29])), (97586, (0, [10]))]
noncomputable def S70 (lf : Nat) : FnK β := fun call args L m k =>
 uc args fun t0 l1 =>
 uc l1 fun t2 l3 =>
 uc l3 fun t4 l5 =>
 un0 l5 (oRes (abox m t0) fun t6 m7 =>
 oInt .eql .i64 t4 (.int .i64 (.ofNat 0)) fun t8 =>
 oIf t8 (k (.int .i64 (.ofNat 1)) m7) (oCv .i64 t2 fun t9 =>
 oOpt (bu Tryd.prog 99 [(0, t9), (1, t4)]) fun t10 =>
 oRes (anew m7 1 [(.int .i64 (.ofNat 0)), (.int .i64 (.ofNat 0))] ptrTo) fun t11 m12 =>
 oRes (st1 2 L m12 t11 t10) fun t13 m14 =>
 oOpt (fa 1 t6) fun t15 =>
 oOpt (ld1 m14 t15) fun t16 =>
 oOpt (ldN m14 2 t11) fun t17 =>
 oOpt (alookup Tryd.prog m14 84 t16 t17 true) fun t18 =>
 oOpt (aextract t18 0) fun t19 =>
 oOpt (aextract t18 1) fun t20 =>
 oIf t20 (k t19 m14) (oOpt (fa 0 t6) fun t21 =>
 oOpt (ld1 m14 t21) fun t22 =>
 loopS (fun j25 l23 m24 =>
 uc l23 fun t26 l27 =>
 uc l27 fun t28 l29 =>
 oInt .lss .i64 t28 t22 fun t30 =>
 oIf t30 (oOpt (abin Tryd.prog .shr 74 t2 t28) fun t31 =>
 oInt .and .u64 t31 (.int .u64 (.ofNat 1)) fun t32 =>
 oInt .eql .u64 t32 (.int .u64 (.ofNat 0)) fun t33 =>
 join (fun l34 m35 =>
 uc l34 fun t37 l38 =>
 oInt .add .i64 t28 (.int .i64 (.ofNat 1)) fun t39 =>
 j25 [t37, t39] m35) fun j36 =>
 oIf t33 (oOpt (fa 0 t6) fun t40 =>
 oOpt (ld1 m24 t40) fun t41 =>
 oOpt (bu Tryd.prog 76 [(0, t41), (1, t2)]) fun t42 =>
 call 72 [t42, t28] m24.next m24 fun t43 m44 =>
 oOpt (ldN m44 2 t6) fun t45 =>
 oOpt (abin Tryd.prog .shl 74 (.int .u64 (.ofNat 1)) t28) fun t46 =>
 oInt .or .u64 t2 t46 fun t47 =>
 oInt .sub .i64 t4 (.int .i64 (.ofNat 1)) fun t48 =>
 call 70 [t45, t47, t48] L m44 fun t49 m50 =>
 oInt .mul .i64 t43 t49 fun t51 =>
 oInt .add .i64 t26 t51 fun t52 =>
 j36 [t52] m50) (j36 [t26] m24)) (oOpt (fa 1 t6) fun t53 =>
 oOpt (ld1 m24 t53) fun t54 =>
 oOpt (ldN m24 2 t11) fun t55 =>
 oRes (amapUpdate Tryd.prog L m24 84 t54 t55 t26) fun t56 m57 =>
 k t26 m57)) lf [(.int .i64 (.ofNat 0)), (.int .i64 (.ofNat 0))] m14)))
theorem S70_ok (lf : Nat) (cK : CallK β) (args : List Value) (L : Nat) (m : Mem) (k : Value → Mem → Option β)  : S70 lf cK args L m k = denF Tryd.prog fsT 2 K70 lf cK 70 args L m k := by kernel_rfl

/-- vitola/vitolaref01.count -/
def K71 : Kat := []
noncomputable def S71 (lf : Nat) : FnK β := fun call args L m k =>
 uc args fun t0 l1 =>
 uc l1 fun t2 l3 =>
 uc l3 fun t4 l5 =>
 un0 l5 (oInt .sub .i64 t0 (.int .i64 (.ofNat 1)) fun t6 =>
 call 83 [t0, t2, t6, (.int .i64 (.ofNat 0)), t4] L m fun t7 m8 =>
 k t7 m8)
theorem S71_ok (lf : Nat) (cK : CallK β) (args : List Value) (L : Nat) (m : Mem) (k : Value → Mem → Option β)  : S71 lf cK args L m k = denF Tryd.prog fsT 2 K71 lf cK 71 args L m k := by kernel_rfl

/-- (vitola/dock.row).back -/
def K72 : Kat := [(89, (0, [5, 1])), (719, (1, [16]))]
noncomputable def S72 (lf : Nat) : FnK β := fun call args L m k =>
 uc args fun t0 l1 =>
 uc l1 fun t2 l3 =>
 un0 l3 (oRes (abox m t0) fun t4 m5 =>
 oInt .sub .i64 t2 (.int .i64 (.ofNat 1)) fun t6 =>
 loopS (fun j9 l7 m8 =>
 uc l7 fun t10 l11 =>
 uc l11 fun t12 l13 =>
 oInt .geq .i64 t12 (.int .i64 (.ofNat 0)) fun t14 =>
 join (fun l15 m16 =>
 uc l15 fun t18 l19 =>
 oPick t14 t18 (.bool false) fun t20 =>
 oIf t20 (oInt .add .i64 t10 (.int .i64 (.ofNat 1)) fun t21 =>
 oInt .sub .i64 t12 (.int .i64 (.ofNat 1)) fun t22 =>
 j9 [t21, t22] m16) (k t10 m16)) fun j17 =>
 oGT t14 (oOpt (fa 1 t4) fun t23 =>
 oOpt (ld1 m8 t23) fun t24 =>
 oOpt (abin Tryd.prog .shr 74 t24 t12) fun t25 =>
 oInt .and .u64 t25 (.int .u64 (.ofNat 1)) fun t26 =>
 oInt .eql .u64 t26 (.int .u64 (.ofNat 1)) fun t27 =>
 j17 [t27] m8) (j17 [Go.undef] m8)) lf [(.int .i64 (.ofNat 1)), t6] m5)
theorem S72_ok (lf : Nat) (cK : CallK β) (args : List Value) (L : Nat) (m : Mem) (k : Value → Mem → Option β)  : S72 lf cK args L m k = denF Tryd.prog fsT 2 K72 lf cK 72 args L m k := by kernel_rfl

/-- slices.Index[[]int,int] -/
def K73 : Kat := [(41, (0, [8]))]
noncomputable def S73 (lf : Nat) : FnK β := fun call args L m k =>
 uc args fun t0 l1 =>
 uc l1 fun t2 l3 =>
 un0 l3 (oOpt (ln t0) fun t4 =>
 loopS (fun j7 l5 m6 =>
 uc l5 fun t8 l9 =>
 oInt .lss .i64 t8 t4 fun t10 =>
 oIf t10 (oOpt (ia 1 t0 t8) fun t11 =>
 oOpt (ld1 m6 t11) fun t12 =>
 oInt .eql .i64 t2 t12 fun t13 =>
 oIf t13 (k t8 m6) (oInt .add .i64 t8 (.int .i64 (.ofNat 1)) fun t14 =>
 j7 [t14] m6)) (k (.int .i64 (.negSucc 0)) m6)) lf [(.int .i64 (.ofNat 0))] m)
theorem S73_ok (lf : Nat) (cK : CallK β) (args : List Value) (L : Nat) (m : Mem) (k : Value → Mem → Option β)  : S73 lf cK args L m k = denF Tryd.prog fsT 2 K73 lf cK 73 args L m k := by kernel_rfl

/-- slices.Collect[int] -/
def K74 : Kat := []
noncomputable def S74 (lf : Nat) : FnK β := fun call args L m k =>
 uc args fun t0 l1 =>
 un0 l1 (call 84 [(.slice none 0 0), t0] L m fun t2 m3 =>
 k t2 m3)
theorem S74_ok (lf : Nat) (cK : CallK β) (args : List Value) (L : Nat) (m : Mem) (k : Value → Mem → Option β)  : S74 lf cK args L m k = denF Tryd.prog fsT 2 K74 lf cK 74 args L m k := by kernel_rfl


/-- slices.Values[[]int,int]$1 -/
def K76 : Kat := [(9, (0, [7]))]
noncomputable def S76 (lf : Nat) : FnK β := fun call args L m k =>
 uc args fun t0 l1 =>
 uc l1 fun t2 l3 =>
 un0 l3 (oOpt (ld1 m t2) fun t4 =>
 oOpt (ln t4) fun t5 =>
 loopS (fun j8 l6 m7 =>
 uc l6 fun t9 l10 =>
 oInt .lss .i64 t9 t5 fun t11 =>
 oIf t11 (oOpt (ia 1 t4 t9) fun t12 =>
 oOpt (ld1 m7 t12) fun t13 =>
 oCallV call t0 [t13] L m7 fun t14 m15 =>
 oOpt (aun .not t14) fun t16 =>
 oIf t16 (k (.tuple ⟨[]⟩) m15) (oInt .add .i64 t9 (.int .i64 (.ofNat 1)) fun t17 =>
 j8 [t17] m15)) (k (.tuple ⟨[]⟩) m7)) lf [(.int .i64 (.ofNat 0))] m)
theorem S76_ok (lf : Nat) (cK : CallK β) (args : List Value) (L : Nat) (m : Mem) (k : Value → Mem → Option β)  : S76 lf cK args L m k = denF Tryd.prog fsT 2 K76 lf cK 76 args L m k := by kernel_rfl

/-- slices.ContainsFunc[[]vitola/dock.fate,vitola/dock.fate] -/
def K77 : Kat := []
noncomputable def S77 (lf : Nat) : FnK β := fun call args L m k =>
 uc args fun t0 l1 =>
 uc l1 fun t2 l3 =>
 un0 l3 (call 87 [t0, t2] L m fun t4 m5 =>
 oInt .geq .i64 t4 (.int .i64 (.ofNat 0)) fun t6 =>
 k t6 m5)
theorem S77_ok (lf : Nat) (cK : CallK β) (args : List Value) (L : Nat) (m : Mem) (k : Value → Mem → Option β)  : S77 lf cK args L m k = denF Tryd.prog fsT 2 K77 lf cK 77 args L m k := by kernel_rfl

/-- vitola/dock.served$1 -/
def K78 : Kat := []
noncomputable def S78 (lf : Nat) : FnK β := fun call args L m k =>
 uc args fun t0 l1 =>
 un0 l1 (oInv call [(72, 126), (70, 125)] t0 [] L m fun t2 m3 =>
 oOpt (aun .not t2) fun t4 =>
 k t4 m3)
theorem S78_ok (lf : Nat) (cK : CallK β) (args : List Value) (L : Nat) (m : Mem) (k : Value → Mem → Option β)  : S78 lf cK args L m k = denF Tryd.prog fsT 2 K78 lf cK 78 args L m k := by kernel_rfl

/-- vitola/vitolaref01.has -/
def K79 : Kat := [(41, (0, [5]))]
noncomputable def S79 (lf : Nat) : FnK β := fun call args L m k =>
 uc args fun t0 l1 =>
 uc l1 fun t2 l3 =>
 un0 l3 (loopS (fun j6 l4 m5 =>
 uc l4 fun t7 l8 =>
 oOpt (ln t0) fun t9 =>
 oInt .lss .i64 t7 t9 fun t10 =>
 oIf t10 (oOpt (ia 1 t0 t7) fun t11 =>
 oOpt (ld1 m5 t11) fun t12 =>
 oInt .eql .i64 t12 t2 fun t13 =>
 oIf t13 (k (.bool true) m5) (oInt .add .i64 t7 (.int .i64 (.ofNat 1)) fun t14 =>
 j6 [t14] m5)) (k (.bool false) m5)) lf [(.int .i64 (.ofNat 0))] m)
theorem S79_ok (lf : Nat) (cK : CallK β) (args : List Value) (L : Nat) (m : Mem) (k : Value → Mem → Option β)  : S79 lf cK args L m k = denF Tryd.prog fsT 2 K79 lf cK 79 args L m k := by kernel_rfl

/-- math/bits.TrailingZeros -/
def K80 : Kat := []
noncomputable def S80 (lf : Nat) : FnK β := fun call args L m k =>
 uc args fun t0 l1 =>
 un0 l1 (oIf (.bool false) (oCv .u32 t0 fun t2 =>
 call 88 [t2] L m fun t3 m4 =>
 k t3 m4) (call 89 [t0] L m fun t5 m6 =>
 k t5 m6))
theorem S80_ok (lf : Nat) (cK : CallK β) (args : List Value) (L : Nat) (m : Mem) (k : Value → Mem → Option β)  : S80 lf cK args L m k = denF Tryd.prog fsT 2 K80 lf cK 80 args L m k := by kernel_rfl

/-- slices.ContainsFunc[[]int,int] -/
def K81 : Kat := []
noncomputable def S81 (lf : Nat) : FnK β := fun call args L m k =>
 uc args fun t0 l1 =>
 uc l1 fun t2 l3 =>
 un0 l3 (call 90 [t0, t2] L m fun t4 m5 =>
 oInt .geq .i64 t4 (.int .i64 (.ofNat 0)) fun t6 =>
 k t6 m5)
theorem S81_ok (lf : Nat) (cK : CallK β) (args : List Value) (L : Nat) (m : Mem) (k : Value → Mem → Option β)  : S81 lf cK args L m k = denF Tryd.prog fsT 2 K81 lf cK 81 args L m k := by kernel_rfl

end
end Go.Vit
