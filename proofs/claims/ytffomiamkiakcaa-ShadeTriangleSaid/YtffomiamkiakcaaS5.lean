/- Shallow texts of the seat's functions, printed by a program: part 5. -/
import Derived.Test.YtffomiamkiakcaaRows
import Derived.Test.YtffomiamkiakcaaFs
set_option linter.unusedVariables false
set_option maxRecDepth 100000
namespace Go.Vit
open Go Go.Proofs
section
variable {β : Type}
/-- vitola/shade.Box$1 -/
def K75 : Kat := []
noncomputable def S75 (lf : Nat) : FnK β := fun call args L m k =>
 uc args fun t0 l1 =>
 uc l1 fun t2 l3 =>
 uc l3 fun t4 l5 =>
 un0 l5 (oOpt (ld1 m t4) fun t6 =>
 oInt .gtr .i64 t2 t6 fun t7 =>
 oIf t7 (k (.int .i64 (.negSucc 0)) m) (k t0 m))
theorem S75_ok (lf : Nat) (cK : CallK β) (args : List Value) (L : Nat) (m : Mem) (k : Value → Mem → Option β)  : S75 lf cK args L m k = denF Try.prog fsT 0 K75 lf cK 75 args L m k := by kernel_rfl

/-- vitola/vitolaref07.wide -/
def K76 : Kat := [(185, (0, [6, 7])), (11921, (1, [37])), (11921, (2, [43])), (11921, (3, [44])), (11922, (0, [6]))]
noncomputable def S76 (lf : Nat) : FnK β := fun call args L m k =>
 uc args fun t0 l1 =>
 uc l1 fun t2 l3 =>
 un0 l3 (call 95 [(.slice none 0 0), t0] L m fun t4 m5 =>
 oOpt (ia 1 t4 (.int .i64 (.ofNat 0))) fun t6 =>
 oOpt (ld1 m5 t6) fun t7 =>
 loopS (fun j10 l8 m9 =>
 uc l8 fun t11 l12 =>
 uc l12 fun t13 l14 =>
 oOpt (ln t4) fun t15 =>
 oInt .lss .i64 t13 t15 fun t16 =>
 oIf t16 (oOpt (ia 1 t4 t13) fun t17 =>
 oOpt (ld1 m9 t17) fun t18 =>
 call 63 [t18, t2] L m9 fun t19 m20 =>
 call 63 [t11, t2] L m20 fun t21 m22 =>
 oInt .gtr .i64 t19 t21 fun t23 =>
 join (fun l24 m25 =>
 uc l24 fun t27 l28 =>
 join (fun l29 m30 =>
 uc l29 fun t32 l33 =>
 join (fun l34 m35 =>
 uc l34 fun t37 l38 =>
 oPick t23 (.bool true) t37 fun t39 =>
 join (fun l40 m41 =>
 uc l40 fun t43 l44 =>
 oInt .add .i64 t13 (.int .i64 (.ofNat 1)) fun t45 =>
 j10 [t43, t45] m41) fun j42 =>
 oIf t39 (oOpt (ia 1 t4 t13) fun t46 =>
 oOpt (ld1 m35 t46) fun t47 =>
 j42 [t47] m35) (j42 [t11] m35)) fun j36 =>
 oGF t23 (oPick t27 t32 (.bool false) fun t48 =>
 j36 [t48] m30) (j36 [Go.undef] m30)) fun j31 =>
 oGT t27 (oOpt (ia 1 t4 t13) fun t49 =>
 oOpt (ld1 m25 t49) fun t50 =>
 call 96 [t50, t11] L m25 fun t51 m52 =>
 j31 [t51] m52) (j31 [Go.undef] m25)) fun j26 =>
 oGF t23 (oInt .eql .i64 t19 t21 fun t53 =>
 j26 [t53] m22) (j26 [Go.undef] m22)) (k t11 m9)) lf [t7, (.int .i64 (.ofNat 1))] m5)
theorem S76_ok (lf : Nat) (cK : CallK β) (args : List Value) (L : Nat) (m : Mem) (k : Value → Mem → Option β)  : S76 lf cK args L m k = denF Try.prog fsT 0 K76 lf cK 76 args L m k := by kernel_rfl

/-- vitola/shade.Wide$1 -/
def K77 : Kat := []
noncomputable def S77 (lf : Nat) : FnK β := fun call args L m k =>
 uc args fun t0 l1 =>
 uc l1 fun t2 l3 =>
 un0 l3 (oInt .add .i64 t0 t2 fun t4 =>
 k t4 m)
theorem S77_ok (lf : Nat) (cK : CallK β) (args : List Value) (L : Nat) (m : Mem) (k : Value → Mem → Option β)  : S77 lf cK args L m k = denF Try.prog fsT 0 K77 lf cK 77 args L m k := by kernel_rfl

/-- vitola/shade.order -/
def K78 : Kat := []
noncomputable def S78 (lf : Nat) : FnK β := fun call args L m k =>
 uc args fun t0 l1 =>
 un0 l1 (oRes (abox m t0) fun t2 m3 =>
 oRes (anew m3 1 [(.bool false), (.bool false), (.bool false), (.bool false), (.bool false), (.bool false), (.bool false), (.bool false), (.bool false)] ptrTo) fun t4 m5 =>
 oOpt (ld1 m5 t2) fun t6 =>
 call 64 [t6, (.int .i64 (.ofNat 9)), (.func (.func 99) #[] ⟨[t2, t4]⟩)] L m5 fun t7 m8 =>
 k t7 m8)
theorem S78_ok (lf : Nat) (cK : CallK β) (args : List Value) (L : Nat) (m : Mem) (k : Value → Mem → Option β)  : S78 lf cK args L m k = denF Try.prog fsT 0 K78 lf cK 78 args L m k := by kernel_rfl

/-- vitola/vitolaref07.has -/
def K79 : Kat := [(41, (0, [5]))]
noncomputable def S79 (lf : Nat) : FnK β := fun call args L m k =>
 uc args fun t0 l1 =>
 uc l1 fun t2 l3 =>
 un0 l3 (loopS (fun j6 l4 m5 =>
 uc l4 fun t7 l8 =>
 oOpt (ln t0) fun t9 =>
 oInt .lss .i64 t7 t9 fun t10 =>
 oIf t10 (oOpt (ia 1 t0 t7) fun t11 =>
 oOpt (ld1 m5 t11) fun t12 =>
 oInt .eql .i64 t12 t2 fun t13 =>
 oIf t13 (k (.bool true) m5) (oInt .add .i64 t7 (.int .i64 (.ofNat 1)) fun t14 =>
 j6 [t14] m5)) (k (.bool false) m5)) lf [(.int .i64 (.ofNat 0))] m)
theorem S79_ok (lf : Nat) (cK : CallK β) (args : List Value) (L : Nat) (m : Mem) (k : Value → Mem → Option β)  : S79 lf cK args L m k = denF Try.prog fsT 0 K79 lf cK 79 args L m k := by kernel_rfl

/-- vitola/vitolaref07.turning -/
def K80 : Kat := [(41, (0, [3]))]
noncomputable def S80 (lf : Nat) : FnK β := fun call args L m k =>
 uc args fun t0 l1 =>
 un0 l1 (loopS (fun j4 l2 m3 =>
 uc l2 fun t5 l6 =>
 oInt .add .i64 t5 (.int .i64 (.ofNat 1)) fun t7 =>
 oOpt (ln t0) fun t8 =>
 oInt .lss .i64 t7 t8 fun t9 =>
 oIf t9 (oOpt (ia 1 t0 t5) fun t10 =>
 oOpt (ld1 m3 t10) fun t11 =>
 oInt .add .i64 t5 (.int .i64 (.ofNat 1)) fun t12 =>
 oOpt (ia 1 t0 t12) fun t13 =>
 oOpt (ld1 m3 t13) fun t14 =>
 oInt .lss .i64 t11 t14 fun t15 =>
 oInt .rem .i64 t5 (.int .i64 (.ofNat 2)) fun t16 =>
 oInt .eql .i64 t16 (.int .i64 (.ofNat 0)) fun t17 =>
 oOpt (abin Try.prog .neq 4 t15 t17) fun t18 =>
 oIf t18 (k (.bool false) m3) (oInt .add .i64 t5 (.int .i64 (.ofNat 1)) fun t19 =>
 j4 [t19] m3)) (k (.bool true) m3)) lf [(.int .i64 (.ofNat 0))] m)
theorem S80_ok (lf : Nat) (cK : CallK β) (args : List Value) (L : Nat) (m : Mem) (k : Value → Mem → Option β)  : S80 lf cK args L m k = denF Try.prog fsT 0 K80 lf cK 80 args L m k := by kernel_rfl

/-- vitola/shade.triangle -/
def K81 : Kat := [(185, (0, [2])), (11921, (0, [3]))]
noncomputable def S81 (lf : Nat) : FnK β := fun call args L m k =>
 un0 args (oRes (anew m 1 [(.int .i64 (.ofNat 0)), (.int .i64 (.ofNat 0)), (.int .i64 (.ofNat 0)), (.int .i64 (.ofNat 0)), (.int .i64 (.ofNat 0)), (.int .i64 (.ofNat 0)), (.int .i64 (.ofNat 0)), (.int .i64 (.ofNat 0)), (.int .i64 (.ofNat 0)), (.int .i64 (.ofNat 0)), (.int .i64 (.ofNat 0)), (.int .i64 (.ofNat 0)), (.int .i64 (.ofNat 0)), (.int .i64 (.ofNat 0)), (.int .i64 (.ofNat 0)), (.int .i64 (.ofNat 0)), (.int .i64 (.ofNat 0)), (.int .i64 (.ofNat 0)), (.int .i64 (.ofNat 0)), (.int .i64 (.ofNat 0)), (.int .i64 (.ofNat 0)), (.int .i64 (.ofNat 0)), (.int .i64 (.ofNat 0)), (.int .i64 (.ofNat 0)), (.int .i64 (.ofNat 0)), (.int .i64 (.ofNat 0)), (.int .i64 (.ofNat 0)), (.int .i64 (.ofNat 0)), (.int .i64 (.ofNat 0)), (.int .i64 (.ofNat 0)), (.int .i64 (.ofNat 0)), (.int .i64 (.ofNat 0)), (.int .i64 (.ofNat 0)), (.int .i64 (.ofNat 0)), (.int .i64 (.ofNat 0)), (.int .i64 (.ofNat 0)), (.int .i64 (.ofNat 0)), (.int .i64 (.ofNat 0)), (.int .i64 (.ofNat 0)), (.int .i64 (.ofNat 0)), (.int .i64 (.ofNat 0)), (.int .i64 (.ofNat 0)), (.int .i64 (.ofNat 0)), (.int .i64 (.ofNat 0)), (.int .i64 (.ofNat 0)), (.int .i64 (.ofNat 0)), (.int .i64 (.ofNat 0)), (.int .i64 (.ofNat 0)), (.int .i64 (.ofNat 0)), (.int .i64 (.ofNat 0)), (.int .i64 (.ofNat 0)), (.int .i64 (.ofNat 0)), (.int .i64 (.ofNat 0)), (.int .i64 (.ofNat 0)), (.int .i64 (.ofNat 0)), (.int .i64 (.ofNat 0)), (.int .i64 (.ofNat 0)), (.int .i64 (.ofNat 0)), (.int .i64 (.ofNat 0)), (.int .i64 (.ofNat 0)), (.int .i64 (.ofNat 0)), (.int .i64 (.ofNat 0)), (.int .i64 (.ofNat 0)), (.int .i64 (.ofNat 0)), (.int .i64 (.ofNat 0)), (.int .i64 (.ofNat 0)), (.int .i64 (.ofNat 0)), (.int .i64 (.ofNat 0)), (.int .i64 (.ofNat 0)), (.int .i64 (.ofNat 0)), (.int .i64 (.ofNat 0)), (.int .i64 (.ofNat 0)), (.int .i64 (.ofNat 0)), (.int .i64 (.ofNat 0)), (.int .i64 (.ofNat 0)), (.int .i64 (.ofNat 0)), (.int .i64 (.ofNat 0)), (.int .i64 (.ofNat 0)), (.int .i64 (.ofNat 0)), (.int .i64 (.ofNat 0)), (.int .i64 (.ofNat 0)), (.int .i64 (.ofNat 0)), (.int .i64 (.ofNat 0)), (.int .i64 (.ofNat 0)), (.int .i64 (.ofNat 0)), (.int .i64 (.ofNat 0)), (.int .i64 (.ofNat 0)), (.int .i64 (.ofNat 0)), (.int .i64 (.ofNat 0)), (.int .i64 (.ofNat 0)), (.int .i64 (.ofNat 0)), (.int .i64 (.ofNat 0)), (.int .i64 (.ofNat 0)), (.int .i64 (.ofNat 0)), (.int .i64 (.ofNat 0)), (.int .i64 (.ofNat 0)), (.int .i64 (.ofNat 0)), (.int .i64 (.ofNat 0)), (.int .i64 (.ofNat 0)), (.int .i64 (.ofNat 0))] ptrTo) fun t0 m1 =>
 oRes (anew m1 1 [(.int .i64 (.ofNat 0)), (.int .i64 (.ofNat 0)), (.int .i64 (.ofNat 0)), (.int .i64 (.ofNat 0)), (.int .i64 (.ofNat 0)), (.int .i64 (.ofNat 0)), (.int .i64 (.ofNat 0)), (.int .i64 (.ofNat 0)), (.int .i64 (.ofNat 0)), (.int .i64 (.ofNat 0)), (.int .i64 (.ofNat 0)), (.int .i64 (.ofNat 0)), (.int .i64 (.ofNat 0)), (.int .i64 (.ofNat 0)), (.int .i64 (.ofNat 0)), (.int .i64 (.ofNat 0)), (.int .i64 (.ofNat 0)), (.int .i64 (.ofNat 0)), (.int .i64 (.ofNat 0)), (.int .i64 (.ofNat 0)), (.int .i64 (.ofNat 0)), (.int .i64 (.ofNat 0)), (.int .i64 (.ofNat 0)), (.int .i64 (.ofNat 0)), (.int .i64 (.ofNat 0)), (.int .i64 (.ofNat 0)), (.int .i64 (.ofNat 0)), (.int .i64 (.ofNat 0)), (.int .i64 (.ofNat 0)), (.int .i64 (.ofNat 0)), (.int .i64 (.ofNat 0)), (.int .i64 (.ofNat 0)), (.int .i64 (.ofNat 0)), (.int .i64 (.ofNat 0)), (.int .i64 (.ofNat 0)), (.int .i64 (.ofNat 0)), (.int .i64 (.ofNat 0)), (.int .i64 (.ofNat 0)), (.int .i64 (.ofNat 0)), (.int .i64 (.ofNat 0)), (.int .i64 (.ofNat 0)), (.int .i64 (.ofNat 0)), (.int .i64 (.ofNat 0)), (.int .i64 (.ofNat 0)), (.int .i64 (.ofNat 0)), (.int .i64 (.ofNat 0)), (.int .i64 (.ofNat 0)), (.int .i64 (.ofNat 0)), (.int .i64 (.ofNat 0)), (.int .i64 (.ofNat 0)), (.int .i64 (.ofNat 0)), (.int .i64 (.ofNat 0)), (.int .i64 (.ofNat 0)), (.int .i64 (.ofNat 0)), (.int .i64 (.ofNat 0)), (.int .i64 (.ofNat 0)), (.int .i64 (.ofNat 0)), (.int .i64 (.ofNat 0)), (.int .i64 (.ofNat 0)), (.int .i64 (.ofNat 0)), (.int .i64 (.ofNat 0)), (.int .i64 (.ofNat 0)), (.int .i64 (.ofNat 0)), (.int .i64 (.ofNat 0)), (.int .i64 (.ofNat 0)), (.int .i64 (.ofNat 0)), (.int .i64 (.ofNat 0)), (.int .i64 (.ofNat 0)), (.int .i64 (.ofNat 0)), (.int .i64 (.ofNat 0)), (.int .i64 (.ofNat 0)), (.int .i64 (.ofNat 0)), (.int .i64 (.ofNat 0)), (.int .i64 (.ofNat 0)), (.int .i64 (.ofNat 0)), (.int .i64 (.ofNat 0)), (.int .i64 (.ofNat 0)), (.int .i64 (.ofNat 0)), (.int .i64 (.ofNat 0)), (.int .i64 (.ofNat 0)), (.int .i64 (.ofNat 0)), (.int .i64 (.ofNat 0)), (.int .i64 (.ofNat 0)), (.int .i64 (.ofNat 0)), (.int .i64 (.ofNat 0)), (.int .i64 (.ofNat 0)), (.int .i64 (.ofNat 0)), (.int .i64 (.ofNat 0)), (.int .i64 (.ofNat 0)), (.int .i64 (.ofNat 0)), (.int .i64 (.ofNat 0)), (.int .i64 (.ofNat 0)), (.int .i64 (.ofNat 0)), (.int .i64 (.ofNat 0)), (.int .i64 (.ofNat 0)), (.int .i64 (.ofNat 0)), (.int .i64 (.ofNat 0)), (.int .i64 (.ofNat 0)), (.int .i64 (.ofNat 0)), (.int .i64 (.ofNat 0))] ptrTo) fun t2 m3 =>
 oOpt (iaA 10 10 t2 (.int .i64 (.ofNat 1))) fun t4 =>
 oOpt (iaA 10 1 t4 (.int .i64 (.ofNat 0))) fun t5 =>
 oRes (st1 1 L m3 t5 (.int .i64 (.ofNat 1))) fun t6 m7 =>
 loopS (fun j10 l8 m9 =>
 uc l8 fun t11 l12 =>
 oInt .leq .i64 t11 (.int .i64 (.ofNat 9)) fun t13 =>
 oIf t13 (oInt .sub .i64 t11 (.int .i64 (.ofNat 2)) fun t14 =>
 loopS (fun j17 l15 m16 =>
 uc l15 fun t18 l19 =>
 oInt .geq .i64 t18 (.int .i64 (.ofNat 0)) fun t20 =>
 oIf t20 (oInt .add .i64 t18 (.int .i64 (.ofNat 1)) fun t21 =>
 oOpt (iaA 10 10 t2 t11) fun t22 =>
 oOpt (iaA 10 1 t22 t21) fun t23 =>
 oOpt (ld1 m16 t23) fun t24 =>
 oInt .sub .i64 t11 (.int .i64 (.ofNat 1)) fun t25 =>
 oInt .sub .i64 t11 (.int .i64 (.ofNat 2)) fun t26 =>
 oInt .sub .i64 t26 t18 fun t27 =>
 oOpt (iaA 10 10 t2 t25) fun t28 =>
 oOpt (iaA 10 1 t28 t27) fun t29 =>
 oOpt (ld1 m16 t29) fun t30 =>
 oInt .add .i64 t24 t30 fun t31 =>
 oOpt (iaA 10 10 t2 t11) fun t32 =>
 oOpt (iaA 10 1 t32 t18) fun t33 =>
 oRes (st1 1 L m16 t33 t31) fun t34 m35 =>
 oInt .sub .i64 t18 (.int .i64 (.ofNat 1)) fun t36 =>
 j17 [t36] m35) (oInt .add .i64 t11 (.int .i64 (.ofNat 1)) fun t37 =>
 j10 [t37] m16)) lf [t14] m9) (oOpt (ldN m9 100 t2) fun t38 =>
 oRes (st1 100 L m9 t0 t38) fun t39 m40 =>
 oOpt (ldN m40 100 t0) fun t41 =>
 k t41 m40)) lf [(.int .i64 (.ofNat 2))] m7)
theorem S81_ok (lf : Nat) (cK : CallK β) (args : List Value) (L : Nat) (m : Mem) (k : Value → Mem → Option β)  : S81 lf cK args L m k = denF Try.prog fsT 0 K81 lf cK 81 args L m k := by kernel_rfl

/-- vitola/vitolaref07.count -/
def K82 : Kat := [(377, (0, [5, 6])), (12104, (0, [5]))]
noncomputable def S82 (lf : Nat) : FnK β := fun call args L m k =>
 uc args fun t0 l1 =>
 uc l1 fun t2 l3 =>
 un0 l3 (call 80 [t2] L m fun t4 m5 =>
 oOpt (aun .not t4) fun t6 =>
 oIf t6 (k (.int .i64 (.ofNat 0)) m5) (oOpt (ln t2) fun t7 =>
 oInt .eql .i64 t7 t0 fun t8 =>
 oIf t8 (k (.int .i64 (.ofNat 1)) m5) (loopS (fun j11 l9 m10 =>
 uc l9 fun t12 l13 =>
 uc l13 fun t14 l15 =>
 oInt .lss .i64 t14 t0 fun t16 =>
 oIf t16 (call 79 [t2, t14] L m10 fun t17 m18 =>
 oOpt (aun .not t17) fun t19 =>
 join (fun l20 m21 =>
 uc l20 fun t23 l24 =>
 oInt .add .i64 t14 (.int .i64 (.ofNat 1)) fun t25 =>
 j11 [t23, t25] m21) fun j22 =>
 oIf t19 (oRes (bs Try.prog m18 22 0 []) fun t26 m27 =>
 oRes (aappend Try.prog L m27 22 t26 t2) fun t28 m29 =>
 oRes (bs Try.prog m29 22 1 [(0, t14)]) fun t30 m31 =>
 oRes (aappend Try.prog L m31 22 t28 t30) fun t32 m33 =>
 call 82 [t0, t32] L m33 fun t34 m35 =>
 oInt .add .i64 t12 t34 fun t36 =>
 j22 [t36] m35) (j22 [t12] m18)) (k t12 m10)) lf [(.int .i64 (.ofNat 0)), (.int .i64 (.ofNat 0))] m5)))
theorem S82_ok (lf : Nat) (cK : CallK β) (args : List Value) (L : Nat) (m : Mem) (k : Value → Mem → Option β)  : S82 lf cK args L m k = denF Try.prog fsT 0 K82 lf cK 82 args L m k := by kernel_rfl

/-- vitola/shade.begun -/
def K83 : Kat := [(89, (0, [8]))]
noncomputable def S83 (lf : Nat) : FnK β := fun call args L m k =>
 uc args fun t0 l1 =>
 un0 l1 (oOpt (bu Try.prog 91 []) fun t2 =>
 oRes (abox m t2) fun t3 m4 =>
 loopS (fun j7 l5 m6 =>
 uc l5 fun t8 l9 =>
 oInt .lss .i64 t8 t0 fun t10 =>
 oIf t10 (oOpt (anil t3) fun t11 =>
 oOpt (fa 0 t11) fun t12 =>
 oOpt (ld1 m6 t12) fun t13 =>
 oRes (bs Try.prog m6 22 1 [(0, t8)]) fun t14 m15 =>
 oRes (aappend Try.prog L m15 22 t13 t14) fun t16 m17 =>
 oOpt (anil t3) fun t18 =>
 oOpt (fa 0 t18) fun t19 =>
 oRes (st1 1 L m17 t19 t16) fun t20 m21 =>
 oInt .add .i64 t8 (.int .i64 (.ofNat 1)) fun t22 =>
 j7 [t22] m21) (k t3 m6)) lf [(.int .i64 (.ofNat 0))] m4)
theorem S83_ok (lf : Nat) (cK : CallK β) (args : List Value) (L : Nat) (m : Mem) (k : Value → Mem → Option β)  : S83 lf cK args L m k = denF Try.prog fsT 0 K83 lf cK 83 args L m k := by kernel_rfl

/-- (*vitola/shade.rest).goes -/
def K84 : Kat := [(9, (1, [23]))]
noncomputable def S84 (lf : Nat) : FnK β := fun call args L m k =>
 uc args fun t0 l1 =>
 uc l1 fun t2 l3 =>
 uc l3 fun t4 l5 =>
 un0 l5 (oInt .lss .i64 t2 (.int .i64 (.ofNat 0)) fun t6 =>
 join (fun l7 m8 =>
 uc l7 fun t10 l11 =>
 oPick t6 (.bool true) t10 fun t12 =>
 k t12 m8) fun j9 =>
 oGF t6 (oOpt (anil t0) fun t13 =>
 oOpt (fa 0 t13) fun t14 =>
 oOpt (ld1 m t14) fun t15 =>
 oOpt (ia 1 t15 t4) fun t16 =>
 oOpt (ld1 m t16) fun t17 =>
 oInt .gtr .i64 t17 t2 fun t18 =>
 oOpt (anil t0) fun t19 =>
 oOpt (fa 1 t19) fun t20 =>
 oOpt (ld1 m t20) fun t21 =>
 oOpt (abin Try.prog .eql 4 t18 t21) fun t22 =>
 j9 [t22] m) (j9 [Go.undef] m))
theorem S84_ok (lf : Nat) (cK : CallK β) (args : List Value) (L : Nat) (m : Mem) (k : Value → Mem → Option β)  : S84 lf cK args L m k = denF Try.prog fsT 0 K84 lf cK 84 args L m k := by kernel_rfl

/-- (*vitola/shade.rest).ways -/
def K85 : Kat := [(44, (0, [1]))]
noncomputable def S85 (lf : Nat) : FnK β := fun call args L m k =>
 uc args fun t0 l1 =>
 uc l1 fun t2 l3 =>
 un0 l3 (oOpt (anil t0) fun t4 =>
 oOpt (fa 0 t4) fun t5 =>
 oOpt (ld1 m t5) fun t6 =>
 oOpt (ln t6) fun t7 =>
 oOpt (anil t0) fun t8 =>
 oOpt (fa 1 t8) fun t9 =>
 oOpt (ld1 m t9) fun t10 =>
 join (fun l11 m12 =>
 uc l11 fun t14 l15 =>
 call 81 [] L m12 fun t16 m17 =>
 oOpt (aindex Try.prog 85 t16 t7) fun t18 =>
 oOpt (aindex Try.prog 84 t18 t14) fun t19 =>
 k t19 m17) fun j13 =>
 oIf t10 (oInt .sub .i64 t7 (.int .i64 (.ofNat 1)) fun t20 =>
 oInt .sub .i64 t20 t2 fun t21 =>
 j13 [t21] m) (j13 [t2] m))
theorem S85_ok (lf : Nat) (cK : CallK β) (args : List Value) (L : Nat) (m : Mem) (k : Value → Mem → Option β)  : S85 lf cK args L m k = denF Try.prog fsT 0 K85 lf cK 85 args L m k := by kernel_rfl

/-- (*vitola/shade.rest).take -/
def K86 : Kat := []
noncomputable def S86 (lf : Nat) : FnK β := fun call args L m k =>
 uc args fun t0 l1 =>
 uc l1 fun t2 l3 =>
 un0 l3 (oOpt (anil t0) fun t4 =>
 oOpt (fa 0 t4) fun t5 =>
 oOpt (ld1 m t5) fun t6 =>
 oOpt (ia 1 t6 t2) fun t7 =>
 oOpt (ld1 m t7) fun t8 =>
 oOpt (anil t0) fun t9 =>
 oOpt (fa 0 t9) fun t10 =>
 oOpt (ld1 m t10) fun t11 =>
 oInt .add .i64 t2 (.int .i64 (.ofNat 1)) fun t12 =>
 call 100 [t11, t2, t12] L m fun t13 m14 =>
 oOpt (anil t0) fun t15 =>
 oOpt (fa 0 t15) fun t16 =>
 oRes (st1 1 L m14 t16 t13) fun t17 m18 =>
 oOpt (anil t0) fun t19 =>
 oOpt (fa 1 t19) fun t20 =>
 oOpt (ld1 m18 t20) fun t21 =>
 oOpt (aun .not t21) fun t22 =>
 oOpt (anil t0) fun t23 =>
 oOpt (fa 1 t23) fun t24 =>
 oRes (st1 1 L m18 t24 t22) fun t25 m26 =>
 k t8 m26)
theorem S86_ok (lf : Nat) (cK : CallK β) (args : List Value) (L : Nat) (m : Mem) (k : Value → Mem → Option β)  : S86 lf cK args L m k = denF Try.prog fsT 0 K86 lf cK 86 args L m k := by kernel_rfl

/-- slices.Collect[int] -/
def K87 : Kat := []
noncomputable def S87 (lf : Nat) : FnK β := fun call args L m k =>
 uc args fun t0 l1 =>
 un0 l1 (call 101 [(.slice none 0 0), t0] L m fun t2 m3 =>
 k t2 m3)
theorem S87_ok (lf : Nat) (cK : CallK β) (args : List Value) (L : Nat) (m : Mem) (k : Value → Mem → Option β)  : S87 lf cK args L m k = denF Try.prog fsT 0 K87 lf cK 87 args L m k := by kernel_rfl


/-- slices.Values[[]int,int]$1 -/
def K89 : Kat := [(9, (0, [7]))]
noncomputable def S89 (lf : Nat) : FnK β := fun call args L m k =>
 uc args fun t0 l1 =>
 uc l1 fun t2 l3 =>
 un0 l3 (oOpt (ld1 m t2) fun t4 =>
 oOpt (ln t4) fun t5 =>
 loopS (fun j8 l6 m7 =>
 uc l6 fun t9 l10 =>
 oInt .lss .i64 t9 t5 fun t11 =>
 oIf t11 (oOpt (ia 1 t4 t9) fun t12 =>
 oOpt (ld1 m7 t12) fun t13 =>
 oCallV call t0 [t13] L m7 fun t14 m15 =>
 oOpt (aun .not t14) fun t16 =>
 oIf t16 (k (.tuple ⟨[]⟩) m15) (oInt .add .i64 t9 (.int .i64 (.ofNat 1)) fun t17 =>
 j8 [t17] m15)) (k (.tuple ⟨[]⟩) m7)) lf [(.int .i64 (.ofNat 0))] m)
theorem S89_ok (lf : Nat) (cK : CallK β) (args : List Value) (L : Nat) (m : Mem) (k : Value → Mem → Option β)  : S89 lf cK args L m k = denF Try.prog fsT 0 K89 lf cK 89 args L m k := by kernel_rfl

/-- vitola/vitolalaw07.all$1 -/
def K90 : Kat := [(45, (0, [7, 20])), (5937, (1, [33])), (5938, (0, [7]))]
noncomputable def S90 (lf : Nat) : FnK β := fun call args L m k =>
 uc args fun t0 l1 =>
 uc l1 fun t2 l3 =>
 uc l3 fun t4 l5 =>
 uc l5 fun t6 l7 =>
 uc l7 fun t8 l9 =>
 un0 l9 (oOpt (ln t0) fun t10 =>
 oOpt (ld1 m t4) fun t11 =>
 oOpt (ln t11) fun t12 =>
 oInt .eql .i64 t10 t12 fun t13 =>
 oIf t13 (oOpt (ld1 m t6) fun t14 =>
 oCallV call t14 [t0] L m fun t15 m16 =>
 k (.tuple ⟨[]⟩) m16) (oOpt (ld1 m t4) fun t17 =>
 oOpt (ln t17) fun t18 =>
 loopS (fun j21 l19 m20 =>
 uc l19 fun t22 l23 =>
 uc l23 fun t24 l25 =>
 oInt .lss .i64 t24 t18 fun t26 =>
 oIf t26 (oOpt (ia 1 t17 t24) fun t27 =>
 oOpt (ld1 m20 t27) fun t28 =>
 oOpt (abin Try.prog .shr 97 t2 t24) fun t29 =>
 oInt .and .u64 t29 (.int .u64 (.ofNat 1)) fun t30 =>
 oInt .eql .u64 t30 (.int .u64 (.ofNat 0)) fun t31 =>
 join (fun l32 m33 =>
 uc l32 fun t35 l36 =>
 oPick t31 t35 (.bool false) fun t37 =>
 join (fun l38 m39 =>
 uc l38 fun t41 l42 =>
 oInt .add .i64 t24 (.int .i64 (.ofNat 1)) fun t43 =>
 j21 [t41, t43] m39) fun j40 =>
 oIf t37 (oOpt (ld1 m33 t8) fun t44 =>
 call 91 [t0] m33.next m33 fun t45 m46 =>
 oRes (bs Try.prog m46 22 1 [(0, t28)]) fun t47 m48 =>
 oRes (aappend Try.prog L m48 22 t45 t47) fun t49 m50 =>
 oSm m48 m50 t8 (
 oOpt (abin Try.prog .shl 97 (.int .u64 (.ofNat 1)) t24) fun t51 =>
 oInt .or .u64 t2 t51 fun t52 =>
 oCallV call t44 [t49, t52] L m50 fun t53 m54 =>
 j40 [t28] m54)) (j40 [t22] m33)) fun j34 =>
 oGT t31 (oInt .neq .i64 t28 t22 fun t55 =>
 j34 [t55] m20) (j34 [Go.undef] m20)) (k (.tuple ⟨[]⟩) m20)) lf [(.int .i64 (.negSucc 0)), (.int .i64 (.ofNat 0))] m))
theorem S90_ok (lf : Nat) (cK : CallK β) (args : List Value) (L : Nat) (m : Mem) (k : Value → Mem → Option β)  : S90 lf cK args L m k = denF Try.prog fsT 0 K90 lf cK 90 args L m k := by kernel_rfl

end
end Go.Vit
