/- Shallow texts of the seat's functions, printed by a program: part 9. -/
import Derived.Test.YtppallabmjdolaaGreatDoorRows
import Derived.Test.YtppallabmjdolaaGreatDoorFs
set_option linter.unusedVariables false
set_option maxRecDepth 100000
namespace Go.Vit
open Go Go.Proofs
section
variable {β : Type}
/-- slices.Min[[]int,int] -/
def K188 : Kat := [(20, (0, [])), (185, (0, [3, 4]))]
noncomputable def S188 (lf : Nat) : FnK β := fun call args L m k => uc args fun t0 l1 => un0 l1 (oOpt (ln t0) fun t2 => oInt .lss .i64 t2 (.int .i64 (.ofNat 1)) fun t3 => join (fun l4 m5 => oOpt (ia 1 t0 (.int .i64 (.ofNat 0))) fun t7 => oOpt (ld1 m5 t7) fun t8 => loopS (fun j11 l9 m10 => uc l9 fun t12 l13 => uc l13 fun t14 l15 => oOpt (ln t0) fun t16 => oInt .lss .i64 t14 t16 fun t17 => oIf t17 (oOpt (ia 1 t0 t14) fun t18 => oOpt (ld1 m10 t18) fun t19 => oOpt (abuiltin Tryz.prog .min #[3, 3] [t12, t19]) fun t20 => oInt .add .i64 t14 (.int .i64 (.ofNat 1)) fun t21 => j11 [t20, t21] m10) (k t12 m10)) lf [t8, (.int .i64 (.ofNat 1))] m5) fun j6 => oIf t3 (oOpt (aiface Tryz.prog 9 (.string ⟨#[115, 108, 105, 99, 101, 115, 46, 77, 105, 110, 58, 32, 101, 109, 112, 116, 121, 32, 108, 105, 115, 116]⟩)) fun t22 => none) (j6 [] m))
theorem S188_ok (lf : Nat) (cK : CallK β) (args : List Value) (L : Nat) (m : Mem) (k : Value → Mem → Option β)  : S188 lf cK args L m k = denF Tryz.prog fsT 2 K188 lf cK 188 args L m k := by kernel_rfl

/-- vitola/band.within -/
def K194 : Kat := [(9, (1, [13]))]
noncomputable def S194 (lf : Nat) : FnK β := fun call args L m k => uc args fun t0 l1 => uc l1 fun t2 l3 => uc l3 fun t4 l5 => un0 l5 (oInt .leq .i64 t2 t0 fun t6 => join (fun l7 m8 => uc l7 fun t10 l11 => oPick t6 t10 (.bool false) fun t12 => k t12 m8) fun j9 => oGT t6 (oInt .leq .i64 t0 t4 fun t13 => j9 [t13] m) (j9 [Go.undef] m))
theorem S194_ok (lf : Nat) (cK : CallK β) (args : List Value) (L : Nat) (m : Mem) (k : Value → Mem → Option β)  : S194 lf cK args L m k = denF Tryz.prog fsT 2 K194 lf cK 194 args L m k := by kernel_rfl

/-- unicode/utf8.AppendRune -/
def K196 : Kat := []
noncomputable def S196 (lf : Nat) : FnK β := fun call args L m k => uc args fun t0 l1 => uc l1 fun t2 l3 => un0 l3 (oCv .u32 t2 fun t4 => oInt .leq .u32 t4 (.int .u32 (.ofNat 127)) fun t5 => oIf t5 (oCv .u8 t2 fun t6 => oRes (bs Tryz.prog m 204 1 [(0, t6)]) fun t7 m8 => oRes (aappend Tryz.prog L m8 204 t0 t7) fun t9 m10 => k t9 m10) (call 214 [t0, t2] L m fun t11 m12 => k t11 m12))
theorem S196_ok (lf : Nat) (cK : CallK β) (args : List Value) (L : Nat) (m : Mem) (k : Value → Mem → Option β)  : S196 lf cK args L m k = denF Tryz.prog fsT 2 K196 lf cK 196 args L m k := by kernel_rfl

/-- vitola/bench.bounded -/
def K197 : Kat := [(19, (1, [11]))]
noncomputable def S197 (lf : Nat) : FnK β := fun call args L m k => uc args fun t0 l1 => uc l1 fun t2 l3 => un0 l3 (call 215 [t0, (.int .i64 (.ofNat 1)), (.int .i64 (.ofNat 20))] L m fun t4 m5 => oOpt (aun .not t4) fun t6 => join (fun l7 m8 => uc l7 fun t10 l11 => oPick t6 (.bool true) t10 fun t12 => oIf t12 (k (.int .i64 (.ofNat 1)) m8) (k (.int .i64 (.ofNat 0)) m8)) fun j9 => oGF t6 (call 215 [t2, (.int .i64 (.ofNat 1)), (.int .i64 (.ofNat 1000000000))] L m5 fun t13 m14 => oOpt (aun .not t13) fun t15 => j9 [t15] m14) (j9 [Go.undef] m5))
theorem S197_ok (lf : Nat) (cK : CallK β) (args : List Value) (L : Nat) (m : Mem) (k : Value → Mem → Option β)  : S197 lf cK args L m k = denF Tryz.prog fsT 2 K197 lf cK 197 args L m k := by kernel_rfl

/-- vitola/bench.ordered -/
def K198 : Kat := [(91, (0, [6, 5]))]
noncomputable def S198 (lf : Nat) : FnK β := fun call args L m k => uc args fun t0 l1 => uc l1 fun t2 l3 => un0 l3 (call 216 [t0] L m fun t4 m5 => loopS (fun j8 l6 m7 => uc l6 fun t9 l10 => uc l10 fun t11 l12 => oOpt (ln t11) fun t13 => oInt .gtr .i64 t13 (.int .i64 (.ofNat 0)) fun t14 => oIf t14 (oInt .sub .i64 t2 (.int .i64 (.ofNat 1)) fun t15 => oOpt (ln t11) fun t16 => oInt .rem .i64 t15 t16 fun t17 => oOpt (ia 1 t11 t17) fun t18 => oOpt (ld1 m7 t18) fun t19 => oRes (bs Tryz.prog m7 22 1 [(0, t19)]) fun t20 m21 => oRes (aappend Tryz.prog L m21 22 t9 t20) fun t22 m23 => call 217 [t11, t17] L m23 fun t24 m25 => j8 [t22, t24] m25) (k t9 m7)) lf [(.slice none 0 0), t4] m5)
theorem S198_ok (lf : Nat) (cK : CallK β) (args : List Value) (L : Nat) (m : Mem) (k : Value → Mem → Option β)  : S198 lf cK args L m k = denF Tryz.prog fsT 2 K198 lf cK 198 args L m k := by kernel_rfl

/-- vitola/wrap.round -/
def K199 : Kat := [(9, (1, [9])), (9, (3, [13])), (9, (5, [18]))]
noncomputable def S199 (lf : Nat) : FnK β := fun call args L m k => uc args fun t0 l1 => uc l1 fun t2 l3 => un0 l3 (oInt .geq .i64 t0 (.int .i64 (.ofNat 1)) fun t4 => join (fun l5 m6 => uc l5 fun t8 l9 => oPick t4 t8 (.bool false) fun t10 => join (fun l11 m12 => uc l11 fun t14 l15 => oPick t10 t14 (.bool false) fun t16 => join (fun l17 m18 => uc l17 fun t20 l21 => oPick t16 t20 (.bool false) fun t22 => k t22 m18) fun j19 => oGT t16 (oInt .lss .i64 t2 t0 fun t23 => j19 [t23] m12) (j19 [Go.undef] m12)) fun j13 => oGT t10 (oInt .geq .i64 t2 (.int .i64 (.ofNat 0)) fun t24 => j13 [t24] m6) (j13 [Go.undef] m6)) fun j7 => oGT t4 (oInt .leq .i64 t0 (.int .i64 (.ofNat 100)) fun t25 => j7 [t25] m) (j7 [Go.undef] m))
theorem S199_ok (lf : Nat) (cK : CallK β) (args : List Value) (L : Nat) (m : Mem) (k : Value → Mem → Option β)  : S199 lf cK args L m k = denF Tryz.prog fsT 2 K199 lf cK 199 args L m k := by kernel_rfl

/-- (vitola/wrap.Wrapper).all -/
def K200 : Kat := []
noncomputable def S200 (lf : Nat) : FnK β := fun call args L m k => uc args fun t0 l1 => un0 l1 (oRes (abox m t0) fun t2 m3 => oOpt (fa 0 t2) fun t4 => oOpt (ld1 m3 t4) fun t5 => oOpt (fa 0 t2) fun t6 => oOpt (ld1 m3 t6) fun t7 => oOpt (fa 1 t2) fun t8 => oOpt (ld1 m3 t8) fun t9 => call 218 [t7, t9] L m3 fun t10 m11 => oSm m3 m11 t4 ( oInt .quo .i64 t5 t10 fun t12 => k t12 m11))
theorem S200_ok (lf : Nat) (cK : CallK β) (args : List Value) (L : Nat) (m : Mem) (k : Value → Mem → Option β)  : S200 lf cK args L m k = denF Tryz.prog fsT 2 K200 lf cK 200 args L m k := by kernel_rfl

/-- slices.AppendSeq[[]int,int] -/
def K201 : Kat := []
noncomputable def S201 (lf : Nat) : FnK β := fun call args L m k => uc args fun t0 l1 => uc l1 fun t2 l3 => un0 l3 (oRes (abox m t0) fun t4 m5 => oRange call 201 t2 [t4] L m5 fun m6 => oOpt (ld1 m6 t4) fun t7 => k t7 m6)
theorem S201_ok (lf : Nat) (cK : CallK β) (args : List Value) (L : Nat) (m : Mem) (k : Value → Mem → Option β)  : S201 lf cK args L m k = denF Tryz.prog fsT 2 K201 lf cK 201 args L m k := by kernel_rfl

/-- vitola/dock.within -/
def K202 : Kat := [(9, (1, [13]))]
noncomputable def S202 (lf : Nat) : FnK β := fun call args L m k => uc args fun t0 l1 => uc l1 fun t2 l3 => uc l3 fun t4 l5 => un0 l5 (oInt .leq .i64 t2 t0 fun t6 => join (fun l7 m8 => uc l7 fun t10 l11 => oPick t6 t10 (.bool false) fun t12 => k t12 m8) fun j9 => oGT t6 (oInt .leq .i64 t0 t4 fun t13 => j9 [t13] m) (j9 [Go.undef] m))
theorem S202_ok (lf : Nat) (cK : CallK β) (args : List Value) (L : Nat) (m : Mem) (k : Value → Mem → Option β)  : S202 lf cK args L m k = denF Tryz.prog fsT 2 K202 lf cK 202 args L m k := by kernel_rfl

/-- vitola/dock.listed$1 -/
def K203 : Kat := []
noncomputable def S203 (lf : Nat) : FnK β := fun call args L m k => uc args fun t0 l1 => uc l1 fun t2 l3 => un0 l3 (oOpt (ld1 m t2) fun t4 => call 202 [t0, (.int .i64 (.ofNat 0)), t4] L m fun t5 m6 => oOpt (aun .not t5) fun t7 => k t7 m6)
theorem S203_ok (lf : Nat) (cK : CallK β) (args : List Value) (L : Nat) (m : Mem) (k : Value → Mem → Option β)  : S203 lf cK args L m k = denF Tryz.prog fsT 2 K203 lf cK 203 args L m k := by kernel_rfl

/-- vitola/grade.checked -/
def K204 : Kat := [(41, (0, [8]))]
noncomputable def S204 (lf : Nat) : FnK β := fun call args L m k => uc args fun t0 l1 => un0 l1 (oRes (abox m t0) fun t2 m3 => oOpt (ld1 m3 t2) fun t4 => oOpt (ln t4) fun t5 => loopS (fun j8 l6 m7 => uc l6 fun t9 l10 => oInt .lss .i64 t9 t5 fun t11 => oIf t11 (oOpt (ia 1 t4 t9) fun t12 => oOpt (ld1 m7 t12) fun t13 => call 115 [t13] L m7 fun t14 m15 => oInt .neq .i64 t14 (.int .i64 (.ofNat 0)) fun t16 => oIf t16 (k t14 m15) (oInt .add .i64 t9 (.int .i64 (.ofNat 1)) fun t17 => j8 [t17] m15)) (oOpt (ld1 m7 t2) fun t18 => call 219 [t18, (.func (.func 220) #[] ⟨[t2]⟩)] L m7 fun t19 m20 => oIf t19 (k (.int .i64 (.ofNat 5)) m20) (k (.int .i64 (.ofNat 0)) m20))) lf [(.int .i64 (.ofNat 0))] m3)
theorem S204_ok (lf : Nat) (cK : CallK β) (args : List Value) (L : Nat) (m : Mem) (k : Value → Mem → Option β)  : S204 lf cK args L m k = denF Tryz.prog fsT 2 K204 lf cK 204 args L m k := by kernel_rfl

/-- vitola/grade.placed -/
def K205 : Kat := [(89, (0, [8]))]
noncomputable def S205 (lf : Nat) : FnK β := fun call args L m k => uc args fun t0 l1 => un0 l1 (oRes (anew m 1 [(.int .i64 (.ofNat 0)), (.int .i64 (.ofNat 0)), (.int .i64 (.ofNat 0)), (.int .i64 (.ofNat 0)), (.int .i64 (.ofNat 0)), (.int .i64 (.ofNat 0)), (.int .i64 (.ofNat 0))] ptrTo) fun t2 m3 => oRes (anew m3 1 [(.int .i64 (.ofNat 0)), (.int .i64 (.ofNat 0)), (.int .i64 (.ofNat 0)), (.int .i64 (.ofNat 0)), (.int .i64 (.ofNat 0)), (.int .i64 (.ofNat 0)), (.int .i64 (.ofNat 0))] ptrTo) fun t4 m5 => oOpt (ln t0) fun t6 => loopS (fun j9 l7 m8 => uc l7 fun t10 l11 => oInt .lss .i64 t10 t6 fun t12 => oIf t12 (oOpt (ia 1 t0 t10) fun t13 => oOpt (ld1 m8 t13) fun t14 => oOpt (iaA 7 1 t4 t14) fun t15 => oRes (st1 1 L m8 t15 t10) fun t16 m17 => oInt .add .i64 t10 (.int .i64 (.ofNat 1)) fun t18 => j9 [t18] m17) (oOpt (ldN m8 7 t4) fun t19 => oRes (st1 7 L m8 t2 t19) fun t20 m21 => oOpt (ldN m21 7 t2) fun t22 => k t22 m21)) lf [(.int .i64 (.ofNat 0))] m5)
theorem S205_ok (lf : Nat) (cK : CallK β) (args : List Value) (L : Nat) (m : Mem) (k : Value → Mem → Option β)  : S205 lf cK args L m k = denF Tryz.prog fsT 2 K205 lf cK 205 args L m k := by kernel_rfl

/-- (*vitola/grade.places).first -/
def K206 : Kat := []
noncomputable def S206 (lf : Nat) : FnK β := fun call args L m k => uc args fun t0 l1 => uc l1 fun t2 l3 => uc l3 fun t4 l5 => un0 l5 (oOpt (anil t0) fun t6 => oOpt (iaA 7 1 t6 t2) fun t7 => oOpt (ld1 m t7) fun t8 => oOpt (anil t0) fun t9 => oOpt (iaA 7 1 t9 t4) fun t10 => oOpt (ld1 m t10) fun t11 => oInt .lss .i64 t8 t11 fun t12 => k t12 m)
theorem S206_ok (lf : Nat) (cK : CallK β) (args : List Value) (L : Nat) (m : Mem) (k : Value → Mem → Option β)  : S206 lf cK args L m k = denF Tryz.prog fsT 2 K206 lf cK 206 args L m k := by kernel_rfl

/-- vitola/grade.swap -/
def K207 : Kat := []
noncomputable def S207 (lf : Nat) : FnK β := fun call args L m k => uc args fun t0 l1 => uc l1 fun t2 l3 => un0 l3 (oInt .add .i64 t2 (.int .i64 (.ofNat 1)) fun t4 => oInt .add .i64 t2 (.int .i64 (.ofNat 1)) fun t5 => oOpt (ia 1 t0 t5) fun t6 => oOpt (ld1 m t6) fun t7 => oOpt (ia 1 t0 t2) fun t8 => oOpt (ld1 m t8) fun t9 => oOpt (ia 1 t0 t2) fun t10 => oRes (st1 1 L m t10 t7) fun t11 m12 => oOpt (ia 1 t0 t4) fun t13 => oRes (st1 1 L m12 t13 t9) fun t14 m15 => k (.tuple ⟨[]⟩) m15)
theorem S207_ok (lf : Nat) (cK : CallK β) (args : List Value) (L : Nat) (m : Mem) (k : Value → Mem → Option β)  : S207 lf cK args L m k = denF Tryz.prog fsT 2 K207 lf cK 207 args L m k := by kernel_rfl

/-- vitola/dock.Park -/
def K208 : Kat := [(185, (0, [8, 21])), (95436, (0, [8])), (381750, (0, [8]))]
noncomputable def S208 (lf : Nat) : FnK β := fun call args L m k => uc args fun t0 l1 => uc l1 fun t2 l3 => un0 l3 (call 221 [t0, t2] L m fun t4 m5 => oOpt (aextract t4 0) fun t6 => oOpt (aextract t4 1) fun t7 => oOpt (ln t6) fun t8 => loopS (fun j11 l9 m10 => uc l9 fun t12 l13 => uc l13 fun t14 l15 => oInt .lss .i64 t14 t8 fun t16 => oIf t16 (oOpt (ia 1 t6 t14) fun t17 => oOpt (ld1 m10 t17) fun t18 => oOpt (aassert Tryz.prog t18 250 true) fun t19 => oOpt (aextract t19 1) fun t20 => oOpt (aextract t19 0) fun t21 => join (fun l22 m23 => uc l22 fun t25 l26 => oInt .add .i64 t14 (.int .i64 (.ofNat 1)) fun t27 => j11 [t25, t27] m23) fun j24 => oIf t20 (oRes (anew m10 1 [(.int .i64 (.ofNat 0)), (.int .i64 (.ofNat 0))] ptrTo) fun t28 m29 => oRes (st1 2 L m29 t28 t21) fun t30 m31 => oOpt (fa 0 t28) fun t32 => oOpt (ld1 m31 t32) fun t33 => oRes (bs Tryz.prog m31 22 1 [(0, t33)]) fun t34 m35 => oRes (aappend Tryz.prog L m35 22 t12 t34) fun t36 m37 => j24 [t36] m37) (oOpt (aassert Tryz.prog t18 252 true) fun t38 => oOpt (aextract t38 1) fun t39 => oOpt (aextract t38 0) fun t40 => join (fun l41 m42 => uc l41 fun t44 l45 => j24 [t44] m42) fun j43 => oIf t39 (oRes (anew m10 1 [] ptrTo) fun t46 m47 => oRes (st1 0 L m47 t46 t40) fun t48 m49 => oRes (bs Tryz.prog m49 22 1 [(0, (.int .i64 (.negSucc 0)))]) fun t50 m51 => oRes (aappend Tryz.prog L m51 22 t12 t50) fun t52 m53 => j43 [t52] m53) (j43 [t12] m10))) (k (.tuple ⟨[t12, t7]⟩) m10)) lf [(.slice none 0 0), (.int .i64 (.ofNat 0))] m5)
theorem S208_ok (lf : Nat) (cK : CallK β) (args : List Value) (L : Nat) (m : Mem) (k : Value → Mem → Option β)  : S208 lf cK args L m k = denF Tryz.prog fsT 2 K208 lf cK 208 args L m k := by kernel_rfl

/-- vitola/heap.Plan -/
def K209 : Kat := [(761, (0, [8, 28])), (97586, (0, [8])), (195173, (0, [8, 11]))]
noncomputable def S209 (lf : Nat) : FnK β := fun call args L m k => uc args fun t0 l1 => uc l1 fun t2 l3 => un0 l3 (call 222 [t0, t2] L m fun t4 m5 => oInt .neq .i64 t4 (.int .i64 (.ofNat 0)) fun t6 => oIf t6 (k (.tuple ⟨[(.slice none 0 0), t4]⟩) m5) (call 223 [t0, t2] L m5 fun t7 m8 => oOpt (aun .not t7) fun t9 => oIf t9 (k (.tuple ⟨[(.slice none 0 0), (.int .i64 (.ofNat 12))]⟩) m8) (call 76 [t0] L m8 fun t10 m11 => oOpt (ln t0) fun t12 => loopS (fun j15 l13 m14 => uc l13 fun t16 l17 => uc l17 fun t18 l19 => oInt .lss .i64 t18 t12 fun t20 => oIf t20 (oOpt (ia 2 t0 t18) fun t21 => oOpt (ldN m14 2 t21) fun t22 => oRes (anew m14 1 [(.int .i64 (.ofNat 0)), (.int .i64 (.ofNat 0))] ptrTo) fun t23 m24 => oRes (st1 2 L m24 t23 t22) fun t25 m26 => oOpt (fa 0 t23) fun t27 => oOpt (ld1 m26 t27) fun t28 => join (fun l29 m30 => uc l29 fun t32 l33 => oInt .add .i64 t18 (.int .i64 (.ofNat 1)) fun t34 => j15 [t32, t34] m30) fun j31 => loopS (fun j37 l35 m36 => uc l35 fun t38 l39 => uc l39 fun t40 l41 => oOpt (fa 1 t23) fun t42 => oOpt (ld1 m36 t42) fun t43 => oInt .leq .i64 t40 t43 fun t44 => oIf t44 (oOpt (bu Tryz.prog 49 [(0, t40), (1, t40)]) fun t45 => oOpt (ia 2 t10 t18) fun t46 => oRes (st1 2 L m36 t46 t45) fun t47 m48 => call 223 [t10, t2] L m48 fun t49 m50 => oIf t49 (oRes (bs Tryz.prog m50 22 1 [(0, t40)]) fun t51 m52 => oRes (aappend Tryz.prog L m52 22 t38 t51) fun t53 m54 => j31 [t53] m54) (oInt .add .i64 t40 (.int .i64 (.ofNat 1)) fun t55 => j37 [t38, t55] m50)) (j31 [t38] m36)) lf [t16, t28] m26) (k (.tuple ⟨[t16, (.int .i64 (.ofNat 0))]⟩) m14)) lf [(.slice none 0 0), (.int .i64 (.ofNat 0))] m11)))
theorem S209_ok (lf : Nat) (cK : CallK β) (args : List Value) (L : Nat) (m : Mem) (k : Value → Mem → Option β)  : S209 lf cK args L m k = denF Tryz.prog fsT 2 K209 lf cK 209 args L m k := by kernel_rfl

/-- slices.Reverse[[]int,int] -/
def K210 : Kat := [(9, (0, [2, 3]))]
noncomputable def S210 (lf : Nat) : FnK β := fun call args L m k => uc args fun t0 l1 => un0 l1 (oOpt (ln t0) fun t2 => oInt .sub .i64 t2 (.int .i64 (.ofNat 1)) fun t3 => loopS (fun j6 l4 m5 => uc l4 fun t7 l8 => uc l8 fun t9 l10 => oInt .lss .i64 t7 t9 fun t11 => oIf t11 (oOpt (ia 1 t0 t9) fun t12 => oOpt (ld1 m5 t12) fun t13 => oOpt (ia 1 t0 t7) fun t14 => oOpt (ld1 m5 t14) fun t15 => oOpt (ia 1 t0 t7) fun t16 => oRes (st1 1 L m5 t16 t13) fun t17 m18 => oOpt (ia 1 t0 t9) fun t19 => oRes (st1 1 L m18 t19 t15) fun t20 m21 => oInt .add .i64 t7 (.int .i64 (.ofNat 1)) fun t22 => oInt .sub .i64 t9 (.int .i64 (.ofNat 1)) fun t23 => j6 [t22, t23] m21) (k (.tuple ⟨[]⟩) m5)) lf [(.int .i64 (.ofNat 0)), t3] m)
theorem S210_ok (lf : Nat) (cK : CallK β) (args : List Value) (L : Nat) (m : Mem) (k : Value → Mem → Option β)  : S210 lf cK args L m k = denF Tryz.prog fsT 2 K210 lf cK 210 args L m k := by kernel_rfl

/-- math/bits.TrailingZeros64 -/
def K211 : Kat := []
noncomputable def S211 (lf : Nat) : FnK β := fun call args L m k => uc args fun t0 l1 => un0 l1 (oInt .eql .u64 t0 (.int .u64 (.ofNat 0)) fun t2 => oIf t2 (k (.int .i64 (.ofNat 64)) m) (oOpt (aun .neg t0) fun t3 => oInt .and .u64 t0 t3 fun t4 => oInt .mul .u64 t4 (.int .u64 (.ofNat 285870213051353865)) fun t5 => oOpt (abin Tryz.prog .shr 168 t5 (.int .u64 (.ofNat 58))) fun t6 => oOpt (iaA 64 1 (.pointer (some ⟨1, 0, none⟩)) t6) fun t7 => oOpt (ld1 m t7) fun t8 => oCv .i64 t8 fun t9 => k t9 m))
theorem S211_ok (lf : Nat) (cK : CallK β) (args : List Value) (L : Nat) (m : Mem) (k : Value → Mem → Option β)  : S211 lf cK args L m k = denF Tryz.prog fsT 2 K211 lf cK 211 args L m k := by kernel_rfl

/-- unicode/utf8.appendRuneNonASCII -/
def K214 : Kat := [(364, (0, [25])), (733, (1, [55])), (730, (1, [32]))]
noncomputable def S214 (lf : Nat) : FnK β := fun call args L m k => uc args fun t0 l1 => uc l1 fun t2 l3 => un0 l3 (oCv .u32 t2 fun t4 => oInt .leq .u32 t4 (.int .u32 (.ofNat 2047)) fun t5 => oIf t5 (oOpt (abin Tryz.prog .shr 21 t2 (.int .u64 (.ofNat 6))) fun t6 => oCv .u8 t6 fun t7 => oInt .or .u8 (.int .u8 (.ofNat 192)) t7 fun t8 => oCv .u8 t2 fun t9 => oInt .and .u8 t9 (.int .u8 (.ofNat 63)) fun t10 => oInt .or .u8 (.int .u8 (.ofNat 128)) t10 fun t11 => oRes (bs Tryz.prog m 204 2 [(0, t8), (1, t11)]) fun t12 m13 => oRes (aappend Tryz.prog L m13 204 t0 t12) fun t14 m15 => k t14 m15) (oInt .lss .u32 t4 (.int .u32 (.ofNat 55296)) fun t16 => join (fun l17 m18 => uc l17 fun t20 l21 => oIf t20 (oOpt (abin Tryz.prog .shr 21 t2 (.int .u64 (.ofNat 12))) fun t22 => oCv .u8 t22 fun t23 => oInt .or .u8 (.int .u8 (.ofNat 224)) t23 fun t24 => oOpt (abin Tryz.prog .shr 21 t2 (.int .u64 (.ofNat 6))) fun t25 => oCv .u8 t25 fun t26 => oInt .and .u8 t26 (.int .u8 (.ofNat 63)) fun t27 => oInt .or .u8 (.int .u8 (.ofNat 128)) t27 fun t28 => oCv .u8 t2 fun t29 => oInt .and .u8 t29 (.int .u8 (.ofNat 63)) fun t30 => oInt .or .u8 (.int .u8 (.ofNat 128)) t30 fun t31 => oRes (bs Tryz.prog m18 204 3 [(0, t24), (1, t28), (2, t31)]) fun t32 m33 => oRes (aappend Tryz.prog L m33 204 t0 t32) fun t34 m35 => k t34 m35) (oInt .gtr .u32 t4 (.int .u32 (.ofNat 65535)) fun t36 => join (fun l37 m38 => uc l37 fun t40 l41 => oPick t36 t40 (.bool false) fun t42 => oIf t42 (oOpt (abin Tryz.prog .shr 21 t2 (.int .u64 (.ofNat 18))) fun t43 => oCv .u8 t43 fun t44 => oInt .or .u8 (.int .u8 (.ofNat 240)) t44 fun t45 => oOpt (abin Tryz.prog .shr 21 t2 (.int .u64 (.ofNat 12))) fun t46 => oCv .u8 t46 fun t47 => oInt .and .u8 t47 (.int .u8 (.ofNat 63)) fun t48 => oInt .or .u8 (.int .u8 (.ofNat 128)) t48 fun t49 => oOpt (abin Tryz.prog .shr 21 t2 (.int .u64 (.ofNat 6))) fun t50 => oCv .u8 t50 fun t51 => oInt .and .u8 t51 (.int .u8 (.ofNat 63)) fun t52 => oInt .or .u8 (.int .u8 (.ofNat 128)) t52 fun t53 => oCv .u8 t2 fun t54 => oInt .and .u8 t54 (.int .u8 (.ofNat 63)) fun t55 => oInt .or .u8 (.int .u8 (.ofNat 128)) t55 fun t56 => oRes (bs Tryz.prog m38 204 4 [(0, t45), (1, t49), (2, t53), (3, t56)]) fun t57 m58 => oRes (aappend Tryz.prog L m58 204 t0 t57) fun t59 m60 => k t59 m60) (oRes (bs Tryz.prog m38 204 3 [(0, (.int .u8 (.ofNat 239))), (1, (.int .u8 (.ofNat 191))), (2, (.int .u8 (.ofNat 189)))]) fun t61 m62 => oRes (aappend Tryz.prog L m62 204 t0 t61) fun t63 m64 => k t63 m64)) fun j39 => oGT t36 (oInt .leq .u32 t4 (.int .u32 (.ofNat 1114111)) fun t65 => j39 [t65] m18) (j39 [Go.undef] m18))) fun j19 => oIf t16 (j19 [t16] m) (oInt .lss .u32 (.int .u32 (.ofNat 57343)) t4 fun t66 => join (fun l67 m68 => uc l67 fun t70 l71 => oPick t66 t70 (.bool false) fun t72 => j19 [t72] m68) fun j69 => oGT t66 (oInt .leq .u32 t4 (.int .u32 (.ofNat 65535)) fun t73 => j69 [t73] m) (j69 [Go.undef] m))))
theorem S214_ok (lf : Nat) (cK : CallK β) (args : List Value) (L : Nat) (m : Mem) (k : Value → Mem → Option β)  : S214 lf cK args L m k = denF Tryz.prog fsT 2 K214 lf cK 214 args L m k := by kernel_rfl

/-- vitola/bench.within -/
def K215 : Kat := [(9, (1, [13]))]
noncomputable def S215 (lf : Nat) : FnK β := fun call args L m k => uc args fun t0 l1 => uc l1 fun t2 l3 => uc l3 fun t4 l5 => un0 l5 (oInt .leq .i64 t2 t0 fun t6 => join (fun l7 m8 => uc l7 fun t10 l11 => oPick t6 t10 (.bool false) fun t12 => k t12 m8) fun j9 => oGT t6 (oInt .leq .i64 t0 t4 fun t13 => j9 [t13] m) (j9 [Go.undef] m))
theorem S215_ok (lf : Nat) (cK : CallK β) (args : List Value) (L : Nat) (m : Mem) (k : Value → Mem → Option β)  : S215 lf cK args L m k = denF Tryz.prog fsT 2 K215 lf cK 215 args L m k := by kernel_rfl

/-- vitola/bench.full -/
def K216 : Kat := [(89, (0, [3, 6]))]
noncomputable def S216 (lf : Nat) : FnK β := fun call args L m k => uc args fun t0 l1 => un0 l1 (loopS (fun j4 l2 m3 => uc l2 fun t5 l6 => uc l6 fun t7 l8 => oInt .lss .i64 t7 t0 fun t9 => oIf t9 (oRes (bs Tryz.prog m3 238 1 [(0, t7)]) fun t10 m11 => oRes (aappend Tryz.prog L m11 238 t5 t10) fun t12 m13 => oInt .add .i64 t7 (.int .i64 (.ofNat 1)) fun t14 => j4 [t12, t14] m13) (k t5 m3)) lf [(.slice none 0 0), (.int .i64 (.ofNat 0))] m)
theorem S216_ok (lf : Nat) (cK : CallK β) (args : List Value) (L : Nat) (m : Mem) (k : Value → Mem → Option β)  : S216 lf cK args L m k = denF Tryz.prog fsT 2 K216 lf cK 216 args L m k := by kernel_rfl

/-- (vitola/bench.bench).gone -/
def K217 : Kat := []
noncomputable def S217 (lf : Nat) : FnK β := fun call args L m k => uc args fun t0 l1 => uc l1 fun t2 l3 => un0 l3 (oInt .add .i64 t2 (.int .i64 (.ofNat 1)) fun t4 => oOpt (ln t0) fun t5 => oOpt (ln t0) fun t6 => oOpt (sl Tryz.prog 238 t0 (some t4) (some t5) (some t6)) fun t7 => oOpt (sl Tryz.prog 238 t0 none (some t2) (some t2)) fun t8 => oRes (aappend Tryz.prog L m 238 t7 t8) fun t9 m10 => k t9 m10)
theorem S217_ok (lf : Nat) (cK : CallK β) (args : List Value) (L : Nat) (m : Mem) (k : Value → Mem → Option β)  : S217 lf cK args L m k = denF Tryz.prog fsT 2 K217 lf cK 217 args L m k := by kernel_rfl

/-- vitola/wrap.common -/
def K218 : Kat := [(19, (0, [0, 1]))]
noncomputable def S218 (lf : Nat) : FnK β := fun call args L m k => uc args fun t0 l1 => uc l1 fun t2 l3 => un0 l3 (loopS (fun j6 l4 m5 => uc l4 fun t7 l8 => uc l8 fun t9 l10 => oInt .gtr .i64 t9 (.int .i64 (.ofNat 0)) fun t11 => oIf t11 (oInt .rem .i64 t7 t9 fun t12 => j6 [t9, t12] m5) (k t7 m5)) lf [t0, t2] m)
theorem S218_ok (lf : Nat) (cK : CallK β) (args : List Value) (L : Nat) (m : Mem) (k : Value → Mem → Option β)  : S218 lf cK args L m k = denF Tryz.prog fsT 2 K218 lf cK 218 args L m k := by kernel_rfl

end
end Go.Vit
