/- Shallow texts of the seat's functions, printed by a program: part 8. -/
import Derived.Test.YtppallabmjdolaaGreatDoorRows
import Derived.Test.YtppallabmjdolaaGreatDoorFs
set_option linter.unusedVariables false
set_option maxRecDepth 100000
namespace Go.Vit
open Go Go.Proofs
section
variable {β : Type}
/-- cmp.Less[int] -/
def K163 : Kat := [(9, (1, [10])), (9, (3, [15]))]
noncomputable def S163 (lf : Nat) : FnK β := fun call args L m k => uc args fun t0 l1 => uc l1 fun t2 l3 => un0 l3 (call 133 [t0] L m fun t4 m5 => join (fun l6 m7 => uc l6 fun t9 l10 => oPick t4 t9 (.bool false) fun t11 => join (fun l12 m13 => uc l12 fun t15 l16 => oPick t11 (.bool true) t15 fun t17 => k t17 m13) fun j14 => oGF t11 (oInt .lss .i64 t0 t2 fun t18 => j14 [t18] m7) (j14 [Go.undef] m7)) fun j8 => oGT t4 (call 133 [t2] L m5 fun t19 m20 => oOpt (aun .not t19) fun t21 => j8 [t21] m20) (j8 [Go.undef] m5))
theorem S163_ok (lf : Nat) (cK : CallK β) (args : List Value) (L : Nat) (m : Mem) (k : Value → Mem → Option β)  : S163 lf cK args L m k = denF Tryz.prog fsT 2 K163 lf cK 163 args L m k := by kernel_rfl

/-- math/bits.Len32 -/
def K166 : Kat := [(20, (0, [0, 2])), (44, (0, [0, 2]))]
noncomputable def S166 (lf : Nat) : FnK β := fun call args L m k => uc args fun t0 l1 => un0 l1 (oInt .geq .u32 t0 (.int .u32 (.ofNat 65536)) fun t2 => join (fun l3 m4 => uc l3 fun t6 l7 => uc l7 fun t8 l9 => oInt .geq .u32 t6 (.int .u32 (.ofNat 256)) fun t10 => join (fun l11 m12 => uc l11 fun t14 l15 => uc l15 fun t16 l17 => oCv .u8 t14 fun t18 => oOpt (aindex Tryz.prog 9 (.string ⟨#[0, 1, 2, 2, 3, 3, 3, 3, 4, 4, 4, 4, 4, 4, 4, 4, 5, 5, 5, 5, 5, 5, 5, 5, 5, 5, 5, 5, 5, 5, 5, 5, 6, 6, 6, 6, 6, 6, 6, 6, 6, 6, 6, 6, 6, 6, 6, 6, 6, 6, 6, 6, 6, 6, 6, 6, 6, 6, 6, 6, 6, 6, 6, 6, 7, 7, 7, 7, 7, 7, 7, 7, 7, 7, 7, 7, 7, 7, 7, 7, 7, 7, 7, 7, 7, 7, 7, 7, 7, 7, 7, 7, 7, 7, 7, 7, 7, 7, 7, 7, 7, 7, 7, 7, 7, 7, 7, 7, 7, 7, 7, 7, 7, 7, 7, 7, 7, 7, 7, 7, 7, 7, 7, 7, 7, 7, 7, 7, 8, 8, 8, 8, 8, 8, 8, 8, 8, 8, 8, 8, 8, 8, 8, 8, 8, 8, 8, 8, 8, 8, 8, 8, 8, 8, 8, 8, 8, 8, 8, 8, 8, 8, 8, 8, 8, 8, 8, 8, 8, 8, 8, 8, 8, 8, 8, 8, 8, 8, 8, 8, 8, 8, 8, 8, 8, 8, 8, 8, 8, 8, 8, 8, 8, 8, 8, 8, 8, 8, 8, 8, 8, 8, 8, 8, 8, 8, 8, 8, 8, 8, 8, 8, 8, 8, 8, 8, 8, 8, 8, 8, 8, 8, 8, 8, 8, 8, 8, 8, 8, 8, 8, 8, 8, 8, 8, 8, 8, 8, 8, 8, 8, 8, 8, 8, 8, 8, 8, 8, 8, 8, 8, 8, 8, 8, 8, 8]⟩) t18) fun t19 => oCv .i64 t19 fun t20 => oInt .add .i64 t16 t20 fun t21 => k t21 m12) fun j13 => oIf t10 (oOpt (abin Tryz.prog .shr 71 t6 (.int .u64 (.ofNat 8))) fun t22 => oInt .add .i64 t8 (.int .i64 (.ofNat 8)) fun t23 => j13 [t22, t23] m4) (j13 [t6, t8] m4)) fun j5 => oIf t2 (oOpt (abin Tryz.prog .shr 71 t0 (.int .u64 (.ofNat 16))) fun t24 => j5 [t24, (.int .i64 (.ofNat 16))] m) (j5 [t0, (.int .i64 (.ofNat 0))] m))
theorem S166_ok (lf : Nat) (cK : CallK β) (args : List Value) (L : Nat) (m : Mem) (k : Value → Mem → Option β)  : S166 lf cK args L m k = denF Tryz.prog fsT 2 K166 lf cK 166 args L m k := by kernel_rfl

/-- math/bits.Len64 -/
def K167 : Kat := [(20, (0, [0, 2])), (44, (0, [0, 2])), (92, (0, [0, 2]))]
noncomputable def S167 (lf : Nat) : FnK β := fun call args L m k => uc args fun t0 l1 => un0 l1 (oInt .geq .u64 t0 (.int .u64 (.ofNat 4294967296)) fun t2 => join (fun l3 m4 => uc l3 fun t6 l7 => uc l7 fun t8 l9 => oInt .geq .u64 t6 (.int .u64 (.ofNat 65536)) fun t10 => join (fun l11 m12 => uc l11 fun t14 l15 => uc l15 fun t16 l17 => oInt .geq .u64 t14 (.int .u64 (.ofNat 256)) fun t18 => join (fun l19 m20 => uc l19 fun t22 l23 => uc l23 fun t24 l25 => oCv .u8 t22 fun t26 => oOpt (aindex Tryz.prog 9 (.string ⟨#[0, 1, 2, 2, 3, 3, 3, 3, 4, 4, 4, 4, 4, 4, 4, 4, 5, 5, 5, 5, 5, 5, 5, 5, 5, 5, 5, 5, 5, 5, 5, 5, 6, 6, 6, 6, 6, 6, 6, 6, 6, 6, 6, 6, 6, 6, 6, 6, 6, 6, 6, 6, 6, 6, 6, 6, 6, 6, 6, 6, 6, 6, 6, 6, 7, 7, 7, 7, 7, 7, 7, 7, 7, 7, 7, 7, 7, 7, 7, 7, 7, 7, 7, 7, 7, 7, 7, 7, 7, 7, 7, 7, 7, 7, 7, 7, 7, 7, 7, 7, 7, 7, 7, 7, 7, 7, 7, 7, 7, 7, 7, 7, 7, 7, 7, 7, 7, 7, 7, 7, 7, 7, 7, 7, 7, 7, 7, 7, 8, 8, 8, 8, 8, 8, 8, 8, 8, 8, 8, 8, 8, 8, 8, 8, 8, 8, 8, 8, 8, 8, 8, 8, 8, 8, 8, 8, 8, 8, 8, 8, 8, 8, 8, 8, 8, 8, 8, 8, 8, 8, 8, 8, 8, 8, 8, 8, 8, 8, 8, 8, 8, 8, 8, 8, 8, 8, 8, 8, 8, 8, 8, 8, 8, 8, 8, 8, 8, 8, 8, 8, 8, 8, 8, 8, 8, 8, 8, 8, 8, 8, 8, 8, 8, 8, 8, 8, 8, 8, 8, 8, 8, 8, 8, 8, 8, 8, 8, 8, 8, 8, 8, 8, 8, 8, 8, 8, 8, 8, 8, 8, 8, 8, 8, 8, 8, 8, 8, 8, 8, 8, 8, 8, 8, 8, 8, 8]⟩) t26) fun t27 => oCv .i64 t27 fun t28 => oInt .add .i64 t24 t28 fun t29 => k t29 m20) fun j21 => oIf t18 (oOpt (abin Tryz.prog .shr 168 t14 (.int .u64 (.ofNat 8))) fun t30 => oInt .add .i64 t16 (.int .i64 (.ofNat 8)) fun t31 => j21 [t30, t31] m12) (j21 [t14, t16] m12)) fun j13 => oIf t10 (oOpt (abin Tryz.prog .shr 168 t6 (.int .u64 (.ofNat 16))) fun t32 => oInt .add .i64 t8 (.int .i64 (.ofNat 16)) fun t33 => j13 [t32, t33] m4) (j13 [t6, t8] m4)) fun j5 => oIf t2 (oOpt (abin Tryz.prog .shr 168 t0 (.int .u64 (.ofNat 32))) fun t34 => j5 [t34, (.int .i64 (.ofNat 32))] m) (j5 [t0, (.int .i64 (.ofNat 0))] m))
theorem S167_ok (lf : Nat) (cK : CallK β) (args : List Value) (L : Nat) (m : Mem) (k : Value → Mem → Option β)  : S167 lf cK args L m k = denF Tryz.prog fsT 2 K167 lf cK 167 args L m k := by kernel_rfl

/-- vitola/band.given -/
def K168 : Kat := [(19, (1, [12]))]
noncomputable def S168 (lf : Nat) : FnK β := fun call args L m k => uc args fun t0 l1 => uc l1 fun t2 l3 => un0 l3 (call 194 [t0, (.int .i64 (.ofNat 1)), (.int .i64 (.ofNat 16))] L m fun t4 m5 => oOpt (aun .not t4) fun t6 => join (fun l7 m8 => uc l7 fun t10 l11 => oPick t6 (.bool true) t10 fun t12 => oIf t12 (k (.int .i64 (.ofNat 1)) m8) (k (.int .i64 (.ofNat 0)) m8)) fun j9 => oGF t6 (call 194 [t2, (.int .i64 (.ofNat 0)), t0] L m5 fun t13 m14 => oOpt (aun .not t13) fun t15 => j9 [t15] m14) (j9 [Go.undef] m5))
theorem S168_ok (lf : Nat) (cK : CallK β) (args : List Value) (L : Nat) (m : Mem) (k : Value → Mem → Option β)  : S168 lf cK args L m k = denF Tryz.prog fsT 2 K168 lf cK 168 args L m k := by kernel_rfl

/-- (*strings.Builder).WriteRune -/
def K169 : Kat := []
noncomputable def S169 (lf : Nat) : FnK β := fun call args L m k => uc args fun t0 l1 => uc l1 fun t2 l3 => un0 l3 (call 195 [t0] L m fun t4 m5 => oOpt (anil t0) fun t6 => oOpt (fa 1 t6) fun t7 => oOpt (ld1 m5 t7) fun t8 => oOpt (ln t8) fun t9 => oOpt (anil t0) fun t10 => oOpt (fa 1 t10) fun t11 => oOpt (ld1 m5 t11) fun t12 => call 196 [t12, t2] L m5 fun t13 m14 => oOpt (anil t0) fun t15 => oOpt (fa 1 t15) fun t16 => oRes (st1 1 L m14 t16 t13) fun t17 m18 => oOpt (anil t0) fun t19 => oOpt (fa 1 t19) fun t20 => oOpt (ld1 m18 t20) fun t21 => oOpt (ln t21) fun t22 => oInt .sub .i64 t22 t9 fun t23 => k (.tuple ⟨[t23, .nilIface]⟩) m18)
theorem S169_ok (lf : Nat) (cK : CallK β) (args : List Value) (L : Nat) (m : Mem) (k : Value → Mem → Option β)  : S169 lf cK args L m k = denF Tryz.prog fsT 2 K169 lf cK 169 args L m k := by kernel_rfl

/-- vitola/bench.Order -/
def K171 : Kat := []
noncomputable def S171 (lf : Nat) : FnK β := fun call args L m k => uc args fun t0 l1 => uc l1 fun t2 l3 => un0 l3 (call 197 [t0, t2] L m fun t4 m5 => oInt .neq .i64 t4 (.int .i64 (.ofNat 0)) fun t6 => oIf t6 (k (.tuple ⟨[(.slice none 0 0), t4]⟩) m5) (call 198 [t0, t2] L m5 fun t7 m8 => k (.tuple ⟨[t7, (.int .i64 (.ofNat 0))]⟩) m8))
theorem S171_ok (lf : Nat) (cK : CallK β) (args : List Value) (L : Nat) (m : Mem) (k : Value → Mem → Option β)  : S171 lf cK args L m k = denF Tryz.prog fsT 2 K171 lf cK 171 args L m k := by kernel_rfl

/-- vitola/vitolatop.chosenWorks -/
def K172 : Kat := [(21, (1, [13])), (21, (3, [16]))]
noncomputable def S172 (lf : Nat) : FnK β := fun call args L m k => un0 args (call 61 [(.int .i64 (.ofNat 4)), (.int .i64 (.ofNat 2)), (.int .i64 (.ofNat 3))] L m fun t0 m1 => oOpt (aextract t0 0) fun t2 => oOpt (aextract t0 1) fun t3 => oInt .eql .i64 t3 (.int .i64 (.ofNat 0)) fun t4 => join (fun l5 m6 => uc l5 fun t8 l9 => oPick t4 t8 (.bool false) fun t10 => join (fun l11 m12 => uc l11 fun t14 l15 => oPick t10 t14 (.bool false) fun t16 => k t16 m12) fun j13 => oGT t10 (call 181 [] L m6 fun t17 m18 => j13 [t17] m18) (j13 [Go.undef] m6)) fun j7 => oGT t4 (oRes (bs Tryz.prog m1 22 2 [(0, (.int .i64 (.ofNat 2))), (1, (.int .i64 (.ofNat 3)))]) fun t19 m20 => call 62 [t19] L m20 fun t21 m22 => call 13 [t2, t21] L m22 fun t23 m24 => j7 [t23] m24) (j7 [Go.undef] m1))
theorem S172_ok (lf : Nat) (cK : CallK β) (args : List Value) (L : Nat) (m : Mem) (k : Value → Mem → Option β)  : S172 lf cK args L m k = denF Tryz.prog fsT 2 K172 lf cK 172 args L m k := by kernel_rfl

/-- vitola/wrap.Check -/
def K173 : Kat := [(39, (1, [13]))]
noncomputable def S173 (lf : Nat) : FnK β := fun call args L m k => uc args fun t0 l1 => un0 l1 (oRes (abox m t0) fun t2 m3 => oOpt (fa 0 t2) fun t4 => oOpt (ld1 m3 t4) fun t5 => oOpt (fa 1 t2) fun t6 => oOpt (ld1 m3 t6) fun t7 => call 199 [t5, t7] L m3 fun t8 m9 => oOpt (aun .not t8) fun t10 => join (fun l11 m12 => uc l11 fun t14 l15 => oPick t10 (.bool true) t14 fun t16 => oIf t16 (k (.int .i64 (.ofNat 1)) m12) (oOpt (fa 2 t2) fun t17 => oOpt (ld1 m12 t17) fun t18 => oOpt (ldN m12 3 t2) fun t19 => call 200 [t19] L m12 fun t20 m21 => oSm m12 m21 t17 ( oInt .gtr .i64 t18 t20 fun t22 => oIf t22 (k (.int .i64 (.ofNat 3)) m21) (k (.int .i64 (.ofNat 0)) m21)))) fun j13 => oGF t10 (oOpt (fa 2 t2) fun t23 => oOpt (ld1 m9 t23) fun t24 => oInt .lss .i64 t24 (.int .i64 (.ofNat 1)) fun t25 => j13 [t25] m9) (j13 [Go.undef] m9))
theorem S173_ok (lf : Nat) (cK : CallK β) (args : List Value) (L : Nat) (m : Mem) (k : Value → Mem → Option β)  : S173 lf cK args L m k = denF Tryz.prog fsT 2 K173 lf cK 173 args L m k := by kernel_rfl

/-- (*vitola/wrap.wound).more -/
def K174 : Kat := [(188, (0, [])), (758, (0, []))]
noncomputable def S174 (lf : Nat) : FnK β := fun call args L m k => uc args fun t0 l1 => un0 l1 (oOpt (anil t0) fun t2 => oOpt (fa 0 t2) fun t3 => oOpt (fa 2 t3) fun t4 => oOpt (ld1 m t4) fun t5 => oOpt (anil t0) fun t6 => oOpt (fa 0 t6) fun t7 => oOpt (fa 2 t7) fun t8 => oOpt (ld1 m t8) fun t9 => oInt .add .i64 t9 (.int .i64 (.ofNat 1)) fun t10 => oOpt (anil t0) fun t11 => oOpt (fa 0 t11) fun t12 => oOpt (fa 2 t12) fun t13 => oRes (st1 1 L m t13 t10) fun t14 m15 => oInt .eql .i64 t5 (.int .i64 (.ofNat 1)) fun t16 => oIf t16 (oOpt (bu Tryz.prog 79 [(0, (.int .i64 (.ofNat 1))), (1, (.int .i64 (.ofNat 1)))]) fun t17 => oOpt (anil t0) fun t18 => oOpt (fa 3 t18) fun t19 => oRes (st1 2 L m15 t19 t17) fun t20 m21 => k (.tuple ⟨[]⟩) m21) (oOpt (anil t0) fun t22 => oOpt (fa 0 t22) fun t23 => oOpt (ldN m15 3 t23) fun t24 => call 136 [t24, t5] L m15 fun t25 m26 => oOpt (anil t0) fun t27 => oOpt (fa 0 t27) fun t28 => oOpt (ldN m26 3 t28) fun t29 => oOpt (anil t0) fun t30 => oOpt (fa 3 t30) fun t31 => oOpt (iaA 2 1 t31 (.int .i64 (.ofNat 0))) fun t32 => oOpt (ld1 m26 t32) fun t33 => call 136 [t29, t33] L m26 fun t34 m35 => oInt .lss .i64 t25 t34 fun t36 => join (fun l37 m38 => k (.tuple ⟨[]⟩) m38) fun j39 => oIf t36 (oOpt (anil t0) fun t40 => oOpt (fa 3 t40) fun t41 => oOpt (iaA 2 1 t41 (.int .i64 (.ofNat 0))) fun t42 => oRes (st1 1 L m35 t42 t5) fun t43 m44 => j39 [] m44) (oOpt (anil t0) fun t45 => oOpt (fa 0 t45) fun t46 => oOpt (ldN m35 3 t46) fun t47 => oOpt (anil t0) fun t48 => oOpt (fa 3 t48) fun t49 => oOpt (iaA 2 1 t49 (.int .i64 (.ofNat 1))) fun t50 => oOpt (ld1 m35 t50) fun t51 => call 136 [t47, t51] L m35 fun t52 m53 => oInt .gtr .i64 t25 t52 fun t54 => join (fun l55 m56 => j39 [] m56) fun j57 => oIf t54 (oOpt (anil t0) fun t58 => oOpt (fa 3 t58) fun t59 => oOpt (iaA 2 1 t59 (.int .i64 (.ofNat 1))) fun t60 => oRes (st1 1 L m53 t60 t5) fun t61 m62 => j57 [] m62) (j57 [] m53))))
theorem S174_ok (lf : Nat) (cK : CallK β) (args : List Value) (L : Nat) (m : Mem) (k : Value → Mem → Option β)  : S174 lf cK args L m k = denF Tryz.prog fsT 2 K174 lf cK 174 args L m k := by kernel_rfl

/-- vitola/shade.Check$1 -/
def K175 : Kat := []
noncomputable def S175 (lf : Nat) : FnK β := fun call args L m k => uc args fun t0 l1 => uc l1 fun t2 l3 => un0 l3 (call 108 [t2, (.int .i64 (.ofNat 0)), (.int .i64 (.ofNat 60))] L m fun t4 m5 => oOpt (aun .not t4) fun t6 => oIf t6 (k (.int .i64 (.ofNat 1)) m5) (k (.int .i64 (.ofNat 0)) m5))
theorem S175_ok (lf : Nat) (cK : CallK β) (args : List Value) (L : Nat) (m : Mem) (k : Value → Mem → Option β)  : S175 lf cK args L m k = denF Tryz.prog fsT 2 K175 lf cK 175 args L m k := by kernel_rfl

/-- slices.Collect[int] -/
def K176 : Kat := []
noncomputable def S176 (lf : Nat) : FnK β := fun call args L m k => uc args fun t0 l1 => un0 l1 (call 201 [(.slice none 0 0), t0] L m fun t2 m3 => k t2 m3)
theorem S176_ok (lf : Nat) (cK : CallK β) (args : List Value) (L : Nat) (m : Mem) (k : Value → Mem → Option β)  : S176 lf cK args L m k = denF Tryz.prog fsT 2 K176 lf cK 176 args L m k := by kernel_rfl

/-- slices.Values[[]int,int]$1 -/
def K177 : Kat := [(9, (0, [7]))]
noncomputable def S177 (lf : Nat) : FnK β := fun call args L m k => uc args fun t0 l1 => uc l1 fun t2 l3 => un0 l3 (oOpt (ld1 m t2) fun t4 => oOpt (ln t4) fun t5 => loopS (fun j8 l6 m7 => uc l6 fun t9 l10 => oInt .lss .i64 t9 t5 fun t11 => oIf t11 (oOpt (ia 1 t4 t9) fun t12 => oOpt (ld1 m7 t12) fun t13 => oCallV call t0 [t13] L m7 fun t14 m15 => oOpt (aun .not t14) fun t16 => oIf t16 (k (.tuple ⟨[]⟩) m15) (oInt .add .i64 t9 (.int .i64 (.ofNat 1)) fun t17 => j8 [t17] m15)) (k (.tuple ⟨[]⟩) m7)) lf [(.int .i64 (.ofNat 0))] m)
theorem S177_ok (lf : Nat) (cK : CallK β) (args : List Value) (L : Nat) (m : Mem) (k : Value → Mem → Option β)  : S177 lf cK args L m k = denF Tryz.prog fsT 2 K177 lf cK 177 args L m k := by kernel_rfl

/-- vitola/wrap.Round$1 -/
def K178 : Kat := []
noncomputable def S178 (lf : Nat) : FnK β := fun call args L m k => uc args fun t0 l1 => uc l1 fun t2 l3 => un0 l3 (k t2 m)
theorem S178_ok (lf : Nat) (cK : CallK β) (args : List Value) (L : Nat) (m : Mem) (k : Value → Mem → Option β)  : S178 lf cK args L m k = denF Tryz.prog fsT 2 K178 lf cK 178 args L m k := by kernel_rfl

/-- vitola/dock.listed -/
def K179 : Kat := []
noncomputable def S179 (lf : Nat) : FnK β := fun call args L m k => uc args fun t0 l1 => uc l1 fun t2 l3 => uc l3 fun t4 l5 => un0 l5 (oRes (abox m t2) fun t6 m7 => call 202 [t0, (.int .i64 (.ofNat 1)), (.int .i64 (.ofNat 8))] L m7 fun t8 m9 => oOpt (aun .not t8) fun t10 => oIf t10 (k (.int .i64 (.ofNat 1)) m9) (oOpt (ln t4) fun t11 => oInt .gtr .i64 t11 t0 fun t12 => oIf t12 (k (.int .i64 (.ofNat 3)) m9) (call 43 [t4, (.func (.func 203) #[] ⟨[t6]⟩)] L m9 fun t13 m14 => oIf t13 (k (.int .i64 (.ofNat 2)) m14) (k (.int .i64 (.ofNat 0)) m14))))
theorem S179_ok (lf : Nat) (cK : CallK β) (args : List Value) (L : Nat) (m : Mem) (k : Value → Mem → Option β)  : S179 lf cK args L m k = denF Tryz.prog fsT 2 K179 lf cK 179 args L m k := by kernel_rfl

/-- vitola/grade.Way -/
def K180 : Kat := [(761, (0, [10, 9])), (3048, (0, [10, 9]))]
noncomputable def S180 (lf : Nat) : FnK β := fun call args L m k => uc args fun t0 l1 => uc l1 fun t2 l3 => un0 l3 (oRes (bs Tryz.prog m 240 2 [(0, t0), (1, t2)]) fun t4 m5 => call 204 [t4] L m5 fun t6 m7 => oInt .neq .i64 t6 (.int .i64 (.ofNat 0)) fun t8 => oIf t8 (k (.tuple ⟨[(.slice none 0 0), t6]⟩) m7) (call 205 [t2] L m7 fun t9 m10 => oRes (anew m10 1 [(.int .i64 (.ofNat 0)), (.int .i64 (.ofNat 0)), (.int .i64 (.ofNat 0)), (.int .i64 (.ofNat 0)), (.int .i64 (.ofNat 0)), (.int .i64 (.ofNat 0)), (.int .i64 (.ofNat 0))] ptrTo) fun t11 m12 => oRes (st1 7 L m12 t11 t9) fun t13 m14 => call 117 [t0] L m14 fun t15 m16 => loopS (fun j19 l17 m18 => uc l17 fun t20 l21 => uc l21 fun t22 l23 => oInt .add .i64 t20 (.int .i64 (.ofNat 1)) fun t24 => oOpt (ln t15) fun t25 => oInt .lss .i64 t24 t25 fun t26 => oIf t26 (join (fun l27 m28 => uc l27 fun t30 l31 => uc l31 fun t32 l33 => j19 [t30, t32] m28) fun j29 => oOpt (ia 1 t15 t20) fun t34 => oOpt (ld1 m18 t34) fun t35 => oInt .add .i64 t20 (.int .i64 (.ofNat 1)) fun t36 => oOpt (ia 1 t15 t36) fun t37 => oOpt (ld1 m18 t37) fun t38 => call 206 [t11, t35, t38] L m18 fun t39 m40 => oIf t39 (oInt .add .i64 t20 (.int .i64 (.ofNat 1)) fun t41 => j29 [t41, t22] m40) (call 207 [t15, t20] L m40 fun t42 m43 => oRes (bs Tryz.prog m43 22 1 [(0, t20)]) fun t44 m45 => oRes (aappend Tryz.prog L m45 22 t22 t44) fun t46 m47 => oInt .sub .i64 t20 (.int .i64 (.ofNat 1)) fun t48 => oOpt (abuiltin Tryz.prog .max #[3, 3] [(.int .i64 (.ofNat 0)), t48]) fun t49 => j29 [t49, t46] m47)) (k (.tuple ⟨[t22, (.int .i64 (.ofNat 0))]⟩) m18)) lf [(.int .i64 (.ofNat 0)), (.slice none 0 0)] m16))
theorem S180_ok (lf : Nat) (cK : CallK β) (args : List Value) (L : Nat) (m : Mem) (k : Value → Mem → Option β)  : S180 lf cK args L m k = denF Tryz.prog fsT 2 K180 lf cK 180 args L m k := by kernel_rfl

/-- vitola/vitolatop.waitingWorks -/
def K181 : Kat := [(45, (1, [22])), (45, (3, [28])), (45, (5, [34]))]
noncomputable def S181 (lf : Nat) : FnK β := fun call args L m k => un0 args (oRes (bs Tryz.prog m 22 4 [(0, (.int .i64 (.ofNat 2))), (1, (.int .i64 (.ofNat 2))), (2, (.int .i64 (.ofNat 0))), (3, (.int .i64 (.ofNat 2)))]) fun t0 m1 => call 62 [t0] L m1 fun t2 m3 => call 208 [(.int .i64 (.ofNat 4)), t2] L m3 fun t4 m5 => oOpt (aextract t4 0) fun t6 => oOpt (aextract t4 1) fun t7 => oOpt (bu Tryz.prog 49 [(0, (.int .i64 (.ofNat 0))), (1, (.int .i64 (.ofNat 1)))]) fun t8 => oOpt (bu Tryz.prog 49 [(0, (.int .i64 (.ofNat 0))), (1, (.int .i64 (.ofNat 0)))]) fun t9 => oRes (bs Tryz.prog m5 47 2 [(0, t8), (1, t9)]) fun t10 m11 => call 209 [t10, (.int .i64 (.ofNat 1))] L m11 fun t12 m13 => oOpt (aextract t12 0) fun t14 => oOpt (aextract t12 1) fun t15 => oInt .eql .i64 t7 (.int .i64 (.ofNat 0)) fun t16 => join (fun l17 m18 => uc l17 fun t20 l21 => oPick t16 t20 (.bool false) fun t22 => join (fun l23 m24 => uc l23 fun t26 l27 => oPick t22 t26 (.bool false) fun t28 => join (fun l29 m30 => uc l29 fun t32 l33 => oPick t28 t32 (.bool false) fun t34 => k t34 m30) fun j31 => oGT t28 (oRes (bs Tryz.prog m24 22 2 [(0, (.int .i64 (.ofNat 1))), (1, (.int .i64 (.ofNat 0)))]) fun t35 m36 => call 62 [t35] L m36 fun t37 m38 => call 13 [t14, t37] L m38 fun t39 m40 => j31 [t39] m40) (j31 [Go.undef] m24)) fun j25 => oGT t22 (oRes (bs Tryz.prog m18 22 4 [(0, (.int .i64 (.ofNat 2))), (1, (.int .i64 (.ofNat 3))), (2, (.int .i64 (.ofNat 0))), (3, (.int .i64 (.negSucc 0)))]) fun t41 m42 => call 62 [t41] L m42 fun t43 m44 => call 13 [t6, t43] L m44 fun t45 m46 => j25 [t45] m46) (j25 [Go.undef] m18)) fun j19 => oGT t16 (oInt .eql .i64 t15 (.int .i64 (.ofNat 0)) fun t47 => j19 [t47] m13) (j19 [Go.undef] m13))
theorem S181_ok (lf : Nat) (cK : CallK β) (args : List Value) (L : Nat) (m : Mem) (k : Value → Mem → Option β)  : S181 lf cK args L m k = denF Tryz.prog fsT 2 K181 lf cK 181 args L m k := by kernel_rfl

/-- vitola/club.within -/
def K182 : Kat := [(9, (1, [13]))]
noncomputable def S182 (lf : Nat) : FnK β := fun call args L m k => uc args fun t0 l1 => uc l1 fun t2 l3 => uc l3 fun t4 l5 => un0 l5 (oInt .leq .i64 t2 t0 fun t6 => join (fun l7 m8 => uc l7 fun t10 l11 => oPick t6 t10 (.bool false) fun t12 => k t12 m8) fun j9 => oGT t6 (oInt .leq .i64 t0 t4 fun t13 => j9 [t13] m) (j9 [Go.undef] m))
theorem S182_ok (lf : Nat) (cK : CallK β) (args : List Value) (L : Nat) (m : Mem) (k : Value → Mem → Option β)  : S182 lf cK args L m k = denF Tryz.prog fsT 2 K182 lf cK 182 args L m k := by kernel_rfl

/-- (vitola/club.room).sits -/
def K183 : Kat := []
noncomputable def S183 (lf : Nat) : FnK β := fun call args L m k => uc args fun t0 l1 => uc l1 fun t2 l3 => uc l3 fun t4 l5 => un0 l5 (oOpt (ia 1 t0 t2) fun t6 => oOpt (ld1 m t6) fun t7 => oOpt (abin Tryz.prog .shr 95 t7 t4) fun t8 => oInt .and .u64 t8 (.int .u64 (.ofNat 1)) fun t9 => oInt .eql .u64 t9 (.int .u64 (.ofNat 1)) fun t10 => k t10 m)
theorem S183_ok (lf : Nat) (cK : CallK β) (args : List Value) (L : Nat) (m : Mem) (k : Value → Mem → Option β)  : S183 lf cK args L m k = denF Tryz.prog fsT 2 K183 lf cK 183 args L m k := by kernel_rfl

/-- (vitola/club.room).sit -/
def K184 : Kat := []
noncomputable def S184 (lf : Nat) : FnK β := fun call args L m k => uc args fun t0 l1 => uc l1 fun t2 l3 => uc l3 fun t4 l5 => un0 l5 (oOpt (ia 1 t0 t2) fun t6 => oOpt (ld1 m t6) fun t7 => oOpt (abin Tryz.prog .shl 95 (.int .u64 (.ofNat 1)) t4) fun t8 => oInt .xor .u64 t7 t8 fun t9 => oOpt (ia 1 t0 t2) fun t10 => oRes (st1 1 L m t10 t9) fun t11 m12 => oOpt (ia 1 t0 t4) fun t13 => oOpt (ld1 m12 t13) fun t14 => oOpt (abin Tryz.prog .shl 95 (.int .u64 (.ofNat 1)) t2) fun t15 => oInt .xor .u64 t14 t15 fun t16 => oOpt (ia 1 t0 t4) fun t17 => oRes (st1 1 L m12 t17 t16) fun t18 m19 => k (.tuple ⟨[]⟩) m19)
theorem S184_ok (lf : Nat) (cK : CallK β) (args : List Value) (L : Nat) (m : Mem) (k : Value → Mem → Option β)  : S184 lf cK args L m k = denF Tryz.prog fsT 2 K184 lf cK 184 args L m k := by kernel_rfl

/-- vitola/club.Check$1 -/
def K185 : Kat := []
noncomputable def S185 (lf : Nat) : FnK β := fun call args L m k => uc args fun t0 l1 => uc l1 fun t2 l3 => un0 l3 (oOpt (ld1 m t2) fun t4 => oInt .sub .i64 t4 (.int .i64 (.ofNat 1)) fun t5 => call 182 [t0, (.int .i64 (.ofNat 0)), t5] L m fun t6 m7 => oOpt (aun .not t6) fun t8 => k t8 m7)
theorem S185_ok (lf : Nat) (cK : CallK β) (args : List Value) (L : Nat) (m : Mem) (k : Value → Mem → Option β)  : S185 lf cK args L m k = denF Tryz.prog fsT 2 K185 lf cK 185 args L m k := by kernel_rfl

/-- vitola/club.descending -/
def K186 : Kat := []
noncomputable def S186 (lf : Nat) : FnK β := fun call args L m k => uc args fun t0 l1 => un0 l1 (call 139 [t0] L m fun t2 m3 => call 138 [t2] L m3 fun t4 m5 => call 210 [t4] L m5 fun t6 m7 => k t4 m7)
theorem S186_ok (lf : Nat) (cK : CallK β) (args : List Value) (L : Nat) (m : Mem) (k : Value → Mem → Option β)  : S186 lf cK args L m k = denF Tryz.prog fsT 2 K186 lf cK 186 args L m k := by kernel_rfl

/-- math/bits.TrailingZeros -/
def K187 : Kat := []
noncomputable def S187 (lf : Nat) : FnK β := fun call args L m k => uc args fun t0 l1 => un0 l1 (oIf (.bool false) (oCv .u32 t0 fun t2 => call 145 [t2] L m fun t3 m4 => k t3 m4) (call 211 [t0] L m fun t5 m6 => k t5 m6))
theorem S187_ok (lf : Nat) (cK : CallK β) (args : List Value) (L : Nat) (m : Mem) (k : Value → Mem → Option β)  : S187 lf cK args L m k = denF Tryz.prog fsT 2 K187 lf cK 187 args L m k := by kernel_rfl

end
end Go.Vit
