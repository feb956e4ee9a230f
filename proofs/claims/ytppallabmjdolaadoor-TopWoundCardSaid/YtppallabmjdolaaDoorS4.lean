/- Shallow texts of the seat's functions, printed by a program: part 4. -/
import Derived.Test.YtppallabmjdolaaDoorRows
import Derived.Test.YtppallabmjdolaaDoorFs
set_option linter.unusedVariables false
set_option maxRecDepth 100000
namespace Go.Vit
open Go Go.Proofs
section
variable {β : Type}
/-- unicode/utf8.AppendRune -/
def K71 : Kat := []
noncomputable def S71 (lf : Nat) : FnK β := fun call args L m k =>
 uc args fun t0 l1 =>
 uc l1 fun t2 l3 =>
 un0 l3 (oCv .u32 t2 fun t4 =>
 oInt .leq .u32 t4 (.int .u32 (.ofNat 127)) fun t5 =>
 oIf t5 (oCv .u8 t2 fun t6 =>
 oRes (bs Tryd.prog m 71 1 [(0, t6)]) fun t7 m8 =>
 oRes (aappend Tryd.prog L m8 71 t0 t7) fun t9 m10 =>
 k t9 m10) (call 97 [t0, t2] L m fun t11 m12 =>
 k t11 m12))
theorem S71_ok (lf : Nat) (cK : CallK β) (args : List Value) (L : Nat) (m : Mem) (k : Value → Mem → Option β)  : S71 lf cK args L m k = denF Tryd.prog fsT 2 K71 lf cK 71 args L m k := by kernel_rfl

/-- vitola/wrap.common -/
def K72 : Kat := [(19, (0, [0, 1]))]
noncomputable def S72 (lf : Nat) : FnK β := fun call args L m k =>
 uc args fun t0 l1 =>
 uc l1 fun t2 l3 =>
 un0 l3 (loopS (fun j6 l4 m5 =>
 uc l4 fun t7 l8 =>
 uc l8 fun t9 l10 =>
 oInt .gtr .i64 t9 (.int .i64 (.ofNat 0)) fun t11 =>
 oIf t11 (oInt .rem .i64 t7 t9 fun t12 =>
 j6 [t9, t12] m5) (k t7 m5)) lf [t0, t2] m)
theorem S72_ok (lf : Nat) (cK : CallK β) (args : List Value) (L : Nat) (m : Mem) (k : Value → Mem → Option β)  : S72 lf cK args L m k = denF Tryd.prog fsT 2 K72 lf cK 72 args L m k := by kernel_rfl

/-- vitola/bench.Order -/
def K73 : Kat := []
noncomputable def S73 (lf : Nat) : FnK β := fun call args L m k =>
 uc args fun t0 l1 =>
 uc l1 fun t2 l3 =>
 un0 l3 (call 98 [t0, t2] L m fun t4 m5 =>
 oInt .neq .i64 t4 (.int .i64 (.ofNat 0)) fun t6 =>
 oIf t6 (k (.tuple ⟨[(.slice none 0 0), t4]⟩) m5) (call 99 [t0, t2] L m5 fun t7 m8 =>
 k (.tuple ⟨[t7, (.int .i64 (.ofNat 0))]⟩) m8))
theorem S73_ok (lf : Nat) (cK : CallK β) (args : List Value) (L : Nat) (m : Mem) (k : Value → Mem → Option β)  : S73 lf cK args L m k = denF Tryd.prog fsT 2 K73 lf cK 73 args L m k := by kernel_rfl

/-- vitola/vitolatop.chosenWorks -/
def K74 : Kat := [(21, (1, [13])), (21, (3, [16]))]
noncomputable def S74 (lf : Nat) : FnK β := fun call args L m k =>
 un0 args (call 100 [(.int .i64 (.ofNat 4)), (.int .i64 (.ofNat 2)), (.int .i64 (.ofNat 3))] L m fun t0 m1 =>
 oOpt (aextract t0 0) fun t2 =>
 oOpt (aextract t0 1) fun t3 =>
 oInt .eql .i64 t3 (.int .i64 (.ofNat 0)) fun t4 =>
 join (fun l5 m6 =>
 uc l5 fun t8 l9 =>
 oPick t4 t8 (.bool false) fun t10 =>
 join (fun l11 m12 =>
 uc l11 fun t14 l15 =>
 oPick t10 t14 (.bool false) fun t16 =>
 k t16 m12) fun j13 =>
 oGT t10 (call 27 [] L m6 fun t17 m18 =>
 j13 [t17] m18) (j13 [Go.undef] m6)) fun j7 =>
 oGT t4 (oRes (bs Tryd.prog m1 25 2 [(0, (.int .i64 (.ofNat 2))), (1, (.int .i64 (.ofNat 3)))]) fun t19 m20 =>
 call 34 [t19] L m20 fun t21 m22 =>
 call 22 [t2, t21] L m22 fun t23 m24 =>
 j7 [t23] m24) (j7 [Go.undef] m1))
theorem S74_ok (lf : Nat) (cK : CallK β) (args : List Value) (L : Nat) (m : Mem) (k : Value → Mem → Option β)  : S74 lf cK args L m k = denF Tryd.prog fsT 2 K74 lf cK 74 args L m k := by kernel_rfl

/-- slices.ContainsFunc[[]vitola/dock.fate,vitola/dock.fate] -/
def K75 : Kat := []
noncomputable def S75 (lf : Nat) : FnK β := fun call args L m k =>
 uc args fun t0 l1 =>
 uc l1 fun t2 l3 =>
 un0 l3 (call 101 [t0, t2] L m fun t4 m5 =>
 oInt .geq .i64 t4 (.int .i64 (.ofNat 0)) fun t6 =>
 k t6 m5)
theorem S75_ok (lf : Nat) (cK : CallK β) (args : List Value) (L : Nat) (m : Mem) (k : Value → Mem → Option β)  : S75 lf cK args L m k = denF Tryd.prog fsT 2 K75 lf cK 75 args L m k := by kernel_rfl

/-- vitola/dock.served$1 -/
def K76 : Kat := []
noncomputable def S76 (lf : Nat) : FnK β := fun call args L m k =>
 uc args fun t0 l1 =>
 un0 l1 (oInv call [(85, 169), (66, 167)] t0 [] L m fun t2 m3 =>
 oOpt (aun .not t2) fun t4 =>
 k t4 m3)
theorem S76_ok (lf : Nat) (cK : CallK β) (args : List Value) (L : Nat) (m : Mem) (k : Value → Mem → Option β)  : S76 lf cK args L m k = denF Tryd.prog fsT 2 K76 lf cK 76 args L m k := by kernel_rfl

/-- slices.SortFunc[[]vitola/heap.Heap,vitola/heap.Heap] -/
def K77 : Kat := []
noncomputable def S77 (lf : Nat) : FnK β := fun call args L m k =>
 uc args fun t0 l1 =>
 uc l1 fun t2 l3 =>
 un0 l3 (oOpt (ln t0) fun t4 =>
 oCv .u64 t4 fun t5 =>
 call 103 [t5] L m fun t6 m7 =>
 call 102 [t0, (.int .i64 (.ofNat 0)), t4, t6, t2] L m7 fun t8 m9 =>
 k (.tuple ⟨[]⟩) m9)
theorem S77_ok (lf : Nat) (cK : CallK β) (args : List Value) (L : Nat) (m : Mem) (k : Value → Mem → Option β)  : S77 lf cK args L m k = denF Tryd.prog fsT 2 K77 lf cK 77 args L m k := by kernel_rfl

/-- vitola/heap.possible$1 -/
def K78 : Kat := []
noncomputable def S78 (lf : Nat) : FnK β := fun call args L m k =>
 uc args fun t0 l1 =>
 uc l1 fun t2 l3 =>
 un0 l3 (oRes (abox m t0) fun t4 m5 =>
 oRes (abox m5 t2) fun t6 m7 =>
 oOpt (fa 1 t4) fun t8 =>
 oOpt (ld1 m7 t8) fun t9 =>
 oOpt (fa 1 t6) fun t10 =>
 oOpt (ld1 m7 t10) fun t11 =>
 oInt .sub .i64 t9 t11 fun t12 =>
 k t12 m7)
theorem S78_ok (lf : Nat) (cK : CallK β) (args : List Value) (L : Nat) (m : Mem) (k : Value → Mem → Option β)  : S78 lf cK args L m k = denF Tryd.prog fsT 2 K78 lf cK 78 args L m k := by kernel_rfl

/-- slices.DeleteFunc[[]vitola/heap.Heap,vitola/heap.Heap] -/
def K79 : Kat := [(185, (0, [5, 6])), (11922, (0, [5]))]
noncomputable def S79 (lf : Nat) : FnK β := fun call args L m k =>
 uc args fun t0 l1 =>
 uc l1 fun t2 l3 =>
 un0 l3 (call 104 [t0, t2] L m fun t4 m5 =>
 oInt .eql .i64 t4 (.int .i64 (.negSucc 0)) fun t6 =>
 oIf t6 (k t0 m5) (oInt .add .i64 t4 (.int .i64 (.ofNat 1)) fun t7 =>
 loopS (fun j10 l8 m9 =>
 uc l8 fun t11 l12 =>
 uc l12 fun t13 l14 =>
 oOpt (ln t0) fun t15 =>
 oInt .lss .i64 t13 t15 fun t16 =>
 oIf t16 (oOpt (ia 2 t0 t13) fun t17 =>
 oOpt (ldN m9 2 t17) fun t18 =>
 oRes (anew m9 1 [(.int .i64 (.ofNat 0)), (.int .i64 (.ofNat 0))] ptrTo) fun t19 m20 =>
 oRes (st1 2 L m20 t19 t18) fun t21 m22 =>
 oOpt (ldN m22 2 t19) fun t23 =>
 oCallV call t2 [t23] L m22 fun t24 m25 =>
 oOpt (aun .not t24) fun t26 =>
 join (fun l27 m28 =>
 uc l27 fun t30 l31 =>
 oInt .add .i64 t13 (.int .i64 (.ofNat 1)) fun t32 =>
 j10 [t30, t32] m28) fun j29 =>
 oIf t26 (oOpt (ldN m25 2 t19) fun t33 =>
 oOpt (ia 2 t0 t11) fun t34 =>
 oRes (st1 2 L m25 t34 t33) fun t35 m36 =>
 oInt .add .i64 t11 (.int .i64 (.ofNat 1)) fun t37 =>
 j29 [t37] m36) (j29 [t11] m25)) (oOpt (sl Tryd.prog 43 t0 (some t11) none none) fun t38 =>
 oRes (aclear Tryd.prog L m9 43 t38) fun t39 m40 =>
 oOpt (sl Tryd.prog 43 t0 none (some t11) none) fun t41 =>
 k t41 m40)) lf [t4, t7] m5))
theorem S79_ok (lf : Nat) (cK : CallK β) (args : List Value) (L : Nat) (m : Mem) (k : Value → Mem → Option β)  : S79 lf cK args L m k = denF Tryd.prog fsT 2 K79 lf cK 79 args L m k := by kernel_rfl

/-- vitola/heap.possible$2 -/
def K80 : Kat := [(9, (1, [14])), (44, (0, []))]
noncomputable def S80 (lf : Nat) : FnK β := fun call args L m k =>
 uc args fun t0 l1 =>
 uc l1 fun t2 l3 =>
 uc l3 fun t4 l5 =>
 uc l5 fun t6 l7 =>
 un0 l7 (oRes (abox m t0) fun t8 m9 =>
 oOpt (fa 0 t8) fun t10 =>
 oOpt (ld1 m9 t10) fun t11 =>
 oOpt (ld1 m9 t2) fun t12 =>
 oInt .leq .i64 t11 t12 fun t13 =>
 join (fun l14 m15 =>
 uc l14 fun t17 l18 =>
 oPick t13 t17 (.bool false) fun t19 =>
 join (fun l20 m21 =>
 k t19 m21) fun j22 =>
 oIf t19 (oOpt (ld1 m15 t4) fun t23 =>
 oInt .add .i64 t23 (.int .i64 (.ofNat 1)) fun t24 =>
 oRes (st1 1 L m15 t4 t24) fun t25 m26 =>
 j22 [] m26) (j22 [] m15)) fun j16 =>
 oGT t13 (oOpt (ld1 m9 t4) fun t27 =>
 oOpt (ld1 m9 t6) fun t28 =>
 oInt .lss .i64 t27 t28 fun t29 =>
 j16 [t29] m9) (j16 [Go.undef] m9))
theorem S80_ok (lf : Nat) (cK : CallK β) (args : List Value) (L : Nat) (m : Mem) (k : Value → Mem → Option β)  : S80 lf cK args L m k = denF Tryd.prog fsT 2 K80 lf cK 80 args L m k := by kernel_rfl


/-- slices.Collect[int] -/
def K82 : Kat := []
noncomputable def S82 (lf : Nat) : FnK β := fun call args L m k =>
 uc args fun t0 l1 =>
 un0 l1 (call 106 [(.slice none 0 0), t0] L m fun t2 m3 =>
 k t2 m3)
theorem S82_ok (lf : Nat) (cK : CallK β) (args : List Value) (L : Nat) (m : Mem) (k : Value → Mem → Option β)  : S82 lf cK args L m k = denF Tryd.prog fsT 2 K82 lf cK 82 args L m k := by kernel_rfl

/-- slices.Values[[]int,int]$1 -/
def K83 : Kat := [(9, (0, [7]))]
noncomputable def S83 (lf : Nat) : FnK β := fun call args L m k =>
 uc args fun t0 l1 =>
 uc l1 fun t2 l3 =>
 un0 l3 (oOpt (ld1 m t2) fun t4 =>
 oOpt (ln t4) fun t5 =>
 loopS (fun j8 l6 m7 =>
 uc l6 fun t9 l10 =>
 oInt .lss .i64 t9 t5 fun t11 =>
 oIf t11 (oOpt (ia 1 t4 t9) fun t12 =>
 oOpt (ld1 m7 t12) fun t13 =>
 oCallV call t0 [t13] L m7 fun t14 m15 =>
 oOpt (aun .not t14) fun t16 =>
 oIf t16 (k (.tuple ⟨[]⟩) m15) (oInt .add .i64 t9 (.int .i64 (.ofNat 1)) fun t17 =>
 j8 [t17] m15)) (k (.tuple ⟨[]⟩) m7)) lf [(.int .i64 (.ofNat 0))] m)
theorem S83_ok (lf : Nat) (cK : CallK β) (args : List Value) (L : Nat) (m : Mem) (k : Value → Mem → Option β)  : S83 lf cK args L m k = denF Tryd.prog fsT 2 K83 lf cK 83 args L m k := by kernel_rfl

/-- (vitola/heap.Heap).in -/
def K84 : Kat := [(9, (1, [15]))]
noncomputable def S84 (lf : Nat) : FnK β := fun call args L m k =>
 uc args fun t0 l1 =>
 uc l1 fun t2 l3 =>
 un0 l3 (oRes (abox m t0) fun t4 m5 =>
 oRes (abox m5 t2) fun t6 m7 =>
 oOpt (fa 0 t6) fun t8 =>
 oOpt (ld1 m7 t8) fun t9 =>
 oOpt (fa 0 t4) fun t10 =>
 oOpt (ld1 m7 t10) fun t11 =>
 oInt .leq .i64 t9 t11 fun t12 =>
 join (fun l13 m14 =>
 uc l13 fun t16 l17 =>
 oPick t12 t16 (.bool false) fun t18 =>
 k t18 m14) fun j15 =>
 oGT t12 (oOpt (fa 1 t4) fun t19 =>
 oOpt (ld1 m7 t19) fun t20 =>
 oOpt (fa 1 t6) fun t21 =>
 oOpt (ld1 m7 t21) fun t22 =>
 oInt .leq .i64 t20 t22 fun t23 =>
 j15 [t23] m7) (j15 [Go.undef] m7))
theorem S84_ok (lf : Nat) (cK : CallK β) (args : List Value) (L : Nat) (m : Mem) (k : Value → Mem → Option β)  : S84 lf cK args L m k = denF Tryd.prog fsT 2 K84 lf cK 84 args L m k := by kernel_rfl

/-- slices.IndexFunc[[]int,int] -/
def K85 : Kat := [(41, (0, [8]))]
noncomputable def S85 (lf : Nat) : FnK β := fun call args L m k =>
 uc args fun t0 l1 =>
 uc l1 fun t2 l3 =>
 un0 l3 (oOpt (ln t0) fun t4 =>
 loopS (fun j7 l5 m6 =>
 uc l5 fun t8 l9 =>
 oInt .lss .i64 t8 t4 fun t10 =>
 oIf t10 (oOpt (ia 1 t0 t8) fun t11 =>
 oOpt (ld1 m6 t11) fun t12 =>
 oCallV call t2 [t12] L m6 fun t13 m14 =>
 oIf t13 (k t8 m14) (oInt .add .i64 t8 (.int .i64 (.ofNat 1)) fun t15 =>
 j7 [t15] m14)) (k (.int .i64 (.negSucc 0)) m6)) lf [(.int .i64 (.ofNat 0))] m)
theorem S85_ok (lf : Nat) (cK : CallK β) (args : List Value) (L : Nat) (m : Mem) (k : Value → Mem → Option β)  : S85 lf cK args L m k = denF Tryd.prog fsT 2 K85 lf cK 85 args L m k := by kernel_rfl

/-- math/bits.TrailingZeros -/
def K86 : Kat := []
noncomputable def S86 (lf : Nat) : FnK β := fun call args L m k =>
 uc args fun t0 l1 =>
 un0 l1 (oIf (.bool false) (oCv .u32 t0 fun t2 =>
 call 107 [t2] L m fun t3 m4 =>
 k t3 m4) (call 108 [t0] L m fun t5 m6 =>
 k t5 m6))
theorem S86_ok (lf : Nat) (cK : CallK β) (args : List Value) (L : Nat) (m : Mem) (k : Value → Mem → Option β)  : S86 lf cK args L m k = denF Tryd.prog fsT 2 K86 lf cK 86 args L m k := by kernel_rfl

/-- vitola/wrap.opened -/
def K87 : Kat := [(91, (0, []))]
noncomputable def S87 (lf : Nat) : FnK β := fun call args L m k =>
 uc args fun t0 l1 =>
 un0 l1 (oRes (abox m t0) fun t2 m3 =>
 oOpt (ldN m3 3 t2) fun t4 =>
 call 13 [t4] L m3 fun t5 m6 =>
 oInt .neq .i64 t5 (.int .i64 (.ofNat 0)) fun t7 =>
 oIf t7 (k (.tuple ⟨[(.pointer none), t5]⟩) m6) (oOpt (fa 0 t2) fun t8 =>
 oOpt (ld1 m6 t8) fun t9 =>
 oOpt (fa 1 t2) fun t10 =>
 oOpt (ld1 m6 t10) fun t11 =>
 oOpt (bu Tryd.prog 23 [(0, t9), (1, t11), (2, (.int .i64 (.ofNat 1)))]) fun t12 =>
 oOpt (bu Tryd.prog 131 [(0, t12)]) fun t13 =>
 oRes (abox m6 t13) fun t14 m15 =>
 loopS (fun j18 l16 m17 =>
 oOpt (anil t14) fun t19 =>
 oOpt (fa 0 t19) fun t20 =>
 oOpt (fa 2 t20) fun t21 =>
 oOpt (ld1 m17 t21) fun t22 =>
 oOpt (fa 2 t2) fun t23 =>
 oOpt (ld1 m17 t23) fun t24 =>
 oInt .lss .i64 t22 t24 fun t25 =>
 oIf t25 (call 109 [t14] L m17 fun t26 m27 =>
 j18 [] m27) (k (.tuple ⟨[t14, (.int .i64 (.ofNat 0))]⟩) m17)) lf [] m15))
theorem S87_ok (lf : Nat) (cK : CallK β) (args : List Value) (L : Nat) (m : Mem) (k : Value → Mem → Option β)  : S87 lf cK args L m k = denF Tryd.prog fsT 2 K87 lf cK 87 args L m k := by kernel_rfl

/-- (*vitola/wrap.wound).next -/
def K88 : Kat := []
noncomputable def S88 (lf : Nat) : FnK β := fun call args L m k =>
 uc args fun t0 l1 =>
 uc l1 fun t2 l3 =>
 un0 l3 (oOpt (anil t0) fun t4 =>
 oOpt (fa 3 t4) fun t5 =>
 oOpt (iaA 2 1 t5 (.int .i64 (.ofNat 0))) fun t6 =>
 oOpt (ld1 m t6) fun t7 =>
 oOpt (anil t0) fun t8 =>
 oOpt (fa 3 t8) fun t9 =>
 oOpt (iaA 2 1 t9 (.int .i64 (.ofNat 1))) fun t10 =>
 oOpt (ld1 m t10) fun t11 =>
 oOpt (anil t0) fun t12 =>
 oOpt (fa 0 t12) fun t13 =>
 oOpt (fa 2 t13) fun t14 =>
 oOpt (ld1 m t14) fun t15 =>
 oInt .sub .i64 t15 t7 fun t16 =>
 oInt .lss .i64 t2 t16 fun t17 =>
 oIf t17 (oInt .add .i64 t2 t7 fun t18 =>
 k t18 m) (oInt .lss .i64 t2 t11 fun t19 =>
 oIf t19 (oInt .add .i64 t2 t7 fun t20 =>
 oInt .sub .i64 t20 t11 fun t21 =>
 k t21 m) (oInt .sub .i64 t2 t11 fun t22 =>
 k t22 m)))
theorem S88_ok (lf : Nat) (cK : CallK β) (args : List Value) (L : Nat) (m : Mem) (k : Value → Mem → Option β)  : S88 lf cK args L m k = denF Tryd.prog fsT 2 K88 lf cK 88 args L m k := by kernel_rfl

/-- vitola/grade.Check -/
def K89 : Kat := [(185, (0, [17])), (95431, (1, [28]))]
noncomputable def S89 (lf : Nat) : FnK β := fun call args L m k =>
 uc args fun t0 l1 =>
 un0 l1 (oOpt (ln t0) fun t2 =>
 oInt .eql .i64 t2 (.int .i64 (.ofNat 0)) fun t3 =>
 oIf t3 (k (.int .i64 (.ofNat 4)) m) (oInt .gtr .i64 t2 (.int .i64 (.ofNat 7)) fun t4 =>
 oIf t4 (k (.int .i64 (.ofNat 3)) m) (oRes (anew m 1 [(.bool false), (.bool false), (.bool false), (.bool false), (.bool false), (.bool false), (.bool false)] ptrTo) fun t5 m6 =>
 oOpt (ln t0) fun t7 =>
 loopS (fun j10 l8 m9 =>
 uc l8 fun t11 l12 =>
 oInt .lss .i64 t11 t7 fun t13 =>
 oIf t13 (oOpt (ia 1 t0 t11) fun t14 =>
 oOpt (ld1 m9 t14) fun t15 =>
 oInt .lss .i64 t15 (.int .i64 (.ofNat 0)) fun t16 =>
 join (fun l17 m18 =>
 uc l17 fun t20 l21 =>
 oPick t16 (.bool true) t20 fun t22 =>
 oIf t22 (k (.int .i64 (.ofNat 2)) m18) (oOpt (iaA 7 1 t5 t15) fun t23 =>
 oOpt (ld1 m18 t23) fun t24 =>
 oIf t24 (k (.int .i64 (.ofNat 6)) m18) (oOpt (iaA 7 1 t5 t15) fun t25 =>
 oRes (st1 1 L m18 t25 (.bool true)) fun t26 m27 =>
 oInt .add .i64 t11 (.int .i64 (.ofNat 1)) fun t28 =>
 j10 [t28] m27))) fun j19 =>
 oGF t16 (oOpt (ln t0) fun t29 =>
 oInt .geq .i64 t15 t29 fun t30 =>
 j19 [t30] m9) (j19 [Go.undef] m9)) (k (.int .i64 (.ofNat 0)) m9)) lf [(.int .i64 (.ofNat 0))] m6)))
theorem S89_ok (lf : Nat) (cK : CallK β) (args : List Value) (L : Nat) (m : Mem) (k : Value → Mem → Option β)  : S89 lf cK args L m k = denF Tryd.prog fsT 2 K89 lf cK 89 args L m k := by kernel_rfl

/-- math/bits.OnesCount -/
def K90 : Kat := []
noncomputable def S90 (lf : Nat) : FnK β := fun call args L m k =>
 uc args fun t0 l1 =>
 un0 l1 (oIf (.bool false) (oCv .u32 t0 fun t2 =>
 call 110 [t2] L m fun t3 m4 =>
 k t3 m4) (call 111 [t0] L m fun t5 m6 =>
 k t5 m6))
theorem S90_ok (lf : Nat) (cK : CallK β) (args : List Value) (L : Nat) (m : Mem) (k : Value → Mem → Option β)  : S90 lf cK args L m k = denF Tryd.prog fsT 2 K90 lf cK 90 args L m k := by kernel_rfl

/-- vitola/grade.checked -/
def K91 : Kat := [(41, (0, [8]))]
noncomputable def S91 (lf : Nat) : FnK β := fun call args L m k =>
 uc args fun t0 l1 =>
 un0 l1 (oRes (abox m t0) fun t2 m3 =>
 oOpt (ld1 m3 t2) fun t4 =>
 oOpt (ln t4) fun t5 =>
 loopS (fun j8 l6 m7 =>
 uc l6 fun t9 l10 =>
 oInt .lss .i64 t9 t5 fun t11 =>
 oIf t11 (oOpt (ia 1 t4 t9) fun t12 =>
 oOpt (ld1 m7 t12) fun t13 =>
 call 89 [t13] L m7 fun t14 m15 =>
 oInt .neq .i64 t14 (.int .i64 (.ofNat 0)) fun t16 =>
 oIf t16 (k t14 m15) (oInt .add .i64 t9 (.int .i64 (.ofNat 1)) fun t17 =>
 j8 [t17] m15)) (oOpt (ld1 m7 t2) fun t18 =>
 call 112 [t18, (.func (.func 113) #[] ⟨[t2]⟩)] L m7 fun t19 m20 =>
 oIf t19 (k (.int .i64 (.ofNat 5)) m20) (k (.int .i64 (.ofNat 0)) m20))) lf [(.int .i64 (.ofNat 0))] m3)
theorem S91_ok (lf : Nat) (cK : CallK β) (args : List Value) (L : Nat) (m : Mem) (k : Value → Mem → Option β)  : S91 lf cK args L m k = denF Tryd.prog fsT 2 K91 lf cK 91 args L m k := by kernel_rfl

/-- vitola/grade.placed -/
def K92 : Kat := [(89, (0, [8]))]
noncomputable def S92 (lf : Nat) : FnK β := fun call args L m k =>
 uc args fun t0 l1 =>
 un0 l1 (oRes (anew m 1 [(.int .i64 (.ofNat 0)), (.int .i64 (.ofNat 0)), (.int .i64 (.ofNat 0)), (.int .i64 (.ofNat 0)), (.int .i64 (.ofNat 0)), (.int .i64 (.ofNat 0)), (.int .i64 (.ofNat 0))] ptrTo) fun t2 m3 =>
 oRes (anew m3 1 [(.int .i64 (.ofNat 0)), (.int .i64 (.ofNat 0)), (.int .i64 (.ofNat 0)), (.int .i64 (.ofNat 0)), (.int .i64 (.ofNat 0)), (.int .i64 (.ofNat 0)), (.int .i64 (.ofNat 0))] ptrTo) fun t4 m5 =>
 oOpt (ln t0) fun t6 =>
 loopS (fun j9 l7 m8 =>
 uc l7 fun t10 l11 =>
 oInt .lss .i64 t10 t6 fun t12 =>
 oIf t12 (oOpt (ia 1 t0 t10) fun t13 =>
 oOpt (ld1 m8 t13) fun t14 =>
 oOpt (iaA 7 1 t4 t14) fun t15 =>
 oRes (st1 1 L m8 t15 t10) fun t16 m17 =>
 oInt .add .i64 t10 (.int .i64 (.ofNat 1)) fun t18 =>
 j9 [t18] m17) (oOpt (ldN m8 7 t4) fun t19 =>
 oRes (st1 7 L m8 t2 t19) fun t20 m21 =>
 oOpt (ldN m21 7 t2) fun t22 =>
 k t22 m21)) lf [(.int .i64 (.ofNat 0))] m5)
theorem S92_ok (lf : Nat) (cK : CallK β) (args : List Value) (L : Nat) (m : Mem) (k : Value → Mem → Option β)  : S92 lf cK args L m k = denF Tryd.prog fsT 2 K92 lf cK 92 args L m k := by kernel_rfl

/-- slices.Clone[[]int,int] -/
def K93 : Kat := []
noncomputable def S93 (lf : Nat) : FnK β := fun call args L m k =>
 uc args fun t0 l1 =>
 un0 l1 (oOpt (abin Tryd.prog .eql 25 t0 (.slice none 0 0)) fun t2 =>
 oIf t2 (k (.slice none 0 0) m) (oRes (bs Tryd.prog m 25 0 []) fun t3 m4 =>
 oRes (aappend Tryd.prog L m4 25 t3 t0) fun t5 m6 =>
 k t5 m6))
theorem S93_ok (lf : Nat) (cK : CallK β) (args : List Value) (L : Nat) (m : Mem) (k : Value → Mem → Option β)  : S93 lf cK args L m k = denF Tryd.prog fsT 2 K93 lf cK 93 args L m k := by kernel_rfl

/-- (*vitola/grade.places).first -/
def K94 : Kat := []
noncomputable def S94 (lf : Nat) : FnK β := fun call args L m k =>
 uc args fun t0 l1 =>
 uc l1 fun t2 l3 =>
 uc l3 fun t4 l5 =>
 un0 l5 (oOpt (anil t0) fun t6 =>
 oOpt (iaA 7 1 t6 t2) fun t7 =>
 oOpt (ld1 m t7) fun t8 =>
 oOpt (anil t0) fun t9 =>
 oOpt (iaA 7 1 t9 t4) fun t10 =>
 oOpt (ld1 m t10) fun t11 =>
 oInt .lss .i64 t8 t11 fun t12 =>
 k t12 m)
theorem S94_ok (lf : Nat) (cK : CallK β) (args : List Value) (L : Nat) (m : Mem) (k : Value → Mem → Option β)  : S94 lf cK args L m k = denF Tryd.prog fsT 2 K94 lf cK 94 args L m k := by kernel_rfl

/-- vitola/grade.swap -/
def K95 : Kat := []
noncomputable def S95 (lf : Nat) : FnK β := fun call args L m k =>
 uc args fun t0 l1 =>
 uc l1 fun t2 l3 =>
 un0 l3 (oInt .add .i64 t2 (.int .i64 (.ofNat 1)) fun t4 =>
 oInt .add .i64 t2 (.int .i64 (.ofNat 1)) fun t5 =>
 oOpt (ia 1 t0 t5) fun t6 =>
 oOpt (ld1 m t6) fun t7 =>
 oOpt (ia 1 t0 t2) fun t8 =>
 oOpt (ld1 m t8) fun t9 =>
 oOpt (ia 1 t0 t2) fun t10 =>
 oRes (st1 1 L m t10 t7) fun t11 m12 =>
 oOpt (ia 1 t0 t4) fun t13 =>
 oRes (st1 1 L m12 t13 t9) fun t14 m15 =>
 k (.tuple ⟨[]⟩) m15)
theorem S95_ok (lf : Nat) (cK : CallK β) (args : List Value) (L : Nat) (m : Mem) (k : Value → Mem → Option β)  : S95 lf cK args L m k = denF Tryd.prog fsT 2 K95 lf cK 95 args L m k := by kernel_rfl

/-- unicode/utf8.appendRuneNonASCII -/
def K97 : Kat := [(364, (0, [25])), (733, (1, [55])), (730, (1, [32]))]
noncomputable def S97 (lf : Nat) : FnK β := fun call args L m k =>
 uc args fun t0 l1 =>
 uc l1 fun t2 l3 =>
 un0 l3 (oCv .u32 t2 fun t4 =>
 oInt .leq .u32 t4 (.int .u32 (.ofNat 2047)) fun t5 =>
 oIf t5 (oOpt (abin Tryd.prog .shr 21 t2 (.int .u64 (.ofNat 6))) fun t6 =>
 oCv .u8 t6 fun t7 =>
 oInt .or .u8 (.int .u8 (.ofNat 192)) t7 fun t8 =>
 oCv .u8 t2 fun t9 =>
 oInt .and .u8 t9 (.int .u8 (.ofNat 63)) fun t10 =>
 oInt .or .u8 (.int .u8 (.ofNat 128)) t10 fun t11 =>
 oRes (bs Tryd.prog m 71 2 [(0, t8), (1, t11)]) fun t12 m13 =>
 oRes (aappend Tryd.prog L m13 71 t0 t12) fun t14 m15 =>
 k t14 m15) (oInt .lss .u32 t4 (.int .u32 (.ofNat 55296)) fun t16 =>
 join (fun l17 m18 =>
 uc l17 fun t20 l21 =>
 oIf t20 (oOpt (abin Tryd.prog .shr 21 t2 (.int .u64 (.ofNat 12))) fun t22 =>
 oCv .u8 t22 fun t23 =>
 oInt .or .u8 (.int .u8 (.ofNat 224)) t23 fun t24 =>
 oOpt (abin Tryd.prog .shr 21 t2 (.int .u64 (.ofNat 6))) fun t25 =>
 oCv .u8 t25 fun t26 =>
 oInt .and .u8 t26 (.int .u8 (.ofNat 63)) fun t27 =>
 oInt .or .u8 (.int .u8 (.ofNat 128)) t27 fun t28 =>
 oCv .u8 t2 fun t29 =>
 oInt .and .u8 t29 (.int .u8 (.ofNat 63)) fun t30 =>
 oInt .or .u8 (.int .u8 (.ofNat 128)) t30 fun t31 =>
 oRes (bs Tryd.prog m18 71 3 [(0, t24), (1, t28), (2, t31)]) fun t32 m33 =>
 oRes (aappend Tryd.prog L m33 71 t0 t32) fun t34 m35 =>
 k t34 m35) (oInt .gtr .u32 t4 (.int .u32 (.ofNat 65535)) fun t36 =>
 join (fun l37 m38 =>
 uc l37 fun t40 l41 =>
 oPick t36 t40 (.bool false) fun t42 =>
 oIf t42 (oOpt (abin Tryd.prog .shr 21 t2 (.int .u64 (.ofNat 18))) fun t43 =>
 oCv .u8 t43 fun t44 =>
 oInt .or .u8 (.int .u8 (.ofNat 240)) t44 fun t45 =>
 oOpt (abin Tryd.prog .shr 21 t2 (.int .u64 (.ofNat 12))) fun t46 =>
 oCv .u8 t46 fun t47 =>
 oInt .and .u8 t47 (.int .u8 (.ofNat 63)) fun t48 =>
 oInt .or .u8 (.int .u8 (.ofNat 128)) t48 fun t49 =>
 oOpt (abin Tryd.prog .shr 21 t2 (.int .u64 (.ofNat 6))) fun t50 =>
 oCv .u8 t50 fun t51 =>
 oInt .and .u8 t51 (.int .u8 (.ofNat 63)) fun t52 =>
 oInt .or .u8 (.int .u8 (.ofNat 128)) t52 fun t53 =>
 oCv .u8 t2 fun t54 =>
 oInt .and .u8 t54 (.int .u8 (.ofNat 63)) fun t55 =>
 oInt .or .u8 (.int .u8 (.ofNat 128)) t55 fun t56 =>
 oRes (bs Tryd.prog m38 71 4 [(0, t45), (1, t49), (2, t53), (3, t56)]) fun t57 m58 =>
 oRes (aappend Tryd.prog L m58 71 t0 t57) fun t59 m60 =>
 k t59 m60) (oRes (bs Tryd.prog m38 71 3 [(0, (.int .u8 (.ofNat 239))), (1, (.int .u8 (.ofNat 191))), (2, (.int .u8 (.ofNat 189)))]) fun t61 m62 =>
 oRes (aappend Tryd.prog L m62 71 t0 t61) fun t63 m64 =>
 k t63 m64)) fun j39 =>
 oGT t36 (oInt .leq .u32 t4 (.int .u32 (.ofNat 1114111)) fun t65 =>
 j39 [t65] m18) (j39 [Go.undef] m18))) fun j19 =>
 oIf t16 (j19 [t16] m) (oInt .lss .u32 (.int .u32 (.ofNat 57343)) t4 fun t66 =>
 join (fun l67 m68 =>
 uc l67 fun t70 l71 =>
 oPick t66 t70 (.bool false) fun t72 =>
 j19 [t72] m68) fun j69 =>
 oGT t66 (oInt .leq .u32 t4 (.int .u32 (.ofNat 65535)) fun t73 =>
 j69 [t73] m) (j69 [Go.undef] m))))
theorem S97_ok (lf : Nat) (cK : CallK β) (args : List Value) (L : Nat) (m : Mem) (k : Value → Mem → Option β)  : S97 lf cK args L m k = denF Tryd.prog fsT 2 K97 lf cK 97 args L m k := by kernel_rfl

end
end Go.Vit
