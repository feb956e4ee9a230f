/- Shallow texts of the seat's functions, printed by a program: part 7. -/
import Derived.Test.YtppallabmjdolaaDoorRows
import Derived.Test.YtppallabmjdolaaDoorFs
set_option linter.unusedVariables false
set_option maxRecDepth 100000
namespace Go.Vit
open Go Go.Proofs
section
variable {β : Type}
/-- math/bits.Len32 -/
def K129 : Kat := [(20, (0, [0, 2])), (44, (0, [0, 2]))]
noncomputable def S129 (lf : Nat) : FnK β := fun call args L m k =>
 uc args fun t0 l1 =>
 un0 l1 (oInt .geq .u32 t0 (.int .u32 (.ofNat 65536)) fun t2 =>
 join (fun l3 m4 =>
 uc l3 fun t6 l7 =>
 uc l7 fun t8 l9 =>
 oInt .geq .u32 t6 (.int .u32 (.ofNat 256)) fun t10 =>
 join (fun l11 m12 =>
 uc l11 fun t14 l15 =>
 uc l15 fun t16 l17 =>
 oCv .u8 t14 fun t18 =>
 oOpt (aindex Tryd.prog 9 (.string ⟨#[0, 1, 2, 2, 3, 3, 3, 3, 4, 4, 4, 4, 4, 4, 4, 4, 5, 5, 5, 5, 5, 5, 5, 5, 5, 5, 5, 5, 5, 5, 5, 5, 6, 6, 6, 6, 6, 6, 6, 6, 6, 6, 6, 6, 6, 6, 6, 6, 6, 6, 6, 6, 6, 6, 6, 6, 6, 6, 6, 6, 6, 6, 6, 6, 7, 7, 7, 7, 7, 7, 7, 7, 7, 7, 7, 7, 7, 7, 7, 7, 7, 7, 7, 7, 7, 7, 7, 7, 7, 7, 7, 7, 7, 7, 7, 7, 7, 7, 7, 7, 7, 7, 7, 7, 7, 7, 7, 7, 7, 7, 7, 7, 7, 7, 7, 7, 7, 7, 7, 7, 7, 7, 7, 7, 7, 7, 7, 7, 8, 8, 8, 8, 8, 8, 8, 8, 8, 8, 8, 8, 8, 8, 8, 8, 8, 8, 8, 8, 8, 8, 8, 8, 8, 8, 8, 8, 8, 8, 8, 8, 8, 8, 8, 8, 8, 8, 8, 8, 8, 8, 8, 8, 8, 8, 8, 8, 8, 8, 8, 8, 8, 8, 8, 8, 8, 8, 8, 8, 8, 8, 8, 8, 8, 8, 8, 8, 8, 8, 8, 8, 8, 8, 8, 8, 8, 8, 8, 8, 8, 8, 8, 8, 8, 8, 8, 8, 8, 8, 8, 8, 8, 8, 8, 8, 8, 8, 8, 8, 8, 8, 8, 8, 8, 8, 8, 8, 8, 8, 8, 8, 8, 8, 8, 8, 8, 8, 8, 8, 8, 8, 8, 8, 8, 8, 8, 8]⟩) t18) fun t19 =>
 oCv .i64 t19 fun t20 =>
 oInt .add .i64 t16 t20 fun t21 =>
 k t21 m12) fun j13 =>
 oIf t10 (oOpt (abin Tryd.prog .shr 141 t6 (.int .u64 (.ofNat 8))) fun t22 =>
 oInt .add .i64 t8 (.int .i64 (.ofNat 8)) fun t23 =>
 j13 [t22, t23] m4) (j13 [t6, t8] m4)) fun j5 =>
 oIf t2 (oOpt (abin Tryd.prog .shr 141 t0 (.int .u64 (.ofNat 16))) fun t24 =>
 j5 [t24, (.int .i64 (.ofNat 16))] m) (j5 [t0, (.int .i64 (.ofNat 0))] m))
theorem S129_ok (lf : Nat) (cK : CallK β) (args : List Value) (L : Nat) (m : Mem) (k : Value → Mem → Option β)  : S129 lf cK args L m k = denF Tryd.prog fsT 2 K129 lf cK 129 args L m k := by kernel_rfl

/-- math/bits.Len64 -/
def K130 : Kat := [(20, (0, [0, 2])), (44, (0, [0, 2])), (92, (0, [0, 2]))]
noncomputable def S130 (lf : Nat) : FnK β := fun call args L m k =>
 uc args fun t0 l1 =>
 un0 l1 (oInt .geq .u64 t0 (.int .u64 (.ofNat 4294967296)) fun t2 =>
 join (fun l3 m4 =>
 uc l3 fun t6 l7 =>
 uc l7 fun t8 l9 =>
 oInt .geq .u64 t6 (.int .u64 (.ofNat 65536)) fun t10 =>
 join (fun l11 m12 =>
 uc l11 fun t14 l15 =>
 uc l15 fun t16 l17 =>
 oInt .geq .u64 t14 (.int .u64 (.ofNat 256)) fun t18 =>
 join (fun l19 m20 =>
 uc l19 fun t22 l23 =>
 uc l23 fun t24 l25 =>
 oCv .u8 t22 fun t26 =>
 oOpt (aindex Tryd.prog 9 (.string ⟨#[0, 1, 2, 2, 3, 3, 3, 3, 4, 4, 4, 4, 4, 4, 4, 4, 5, 5, 5, 5, 5, 5, 5, 5, 5, 5, 5, 5, 5, 5, 5, 5, 6, 6, 6, 6, 6, 6, 6, 6, 6, 6, 6, 6, 6, 6, 6, 6, 6, 6, 6, 6, 6, 6, 6, 6, 6, 6, 6, 6, 6, 6, 6, 6, 7, 7, 7, 7, 7, 7, 7, 7, 7, 7, 7, 7, 7, 7, 7, 7, 7, 7, 7, 7, 7, 7, 7, 7, 7, 7, 7, 7, 7, 7, 7, 7, 7, 7, 7, 7, 7, 7, 7, 7, 7, 7, 7, 7, 7, 7, 7, 7, 7, 7, 7, 7, 7, 7, 7, 7, 7, 7, 7, 7, 7, 7, 7, 7, 8, 8, 8, 8, 8, 8, 8, 8, 8, 8, 8, 8, 8, 8, 8, 8, 8, 8, 8, 8, 8, 8, 8, 8, 8, 8, 8, 8, 8, 8, 8, 8, 8, 8, 8, 8, 8, 8, 8, 8, 8, 8, 8, 8, 8, 8, 8, 8, 8, 8, 8, 8, 8, 8, 8, 8, 8, 8, 8, 8, 8, 8, 8, 8, 8, 8, 8, 8, 8, 8, 8, 8, 8, 8, 8, 8, 8, 8, 8, 8, 8, 8, 8, 8, 8, 8, 8, 8, 8, 8, 8, 8, 8, 8, 8, 8, 8, 8, 8, 8, 8, 8, 8, 8, 8, 8, 8, 8, 8, 8, 8, 8, 8, 8, 8, 8, 8, 8, 8, 8, 8, 8, 8, 8, 8, 8, 8, 8]⟩) t26) fun t27 =>
 oCv .i64 t27 fun t28 =>
 oInt .add .i64 t24 t28 fun t29 =>
 k t29 m20) fun j21 =>
 oIf t18 (oOpt (abin Tryd.prog .shr 151 t14 (.int .u64 (.ofNat 8))) fun t30 =>
 oInt .add .i64 t16 (.int .i64 (.ofNat 8)) fun t31 =>
 j21 [t30, t31] m12) (j21 [t14, t16] m12)) fun j13 =>
 oIf t10 (oOpt (abin Tryd.prog .shr 151 t6 (.int .u64 (.ofNat 16))) fun t32 =>
 oInt .add .i64 t8 (.int .i64 (.ofNat 16)) fun t33 =>
 j13 [t32, t33] m4) (j13 [t6, t8] m4)) fun j5 =>
 oIf t2 (oOpt (abin Tryd.prog .shr 151 t0 (.int .u64 (.ofNat 32))) fun t34 =>
 j5 [t34, (.int .i64 (.ofNat 32))] m) (j5 [t0, (.int .i64 (.ofNat 0))] m))
theorem S130_ok (lf : Nat) (cK : CallK β) (args : List Value) (L : Nat) (m : Mem) (k : Value → Mem → Option β)  : S130 lf cK args L m k = denF Tryd.prog fsT 2 K130 lf cK 130 args L m k := by kernel_rfl

/-- cmp.Less[int] -/
def K137 : Kat := [(9, (1, [10])), (9, (3, [15]))]
noncomputable def S137 (lf : Nat) : FnK β := fun call args L m k =>
 uc args fun t0 l1 =>
 uc l1 fun t2 l3 =>
 un0 l3 (call 149 [t0] L m fun t4 m5 =>
 join (fun l6 m7 =>
 uc l6 fun t9 l10 =>
 oPick t4 t9 (.bool false) fun t11 =>
 join (fun l12 m13 =>
 uc l12 fun t15 l16 =>
 oPick t11 (.bool true) t15 fun t17 =>
 k t17 m13) fun j14 =>
 oGF t11 (oInt .lss .i64 t0 t2 fun t18 =>
 j14 [t18] m7) (j14 [Go.undef] m7)) fun j8 =>
 oGT t4 (call 149 [t2] L m5 fun t19 m20 =>
 oOpt (aun .not t19) fun t21 =>
 j8 [t21] m20) (j8 [Go.undef] m5))
theorem S137_ok (lf : Nat) (cK : CallK β) (args : List Value) (L : Nat) (m : Mem) (k : Value → Mem → Option β)  : S137 lf cK args L m k = denF Tryd.prog fsT 2 K137 lf cK 137 args L m k := by kernel_rfl

/-- slices.IndexFunc[[][]int,[]int] -/
def K140 : Kat := [(41, (0, [8]))]
noncomputable def S140 (lf : Nat) : FnK β := fun call args L m k =>
 uc args fun t0 l1 =>
 uc l1 fun t2 l3 =>
 un0 l3 (oOpt (ln t0) fun t4 =>
 loopS (fun j7 l5 m6 =>
 uc l5 fun t8 l9 =>
 oInt .lss .i64 t8 t4 fun t10 =>
 oIf t10 (oOpt (ia 1 t0 t8) fun t11 =>
 oOpt (ld1 m6 t11) fun t12 =>
 oCallV call t2 [t12] L m6 fun t13 m14 =>
 oIf t13 (k t8 m14) (oInt .add .i64 t8 (.int .i64 (.ofNat 1)) fun t15 =>
 j7 [t15] m14)) (k (.int .i64 (.negSucc 0)) m6)) lf [(.int .i64 (.ofNat 0))] m)
theorem S140_ok (lf : Nat) (cK : CallK β) (args : List Value) (L : Nat) (m : Mem) (k : Value → Mem → Option β)  : S140 lf cK args L m k = denF Tryd.prog fsT 2 K140 lf cK 140 args L m k := by kernel_rfl

/-- slices.siftDownCmpFunc[vitola/heap.Heap] -/
def K141 : Kat := [(9, (0, [10])), (651, (1, [39])), (652, (0, [11]))]
noncomputable def S141 (lf : Nat) : FnK β := fun call args L m k =>
 uc args fun t0 l1 =>
 uc l1 fun t2 l3 =>
 uc l3 fun t4 l5 =>
 uc l5 fun t6 l7 =>
 uc l7 fun t8 l9 =>
 un0 l9 (loopS (fun j12 l10 m11 =>
 uc l10 fun t13 l14 =>
 oInt .mul .i64 (.int .i64 (.ofNat 2)) t13 fun t15 =>
 oInt .add .i64 t15 (.int .i64 (.ofNat 1)) fun t16 =>
 oInt .geq .i64 t16 t4 fun t17 =>
 oIf t17 (k (.tuple ⟨[]⟩) m11) (oInt .add .i64 t16 (.int .i64 (.ofNat 1)) fun t18 =>
 oInt .lss .i64 t18 t4 fun t19 =>
 join (fun l20 m21 =>
 uc l20 fun t23 l24 =>
 oPick t19 t23 (.bool false) fun t25 =>
 join (fun l26 m27 =>
 uc l26 fun t29 l30 =>
 oInt .add .i64 t6 t13 fun t31 =>
 oOpt (ia 2 t0 t31) fun t32 =>
 oOpt (ldN m27 2 t32) fun t33 =>
 oInt .add .i64 t6 t29 fun t34 =>
 oOpt (ia 2 t0 t34) fun t35 =>
 oOpt (ldN m27 2 t35) fun t36 =>
 oCallV call t8 [t33, t36] L m27 fun t37 m38 =>
 oInt .lss .i64 t37 (.int .i64 (.ofNat 0)) fun t39 =>
 oOpt (aun .not t39) fun t40 =>
 oIf t40 (k (.tuple ⟨[]⟩) m38) (oInt .add .i64 t6 t13 fun t41 =>
 oInt .add .i64 t6 t29 fun t42 =>
 oInt .add .i64 t6 t29 fun t43 =>
 oOpt (ia 2 t0 t43) fun t44 =>
 oOpt (ldN m38 2 t44) fun t45 =>
 oInt .add .i64 t6 t13 fun t46 =>
 oOpt (ia 2 t0 t46) fun t47 =>
 oOpt (ldN m38 2 t47) fun t48 =>
 oOpt (ia 2 t0 t41) fun t49 =>
 oRes (st1 2 L m38 t49 t45) fun t50 m51 =>
 oOpt (ia 2 t0 t42) fun t52 =>
 oRes (st1 2 L m51 t52 t48) fun t53 m54 =>
 j12 [t29] m54)) fun j28 =>
 oIf t25 (oInt .add .i64 t16 (.int .i64 (.ofNat 1)) fun t55 =>
 j28 [t55] m21) (j28 [t16] m21)) fun j22 =>
 oGT t19 (oInt .add .i64 t6 t16 fun t56 =>
 oOpt (ia 2 t0 t56) fun t57 =>
 oOpt (ldN m11 2 t57) fun t58 =>
 oInt .add .i64 t6 t16 fun t59 =>
 oInt .add .i64 t59 (.int .i64 (.ofNat 1)) fun t60 =>
 oOpt (ia 2 t0 t60) fun t61 =>
 oOpt (ldN m11 2 t61) fun t62 =>
 oCallV call t8 [t58, t62] L m11 fun t63 m64 =>
 oInt .lss .i64 t63 (.int .i64 (.ofNat 0)) fun t65 =>
 j22 [t65] m64) (j22 [Go.undef] m11))) lf [t2] m)
theorem S141_ok (lf : Nat) (cK : CallK β) (args : List Value) (L : Nat) (m : Mem) (k : Value → Mem → Option β)  : S141 lf cK args L m k = denF Tryd.prog fsT 2 K141 lf cK 141 args L m k := by kernel_rfl

/-- slices.medianAdjacentCmpFunc[vitola/heap.Heap] -/
def K144 : Kat := []
noncomputable def S144 (lf : Nat) : FnK β := fun call args L m k =>
 uc args fun t0 l1 =>
 uc l1 fun t2 l3 =>
 uc l3 fun t4 l5 =>
 uc l5 fun t6 l7 =>
 un0 l7 (oInt .sub .i64 t2 (.int .i64 (.ofNat 1)) fun t8 =>
 oInt .add .i64 t2 (.int .i64 (.ofNat 1)) fun t9 =>
 call 145 [t0, t8, t2, t9, t4, t6] L m fun t10 m11 =>
 k t10 m11)
theorem S144_ok (lf : Nat) (cK : CallK β) (args : List Value) (L : Nat) (m : Mem) (k : Value → Mem → Option β)  : S144 lf cK args L m k = denF Tryd.prog fsT 2 K144 lf cK 144 args L m k := by kernel_rfl

/-- slices.medianCmpFunc[vitola/heap.Heap] -/
def K145 : Kat := []
noncomputable def S145 (lf : Nat) : FnK β := fun call args L m k =>
 uc args fun t0 l1 =>
 uc l1 fun t2 l3 =>
 uc l3 fun t4 l5 =>
 uc l5 fun t6 l7 =>
 uc l7 fun t8 l9 =>
 uc l9 fun t10 l11 =>
 un0 l11 (call 150 [t0, t2, t4, t8, t10] L m fun t12 m13 =>
 oOpt (aextract t12 0) fun t14 =>
 oOpt (aextract t12 1) fun t15 =>
 call 150 [t0, t15, t6, t8, t10] L m13 fun t16 m17 =>
 oOpt (aextract t16 0) fun t18 =>
 oOpt (aextract t16 1) fun t19 =>
 call 150 [t0, t14, t18, t8, t10] L m17 fun t20 m21 =>
 oOpt (aextract t20 0) fun t22 =>
 oOpt (aextract t20 1) fun t23 =>
 k t23 m21)
theorem S145_ok (lf : Nat) (cK : CallK β) (args : List Value) (L : Nat) (m : Mem) (k : Value → Mem → Option β)  : S145 lf cK args L m k = denF Tryd.prog fsT 2 K145 lf cK 145 args L m k := by kernel_rfl

/-- cmp.isNaN[int] -/
def K149 : Kat := []
noncomputable def S149 (lf : Nat) : FnK β := fun call args L m k =>
 uc args fun t0 l1 =>
 un0 l1 (oInt .neq .i64 t0 t0 fun t2 =>
 k t2 m)
theorem S149_ok (lf : Nat) (cK : CallK β) (args : List Value) (L : Nat) (m : Mem) (k : Value → Mem → Option β)  : S149 lf cK args L m k = denF Tryd.prog fsT 2 K149 lf cK 149 args L m k := by kernel_rfl

/-- slices.order2CmpFunc[vitola/heap.Heap] -/
def K150 : Kat := []
noncomputable def S150 (lf : Nat) : FnK β := fun call args L m k =>
 uc args fun t0 l1 =>
 uc l1 fun t2 l3 =>
 uc l3 fun t4 l5 =>
 uc l5 fun t6 l7 =>
 uc l7 fun t8 l9 =>
 un0 l9 (oOpt (ia 2 t0 t4) fun t10 =>
 oOpt (ldN m 2 t10) fun t11 =>
 oOpt (ia 2 t0 t2) fun t12 =>
 oOpt (ldN m 2 t12) fun t13 =>
 oCallV call t8 [t11, t13] L m fun t14 m15 =>
 oInt .lss .i64 t14 (.int .i64 (.ofNat 0)) fun t16 =>
 oIf t16 (oOpt (anil t6) fun t17 =>
 oOpt (ld1 m15 t17) fun t18 =>
 oInt .add .i64 t18 (.int .i64 (.ofNat 1)) fun t19 =>
 oOpt (anil t6) fun t20 =>
 oRes (st1 1 L m15 t20 t19) fun t21 m22 =>
 k (.tuple ⟨[t4, t2]⟩) m22) (k (.tuple ⟨[t2, t4]⟩) m15))
theorem S150_ok (lf : Nat) (cK : CallK β) (args : List Value) (L : Nat) (m : Mem) (k : Value → Mem → Option β)  : S150 lf cK args L m k = denF Tryd.prog fsT 2 K150 lf cK 150 args L m k := by kernel_rfl

/-- (vitola/dock.stays).counts -/
def K167 : Kat := []
noncomputable def S167 (lf : Nat) : FnK β := fun call args L m k =>
 uc args fun t0 l1 =>
 un0 l1 (oRes (abox m t0) fun t2 m3 =>
 k (.bool true) m3)
theorem S167_ok (lf : Nat) (cK : CallK β) (args : List Value) (L : Nat) (m : Mem) (k : Value → Mem → Option β)  : S167 lf cK args L m k = denF Tryd.prog fsT 2 K167 lf cK 167 args L m k := by kernel_rfl

/-- (vitola/dock.leaves).counts -/
def K169 : Kat := []
noncomputable def S169 (lf : Nat) : FnK β := fun call args L m k =>
 uc args fun t0 l1 =>
 un0 l1 (oRes (abox m t0) fun t2 m3 =>
 k (.bool false) m3)
theorem S169_ok (lf : Nat) (cK : CallK β) (args : List Value) (L : Nat) (m : Mem) (k : Value → Mem → Option β)  : S169 lf cK args L m k = denF Tryd.prog fsT 2 K169 lf cK 169 args L m k := by kernel_rfl

/-- slices.AppendSeq[[]int,int]: a round of its range over a function -/
def KR106 : Kat := []
noncomputable def R106 (lf : Nat) : FnK β := fun call args L m k =>
 uc args fun yv args =>
 oYv yv L fun y =>
 uc args fun t0 l1 =>
 uc l1 fun t2 l3 =>
 un0 l3 (oBusy 106 y m fun m4 =>
 oOpt (ld1 m4 t0) fun t5 =>
 oRes (bs Tryd.prog m4 25 1 [(0, t2)]) fun t6 m7 =>
 oRes (aappend Tryd.prog L m7 25 t5 t6) fun t8 m9 =>
 oRes (st1 1 L m9 t0 t8) fun t10 m11 =>
 oReady 106 y m11 fun m12 =>
 k (.bool true) m12)
theorem R106_ok (lf : Nat) (cK : CallK β) (args : List Value) (L : Nat) (m : Mem) (k : Value → Mem → Option β)  : R106 lf cK args L m k = denR Tryd.prog (ltab Tryd.prog fsT) 2 KR106 lf cK 106 args L m k := by kernel_rfl

end
end Go.Vit
