/- heap.Meets in plain steps: printed by a program. -/
import Derived.Test.YtppallabmjdolaaGreatDoorS0
import Derived.Test.YtppallabmjdolaaGreatDoorFs
set_option linter.unusedVariables false
set_option maxRecDepth 100000
namespace Go.Vit
open Go Go.Proofs
section
variable {β : Type}
/-- vitola/heap.Meets -/
def K21 : Kat := [(185, (0, [6, 18])), (377, (0, [34]))]
noncomputable def S21 (lf : Nat) : FnK β := fun call args L m k => uc args fun t0 l1 => uc l1 fun t2 l3 => un0 l3 (call 73 [t0] L m fun t4 m5 => oInt .neq .i64 t4 (.int .i64 (.ofNat 0)) fun t6 => oIf t6 (k t4 m5) (oOpt (ln t2) fun t7 => loopS (fun j10 l8 m9 => uc l8 fun t11 l12 => uc l12 fun t13 l14 => oInt .lss .i64 t13 t7 fun t15 => oIf t15 (oOpt (ia 1 t2 t13) fun t16 => oOpt (ld1 m9 t16) fun t17 => call 74 [(.int .i64 (.ofNat 0)), t17, (.int .i64 (.ofNat 23))] L m9 fun t18 m19 => oOpt (aun .not t18) fun t20 => oIf t20 (k (.int .i64 (.ofNat 1)) m19) (oInt .leq .i64 t17 t11 fun t21 => oIf t21 (k (.int .i64 (.ofNat 7)) m19) (oInt .add .i64 t13 (.int .i64 (.ofNat 1)) fun t22 => j10 [t17, t22] m19))) (oOpt (ln t0) fun t23 => loopS (fun j26 l24 m25 => uc l24 fun t27 l28 => oInt .lss .i64 t27 t23 fun t29 => oIf t29 (oOpt (ia 2 t0 t27) fun t30 => oOpt (ldN m25 2 t30) fun t31 => oRes (anew m25 1 [(.int .i64 (.ofNat 0)), (.int .i64 (.ofNat 0))] ptrTo) fun t32 m33 => oRes (st1 2 L m33 t32 t31) fun t34 m35 => oOpt (ldN m35 2 t32) fun t36 => call 43 [t2, (.func (.func 75) #[t36] #[])] L m35 fun t37 m38 => oOpt (aun .not t37) fun t39 => oIf t39 (k (.int .i64 (.ofNat 14)) m38) (oInt .add .i64 t27 (.int .i64 (.ofNat 1)) fun t40 => j26 [t40] m38)) (k (.int .i64 (.ofNat 0)) m25)) lf [(.int .i64 (.ofNat 0))] m9)) lf [(.int .i64 (.negSucc 0)), (.int .i64 (.ofNat 0))] m5))
theorem S21_ok (lf : Nat) (cK : CallK β) (args : List Value) (L : Nat) (m : Mem) (k : Value → Mem → Option β)  : S21 lf cK args L m k = denF Tryz.prog fsT 2 K21 lf cK 21 args L m k := by kernel_rfl
end
end Go.Vit
