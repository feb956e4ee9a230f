/- All inputs of the law DutyPaired. -/
import Derived.Test.YtcaoifacidnhcaaDoorDutyPairedRun0
import Derived.Test.YtcaoifacidnhcaaDoorDutyPairedRun1
import Derived.Test.YtcaoifacidnhcaaDoorDutyPairedRun2
import Derived.Test.YtcaoifacidnhcaaDoorDM
set_option linter.unusedVariables false
namespace Go.Proofs.YtcaoifacidnhcaaDoor.DutyPaired
open Go Go.Vit Go.Proofs
theorem q9 {lf n : Nat} : Vit.runT (tabR (β := Unit) lf) (n + 1) 9 = S9 lf (Vit.runT (tabR lf) n) := by kernel_rfl
section
attribute [local irreducible] Vit.runT loopS
theorem pre {a : Nat} (ha : a < 256) (K : Value → Option Unit) :
    (oCv .i64 (.int .u8 (a : Int)) fun t2 => oInt .rem .i64 t2 (.int .i64 (.ofNat 40)) fun t3 => oInt .add .i64 (.int .i64 (.ofNat 1)) t3 fun t4 => K t4) = K (.int .i64 ((1 + a % 40 : Nat) : Int)) := by
  rw [oCv_nat (by omega), show Int.ofNat 40 = ((40 : Nat) : Int) from rfl, oInt_remN (by omega), show Int.ofNat 1 = (1 : Int) from rfl, oInt_add ⟨by omega, by omega⟩, show (1 : Int) + ((a % 40 : Nat) : Int) = ((1 + a % 40 : Nat) : Int) by omega]
theorem same_run {a lf n L : Nat} {m : Mem} {k : Value → Mem → Option Unit} (ha : a < 256) :
    Vit.runT (tabR lf) (n + 1) 9 [.int .u8 (a : Int)] L m k = Vit.runT (tabR lf) (n + 1) 9 [.int .u8 ((a % 40 : Nat) : Int)] L m k := by
  rw [q9]
  refine (pre ha _).trans (Eq.trans ?_ (pre (a := a % 40) (by omega) _).symm)
  rw [Nat.mod_mod]
end
def Runs (a : Nat) : Prop := Vit.runT (tabR 1000000) 60 9 [.int .u8 (a : Int)] mTab.next mTab isTrue = some ()
theorem all : ∀ a : Nat, a < 40 → Runs a
  | 0, _ => e0
  | 1, _ => e1
  | 2, _ => e2
  | 3, _ => e3
  | 4, _ => e4
  | 5, _ => e5
  | 6, _ => e6
  | 7, _ => e7
  | 8, _ => e8
  | 9, _ => e9
  | 10, _ => e10
  | 11, _ => e11
  | 12, _ => e12
  | 13, _ => e13
  | 14, _ => e14
  | 15, _ => e15
  | 16, _ => e16
  | 17, _ => e17
  | 18, _ => e18
  | 19, _ => e19
  | 20, _ => e20
  | 21, _ => e21
  | 22, _ => e22
  | 23, _ => e23
  | 24, _ => e24
  | 25, _ => e25
  | 26, _ => e26
  | 27, _ => e27
  | 28, _ => e28
  | 29, _ => e29
  | 30, _ => e30
  | 31, _ => e31
  | 32, _ => e32
  | 33, _ => e33
  | 34, _ => e34
  | 35, _ => e35
  | 36, _ => e36
  | 37, _ => e37
  | 38, _ => e38
  | 39, _ => e39
  | a + 40, h => absurd h (by omega)
theorem runs {a : Nat} (ha : a < 256) : Runs a := by
  unfold Runs
  rw [same_run ha]
  exact all _ (Nat.mod_lt _ (by omega))
end Go.Proofs.YtcaoifacidnhcaaDoor.DutyPaired
