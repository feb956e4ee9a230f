/- What the answers are for groups that are in range. -/
import Derived.Test.YticlkfhmmcepjaaDoorW13
set_option linter.unusedSimpArgs false
set_option linter.unusedVariables false
set_option maxRecDepth 20000
namespace Go.Vit
open Go Go.Proofs
attribute [local irreducible] runT loopS
theorem bneq_self (a : Bool) : abin Tryd.prog .neq 4 (.bool a) (.bool a) = some (.bool false) := by cases a <;> kernel_rfl
theorem lackX_ci {a g : Nat} {l : List Nat} (h1 : 1 ≤ a) (h6 : a ≤ 6) (hl : l.length ≤ 64) (hg : ∀ g ∈ l, g < 2 ^ a) (h : g < 2 ^ a) : lackX (a : Int) (ci l) (g : Int) = lack l g := by
  unfold lackX
  rw [if_pos (errG_ci h1 h6 hl hg h), nn_ci, Int.toNat_natCast]
theorem leastX_ci {a : Nat} {l : List Nat} (h1 : 1 ≤ a) (h6 : a ≤ 6) (hl : l.length ≤ 64) (hg : ∀ g ∈ l, g < 2 ^ a) : leastX (a : Int) (ci l) = (List.range (2 ^ a)).filter (leastB (mayB l) (2 ^ a)) := by
  unfold leastX
  rw [if_pos (chk_ci h1 h6 hl hg), nn_ci, least_eq h6 hg]
theorem smallX_ci {a : Nat} {l : List Nat} (h1 : 1 ≤ a) (h6 : a ≤ 6) (hl : l.length ≤ 64) (hg : ∀ g ∈ l, g < 2 ^ a) : smallX (a : Int) (ci l) = (List.range (2 ^ a)).filter (leastB (hits l) (2 ^ a)) := by
  unfold smallX
  rw [if_pos (chk_ci h1 h6 hl hg), nn_ci, ← smallest_eq h6 hg, show openB l = hits l from funext (openB_hits l)]
theorem barredX_ci {a : Nat} {l : List Nat} (h1 : 1 ≤ a) (h6 : a ≤ 6) (hl : l.length ≤ 64) (hg : ∀ g ∈ l, g < 2 ^ a) : barredX (a : Int) (ci l) = (List.range (2 ^ a)).filter (mostB (fun g => !mayB l g) (2 ^ a)) := by
  unfold barredX
  rw [if_pos (chk_ci h1 h6 hl hg), nn_ci, Int.toNat_natCast]
theorem keysX_ci {a : Nat} {l : List Nat} (h1 : 1 ≤ a) (h6 : a ≤ 6) (hl : l.length ≤ 64) (hg : ∀ g ∈ l, g < 2 ^ a) : keysX (a : Int) (ci l) = (List.range a).map (keyCount l) := by
  unfold keysX
  rw [if_pos (chk_ci h1 h6 hl hg), nn_ci, Int.toNat_natCast]
theorem oInt_and1 (a : Nat) (ha : a < 64) (k : Value → Option Unit) : oInt .and .i64 (.int .i64 (a : Int)) (.int .i64 1) k = k (.int .i64 ((a % 2 : Nat) : Int)) := by
  rw [show (1 : Int) = ((1 : Nat) : Int) from rfl, oInt_and (by omega) (by omega), Nat.and_one_is_mod]
end Go.Vit
