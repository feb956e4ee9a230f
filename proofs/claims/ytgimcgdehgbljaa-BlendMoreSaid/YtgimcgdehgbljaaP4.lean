/- Plain laws: what passes a check is a blend. -/
import Derived.Test.YtgimcgdehgbljaaP2
set_option linter.unusedSimpArgs false
set_option linter.unusedVariables false
namespace Go.Vit
theorem chkL_bl {N : Int} : ∀ (l : List Int) (last : Int), chkL N last l = 0 → ∃ l' : List Nat, l = ci l' ∧ l'.Pairwise (· < ·) ∧ ∀ x ∈ l', (last < (x : Int)) ∧ (x : Int) < N
  | [], _, _ => ⟨[], rfl, List.Pairwise.nil, fun x hx => by cases hx⟩
  | x :: l, last, h => by
    have h' : (if 0 ≤ x ∧ x ≤ N - 1 then (if x ≤ last then 7 else chkL N x l) else 2) = (0 : Int) := h
    split at h'
    · rename_i h1
      split at h'
      · cases h'
      · rename_i h2
        obtain ⟨l', rfl, h3, h4⟩ := chkL_bl l x h'
        obtain ⟨y, rfl⟩ : ∃ y : Nat, x = y := ⟨x.toNat, by omega⟩
        refine ⟨y :: l', rfl, List.pairwise_cons.2 ⟨fun z hz => by have := (h4 z hz).1; omega, h3⟩, fun z hz => ?_⟩
        rcases List.mem_cons.1 hz with rfl | hz
        · omega
        · have := h4 z hz; omega
    · cases h'
theorem chkB_bl {N : Int} {l : List Int} (h : chkB N l = 0) : ∃ (n : Nat) (l' : List Nat), N = n ∧ 1 ≤ n ∧ n ≤ 10 ∧ l = ci l' ∧ Bl n l'.length l' := by
  unfold chkB at h
  split at h
  · rename_i hN
    obtain ⟨l', rfl, h3, h4⟩ := chkL_bl l (-1) h
    obtain ⟨n, rfl⟩ : ∃ n : Nat, N = n := ⟨N.toNat, by omega⟩
    exact ⟨n, l', rfl, by omega, by omega, rfl, h3, fun x hx => by have := (h4 x hx).2; omega, rfl⟩
  · cases h
/-- What the check of two blends answers. -/
def botE (N : Int) (a b : List Int) : Int := if chkB N a = 0 then (if chkB N b = 0 then (if a.length = b.length then 0 else 5) else chkB N b) else chkB N a
theorem botE_bl {N : Int} {a b : List Int} (h : botE N a b = 0) : ∃ (n k : Nat) (a' b' : List Nat), N = n ∧ 1 ≤ n ∧ n ≤ 10 ∧ a = ci a' ∧ b = ci b' ∧ Bl n k a' ∧ Bl n k b' := by
  unfold botE at h
  split at h
  · rename_i h1
    split at h
    · rename_i h2
      split at h
      · rename_i h3
        obtain ⟨n, a', rfl, h4, h5, rfl, h6⟩ := chkB_bl h1
        obtain ⟨n2, b', h7, _, _, rfl, h8⟩ := chkB_bl h2
        have : n2 = n := by omega
        subst this
        rw [ci_length, ci_length] at h3
        exact ⟨n2, a'.length, a', b', rfl, h4, h5, rfl, rfl, h6, h3 ▸ h8⟩
      · cases h
    · contradiction
  · contradiction
def nni (l : List Int) : List Nat := l.map Int.toNat
theorem nni_ci (l : List Nat) : nni (ci l) = l := by
  unfold nni ci
  rw [List.map_map]
  conv => rhs; rw [← List.map_id l]
  exact List.map_congr_left fun x _ => rfl
end Go.Vit
