/- Plain laws: the nearest one. -/
import Derived.Test.YtgimcgdehgbljaaP7
set_option linter.unusedSimpArgs false
set_option linter.unusedVariables false
namespace Go.Vit
def cmpL : List Nat → List Nat → Int
  | [], [] => 0
  | [], _ :: _ => -1
  | _ :: _, [] => 1
  | x :: a, y :: b => if x < y then -1 else if y < x then 1 else cmpL a b
def nearS (t : List Nat) (st : List Nat × Nat) (b : List Nat) : List Nat × Nat :=
  if awayN b t < st.2 ∨ (awayN b t = st.2 ∧ cmpL b st.1 < 0) then (b, awayN b t) else st
def nearF (t : List Nat) (l : List (List Nat)) : List Nat × Nat := l.foldl (nearS t) ([], 11)
theorem nearF_snoc (t : List Nat) (l : List (List Nat)) (b : List Nat) : nearF t (l ++ [b]) = nearS t (nearF t l) b := by
  unfold nearF; rw [List.foldl_append]; rfl
theorem nearS_far (t : List Nat) (st : List Nat × Nat) (b : List Nat) : (nearS t st b).2 ≤ st.2 ∧ (nearS t st b).2 ≤ awayN b t := by
  unfold nearS
  split
  · rename_i h
    rcases h with h | h
    · exact ⟨by simp only; omega, Nat.le_refl _⟩
    · exact ⟨by simp only; omega, Nat.le_refl _⟩
  · rename_i h
    exact ⟨Nat.le_refl _, by omega⟩
/-- What is held is near. -/
theorem near_inv (t : List Nat) : ∀ (l : List (List Nat)) (st : List Nat × Nat), (l.foldl (nearS t) st).2 ≤ st.2 ∧ (∀ b ∈ l, (l.foldl (nearS t) st).2 ≤ awayN b t) ∧ (l.foldl (nearS t) st = st ∨ ((l.foldl (nearS t) st).1 ∈ l ∧ (l.foldl (nearS t) st).2 = awayN (l.foldl (nearS t) st).1 t))
  | [], st => ⟨Nat.le_refl _, fun b hb => (by cases hb), .inl rfl⟩
  | x :: l, st => by
    obtain ⟨h1, h2, h3⟩ := near_inv t l (nearS t st x)
    obtain ⟨h4, h5⟩ := nearS_far t st x
    rw [List.foldl_cons]
    refine ⟨by omega, fun b hb => ?_, ?_⟩
    · rcases List.mem_cons.1 hb with rfl | hb
      · omega
      · exact h2 b hb
    · rcases h3 with h3 | ⟨h3, h6⟩
      · rw [h3]
        unfold nearS
        split
        · exact .inr ⟨List.mem_cons_self .., rfl⟩
        · exact .inl rfl
      · exact .inr ⟨List.mem_cons_of_mem _ h3, h6⟩
theorem nearF_min {t : List Nat} {l : List (List Nat)} (hl : ∀ b ∈ l, awayN b t ≤ 10) (hne : l ≠ []) : (nearF t l).1 ∈ l ∧ (nearF t l).2 = awayN (nearF t l).1 t ∧ ∀ b ∈ l, awayN (nearF t l).1 t ≤ awayN b t := by
  obtain ⟨h1, h2, h3⟩ := near_inv t l ([], 11)
  rcases h3 with h3 | ⟨h3, h4⟩
  · obtain ⟨b, l', rfl⟩ := List.exists_cons_of_ne_nil hne
    have h5 := h2 b (List.mem_cons_self ..)
    have h6 := hl b (List.mem_cons_self ..)
    rw [h3] at h5
    simp only at h5
    omega
  · refine ⟨h3, h4, fun b hb => ?_⟩
    have := h2 b hb
    have e : (nearF t l).2 = awayN (nearF t l).1 t := h4
    have e2 : (nearF t l).2 ≤ awayN b t := this
    omega
theorem nearF_nil (t : List Nat) : nearF t [] = ([], 11) := rfl
theorem nearF_le (t : List Nat) (l : List (List Nat)) : (nearF t l).2 ≤ 11 := (near_inv t l ([], 11)).1
theorem fitL_bl {ws : List Nat} {s : Nat} {lo hi : Int} (h10 : ws.length ≤ 10) (hs : s ≤ ws.length) {b : List Nat} (hb : b ∈ fitL ws s lo hi) : Bl ws.length s b ∧ fitB ws lo hi b = true := by
  rw [fitL_rnd h10 hs] at hb
  obtain ⟨h1, h2⟩ := List.mem_filter.1 hb
  exact ⟨rnd_bl _ _ hs _ h1, h2⟩
theorem mem_fitL {ws : List Nat} {s : Nat} {lo hi : Int} (h10 : ws.length ≤ 10) {b : List Nat} (hb : Bl ws.length s b) (hf : fitB ws lo hi b = true) : b ∈ fitL ws s lo hi := by
  rw [fitL_rnd h10 hb.le]
  exact List.mem_filter.2 ⟨bl_rnd _ _ _ hb, hf⟩
/-- The nearest one, as it is answered. -/
def nrE (l : List Int) (lo hi : Int) (b : List Int) : Int := if bldE l lo hi b = 0 then (if fitL (nni l) b.length lo hi = [] then 12 else 0) else bldE l lo hi b
def nrL (l : List Int) (lo hi : Int) (b : List Int) : List Nat := if nrE l lo hi b = 0 then (nearF (nni b) (fitL (nni l) b.length lo hi)).1 else []
end Go.Vit
