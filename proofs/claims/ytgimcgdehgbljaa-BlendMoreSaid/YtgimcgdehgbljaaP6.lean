/- Plain laws: the greatest leaf of a place. -/
import Derived.Test.YtgimcgdehgbljaaP5
set_option linter.unusedSimpArgs false
set_option linter.unusedVariables false
namespace Go.Vit
theorem chs_pascal : ∀ t, t < 11 → ∀ k, k < 11 → chs (t + 1) (k + 1) = chs t k + chs t (k + 1) := by decide +kernel
theorem chs_mono : ∀ N, N < 11 → ∀ t, t < N + 1 → ∀ k, k < 11 → chs t k ≤ chs N k := by decide +kernel
theorem topL_ok {k n N : Nat} (hN : N ≤ 10) (hk : k + 1 ≤ N) (h : n < chs N (k + 1)) : k ≤ topL k n ∧ topL k n < N ∧ n < chs (topL k n + 1) (k + 1) ∧ ∀ x, k ≤ x → x < topL k n → chs (x + 1) (k + 1) ≤ n := by
  unfold topL
  cases hf : (List.range 10).find? fun x => decide (k ≤ x) && decide (n < chs (x + 1) (k + 1)) with
  | none =>
    rw [List.find?_eq_none] at hf
    have := hf (N - 1) (List.mem_range.2 (by omega))
    simp only [Bool.and_eq_true, decide_eq_true_eq, not_and] at this
    exact absurd (by rw [show N - 1 + 1 = N by omega]; exact h) (this (by omega))
  | some t =>
    simp only [Option.getD_some]
    obtain ⟨h1, us, ws, h2, h3⟩ := List.find?_eq_some_iff_append.1 hf
    simp only [Bool.and_eq_true, decide_eq_true_eq] at h1
    have hlt : t < 10 := by
      have : t ∈ List.range 10 := by rw [h2]; simp
      exact List.mem_range.1 this
    have hless : ∀ x, x < t → x ∈ us := fun x hx => by
      have hm : x ∈ List.range 10 := List.mem_range.2 (by omega)
      have hs := range_asc 10
      rw [h2, List.pairwise_append, List.pairwise_cons] at hs
      rw [h2, List.mem_append, List.mem_cons] at hm
      rcases hm with hm | rfl | hm
      · exact hm
      · omega
      · have := hs.2.1.1 x hm; omega
    have hno : ∀ x, k ≤ x → x < t → chs (x + 1) (k + 1) ≤ n := fun x hk hx => by
      have := h3 x (hless x hx)
      simp only [Bool.not_eq_true', Bool.and_eq_false_iff, decide_eq_false_iff_not] at this
      omega
    refine ⟨h1.1, ?_, h1.2, hno⟩
    refine Nat.lt_of_not_le fun hge => ?_
    by_cases he : t = N
    · subst he
      have := hno (t - 1) (by omega) (by omega)
      rw [show t - 1 + 1 = t by omega] at this
      omega
    · have := hno (N - 1) (by omega) (by omega)
      rw [show N - 1 + 1 = N by omega] at this
      omega
/-- What is left of the place. -/
theorem topL_rest {k n N : Nat} (hN : N ≤ 10) (hk : k + 1 ≤ N) (h : n < chs N (k + 1)) : chs (topL k n + 1) (k + 1) - 1 - n < chs (topL k n) k := by
  obtain ⟨h1, h2, h3, h4⟩ := topL_ok hN hk h
  have h5 := chs_pascal (topL k n) (by omega) k (by omega)
  have h6 : chs (topL k n) (k + 1) ≤ n := by
    by_cases he : topL k n = k
    · rw [he]
      unfold chs; rw [if_pos (by omega)]; omega
    · have := h4 (topL k n - 1) (by omega) (by omega)
      rwa [show topL k n - 1 + 1 = topL k n by omega] at this
  omega
theorem numK_succ (l : List Nat) (k : Nat) : numK l (k + 1) = (chs (l.getD k 0 + 1) (k + 1) : Int) - 1 - numK l k := rfl
theorem numK_bd (l : List Nat) (hl : ∀ x ∈ l, x < 10) : ∀ k : Nat, -(1001 * (k : Int)) ≤ numK l k ∧ numK l k ≤ 1001 * (k : Int)
  | 0 => by unfold numK; omega
  | k + 1 => by
    have h1 := numK_bd l hl k
    have h2 : l.getD k 0 < 10 := by
      rw [List.getD_eq_getElem?_getD]
      by_cases h : k < l.length
      · rw [List.getElem?_eq_getElem h]; exact hl _ (List.getElem_mem h)
      · rw [List.getElem?_eq_none (by omega)]; decide
    have h3 := chs_le (n := l.getD k 0 + 1) (k := k + 1) (by omega)
    unfold numK
    omega
theorem numK_take (l : List Nat) : ∀ (j k : Nat), k ≤ j → numK (l.take j) k = numK l k
  | j, 0, _ => rfl
  | j, k + 1, h => by
    unfold numK
    rw [numK_take l j k (by omega)]
    have : (l.take j).getD k 0 = l.getD k 0 := by
      rw [List.getD_eq_getElem?_getD, List.getD_eq_getElem?_getD, List.getElem?_take, if_pos (by omega)]
    rw [this]
end Go.Vit
