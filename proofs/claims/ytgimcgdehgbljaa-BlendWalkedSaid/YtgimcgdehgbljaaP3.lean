/- Plain laws: leaves that must go out, one after another. -/
import Derived.Test.YtgimcgdehgbljaaP2
set_option linter.unusedSimpArgs false
set_option linter.unusedVariables false
namespace Go.Vit
def outs (p b : List Nat) (x : Nat) : List Nat := (List.range x).filter fun y => decide (y ∈ p) && !decide (y ∈ b)
theorem mem_outs {p b : List Nat} {x y : Nat} : y ∈ outs p b x ↔ y < x ∧ y ∈ p ∧ y ∉ b := by
  unfold outs; rw [List.mem_filter, List.mem_range]; simp
theorem outs_le (p b : List Nat) (x : Nat) : (outs p b x).length ≤ x := by
  have := List.length_filter_le (fun y => decide (y ∈ p) && !decide (y ∈ b)) (List.range x)
  rw [List.length_range] at this
  exact this
theorem outs_t {p b : List Nat} {x : Nat} (h : x ∈ p) (h' : x ∉ b) : outs p b (x + 1) = outs p b x ++ [x] := by
  unfold outs; rw [List.range_succ, List.filter_append]; simp [h, h']
theorem outs_f {p b : List Nat} {x : Nat} (h : ¬ (x ∈ p ∧ x ∉ b)) : outs p b (x + 1) = outs p b x := by
  unfold outs; rw [List.range_succ, List.filter_append]
  have : (decide (x ∈ p) && !decide (x ∈ b)) = false := by
    by_cases h1 : x ∈ p
    · by_cases h2 : x ∈ b
      · simp [h2]
      · exact absurd ⟨h1, h2⟩ h
    · simp [h1]
  rw [List.filter_cons_of_neg (by rw [this]; decide), List.filter_nil, List.append_nil]
theorem outs_all {N k : Nat} {p b : List Nat} (h : Bl N k p) : outs p b N = less p b := by
  refine asc_ext (filter_asc _ (range_asc N)) (less_asc h.asc) fun x => ?_
  rw [mem_outs, mem_less]
  exact ⟨fun h => h.2, fun h' => ⟨h.lt x h'.1, h'⟩⟩
theorem outs_hd {N k : Nat} {p b t : List Nat} {o : Nat} (h : Bl N k p) (ho : less p b = o :: t) : outs p b (o + 1) = [o] := by
  have h1 := less_asc (b := b) h.asc
  rw [ho] at h1
  obtain ⟨h2, h3⟩ := List.pairwise_cons.1 h1
  have hm : ∀ y, y ∈ p ∧ y ∉ b ↔ y ∈ o :: t := fun y => by rw [← ho, mem_less]
  refine asc_ext (filter_asc _ (range_asc _)) (List.pairwise_singleton _ _) fun x => ?_
  rw [mem_outs, hm x, List.mem_cons, List.mem_singleton]
  constructor
  · rintro ⟨h4, h5 | h5⟩
    · exact h5
    · have := h2 x h5; omega
  · rintro rfl; exact ⟨by omega, .inl rfl⟩
theorem Exg.mem {N k : Nat} {a b a' : List Nat} {o i x : Nat} (h : Exg N k a b a' o i) (hx : x < N) : x ∈ a' ↔ x = i ∨ (x ≠ o ∧ x ∈ a) := by
  rw [h.eq, mem_exch]; exact ⟨fun h => h.2, fun h => ⟨hx, h⟩⟩
end Go.Vit
