/- Plain laws: how many leaves of one blend are not in another. -/
import Derived.Test.YtgimcgdehgbljaaW1
set_option linter.unusedSimpArgs false
set_option linter.unusedVariables false
namespace Go.Vit
theorem countP_or (p q : Nat → Bool) : ∀ l : List Nat, l.countP (fun x => p x || q x) ≤ l.countP p + l.countP q
  | [] => Nat.le_refl _
  | x :: l => by
    have := countP_or p q l
    simp only [List.countP_cons]
    cases p x <;> cases q x <;> simp <;> omega
theorem countP_split (p q : Nat → Bool) : ∀ l : List Nat, l.countP p = l.countP (fun x => p x && q x) + l.countP (fun x => p x && !q x)
  | [] => rfl
  | x :: l => by
    have := countP_split p q l
    simp only [List.countP_cons]
    cases p x <;> cases q x <;> simp <;> omega
/-- A blend is the leaves of it. -/
theorem Bl.eq {N k : Nat} {l : List Nat} (h : Bl N k l) : (List.range N).filter (fun x => decide (x ∈ l)) = l := by
  refine asc_ext (filter_asc _ (range_asc N)) h.asc fun x => ?_
  rw [List.mem_filter, List.mem_range, decide_eq_true_eq]
  exact ⟨fun hh => hh.2, fun hh => ⟨h.lt x hh, hh⟩⟩
theorem Bl.cnt {N k : Nat} {l : List Nat} (h : Bl N k l) : (List.range N).countP (fun x => decide (x ∈ l)) = k := by
  rw [List.countP_eq_length_filter, h.eq, h.len]
theorem away_cnt {N k : Nat} {a b : List Nat} (ha : Bl N k a) : awayN a b = (List.range N).countP (fun x => decide (x ∈ a) && !decide (x ∈ b)) := by
  unfold awayN
  conv => lhs; rw [← ha.eq]
  rw [List.filter_filter, List.countP_eq_length_filter]
  congr 1
  exact List.filter_congr fun x hx => Bool.and_comm _ _
theorem away_comm {N k : Nat} {a b : List Nat} (ha : Bl N k a) (hb : Bl N k b) : awayN a b = awayN b a := by
  rw [away_cnt ha, away_cnt hb]
  have h1 := ha.cnt
  have h2 := hb.cnt
  rw [countP_split _ (fun x => decide (x ∈ b))] at h1
  rw [countP_split _ (fun x => decide (x ∈ a))] at h2
  have h3 : (List.range N).countP (fun x => decide (x ∈ a) && decide (x ∈ b)) = (List.range N).countP (fun x => decide (x ∈ b) && decide (x ∈ a)) := by
    congr 1; funext x; rw [Bool.and_comm]
  omega
def oth (N : Nat) (l : List Nat) : List Nat := (List.range N).filter fun x => !decide (x ∈ l)
theorem oth_bl {N k : Nat} {l : List Nat} (h : Bl N k l) : Bl N (N - k) (oth N l) := by
  refine ⟨filter_asc _ (range_asc N), fun x hx => List.mem_range.1 (List.mem_filter.1 hx).1, ?_⟩
  have h1 := h.cnt
  have h2 := countP_split (fun _ => true) (fun x => decide (x ∈ l)) (List.range N)
  simp only [Bool.true_and] at h2
  have h3 : (List.range N).countP (fun _ => true) = N := by simp
  unfold oth
  rw [← List.countP_eq_length_filter]
  omega
theorem mem_oth {N : Nat} {l : List Nat} {x : Nat} (hx : x < N) : decide (x ∈ oth N l) = !decide (x ∈ l) := by
  unfold oth
  by_cases h : x ∈ l
  · simp [h]
  · simp [h, hx]
theorem away_oth {N k : Nat} {a b : List Nat} (ha : Bl N k a) (hb : Bl N k b) : awayN (oth N a) (oth N b) = awayN a b := by
  rw [away_comm ha hb, away_cnt (oth_bl ha), away_cnt hb]
  refine List.countP_congr fun x hx => ?_
  have hx := List.mem_range.1 hx
  rw [mem_oth hx, mem_oth hx, Bool.not_not, Bool.and_comm]
theorem away_tri {N k : Nat} {a b c : List Nat} (ha : Bl N k a) (hb : Bl N k b) (hc : Bl N k c) : awayN a b ≤ awayN a c + awayN c b := by
  rw [away_cnt ha, away_cnt ha, away_cnt hc]
  refine Nat.le_trans ?_ (countP_or _ _ _)
  refine List.countP_mono_left fun x _ h => ?_
  cases h1 : decide (x ∈ a) <;> cases h2 : decide (x ∈ b) <;> cases h3 : decide (x ∈ c) <;> simp_all
theorem away_zero {N k : Nat} {a b : List Nat} (ha : Bl N k a) (hb : Bl N k b) : awayN a b = 0 ↔ a = b := by
  constructor
  · intro h
    have h' := away_comm ha hb
    rw [h] at h'
    have sub : ∀ {p q : List Nat}, awayN p q = 0 → ∀ x, x ∈ p → x ∈ q := fun {p q} h x hx => by
      unfold awayN at h
      rw [List.length_eq_zero_iff, List.filter_eq_nil_iff] at h
      simpa using h x hx
    exact asc_ext ha.asc hb.asc fun x => ⟨sub h x, sub h'.symm x⟩
  · rintro rfl
    unfold awayN
    rw [List.length_eq_zero_iff, List.filter_eq_nil_iff]
    intro x hx; simp [hx]
theorem away_le {N k : Nat} {a b : List Nat} (ha : Bl N k a) (hb : Bl N k b) : awayN a b ≤ k ∧ awayN a b ≤ N - k := by
  constructor
  · have := List.length_filter_le (fun x => !decide (x ∈ b)) a
    rw [ha.len] at this
    exact this
  · rw [away_comm ha hb, away_cnt hb, ← (oth_bl ha).len]
    unfold oth
    rw [← List.countP_eq_length_filter]
    refine List.countP_mono_left fun x _ h => ?_
    simp only [Bool.and_eq_true] at h
    exact h.2
end Go.Vit
