/- Steps, and shades sorted by counting: in plain words. -/
import Derived.Test.YtffomiamkiakcaaCoreD
set_option linter.unusedSimpArgs false
set_option linter.unusedVariables false
namespace Go.Vit
open Go
def ab (a b : Int) : Int := max (a - b) (b - a)
theorem ab_bd {a b : Int} (ha : 0 ≤ a ∧ a ≤ 60) (hb : 0 ≤ b ∧ b ≤ 60) : 0 ≤ ab a b ∧ ab a b ≤ 60 := by unfold ab; omega
theorem ab_comm (a b : Int) : ab a b = ab b a := by unfold ab; omega
def stepL : List Int → List Int
  | [] => []
  | [_] => []
  | x :: y :: t => ab x y :: stepL (y :: t)
theorem stepL_snoc : ∀ (l : List Int) (x y : Int), stepL (l ++ [x, y]) = stepL (l ++ [x]) ++ [ab x y]
  | [], _, _ => rfl
  | [z], x, y => rfl
  | z :: w :: l, x, y => by
    show ab z w :: stepL (w :: l ++ [x, y]) = ab z w :: stepL (w :: l ++ [x]) ++ [ab x y]
    rw [stepL_snoc (w :: l) x y]; rfl
theorem stepL_take {c : List Int} {i : Nat} (h0 : 0 < i) (hi : i < c.length) : stepL (c.take (i + 1)) = stepL (c.take i) ++ [ab (c[i - 1]'(by omega)) c[i]] := by
  obtain ⟨j, rfl⟩ : ∃ j, i = j + 1 := ⟨i - 1, by omega⟩
  have h1 : c.take (j + 1) = c.take j ++ [c[j]] := by rw [List.take_add_one, List.getElem?_eq_getElem (by omega)]; rfl
  have h2 : c.take (j + 1 + 1) = c.take j ++ [c[j], c[j + 1]] := by rw [List.take_add_one, List.getElem?_eq_getElem hi, h1, Option.toList_some, List.append_assoc]; rfl
  rw [h2, h1, stepL_snoc]
  rfl
theorem stepL_len : ∀ l : List Int, (stepL l).length ≤ l.length
  | [] => Nat.le_refl _
  | [_] => Nat.zero_le _
  | x :: y :: t => by
    have := stepL_len (y :: t)
    show (stepL (y :: t)).length + 1 ≤ _
    simp only [List.length_cons] at this ⊢
    omega
theorem stepL_bd : ∀ l : List Int, (∀ x ∈ l, 0 ≤ x ∧ x ≤ 60) → ∀ s ∈ stepL l, 0 ≤ s ∧ s ≤ 60
  | [], _, s, h => by cases h
  | [_], _, s, h => by cases h
  | x :: y :: t, hl, s, h => by
    rcases List.mem_cons.1 h with rfl | h
    · exact ab_bd (hl x (by simp)) (hl y (by simp))
    · exact stepL_bd (y :: t) (fun z hz => hl z (List.mem_cons_of_mem _ hz)) s h
/-- The box as it is gone around. -/
def ring (l : List Int) (r : Bool) : List Int := if (r && decide (1 < l.length)) = true then l ++ l.take 1 else l
def stepX (l : List Int) (r : Bool) : List Int := stepL (ring l r)
theorem ring_mem {l : List Int} {r : Bool} {x : Int} (h : x ∈ ring l r) : x ∈ l := by
  unfold ring at h
  split at h
  · rcases List.mem_append.1 h with h | h
    · exact h
    · exact List.mem_of_mem_take h
  · exact h
theorem ring_len (l : List Int) (r : Bool) : (ring l r).length ≤ l.length + 1 := by
  unfold ring
  split
  · rw [List.length_append, List.length_take]; omega
  · omega
theorem stepX_bd {l : List Int} {r : Bool} (hl : ∀ x ∈ l, 0 ≤ x ∧ x ≤ 60) : ∀ s ∈ stepX l r, 0 ≤ s ∧ s ≤ 60 := stepL_bd _ fun x hx => hl x (ring_mem hx)
theorem stepX_len (l : List Int) (r : Bool) : (stepX l r).length ≤ l.length + 1 := Nat.le_trans (stepL_len _) (ring_len l r)
theorem stepX_round {l : List Int} (h : 1 < l.length) : stepX l true = stepL l ++ [ab (l[l.length - 1]'(by omega)) (l[0]'(by omega))] := by
  have hr : ring l true = l ++ l.take 1 := by unfold ring; rw [if_pos (by simpa using h)]
  have h1 : l.take 1 = [l[0]'(by omega)] := by rw [List.take_add_one, List.getElem?_eq_getElem (by omega)]; rfl
  unfold stepX
  rw [hr, h1]
  have h2 : l ++ [l[0]'(by omega)] = (l ++ [l[0]'(by omega)]).take (l.length + 1) := by rw [List.take_of_length_le]; simp
  rw [h2, stepL_take (by omega) (by simp), List.take_append_of_le_length (Nat.le_refl _), List.take_of_length_le (Nat.le_refl _)]
  congr 2
  congr 1
  · rw [List.getElem_append_left (by omega)]
  · rw [List.getElem_append_right (by omega)]
    simp
theorem stepX_flat {l : List Int} {r : Bool} (h : ¬ ((r && decide (1 < l.length)) = true)) : stepX l r = stepL l := by
  unfold stepX ring
  rw [if_neg h]
theorem foldl_take (f : Int → Int → Int) (z : Int) {l : List Int} {i : Nat} (h : i < l.length) : (l.take (i + 1)).foldl f z = f ((l.take i).foldl f z) l[i] := by
  rw [List.take_add_one, List.getElem?_eq_getElem h, Option.toList_some, List.foldl_append]; rfl
def fAdd (a b : Int) : Int := a + b
def fMax (a b : Int) : Int := max a b
theorem foldl_bd {l : List Int} (hl : ∀ x ∈ l, 0 ≤ x ∧ x ≤ 60) : ∀ i : Nat, (0 ≤ (l.take i).foldl fAdd 0 ∧ (l.take i).foldl fAdd 0 ≤ 60 * (i : Int)) ∧ 0 ≤ (l.take i).foldl fMax 0 ∧ (l.take i).foldl fMax 0 ≤ 60
  | 0 => ⟨⟨by simp, by simp⟩, by simp, by simp⟩
  | i + 1 => by
    obtain ⟨⟨h1, h2⟩, h3, h4⟩ := foldl_bd hl i
    by_cases h : i < l.length
    · rw [foldl_take _ _ h, foldl_take _ _ h]
      have := hl _ (List.getElem_mem h)
      unfold fAdd fMax at *
      omega
    · rw [List.take_of_length_le (show l.length ≤ i + 1 by omega)]
      rw [List.take_of_length_le (show l.length ≤ i by omega)] at h1 h2 h3 h4
      omega
/-- Sorted by counting. -/
theorem filter_split (k : Int) : ∀ l : List Int, (l.filter fun x => decide (x < k + 1)).Perm ((l.filter fun x => decide (x < k)) ++ l.filter fun x => decide (x = k))
  | [] => List.Perm.refl _
  | x :: l => by
    have ih := filter_split k l
    rw [List.filter_cons, List.filter_cons, List.filter_cons]
    by_cases h1 : x < k
    · simp only [h1, show x < k + 1 by omega, show ¬ x = k by omega, decide_true, decide_false, if_true, Bool.false_eq_true, if_false, List.cons_append]
      exact ih.cons x
    · by_cases h2 : x = k
      · simp only [h1, h2, show k < k + 1 by omega, show ¬ k < k by omega, decide_true, decide_false, if_true, Bool.false_eq_true, if_false]
        exact (ih.cons k).trans List.perm_middle.symm
      · simp only [h1, h2, show ¬ x < k + 1 by omega, decide_false, Bool.false_eq_true, if_false]
        exact ih
theorem isort_step (k : Int) (l : List Int) : isortI (l.filter fun x => decide (x < k + 1)) = isortI (l.filter fun x => decide (x < k)) ++ l.filter fun x => decide (x = k) := by
  refine List.Perm.eq_of_pairwise (le := fun a b => a ≤ b) (fun a b _ _ h1 h2 => Int.le_antisymm h1 h2) (isortI_sorted _) ?_ (((isortI_perm _).trans (filter_split k l)).trans ((isortI_perm _).symm.append_right _))
  rw [List.pairwise_append]
  refine ⟨isortI_sorted _, ?_, fun x hx y hy => ?_⟩
  · rw [List.pairwise_iff_getElem]
    intro i j hi hj _
    have h1 := (List.mem_filter.1 (List.getElem_mem hi)).2
    have h2 := (List.mem_filter.1 (List.getElem_mem hj)).2
    rw [decide_eq_true_eq] at h1 h2
    omega
  · have h1 := (List.mem_filter.1 ((isortI_perm _).mem_iff.1 hx)).2
    have h2 := (List.mem_filter.1 hy).2
    rw [decide_eq_true_eq] at h1 h2
    omega
theorem isort_zero {l : List Int} (hl : ∀ x ∈ l, 0 ≤ x ∧ x ≤ 60) : isortI (l.filter fun x => decide (x < 0)) = [] := by
  have : l.filter (fun x => decide (x < 0)) = [] := by
    rw [List.filter_eq_nil_iff]
    intro x hx
    have := hl x hx
    simp; omega
  rw [this]; rfl
theorem isort_full {l : List Int} (hl : ∀ x ∈ l, 0 ≤ x ∧ x ≤ 60) : isortI (l.filter fun x => decide (x < 61)) = isortI l := by
  have : l.filter (fun x => decide (x < 61)) = l := by
    rw [List.filter_eq_self]
    intro x hx
    have := hl x hx
    simp; omega
  rw [this]
/-- How far neighbours lie apart in the sorted shades, somewhere. -/
def reachN (l : List Int) (r : Bool) : Nat := if (r && decide (2 < l.length)) = true then 2 else 1
end Go.Vit
