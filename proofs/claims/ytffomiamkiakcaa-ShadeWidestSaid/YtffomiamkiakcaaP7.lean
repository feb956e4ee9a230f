/- Other orders, exchanged shades, boxes turned round; in plain words. -/
import Derived.Test.YtffomiamkiakcaaP6
set_option linter.unusedSimpArgs false
set_option linter.unusedVariables false
namespace Go.Vit
open Go
theorem isort_perm {a b : List Int} (h : a.Perm b) : isortI a = isortI b :=
  List.Perm.eq_of_pairwise (le := fun a b => a ≤ b) (fun a b _ _ h1 h2 => Int.le_antisymm h1 h2) (isortI_sorted a) (isortI_sorted b) (((isortI_perm a).trans h).trans (isortI_perm b).symm)
theorem boxX_perm {a b : List Int} (r : Bool) (h : a.Perm b) : boxX a r = boxX b r := by unfold boxX boxL; rw [chkS_perm h, isort_perm h]
theorem wideX_perm {a b : List Int} (r : Bool) (h : a.Perm b) : wideX a r = wideX b r := by unfold wideX wideL; rw [chkS_perm h, isort_perm h]
theorem leX_perm {a b : List Int} (r : Bool) (h : a.Perm b) : leX a r = leX b r := by unfold leX; rw [chkS_perm h, isort_perm h]
theorem mostX_perm {a b : List Int} (r : Bool) (h : a.Perm b) : mostX a r = mostX b r := by unfold mostX wideL; rw [chkS_perm h, isort_perm h]
def inv (x : Int) : Int := 60 - x
theorem ab_inv (a b : Int) : ab (inv a) (inv b) = ab a b := by unfold ab inv; omega
theorem stepL_inv : ∀ l : List Int, stepL (l.map inv) = stepL l
  | [] => rfl
  | [_] => rfl
  | x :: y :: t => by
    show ab (inv x) (inv y) :: stepL ((y :: t).map inv) = ab x y :: stepL (y :: t)
    rw [ab_inv, stepL_inv (y :: t)]
theorem stepX_inv (l : List Int) (r : Bool) : stepX (l.map inv) r = stepX l r := by
  unfold stepX ring
  rw [List.length_map]
  split
  · rw [← List.map_take, ← List.map_append, stepL_inv]
  · exact stepL_inv l
theorem inv_inv (l : List Int) : (l.map inv).map inv = l := by
  rw [List.map_map]
  have : inv ∘ inv = id := funext fun x => by show 60 - (60 - x) = x; omega
  rw [this, List.map_id]
theorem chkS_inv {l : List Int} (h : chkS l = 0) : chkS (l.map inv) = 0 := by
  obtain ⟨h1, h7, hle⟩ := chkS_ok h
  refine chkS_of (by rw [List.length_map]; exact h1) (by rw [List.length_map]; exact h7) fun x hx => ?_
  obtain ⟨y, hy, rfl⟩ := List.mem_map.1 hx
  have := hle y hy
  unfold inv; omega
theorem leX_inv_le {l : List Int} (r : Bool) (h : chkS l = 0) : leX (l.map inv) r ≤ leX l r := by
  unfold leX
  rw [if_pos h, if_pos (chkS_inv h)]
  obtain ⟨hB, hc⟩ := boxL_ok (r := r) h
  obtain ⟨hB', hc'⟩ := boxL_ok (r := r) (chkS_inv h)
  have h2 := (hB'.2 ((boxL l r).map inv) (hB.1.map inv)).1
  have e : cM r ((boxL l r).map inv) = cM r (boxL l r) := by unfold cM; rw [stepX_inv]
  rw [← hc, ← hc', ← e]
  exact h2
theorem leX_inv {l : List Int} (r : Bool) (h : chkS l = 0) : leX (l.map inv) r = leX l r := by
  have h1 := leX_inv_le r h
  have h2 := leX_inv_le r (chkS_inv h)
  rw [inv_inv] at h2
  omega
theorem mostX_inv_le {l : List Int} (r : Bool) (h : chkS l = 0) : mostX l r ≤ mostX (l.map inv) r := by
  unfold mostX
  rw [if_pos h, if_pos (chkS_inv h)]
  have hp := (wideL_ok r h).1
  have h2 := ((wideL_ok r (chkS_inv h)).2 ((wideL l r).map inv) (hp.map inv)).1
  unfold cS at h2
  rw [stepX_inv] at h2
  omega
theorem mostX_inv {l : List Int} (r : Bool) (h : chkS l = 0) : mostX (l.map inv) r = mostX l r := by
  have h1 := mostX_inv_le r h
  have h2 := mostX_inv_le r (chkS_inv h)
  rw [inv_inv] at h2
  omega
theorem maxX_inv {l : List Int} (r : Bool) (h : chkS l = 0) : maxX (l.map inv) r = maxX l r := by unfold maxX; rw [if_pos h, if_pos (chkS_inv h), stepX_inv]
theorem sumX_inv {l : List Int} (r : Bool) (h : chkS l = 0) : sumX (l.map inv) r = sumX l r := by unfold sumX; rw [if_pos h, if_pos (chkS_inv h), stepX_inv]
/-- Sums and greatest numbers of the same numbers. -/
theorem sumL_perm {a b : List Int} (h : a.Perm b) : sumL a = sumL b := by
  induction h with
  | nil => rfl
  | cons x _ ih => rw [sumL_cons, sumL_cons, ih]
  | swap x y l => rw [sumL_cons, sumL_cons, sumL_cons, sumL_cons]; omega
  | trans _ _ h1 h2 => exact h1.trans h2
theorem maxL_perm {a b : List Int} (h : a.Perm b) : maxL a = maxL b := by
  have h1 : maxL a ≤ maxL b := maxL_le.2 ⟨maxL_nn _, fun x hx => maxL_mem (h.mem_iff.1 hx)⟩
  have h2 : maxL b ≤ maxL a := maxL_le.2 ⟨maxL_nn _, fun x hx => maxL_mem (h.mem_iff.2 hx)⟩
  omega
theorem maxX_eq {a b : List Int} {r : Bool} (hc : chkS a = chkS b) (h : (stepX a r).Perm (stepX b r)) : maxX a r = maxX b r := by
  have := maxL_perm h
  unfold maxX
  rw [hc]
  show (if chkS b = 0 then maxL (stepX a r) else 0) = if chkS b = 0 then maxL (stepX b r) else 0
  rw [this]
theorem sumX_eq {a b : List Int} {r : Bool} (hc : chkS a = chkS b) (h : (stepX a r).Perm (stepX b r)) : sumX a r = sumX b r := by
  have := sumL_perm h
  unfold sumX
  rw [hc]
  show (if chkS b = 0 then sumL (stepX a r) else 0) = if chkS b = 0 then sumL (stepX b r) else 0
  rw [this]
theorem stepL_rev : ∀ l : List Int, stepL l.reverse = (stepL l).reverse
  | [] => rfl
  | [_] => rfl
  | x :: y :: t => by
    have ih := stepL_rev (y :: t)
    have e1 : (x :: y :: t).reverse = t.reverse ++ [y, x] := by simp
    have e2 : (y :: t).reverse = t.reverse ++ [y] := by simp
    rw [e2] at ih
    rw [e1, stepL_snoc, ih, ab_comm]
    show _ = (ab x y :: stepL (y :: t)).reverse
    rw [List.reverse_cons]
theorem stepX_rev (l : List Int) (r : Bool) : (stepX l.reverse r).Perm (stepX l r) := by
  by_cases h : (r && decide (1 < l.length)) = true
  · rw [Bool.and_eq_true, decide_eq_true_eq] at h
    obtain ⟨rfl, h2⟩ := h
    have h3 : 1 < l.reverse.length := by rw [List.length_reverse]; exact h2
    rw [stepX_round h2, stepX_round h3, stepL_rev]
    have e1 : l.reverse[l.reverse.length - 1]'(by omega) = l[0] := by
      rw [List.getElem_reverse]
      congr 1
      rw [List.length_reverse]; omega
    have e2 : l.reverse[0]'(by omega) = l[l.length - 1] := by
      rw [List.getElem_reverse]
      congr 1
    rw [e1, e2, ab_comm]
    exact (List.reverse_perm _).append_right _
  · rw [stepX_flat h, stepX_flat (by rw [List.length_reverse]; exact h), stepL_rev]
    exact List.reverse_perm _
theorem stepX_rot (A B : List Int) : (stepX (B ++ A) true).Perm (stepX (A ++ B) true) := by
  cases A with
  | nil => rw [List.append_nil, List.nil_append]
  | cons a A =>
    cases B with
    | nil => rw [List.append_nil, List.nil_append]
    | cons b B =>
      have e1 : stepX (a :: A ++ b :: B) true = stepL (a :: A ++ [b]) ++ stepL (b :: B ++ [a]) := by
        unfold stepX ring
        rw [if_pos (by simp; omega)]
        have : a :: A ++ b :: B ++ (a :: A ++ b :: B).take 1 = a :: A ++ b :: (B ++ [a]) := by simp
        rw [this, stepL_split]; rfl
      have e2 : stepX (b :: B ++ a :: A) true = stepL (b :: B ++ [a]) ++ stepL (a :: A ++ [b]) := by
        unfold stepX ring
        rw [if_pos (by simp; omega)]
        have : b :: B ++ a :: A ++ (b :: B ++ a :: A).take 1 = b :: B ++ a :: (A ++ [b]) := by simp
        rw [this, stepL_split]; rfl
      rw [e1, e2]
      exact List.perm_append_comm
end Go.Vit
