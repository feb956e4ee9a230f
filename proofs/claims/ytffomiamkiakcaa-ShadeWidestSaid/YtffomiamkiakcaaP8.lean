/- The greatest sum of a round box, and of a straight one; in plain words. -/
import Derived.Test.YtffomiamkiakcaaP7
set_option linter.unusedSimpArgs false
set_option linter.unusedVariables false
set_option maxHeartbeats 2000000
namespace Go.Vit
open Go
/-- The greater half less the smaller half, so many of it. -/
def halfS (s : List Int) : Nat → Int
  | 0 => 0
  | i + 1 => halfS s i + (s.getD (s.length - 1 - i) 0 - s.getD i 0)
/-- An arrangement has that. -/
theorem half_up {s : List Int} (hs : s.Pairwise (· ≤ ·)) (h1 : 1 ≤ s.length) (h6 : s.length ≤ 6) : ∃ p, p.Perm s ∧ sumL (stepX p true) = 2 * halfS s (s.length / 2) := by
  match s, h1, h6 with
  | [a], _, _ =>
    refine ⟨[a], (((List.Perm.refl _).cons a).trans (List.perm_middle (a := a) (l₁ := []) (l₂ := [])).symm), ?_⟩
    have e1 : stepX [a] true = [] := rfl
    have hd : [a].length / 2 = 0 := by simp
    have e2 : halfS [a] ([a].length / 2) = 0 := by rw [hd]; rfl
    have e3 : sumL ([] : List Int) = 0 := rfl
    rw [e1, e2]
    simp only [List.pairwise_cons, List.mem_cons, List.not_mem_nil, or_false, forall_eq_or_imp, forall_eq] at hs
    simp only [sumL_cons, e3]
    try unfold ab
    omega
  | [a, b], _, _ =>
    refine ⟨[a, b], ((((((List.Perm.refl _).cons b).trans (List.perm_middle (a := b) (l₁ := []) (l₂ := [])).symm)).cons a).trans (List.perm_middle (a := a) (l₁ := []) (l₂ := [b])).symm), ?_⟩
    have e1 : stepX [a, b] true = [ab a b, ab b a] := rfl
    have hd : [a, b].length / 2 = 1 := by simp
    have e2 : halfS [a, b] ([a, b].length / 2) = 0 + (b - a) := by rw [hd]; rfl
    have e3 : sumL ([] : List Int) = 0 := rfl
    rw [e1, e2]
    simp only [List.pairwise_cons, List.mem_cons, List.not_mem_nil, or_false, forall_eq_or_imp, forall_eq] at hs
    simp only [sumL_cons, e3]
    try unfold ab
    omega
  | [a, b, c], _, _ =>
    refine ⟨[a, b, c], (((((((((List.Perm.refl _).cons c).trans (List.perm_middle (a := c) (l₁ := []) (l₂ := [])).symm)).cons b).trans (List.perm_middle (a := b) (l₁ := []) (l₂ := [c])).symm)).cons a).trans (List.perm_middle (a := a) (l₁ := []) (l₂ := [b, c])).symm), ?_⟩
    have e1 : stepX [a, b, c] true = [ab a b, ab b c, ab c a] := rfl
    have hd : [a, b, c].length / 2 = 1 := by simp
    have e2 : halfS [a, b, c] ([a, b, c].length / 2) = 0 + (c - a) := by rw [hd]; rfl
    have e3 : sumL ([] : List Int) = 0 := rfl
    rw [e1, e2]
    simp only [List.pairwise_cons, List.mem_cons, List.not_mem_nil, or_false, forall_eq_or_imp, forall_eq] at hs
    simp only [sumL_cons, e3]
    try unfold ab
    omega
  | [a, b, c, d], _, _ =>
    refine ⟨[a, c, b, d], ((((((((((((List.Perm.refl _).cons d).trans (List.perm_middle (a := d) (l₁ := []) (l₂ := [])).symm)).cons b).trans (List.perm_middle (a := b) (l₁ := []) (l₂ := [d])).symm)).cons c).trans (List.perm_middle (a := c) (l₁ := [b]) (l₂ := [d])).symm)).cons a).trans (List.perm_middle (a := a) (l₁ := []) (l₂ := [b, c, d])).symm), ?_⟩
    have e1 : stepX [a, c, b, d] true = [ab a c, ab c b, ab b d, ab d a] := rfl
    have hd : [a, b, c, d].length / 2 = 2 := by simp
    have e2 : halfS [a, b, c, d] ([a, b, c, d].length / 2) = 0 + (d - a) + (c - b) := by rw [hd]; rfl
    have e3 : sumL ([] : List Int) = 0 := rfl
    rw [e1, e2]
    simp only [List.pairwise_cons, List.mem_cons, List.not_mem_nil, or_false, forall_eq_or_imp, forall_eq] at hs
    simp only [sumL_cons, e3]
    try unfold ab
    omega
  | [a, b, c, d, e], _, _ =>
    refine ⟨[a, d, b, e, c], (((((((((((((((List.Perm.refl _).cons c).trans (List.perm_middle (a := c) (l₁ := []) (l₂ := [])).symm)).cons e).trans (List.perm_middle (a := e) (l₁ := [c]) (l₂ := [])).symm)).cons b).trans (List.perm_middle (a := b) (l₁ := []) (l₂ := [c, e])).symm)).cons d).trans (List.perm_middle (a := d) (l₁ := [b, c]) (l₂ := [e])).symm)).cons a).trans (List.perm_middle (a := a) (l₁ := []) (l₂ := [b, c, d, e])).symm), ?_⟩
    have e1 : stepX [a, d, b, e, c] true = [ab a d, ab d b, ab b e, ab e c, ab c a] := rfl
    have hd : [a, b, c, d, e].length / 2 = 2 := by simp
    have e2 : halfS [a, b, c, d, e] ([a, b, c, d, e].length / 2) = 0 + (e - a) + (d - b) := by rw [hd]; rfl
    have e3 : sumL ([] : List Int) = 0 := rfl
    rw [e1, e2]
    simp only [List.pairwise_cons, List.mem_cons, List.not_mem_nil, or_false, forall_eq_or_imp, forall_eq] at hs
    simp only [sumL_cons, e3]
    try unfold ab
    omega
  | [a, b, c, d, e, f], _, _ =>
    refine ⟨[a, d, b, e, c, f], ((((((((((((((((((List.Perm.refl _).cons f).trans (List.perm_middle (a := f) (l₁ := []) (l₂ := [])).symm)).cons c).trans (List.perm_middle (a := c) (l₁ := []) (l₂ := [f])).symm)).cons e).trans (List.perm_middle (a := e) (l₁ := [c]) (l₂ := [f])).symm)).cons b).trans (List.perm_middle (a := b) (l₁ := []) (l₂ := [c, e, f])).symm)).cons d).trans (List.perm_middle (a := d) (l₁ := [b, c]) (l₂ := [e, f])).symm)).cons a).trans (List.perm_middle (a := a) (l₁ := []) (l₂ := [b, c, d, e, f])).symm), ?_⟩
    have e1 : stepX [a, d, b, e, c, f] true = [ab a d, ab d b, ab b e, ab e c, ab c f, ab f a] := rfl
    have hd : [a, b, c, d, e, f].length / 2 = 3 := by simp
    have e2 : halfS [a, b, c, d, e, f] ([a, b, c, d, e, f].length / 2) = 0 + (f - a) + (e - b) + (d - c) := by rw [hd]; rfl
    have e3 : sumL ([] : List Int) = 0 := rfl
    rw [e1, e2]
    simp only [List.pairwise_cons, List.mem_cons, List.not_mem_nil, or_false, forall_eq_or_imp, forall_eq] at hs
    simp only [sumL_cons, e3]
    try unfold ab
    omega
  | [], h, _ => simp at h
  | _ :: _ :: _ :: _ :: _ :: _ :: _ :: t, _, h => simp at h
theorem med_sum {s : List Int} (hs : s.Pairwise (· ≤ ·)) (h1 : 1 ≤ s.length) (h6 : s.length ≤ 6) : sumL (s.map fun x => ab x (s.getD (s.length / 2) 0)) = halfS s (s.length / 2) := by
  match s, h1, h6 with
  | [a], _, _ =>
    have hd0 : [a].length / 2 = 0 := by simp
    have e1 : ([a].map fun x => ab x ([a].getD ([a].length / 2) 0)) = [ab a a] := by rw [hd0]; rfl
    have hd : [a].length / 2 = 0 := by simp
    have e2 : halfS [a] ([a].length / 2) = 0 := by rw [hd]; rfl
    have e3 : sumL ([] : List Int) = 0 := rfl
    rw [e1, e2]
    simp only [List.pairwise_cons, List.mem_cons, List.not_mem_nil, or_false, forall_eq_or_imp, forall_eq] at hs
    simp only [sumL_cons, e3]
    try unfold ab
    omega
  | [a, b], _, _ =>
    have hd0 : [a, b].length / 2 = 1 := by simp
    have e1 : ([a, b].map fun x => ab x ([a, b].getD ([a, b].length / 2) 0)) = [ab a b, ab b b] := by rw [hd0]; rfl
    have hd : [a, b].length / 2 = 1 := by simp
    have e2 : halfS [a, b] ([a, b].length / 2) = 0 + (b - a) := by rw [hd]; rfl
    have e3 : sumL ([] : List Int) = 0 := rfl
    rw [e1, e2]
    simp only [List.pairwise_cons, List.mem_cons, List.not_mem_nil, or_false, forall_eq_or_imp, forall_eq] at hs
    simp only [sumL_cons, e3]
    try unfold ab
    omega
  | [a, b, c], _, _ =>
    have hd0 : [a, b, c].length / 2 = 1 := by simp
    have e1 : ([a, b, c].map fun x => ab x ([a, b, c].getD ([a, b, c].length / 2) 0)) = [ab a b, ab b b, ab c b] := by rw [hd0]; rfl
    have hd : [a, b, c].length / 2 = 1 := by simp
    have e2 : halfS [a, b, c] ([a, b, c].length / 2) = 0 + (c - a) := by rw [hd]; rfl
    have e3 : sumL ([] : List Int) = 0 := rfl
    rw [e1, e2]
    simp only [List.pairwise_cons, List.mem_cons, List.not_mem_nil, or_false, forall_eq_or_imp, forall_eq] at hs
    simp only [sumL_cons, e3]
    try unfold ab
    omega
  | [a, b, c, d], _, _ =>
    have hd0 : [a, b, c, d].length / 2 = 2 := by simp
    have e1 : ([a, b, c, d].map fun x => ab x ([a, b, c, d].getD ([a, b, c, d].length / 2) 0)) = [ab a c, ab b c, ab c c, ab d c] := by rw [hd0]; rfl
    have hd : [a, b, c, d].length / 2 = 2 := by simp
    have e2 : halfS [a, b, c, d] ([a, b, c, d].length / 2) = 0 + (d - a) + (c - b) := by rw [hd]; rfl
    have e3 : sumL ([] : List Int) = 0 := rfl
    rw [e1, e2]
    simp only [List.pairwise_cons, List.mem_cons, List.not_mem_nil, or_false, forall_eq_or_imp, forall_eq] at hs
    simp only [sumL_cons, e3]
    try unfold ab
    omega
  | [a, b, c, d, e], _, _ =>
    have hd0 : [a, b, c, d, e].length / 2 = 2 := by simp
    have e1 : ([a, b, c, d, e].map fun x => ab x ([a, b, c, d, e].getD ([a, b, c, d, e].length / 2) 0)) = [ab a c, ab b c, ab c c, ab d c, ab e c] := by rw [hd0]; rfl
    have hd : [a, b, c, d, e].length / 2 = 2 := by simp
    have e2 : halfS [a, b, c, d, e] ([a, b, c, d, e].length / 2) = 0 + (e - a) + (d - b) := by rw [hd]; rfl
    have e3 : sumL ([] : List Int) = 0 := rfl
    rw [e1, e2]
    simp only [List.pairwise_cons, List.mem_cons, List.not_mem_nil, or_false, forall_eq_or_imp, forall_eq] at hs
    simp only [sumL_cons, e3]
    try unfold ab
    omega
  | [a, b, c, d, e, f], _, _ =>
    have hd0 : [a, b, c, d, e, f].length / 2 = 3 := by simp
    have e1 : ([a, b, c, d, e, f].map fun x => ab x ([a, b, c, d, e, f].getD ([a, b, c, d, e, f].length / 2) 0)) = [ab a d, ab b d, ab c d, ab d d, ab e d, ab f d] := by rw [hd0]; rfl
    have hd : [a, b, c, d, e, f].length / 2 = 3 := by simp
    have e2 : halfS [a, b, c, d, e, f] ([a, b, c, d, e, f].length / 2) = 0 + (f - a) + (e - b) + (d - c) := by rw [hd]; rfl
    have e3 : sumL ([] : List Int) = 0 := rfl
    rw [e1, e2]
    simp only [List.pairwise_cons, List.mem_cons, List.not_mem_nil, or_false, forall_eq_or_imp, forall_eq] at hs
    simp only [sumL_cons, e3]
    try unfold ab
    omega
  | [], h, _ => simp at h
  | _ :: _ :: _ :: _ :: _ :: _ :: _ :: t, _, h => simp at h

theorem sum_mid (M : Int) : ∀ (t : List Int) (a : Int), sumL (stepL (a :: t)) + ab a M + ab ((a :: t).getLast (by simp)) M ≤ 2 * sumL ((a :: t).map fun x => ab x M)
  | [], a => by
    have e : sumL ([] : List Int) = 0 := rfl
    show sumL [] + ab a M + ab a M ≤ 2 * sumL [ab a M]
    rw [sumL_cons, e]; omega
  | b :: t, a => by
    have ih := sum_mid M t b
    have e1 : sumL (stepL (a :: b :: t)) = ab a b + sumL (stepL (b :: t)) := sumL_cons _ _
    have e2 : sumL ((a :: b :: t).map fun x => ab x M) = ab a M + sumL ((b :: t).map fun x => ab x M) := sumL_cons _ _
    have e3 : (a :: b :: t).getLast (by simp) = (b :: t).getLast (by simp) := List.getLast_cons (by simp)
    rw [e1, e2, e3]
    have h1 := ab_tri a M b
    have h2 := ab_comm M b
    omega
/-- None has more. -/
theorem half_low {s p : List Int} (hs : s.Pairwise (· ≤ ·)) (h1 : 1 ≤ s.length) (h6 : s.length ≤ 6) (hp : p.Perm s) : sumL (stepX p true) ≤ 2 * halfS s (s.length / 2) := by
  have hm := med_sum hs h1 h6
  generalize s.getD (s.length / 2) 0 = M at hm
  rw [← hm]
  have hpm : sumL (p.map fun x => ab x M) = sumL (s.map fun x => ab x M) := sumL_perm (hp.map _)
  rw [← hpm]
  have hl := hp.length_eq
  have hnn : 0 ≤ sumL (p.map fun x => ab x M) := sumL_nn fun x hx => by
    obtain ⟨y, _, rfl⟩ := List.mem_map.1 hx
    exact ab_nn _ _
  match p, hl with
  | [], hl => simp at hl; omega
  | [x], _ =>
    have e : stepX [x] true = [] := rfl
    rw [e]
    have e2 : sumL ([] : List Int) = 0 := rfl
    omega
  | x :: y :: q, _ =>
    have e : stepX (x :: y :: q) true = stepL (x :: (y :: q ++ [x])) := rfl
    rw [e]
    have h := sum_mid M (y :: q ++ [x]) x
    have e1 : (x :: (y :: q ++ [x])).getLast (by simp) = x := (List.getLast_concat : ((x :: y :: q) ++ [x]).getLast (by simp) = x)
    have e2 : sumL ((x :: (y :: q ++ [x])).map fun x => ab x M) = sumL ((x :: y :: q).map fun x => ab x M) + ab x M := by
      have : x :: (y :: q ++ [x]) = (x :: y :: q) ++ [x] := rfl
      rw [this, List.map_append, sumL_app]
      show _ + sumL [ab x M] = _
      rw [sumL_cons]
      have e3 : sumL ([] : List Int) = 0 := rfl
      omega
    rw [e1, e2] at h
    omega
theorem most_half {l : List Int} (h : chkS l = 0) (h6 : l.length ≤ 6) : mostX l true = 2 * halfS (isortI l) (l.length / 2) := by
  have hil := isortI_length l
  obtain ⟨h1, _, _⟩ := chkS_ok h
  have hB := wideL_ok true h
  unfold mostX
  rw [if_pos h]
  have a1 := half_low (isortI_sorted l) (by omega) (by omega) (hB.1.trans (isortI_perm l).symm)
  obtain ⟨p, hp, hs⟩ := half_up (isortI_sorted l) (by omega) (by omega)
  have a2 := (hB.2 p (hp.trans (isortI_perm l))).1
  unfold cS at a2
  rw [hil] at a1 hs
  omega
theorem most_flat {l : List Int} (h : chkS l = 0) : mostX l false ≤ mostX l true := by
  unfold mostX
  rw [if_pos h, if_pos h]
  have hB := wideL_ok true h
  have hp := (wideL_ok false h).1
  have a2 := (hB.2 _ hp).1
  unfold cS at a2
  have : sumL (stepX (wideL l false) false) ≤ sumL (stepX (wideL l false) true) := by
    rw [stepX_flat (r := false) (by simp)]
    by_cases h2 : 1 < (wideL l false).length
    · rw [stepX_round h2, sumL_app, sumL_cons]
      have e3 : sumL ([] : List Int) = 0 := rfl
      have := ab_nn ((wideL l false)[(wideL l false).length - 1]'(by omega)) ((wideL l false)[0]'(by omega))
      omega
    · rw [stepX_flat (by simp; omega)]; exact Int.le_refl _
  omega
theorem most_gap {l : List Int} (h : chkS l = 0) : mostX l true - ((isortI l).getD (l.length - 1) 0 - (isortI l).getD 0 0) ≤ mostX l false := by
  obtain ⟨h1, h7, hle⟩ := chkS_ok h
  have hil := isortI_length l
  have hs := isortI_sorted l
  unfold mostX
  rw [if_pos h, if_pos h]
  have hB := wideL_ok false h
  have hp := (wideL_ok true h).1
  have a2 := (hB.2 _ hp).1
  unfold cS at a2
  have hmm : ∀ x ∈ l, (isortI l).getD 0 0 ≤ x ∧ x ≤ (isortI l).getD (l.length - 1) 0 := by
    intro x hx
    obtain ⟨i, hi, rfl⟩ := List.getElem_of_mem ((isortI_perm l).mem_iff.2 hx)
    have g0 : (isortI l).getD 0 0 = (isortI l)[0]'(by omega) := by rw [List.getD_eq_getElem?_getD, List.getElem?_eq_getElem (by omega)]; rfl
    have g1 : (isortI l).getD (l.length - 1) 0 = (isortI l)[l.length - 1]'(by omega) := by rw [List.getD_eq_getElem?_getD, List.getElem?_eq_getElem (by omega)]; rfl
    rw [g0, g1]
    constructor
    · by_cases e : i = 0
      · subst e; omega
      · exact List.pairwise_iff_getElem.1 hs 0 i (by omega) hi (by omega)
    · by_cases e : i = l.length - 1
      · subst e; omega
      · exact List.pairwise_iff_getElem.1 hs i (l.length - 1) hi (by omega) (by omega)
  have : sumL (stepX (wideL l true) true) - ((isortI l).getD (l.length - 1) 0 - (isortI l).getD 0 0) ≤ sumL (stepX (wideL l true) false) := by
    have hl2 := hp.length_eq
    rw [stepX_flat (r := false) (by simp)]
    by_cases h2 : 1 < (wideL l true).length
    · rw [stepX_round h2, sumL_app, sumL_cons]
      have e3 : sumL ([] : List Int) = 0 := rfl
      have m1 := hmm _ (hp.mem_iff.1 (List.getElem_mem (show (wideL l true).length - 1 < (wideL l true).length by omega)))
      have m2 := hmm _ (hp.mem_iff.1 (List.getElem_mem (show 0 < (wideL l true).length by omega)))
      unfold ab
      omega
    · rw [stepX_flat (by simp; omega)]
      have m1 := hmm _ (hp.mem_iff.1 (List.getElem_mem (show 0 < (wideL l true).length by omega)))
      omega
  omega
end Go.Vit
