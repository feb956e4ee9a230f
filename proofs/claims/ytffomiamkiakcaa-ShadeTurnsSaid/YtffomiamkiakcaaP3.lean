/- Sums and greatest steps of arrangements; how far sorted shades lie apart; in plain words. -/
import Derived.Test.YtffomiamkiakcaaP2
set_option linter.unusedSimpArgs false
set_option linter.unusedVariables false
namespace Go.Vit
open Go
def wSum : Worth where
  g a s := a + s
  mono := fun {a b s} _ h _ _ => by omega
  low := fun {a s} h h2 => by omega
  inj := fun {a b s} _ _ h _ => by omega
  up := fun {a s} _ _ => by omega
def wLim (b : Int) : Worth where
  g a s := if b < s then -1 else a
  mono := fun {a c s} h0 h _ _ => by
    by_cases h : b < s
    · rw [if_pos h, if_pos h]; omega
    · rw [if_neg h, if_neg h]; omega
  low := fun {a s} h h2 => by split <;> omega
  inj := fun {a c s} _ _ h hn => by
    by_cases h2 : b < s
    · rw [if_pos h2] at hn; exact absurd rfl hn
    · rw [if_neg h2, if_neg h2] at h; exact h
  up := fun {a s} _ _ => by split <;> omega
def sumL (l : List Int) : Int := l.foldl fAdd 0
def maxL (l : List Int) : Int := l.foldl fMax 0
theorem foldl_add : ∀ (l : List Int) (z : Int), l.foldl fAdd z = z + l.foldl fAdd 0
  | [], z => by simp
  | x :: l, z => by
    rw [List.foldl_cons, List.foldl_cons, foldl_add l, foldl_add l (fAdd 0 x)]
    unfold fAdd; omega
theorem sumL_cons (x : Int) (l : List Int) : sumL (x :: l) = x + sumL l := by
  unfold sumL
  rw [List.foldl_cons, foldl_add]
  unfold fAdd; omega
theorem sumL_app (a b : List Int) : sumL (a ++ b) = sumL a + sumL b := by
  induction a with
  | nil => show sumL b = sumL [] + sumL b; show _ = 0 + _; omega
  | cons x a ih => rw [List.cons_append, sumL_cons, sumL_cons, ih]; omega
theorem foldl_max : ∀ (l : List Int) (z b : Int), l.foldl fMax z ≤ b ↔ z ≤ b ∧ ∀ s ∈ l, s ≤ b
  | [], z, b => by simp
  | x :: l, z, b => by
    rw [List.foldl_cons, foldl_max l]
    unfold fMax
    constructor
    · rintro ⟨h1, h2⟩
      refine ⟨by omega, fun s hs => ?_⟩
      rcases List.mem_cons.1 hs with rfl | hs
      · omega
      · exact h2 s hs
    · rintro ⟨h1, h2⟩
      have := h2 x (by simp)
      exact ⟨by omega, fun s hs => h2 s (List.mem_cons_of_mem _ hs)⟩
theorem maxL_le {l : List Int} {b : Int} : maxL l ≤ b ↔ 0 ≤ b ∧ ∀ s ∈ l, s ≤ b := foldl_max l 0 b
theorem maxL_nn (l : List Int) : 0 ≤ maxL l := (maxL_le.1 (Int.le_refl (maxL l))).1
theorem maxL_mem {l : List Int} {s : Int} (h : s ∈ l) : s ≤ maxL l := (maxL_le.1 (Int.le_refl (maxL l))).2 s h
theorem stepL_nn : ∀ (l : List Int), ∀ s ∈ stepL l, 0 ≤ s
  | [], s, h => by cases h
  | [_], s, h => by cases h
  | x :: y :: t, s, h => by
    rcases List.mem_cons.1 h with rfl | h
    · exact ab_nn _ _
    · exact stepL_nn (y :: t) s h
theorem sumL_nn : ∀ {l : List Int}, (∀ s ∈ l, 0 ≤ s) → 0 ≤ sumL l
  | [], _ => Int.le_refl _
  | x :: l, h => by
    have h1 := h x (by simp)
    have h2 := sumL_nn (l := l) fun s hs => h s (List.mem_cons_of_mem _ hs)
    rw [sumL_cons]; omega
def clL (r : Bool) (f : Int) : List Int := if r = true then [f] else []
theorem WF_sum (r : Bool) : ∀ (p : List Int) (a f : Int), WF wSum r a p f = sumL (stepL (a :: p ++ clL r f))
  | [], a, f => by
    cases r
    · rfl
    · show (0 : Int) + ab a f = sumL [ab a f]
      rw [sumL_cons]; show _ = _ + 0; omega
  | x :: p, a, f => by
    have ih := WF_sum r p x f
    have hn := sumL_nn (stepL_nn (x :: p ++ clL r f))
    show (if WF wSum r x p f = -1 then -1 else WF wSum r x p f + ab a x) = sumL (ab a x :: stepL (x :: p ++ clL r f))
    rw [ih, sumL_cons, if_neg (by omega)]
    omega
theorem WF_lim (r : Bool) (b : Int) : ∀ (p : List Int) (a f : Int), WF (wLim b) r a p f = if ∀ s ∈ stepL (a :: p ++ clL r f), s ≤ b then 0 else -1
  | [], a, f => by
    cases r
    · show (0 : Int) = _
      rw [if_pos]
      intro s hs; cases hs
    · show (if b < ab a f then -1 else (0 : Int)) = if ∀ s ∈ [ab a f], s ≤ b then 0 else -1
      by_cases h : b < ab a f
      · rw [if_pos h, if_neg (by simp; omega)]
      · rw [if_neg h, if_pos (by simp; omega)]
  | x :: p, a, f => by
    have ih := WF_lim r b p x f
    show (if WF (wLim b) r x p f = -1 then -1 else if b < ab a x then -1 else WF (wLim b) r x p f) = if ∀ s ∈ ab a x :: stepL (x :: p ++ clL r f), s ≤ b then 0 else -1
    rw [ih]
    by_cases h1 : ∀ s ∈ stepL (x :: p ++ clL r f), s ≤ b
    · rw [if_pos h1, if_neg (by omega)]
      by_cases h : b < ab a x
      · rw [if_pos h, if_neg]
        intro hh
        have := hh (ab a x) (by simp)
        omega
      · rw [if_neg h, if_pos]
        intro s hs
        rcases List.mem_cons.1 hs with rfl | hs
        · omega
        · exact h1 s hs
    · rw [if_neg h1, if_pos rfl, if_neg]
      intro hh
      exact h1 fun s hs => hh s (List.mem_cons_of_mem _ hs)
theorem stepX_cons {x : Int} {q : List Int} (r : Bool) (h : q ≠ []) : stepX (x :: q) r = stepL (x :: q ++ clL r x) := by
  have hl : 1 < (x :: q).length := by
    cases q with
    | nil => exact absurd rfl h
    | cons y q => simp
  unfold stepX ring clL
  cases r
  · simp
  · rw [if_pos (by simpa using hl)]; rfl
/-- What an arrangement costs. -/
def cM (r : Bool) (p : List Int) : Int := maxL (stepX p r)
def cS (r : Bool) (p : List Int) : Int := - sumL (stepX p r)
theorem wide_best {r : Bool} {s : List Int} (hs : s.Pairwise (· ≤ ·)) (h2 : 2 ≤ s.length) : Best (cS r) s (fillT wSum r s) := by
  have hW : ∀ p, p.Perm s → WT wSum r p = sumL (stepX p r) := by
    intro p hp
    have := hp.length_eq
    cases p with
    | nil => simp at this; omega
    | cons x q =>
      cases q with
      | nil => simp at this; omega
      | cons y q =>
        show WF wSum r x (y :: q) x = _
        rw [WF_sum, stepX_cons r (by simp)]
  refine (fillT_ok (wo := wSum) (r := r) hs ⟨s, List.Perm.refl _, ?_⟩).1.congr fun p hp => by rw [hW p hp]; rfl
  rw [hW s (List.Perm.refl _)]
  have := sumL_nn (stepL_nn (ring s r))
  have e : sumL (stepX s r) = sumL (stepL (ring s r)) := rfl
  omega
theorem box_best {r : Bool} {s : List Int} {b : Int} (hs : s.Pairwise (· ≤ ·)) (h2 : 2 ≤ s.length) (hup : ∃ p, p.Perm s ∧ cM r p ≤ b) (hlo : ∀ p, p.Perm s → b ≤ cM r p) : Best (cM r) s (fillT (wLim b) r s) := by
  have hb : 0 ≤ b := by
    obtain ⟨p, _, hp⟩ := hup
    have := maxL_nn (stepX p r)
    unfold cM at hp; omega
  have hW : ∀ p, p.Perm s → WT (wLim b) r p = if cM r p ≤ b then 0 else -1 := by
    intro p hp
    have := hp.length_eq
    cases p with
    | nil => simp at this; omega
    | cons x q =>
      cases q with
      | nil => simp at this; omega
      | cons y q =>
        show WF (wLim b) r x (y :: q) x = _
        rw [WF_lim, ← stepX_cons r (by simp)]
        unfold cM
        by_cases h : ∀ s ∈ stepX (x :: y :: q) r, s ≤ b
        · rw [if_pos h, if_pos (maxL_le.2 ⟨hb, h⟩)]
        · rw [if_neg h, if_neg fun hh => h (maxL_le.1 hh).2]
  obtain ⟨p0, hp0, hc0⟩ := hup
  obtain ⟨hB, hne⟩ := fillT_ok (wo := wLim b) (r := r) hs ⟨p0, hp0, by rw [hW p0 hp0, if_pos hc0]; omega⟩
  have hR := hW _ hB.1
  have hRb : cM r (fillT (wLim b) r s) ≤ b := by
    by_cases h : cM r (fillT (wLim b) r s) ≤ b
    · exact h
    · rw [if_neg h] at hR; exact absurd hR hne
  rw [if_pos hRb] at hR
  refine ⟨hB.1, fun p hp => ⟨Int.le_trans hRb (hlo p hp), fun he => ?_⟩⟩
  refine (hB.2 p hp).2 ?_
  show - WT (wLim b) r p = - WT (wLim b) r (fillT (wLim b) r s)
  rw [hR, hW p hp, if_pos (by omega)]
/-! How far sorted shades lie apart. -/
def gapS (s : List Int) (q i : Nat) : Int := s.getD (i + q) 0 - s.getD i 0
def gaps (s : List Int) (q : Nat) : List Int := (List.range (s.length - q)).map (gapS s q)
theorem stepL_left : ∀ (X Y : List Int) (s : Int), s ∈ stepL X → s ∈ stepL (X ++ Y)
  | [], _, s, h => by cases h
  | [_], _, s, h => by cases h
  | x :: y :: t, Y, s, h => by
    show s ∈ ab x y :: stepL (y :: t ++ Y)
    rcases List.mem_cons.1 h with rfl | h
    · simp
    · exact List.mem_cons_of_mem _ (stepL_left (y :: t) Y s h)
theorem stepL_tail {x : Int} {l : List Int} {s : Int} (h : s ∈ stepL l) : s ∈ stepL (x :: l) := by
  cases l with
  | nil => cases h
  | cons y l => exact List.mem_cons_of_mem _ h
theorem stepL_right : ∀ (X Y : List Int) (s : Int), s ∈ stepL Y → s ∈ stepL (X ++ Y)
  | [], _, s, h => h
  | x :: X, Y, s, h => stepL_tail (stepL_right X Y s h)
theorem path {lo hi : Int} : ∀ (p : List Int), (∀ x ∈ p, x ≤ lo ∨ hi ≤ x) → (∀ s ∈ stepL p, s < hi - lo) → (∀ x ∈ p, x ≤ lo) ∨ (∀ x ∈ p, hi ≤ x)
  | [], _, _ => .inl fun x h => by cases h
  | [x], h, _ => by
    rcases h x (by simp) with h | h
    · exact .inl (by simpa using h)
    · exact .inr (by simpa using h)
  | x :: y :: t, h, hs => by
    have h1 := hs (ab x y) (List.mem_cons_self ..)
    unfold ab at h1
    rcases path (y :: t) (fun z hz => h z (List.mem_cons_of_mem _ hz)) (fun s hs' => hs s (stepL_tail hs')) with h2 | h2
    · have hy := h2 y (by simp)
      rcases h x (by simp) with hx | hx
      · refine .inl fun z hz => ?_
        rcases List.mem_cons.1 hz with rfl | hz
        · exact hx
        · exact h2 z hz
      · omega
    · have hy := h2 y (by simp)
      rcases h x (by simp) with hx | hx
      · omega
      · refine .inr fun z hz => ?_
        rcases List.mem_cons.1 hz with rfl | hz
        · exact hx
        · exact h2 z hz
theorem stepX_sub {p : List Int} {r : Bool} {s : Int} (h : s ∈ stepL p) : s ∈ stepX p r := by
  unfold stepX ring
  split
  · exact stepL_left _ _ _ h
  · exact h
/-- No arrangement avoids it. -/
theorem reach_low {s p : List Int} {r : Bool} {i : Nat} (hs : s.Pairwise (· ≤ ·)) (hp : p.Perm s) (hi : i + reachN s r < s.length) : gapS s (reachN s r) i ≤ cM r p := by
  have hnn : 0 ≤ cM r p := maxL_nn _
  have hrb : 1 ≤ reachN s r ∧ reachN s r ≤ 2 := by unfold reachN; split <;> omega
  have hi' : i < s.length := by omega
  have g1 : s.getD (i + reachN s r) 0 = s[i + reachN s r] := by rw [List.getD_eq_getElem?_getD, List.getElem?_eq_getElem hi]; rfl
  have g2 : s.getD i 0 = s[i] := by rw [List.getD_eq_getElem?_getD, List.getElem?_eq_getElem hi']; rfl
  unfold gapS
  rw [g1, g2]
  have hml : s[i] ∈ p := hp.mem_iff.2 (List.getElem_mem _)
  have hmh : s[i + reachN s r] ∈ p := hp.mem_iff.2 (List.getElem_mem _)
  generalize hlo : s[i] = lo at hml ⊢
  generalize hhi : s[i + reachN s r] = hi' at hmh ⊢
  rename_i hii
  have hle : ∀ j (h : j < s.length), j ≤ i → s[j] ≤ lo := by
    intro j h hj
    rw [← hlo]
    by_cases e : j = i
    · subst e; omega
    · exact List.pairwise_iff_getElem.1 hs j i h hii (by omega)
  have hge : ∀ j (h : j < s.length), i + reachN s r ≤ j → hi' ≤ s[j] := by
    intro j h hj
    rw [← hhi]
    by_cases e : j = i + reachN s r
    · subst e; omega
    · exact List.pairwise_iff_getElem.1 hs (i + reachN s r) j hi h (by omega)
  refine Classical.byContradiction fun hcon => ?_
  have hst : ∀ x ∈ stepX p r, x < hi' - lo := by
    intro x hx
    have : x ≤ cM r p := maxL_mem hx
    omega
  have hlt : lo < hi' := by omega
  have mids : ∀ x ∈ s, (x ≤ lo ∨ hi' ≤ x) ∨ (reachN s r = 2 ∧ ∃ h : i + 1 < s.length, x = s[i + 1]) := by
    intro x hx
    obtain ⟨j, hj, rfl⟩ := List.getElem_of_mem hx
    by_cases h1 : j ≤ i
    · exact .inl (.inl (hle j hj h1))
    · by_cases h2 : i + reachN s r ≤ j
      · exact .inl (.inr (hge j hj h2))
      · have : j = i + 1 := by omega
        subst this
        exact .inr ⟨by omega, hj, rfl⟩
  have bad : ∀ q : List Int, (∀ x ∈ q, x ≤ lo) ∨ (∀ x ∈ q, hi' ≤ x) → lo ∈ q → hi' ∈ q → False := by
    intro q h h1 h2
    rcases h with h | h
    · have := h _ h2; omega
    · have := h _ h1; omega
  by_cases hmid : ∀ x ∈ p, x ≤ lo ∨ hi' ≤ x
  · exact bad p (path p hmid fun x hx => hst x (stepX_sub hx)) hml hmh
  · obtain ⟨m, hm, hmn⟩ : ∃ m, m ∈ p ∧ ¬ (m ≤ lo ∨ hi' ≤ m) := Classical.byContradiction fun hc => hmid fun x hx => Classical.byContradiction fun hn => hc ⟨x, hx, hn⟩
    obtain ⟨h2r, hi1, hme⟩ := (mids m (hp.mem_iff.1 hm)).resolve_left hmn
    obtain ⟨A, B, e, _⟩ := mem_first hm
    have hr : r = true ∧ 2 < s.length := by
      unfold reachN at h2r
      split at h2r
      · rename_i h; simpa using h
      · omega
    obtain ⟨rfl, hs2⟩ := hr
    -- the others have no middle one
    have hAB : (A ++ B).Perm (s.take (i + 1) ++ s.drop (i + 2)) := by
      refine (List.perm_cons m).1 ?_
      have e1 : s = s.take (i + 1) ++ m :: s.drop (i + 2) := by
        rw [hme, ← List.drop_eq_getElem_cons hi1, List.take_append_drop]
      have h3 : (A ++ m :: B).Perm (s.take (i + 1) ++ m :: s.drop (i + 2)) := by rw [← e, ← e1]; exact hp
      exact List.perm_middle.symm.trans (h3.trans List.perm_middle)
    have hoth : ∀ x ∈ A ++ B, x ≤ lo ∨ hi' ≤ x := by
      intro x hx
      rcases List.mem_append.1 (hAB.mem_iff.1 hx) with h | h
      · obtain ⟨j, hj, rfl⟩ := List.getElem_of_mem h
        rw [List.length_take] at hj
        rw [List.getElem_take]
        exact .inl (hle j (by omega) (by omega))
      · obtain ⟨j, hj, rfl⟩ := List.getElem_of_mem h
        rw [List.length_drop] at hj
        rw [List.getElem_drop]
        exact .inr (hge _ (by omega) (by omega))
    have hpl := hp.length_eq
    have hring : stepX p true = stepL (p ++ p.take 1) := by
      unfold stepX ring
      rw [if_pos (by simp; omega)]
    rw [hring] at hst
    have hlm : lo ≠ m := fun h => hmn (.inl (by omega))
    have hhm : hi' ≠ m := fun h => hmn (.inr (by omega))
    have hlAB : lo ∈ A ++ B := by
      rw [e] at hml
      rcases List.mem_append.1 hml with h | h
      · exact List.mem_append_left _ h
      · rcases List.mem_cons.1 h with h | h
        · exact absurd h hlm
        · exact List.mem_append_right _ h
    have hhAB : hi' ∈ A ++ B := by
      rw [e] at hmh
      rcases List.mem_append.1 hmh with h | h
      · exact List.mem_append_left _ h
      · rcases List.mem_cons.1 h with h | h
        · exact absurd h hhm
        · exact List.mem_append_right _ h
    cases A with
    | nil =>
      rw [List.nil_append] at hoth hlAB hhAB e
      refine bad B (path B hoth fun x hx => hst x ?_) hlAB hhAB
      rw [e]
      exact stepL_left _ _ _ (stepL_tail hx)
    | cons a A =>
      have ht : p.take 1 = [a] := by rw [e]; rfl
      rw [ht] at hst
      have hA : (∀ x ∈ a :: A, x ≤ lo) ∨ (∀ x ∈ a :: A, hi' ≤ x) := by
        refine path (a :: A) (fun x hx => hoth x (List.mem_append_left _ hx)) fun x hx => hst x ?_
        rw [e, List.append_assoc]
        exact stepL_left _ _ _ hx
      have hB : (∀ x ∈ B ++ [a], x ≤ lo) ∨ (∀ x ∈ B ++ [a], hi' ≤ x) := by
        refine path (B ++ [a]) (fun x hx => ?_) fun x hx => hst x ?_
        · rcases List.mem_append.1 hx with h | h
          · exact hoth x (List.mem_append_right _ h)
          · have : x = a := by simpa using h
            subst this
            exact hoth x (by simp)
        · rw [e, List.append_assoc]
          refine stepL_right _ _ _ ?_
          exact stepL_tail hx
      refine bad (a :: A ++ B) ?_ hlAB hhAB
      rcases hA with hA | hA
      · rcases hB with hB | hB
        · refine .inl fun x hx => ?_
          rcases List.mem_append.1 hx with h | h
          · exact hA x h
          · exact hB x (List.mem_append_left _ h)
        · have h1 := hA a (by simp)
          have h2 := hB a (by simp)
          omega
      · rcases hB with hB | hB
        · have h1 := hA a (by simp)
          have h2 := hB a (by simp)
          omega
        · refine .inr fun x hx => ?_
          rcases List.mem_append.1 hx with h | h
          · exact hA x h
          · exact hB x (List.mem_append_left _ h)
/-- An arrangement has it. -/
theorem reach_up {s : List Int} (r : Bool) (hs : s.Pairwise (· ≤ ·)) (h1 : 1 ≤ s.length) (h7 : s.length ≤ 7) : ∃ p, p.Perm s ∧ cM r p ≤ maxL (gaps s (reachN s r)) := by
  have hg : ∀ i, i + reachN s r < s.length → gapS s (reachN s r) i ≤ maxL (gaps s (reachN s r)) := fun i hi => maxL_mem (List.mem_map.2 ⟨i, by simp; omega, rfl⟩)
  have h0 := maxL_nn (gaps s (reachN s r))
  generalize maxL (gaps s (reachN s r)) = G at hg h0 ⊢
  have key : ∀ p : List Int, (∀ x ∈ stepX p r, x ≤ G) → cM r p ≤ G := fun p h => maxL_le.2 ⟨h0, h⟩
  match s, h1, h7 with
  | [a], _, _ =>
    cases r
    · refine ⟨[a], (((List.Perm.refl _).cons a).trans (List.perm_middle (a := a) (l₁ := []) (l₂ := [])).symm), key _ fun x hx => ?_⟩
      cases hx
    · refine ⟨[a], (((List.Perm.refl _).cons a).trans (List.perm_middle (a := a) (l₁ := []) (l₂ := [])).symm), key _ fun x hx => ?_⟩
      cases hx
  | [a, b], _, _ =>
    cases r
    · refine ⟨[a, b], ((((((List.Perm.refl _).cons b).trans (List.perm_middle (a := b) (l₁ := []) (l₂ := [])).symm)).cons a).trans (List.perm_middle (a := a) (l₁ := []) (l₂ := [b])).symm), key _ fun x hx => ?_⟩
      have g0 : b - a ≤ G := hg 0 (by simp [reachN])
      have hx : x ∈ [ab a b] := hx
      simp only [List.mem_cons, List.not_mem_nil, or_false] at hx
      simp only [List.pairwise_cons, List.mem_cons, List.not_mem_nil, or_false, forall_eq_or_imp, forall_eq] at hs
      subst hx; unfold ab; omega
    · refine ⟨[a, b], ((((((List.Perm.refl _).cons b).trans (List.perm_middle (a := b) (l₁ := []) (l₂ := [])).symm)).cons a).trans (List.perm_middle (a := a) (l₁ := []) (l₂ := [b])).symm), key _ fun x hx => ?_⟩
      have g0 : b - a ≤ G := hg 0 (by simp [reachN])
      have hx : x ∈ [ab a b, ab b a] := hx
      simp only [List.mem_cons, List.not_mem_nil, or_false] at hx
      simp only [List.pairwise_cons, List.mem_cons, List.not_mem_nil, or_false, forall_eq_or_imp, forall_eq] at hs
      rcases hx with rfl | rfl <;> (unfold ab; omega)
  | [a, b, c], _, _ =>
    cases r
    · refine ⟨[a, b, c], (((((((((List.Perm.refl _).cons c).trans (List.perm_middle (a := c) (l₁ := []) (l₂ := [])).symm)).cons b).trans (List.perm_middle (a := b) (l₁ := []) (l₂ := [c])).symm)).cons a).trans (List.perm_middle (a := a) (l₁ := []) (l₂ := [b, c])).symm), key _ fun x hx => ?_⟩
      have g0 : b - a ≤ G := hg 0 (by simp [reachN])
      have g1 : c - b ≤ G := hg 1 (by simp [reachN])
      have hx : x ∈ [ab a b, ab b c] := hx
      simp only [List.mem_cons, List.not_mem_nil, or_false] at hx
      simp only [List.pairwise_cons, List.mem_cons, List.not_mem_nil, or_false, forall_eq_or_imp, forall_eq] at hs
      rcases hx with rfl | rfl <;> (unfold ab; omega)
    · refine ⟨[a, c, b], (((((((((List.Perm.refl _).cons b).trans (List.perm_middle (a := b) (l₁ := []) (l₂ := [])).symm)).cons c).trans (List.perm_middle (a := c) (l₁ := [b]) (l₂ := [])).symm)).cons a).trans (List.perm_middle (a := a) (l₁ := []) (l₂ := [b, c])).symm), key _ fun x hx => ?_⟩
      have g0 : c - a ≤ G := hg 0 (by simp [reachN])
      have hx : x ∈ [ab a c, ab c b, ab b a] := hx
      simp only [List.mem_cons, List.not_mem_nil, or_false] at hx
      simp only [List.pairwise_cons, List.mem_cons, List.not_mem_nil, or_false, forall_eq_or_imp, forall_eq] at hs
      rcases hx with rfl | rfl | rfl <;> (unfold ab; omega)
  | [a, b, c, d], _, _ =>
    cases r
    · refine ⟨[a, b, c, d], ((((((((((((List.Perm.refl _).cons d).trans (List.perm_middle (a := d) (l₁ := []) (l₂ := [])).symm)).cons c).trans (List.perm_middle (a := c) (l₁ := []) (l₂ := [d])).symm)).cons b).trans (List.perm_middle (a := b) (l₁ := []) (l₂ := [c, d])).symm)).cons a).trans (List.perm_middle (a := a) (l₁ := []) (l₂ := [b, c, d])).symm), key _ fun x hx => ?_⟩
      have g0 : b - a ≤ G := hg 0 (by simp [reachN])
      have g1 : c - b ≤ G := hg 1 (by simp [reachN])
      have g2 : d - c ≤ G := hg 2 (by simp [reachN])
      have hx : x ∈ [ab a b, ab b c, ab c d] := hx
      simp only [List.mem_cons, List.not_mem_nil, or_false] at hx
      simp only [List.pairwise_cons, List.mem_cons, List.not_mem_nil, or_false, forall_eq_or_imp, forall_eq] at hs
      rcases hx with rfl | rfl | rfl <;> (unfold ab; omega)
    · refine ⟨[a, c, d, b], ((((((((((((List.Perm.refl _).cons b).trans (List.perm_middle (a := b) (l₁ := []) (l₂ := [])).symm)).cons d).trans (List.perm_middle (a := d) (l₁ := [b]) (l₂ := [])).symm)).cons c).trans (List.perm_middle (a := c) (l₁ := [b]) (l₂ := [d])).symm)).cons a).trans (List.perm_middle (a := a) (l₁ := []) (l₂ := [b, c, d])).symm), key _ fun x hx => ?_⟩
      have g0 : c - a ≤ G := hg 0 (by simp [reachN])
      have g1 : d - b ≤ G := hg 1 (by simp [reachN])
      have hx : x ∈ [ab a c, ab c d, ab d b, ab b a] := hx
      simp only [List.mem_cons, List.not_mem_nil, or_false] at hx
      simp only [List.pairwise_cons, List.mem_cons, List.not_mem_nil, or_false, forall_eq_or_imp, forall_eq] at hs
      rcases hx with rfl | rfl | rfl | rfl <;> (unfold ab; omega)
  | [a, b, c, d, e], _, _ =>
    cases r
    · refine ⟨[a, b, c, d, e], (((((((((((((((List.Perm.refl _).cons e).trans (List.perm_middle (a := e) (l₁ := []) (l₂ := [])).symm)).cons d).trans (List.perm_middle (a := d) (l₁ := []) (l₂ := [e])).symm)).cons c).trans (List.perm_middle (a := c) (l₁ := []) (l₂ := [d, e])).symm)).cons b).trans (List.perm_middle (a := b) (l₁ := []) (l₂ := [c, d, e])).symm)).cons a).trans (List.perm_middle (a := a) (l₁ := []) (l₂ := [b, c, d, e])).symm), key _ fun x hx => ?_⟩
      have g0 : b - a ≤ G := hg 0 (by simp [reachN])
      have g1 : c - b ≤ G := hg 1 (by simp [reachN])
      have g2 : d - c ≤ G := hg 2 (by simp [reachN])
      have g3 : e - d ≤ G := hg 3 (by simp [reachN])
      have hx : x ∈ [ab a b, ab b c, ab c d, ab d e] := hx
      simp only [List.mem_cons, List.not_mem_nil, or_false] at hx
      simp only [List.pairwise_cons, List.mem_cons, List.not_mem_nil, or_false, forall_eq_or_imp, forall_eq] at hs
      rcases hx with rfl | rfl | rfl | rfl <;> (unfold ab; omega)
    · refine ⟨[a, c, e, d, b], (((((((((((((((List.Perm.refl _).cons b).trans (List.perm_middle (a := b) (l₁ := []) (l₂ := [])).symm)).cons d).trans (List.perm_middle (a := d) (l₁ := [b]) (l₂ := [])).symm)).cons e).trans (List.perm_middle (a := e) (l₁ := [b, d]) (l₂ := [])).symm)).cons c).trans (List.perm_middle (a := c) (l₁ := [b]) (l₂ := [d, e])).symm)).cons a).trans (List.perm_middle (a := a) (l₁ := []) (l₂ := [b, c, d, e])).symm), key _ fun x hx => ?_⟩
      have g0 : c - a ≤ G := hg 0 (by simp [reachN])
      have g1 : d - b ≤ G := hg 1 (by simp [reachN])
      have g2 : e - c ≤ G := hg 2 (by simp [reachN])
      have hx : x ∈ [ab a c, ab c e, ab e d, ab d b, ab b a] := hx
      simp only [List.mem_cons, List.not_mem_nil, or_false] at hx
      simp only [List.pairwise_cons, List.mem_cons, List.not_mem_nil, or_false, forall_eq_or_imp, forall_eq] at hs
      rcases hx with rfl | rfl | rfl | rfl | rfl <;> (unfold ab; omega)
  | [a, b, c, d, e, f], _, _ =>
    cases r
    · refine ⟨[a, b, c, d, e, f], ((((((((((((((((((List.Perm.refl _).cons f).trans (List.perm_middle (a := f) (l₁ := []) (l₂ := [])).symm)).cons e).trans (List.perm_middle (a := e) (l₁ := []) (l₂ := [f])).symm)).cons d).trans (List.perm_middle (a := d) (l₁ := []) (l₂ := [e, f])).symm)).cons c).trans (List.perm_middle (a := c) (l₁ := []) (l₂ := [d, e, f])).symm)).cons b).trans (List.perm_middle (a := b) (l₁ := []) (l₂ := [c, d, e, f])).symm)).cons a).trans (List.perm_middle (a := a) (l₁ := []) (l₂ := [b, c, d, e, f])).symm), key _ fun x hx => ?_⟩
      have g0 : b - a ≤ G := hg 0 (by simp [reachN])
      have g1 : c - b ≤ G := hg 1 (by simp [reachN])
      have g2 : d - c ≤ G := hg 2 (by simp [reachN])
      have g3 : e - d ≤ G := hg 3 (by simp [reachN])
      have g4 : f - e ≤ G := hg 4 (by simp [reachN])
      have hx : x ∈ [ab a b, ab b c, ab c d, ab d e, ab e f] := hx
      simp only [List.mem_cons, List.not_mem_nil, or_false] at hx
      simp only [List.pairwise_cons, List.mem_cons, List.not_mem_nil, or_false, forall_eq_or_imp, forall_eq] at hs
      rcases hx with rfl | rfl | rfl | rfl | rfl <;> (unfold ab; omega)
    · refine ⟨[a, c, e, f, d, b], ((((((((((((((((((List.Perm.refl _).cons b).trans (List.perm_middle (a := b) (l₁ := []) (l₂ := [])).symm)).cons d).trans (List.perm_middle (a := d) (l₁ := [b]) (l₂ := [])).symm)).cons f).trans (List.perm_middle (a := f) (l₁ := [b, d]) (l₂ := [])).symm)).cons e).trans (List.perm_middle (a := e) (l₁ := [b, d]) (l₂ := [f])).symm)).cons c).trans (List.perm_middle (a := c) (l₁ := [b]) (l₂ := [d, e, f])).symm)).cons a).trans (List.perm_middle (a := a) (l₁ := []) (l₂ := [b, c, d, e, f])).symm), key _ fun x hx => ?_⟩
      have g0 : c - a ≤ G := hg 0 (by simp [reachN])
      have g1 : d - b ≤ G := hg 1 (by simp [reachN])
      have g2 : e - c ≤ G := hg 2 (by simp [reachN])
      have g3 : f - d ≤ G := hg 3 (by simp [reachN])
      have hx : x ∈ [ab a c, ab c e, ab e f, ab f d, ab d b, ab b a] := hx
      simp only [List.mem_cons, List.not_mem_nil, or_false] at hx
      simp only [List.pairwise_cons, List.mem_cons, List.not_mem_nil, or_false, forall_eq_or_imp, forall_eq] at hs
      rcases hx with rfl | rfl | rfl | rfl | rfl | rfl <;> (unfold ab; omega)
  | [a, b, c, d, e, f, g], _, _ =>
    cases r
    · refine ⟨[a, b, c, d, e, f, g], (((((((((((((((((((((List.Perm.refl _).cons g).trans (List.perm_middle (a := g) (l₁ := []) (l₂ := [])).symm)).cons f).trans (List.perm_middle (a := f) (l₁ := []) (l₂ := [g])).symm)).cons e).trans (List.perm_middle (a := e) (l₁ := []) (l₂ := [f, g])).symm)).cons d).trans (List.perm_middle (a := d) (l₁ := []) (l₂ := [e, f, g])).symm)).cons c).trans (List.perm_middle (a := c) (l₁ := []) (l₂ := [d, e, f, g])).symm)).cons b).trans (List.perm_middle (a := b) (l₁ := []) (l₂ := [c, d, e, f, g])).symm)).cons a).trans (List.perm_middle (a := a) (l₁ := []) (l₂ := [b, c, d, e, f, g])).symm), key _ fun x hx => ?_⟩
      have g0 : b - a ≤ G := hg 0 (by simp [reachN])
      have g1 : c - b ≤ G := hg 1 (by simp [reachN])
      have g2 : d - c ≤ G := hg 2 (by simp [reachN])
      have g3 : e - d ≤ G := hg 3 (by simp [reachN])
      have g4 : f - e ≤ G := hg 4 (by simp [reachN])
      have g5 : g - f ≤ G := hg 5 (by simp [reachN])
      have hx : x ∈ [ab a b, ab b c, ab c d, ab d e, ab e f, ab f g] := hx
      simp only [List.mem_cons, List.not_mem_nil, or_false] at hx
      simp only [List.pairwise_cons, List.mem_cons, List.not_mem_nil, or_false, forall_eq_or_imp, forall_eq] at hs
      rcases hx with rfl | rfl | rfl | rfl | rfl | rfl <;> (unfold ab; omega)
    · refine ⟨[a, c, e, g, f, d, b], (((((((((((((((((((((List.Perm.refl _).cons b).trans (List.perm_middle (a := b) (l₁ := []) (l₂ := [])).symm)).cons d).trans (List.perm_middle (a := d) (l₁ := [b]) (l₂ := [])).symm)).cons f).trans (List.perm_middle (a := f) (l₁ := [b, d]) (l₂ := [])).symm)).cons g).trans (List.perm_middle (a := g) (l₁ := [b, d, f]) (l₂ := [])).symm)).cons e).trans (List.perm_middle (a := e) (l₁ := [b, d]) (l₂ := [f, g])).symm)).cons c).trans (List.perm_middle (a := c) (l₁ := [b]) (l₂ := [d, e, f, g])).symm)).cons a).trans (List.perm_middle (a := a) (l₁ := []) (l₂ := [b, c, d, e, f, g])).symm), key _ fun x hx => ?_⟩
      have g0 : c - a ≤ G := hg 0 (by simp [reachN])
      have g1 : d - b ≤ G := hg 1 (by simp [reachN])
      have g2 : e - c ≤ G := hg 2 (by simp [reachN])
      have g3 : f - d ≤ G := hg 3 (by simp [reachN])
      have g4 : g - e ≤ G := hg 4 (by simp [reachN])
      have hx : x ∈ [ab a c, ab c e, ab e g, ab g f, ab f d, ab d b, ab b a] := hx
      simp only [List.mem_cons, List.not_mem_nil, or_false] at hx
      simp only [List.pairwise_cons, List.mem_cons, List.not_mem_nil, or_false, forall_eq_or_imp, forall_eq] at hs
      rcases hx with rfl | rfl | rfl | rfl | rfl | rfl | rfl <;> (unfold ab; omega)
  | [], h, _ => simp at h
  | _ :: _ :: _ :: _ :: _ :: _ :: _ :: _ :: t, _, h => simp at h
end Go.Vit
