/- A cigar more; other orders; in plain words. -/
import Derived.Test.YtffomiamkiakcaaW10
set_option linter.unusedSimpArgs false
set_option linter.unusedVariables false
namespace Go.Vit
open Go
theorem stepL_split : ∀ (A : List Int) (y : Int) (B : List Int), stepL (A ++ y :: B) = stepL (A ++ [y]) ++ stepL (y :: B)
  | [], y, B => rfl
  | [z], y, B => rfl
  | z :: w :: A, y, B => by
    show ab z w :: stepL (w :: A ++ y :: B) = ab z w :: stepL (w :: A ++ [y]) ++ stepL (y :: B)
    rw [stepL_split (w :: A) y B]; rfl
theorem ab_tri (a b c : Int) : ab a c ≤ ab a b + ab b c := by unfold ab; omega
theorem ab_self (a : Int) : ab a a = 0 := by unfold ab; omega
/-- One at the end more. -/
theorem sum_more {p : List Int} (x : Int) (r : Bool) (h : 1 ≤ p.length) : sumL (stepX p r) ≤ sumL (stepX (p ++ [x]) r) := by
  have hnn := sumL_nn (stepL_nn (ring (p ++ [x]) r))
  rcases List.eq_nil_or_concat p with rfl | ⟨q, z, hq⟩
  · simp at h
  · have hq' : p = q ++ [z] := by rw [hq, List.concat_eq_append]
    have hs : stepL (p ++ [x]) = stepL p ++ [ab z x] := by
      rw [hq', List.append_assoc]
      exact stepL_snoc q z x
    cases r with
    | false =>
      rw [stepX_flat (by simp), stepX_flat (by simp), hs, sumL_app, sumL_cons]
      have := ab_nn z x
      show _ ≤ _ + (_ + (0 : Int))
      omega
    | true =>
      by_cases h1 : p.length = 1
      · rw [stepX_flat (r := true) (by simp; omega)]
        have : stepL p = [] := by
          match p, h1 with
          | [y], _ => rfl
        rw [this]
        exact hnn
      · have h2 : 1 < p.length := by omega
        have hlx : (p ++ [x]).length = p.length + 1 := by simp
        rw [stepX_round h2, stepX_round (by omega), hs, sumL_app, sumL_app, sumL_app, sumL_cons, sumL_cons, sumL_cons]
        have e1 : (p ++ [x])[(p ++ [x]).length - 1]'(by omega) = x := by
          rw [List.getElem_append_right (by omega)]
          simp
        have e2 : (p ++ [x])[0]'(by omega) = p[0] := List.getElem_append_left (by omega)
        have e3 : p[p.length - 1] = z := by
          simp only [hq']
          rw [List.getElem_append_right (by simp)]
          simp
        rw [e1, e2, e3]
        have := ab_tri z x p[0]
        show _ + (_ + (0 : Int)) ≤ _ + (_ + (0 : Int)) + (_ + (0 : Int))
        omega
/-- One of them twice, beside each other. -/
theorem max_more {A B : List Int} {y : Int} (r : Bool) : cM r (A ++ y :: y :: B) ≤ cM r (A ++ y :: B) := by
  have hnn := maxL_nn (stepX (A ++ y :: B) r)
  refine maxL_le.2 ⟨hnn, fun s hs => ?_⟩
  have key : ∀ B' : List Int, s ∈ stepL (A ++ y :: y :: B') → (∀ t ∈ stepL (A ++ y :: B'), t ≤ cM r (A ++ y :: B)) → s ≤ cM r (A ++ y :: B) := by
    intro B' h1 h2
    rw [stepL_split] at h1
    rw [stepL_split] at h2
    rcases List.mem_append.1 h1 with h | h
    · exact h2 s (List.mem_append_left _ h)
    · have h : s ∈ ab y y :: stepL (y :: B') := h
      rcases List.mem_cons.1 h with rfl | h
      · rw [ab_self]; exact hnn
      · exact h2 s (List.mem_append_right _ h)
  cases r with
  | false =>
    rw [stepX_flat (by simp)] at hs
    exact key B hs fun t ht => maxL_mem (stepX_sub ht)
  | true =>
    by_cases h1 : A = [] ∧ B = []
    · obtain ⟨rfl, rfl⟩ := h1
      have hs : s ∈ [ab y y, ab y y] := hs
      have : s = 0 := by
        rw [ab_self] at hs
        simpa using hs
      rw [this]; exact hnn
    · have hlen : 1 < (A ++ y :: B).length := by
        rw [List.length_append, List.length_cons]
        rcases A with _ | ⟨a, A⟩
        · rcases B with _ | ⟨b, B⟩
          · exact absurd ⟨rfl, rfl⟩ h1
          · simp
        · simp; omega
      obtain ⟨f, hf1, hf2⟩ : ∃ f, (A ++ y :: y :: B).take 1 = [f] ∧ (A ++ y :: B).take 1 = [f] := by
        cases A with
        | nil => exact ⟨y, rfl, rfl⟩
        | cons a A => exact ⟨a, rfl, rfl⟩
      have e1 : stepX (A ++ y :: y :: B) true = stepL (A ++ y :: y :: (B ++ [f])) := by
        unfold stepX ring
        rw [if_pos (by simp; omega), hf1]; simp
      have e2 : stepX (A ++ y :: B) true = stepL (A ++ y :: (B ++ [f])) := by
        unfold stepX ring
        rw [if_pos (by simpa using hlen), hf2]; simp
      rw [e1] at hs
      refine key (B ++ [f]) hs fun t ht => ?_
      rw [← e2] at ht
      exact maxL_mem ht
theorem mostX_more {l : List Int} {x : Int} {r : Bool} (h : chkS l = 0) (h' : chkS (l ++ [x]) = 0) : mostX l r ≤ mostX (l ++ [x]) r := by
  unfold mostX
  rw [if_pos h, if_pos h']
  have hp := (wideL_ok r h).1
  have h2 := ((wideL_ok r h').2 (wideL l r ++ [x]) (hp.append_right _)).1
  have h3 := sum_more x r (p := wideL l r) (by have := hp.length_eq; have := (chkS_ok h).1; omega)
  unfold cS at h2
  omega
theorem leX_more {l : List Int} {y : Int} {r : Bool} (h : chkS l = 0) (h' : chkS (l ++ [y]) = 0) (hy : y ∈ l) : leX (l ++ [y]) r ≤ leX l r := by
  unfold leX
  rw [if_pos h, if_pos h']
  obtain ⟨hB, hc⟩ := boxL_ok (r := r) h
  obtain ⟨hB', hc'⟩ := boxL_ok (r := r) h'
  obtain ⟨A, B, e, _⟩ := mem_first (hB.1.mem_iff.2 hy)
  have hq : (A ++ y :: y :: B).Perm (l ++ [y]) := by
    have h1 : (A ++ y :: B).Perm l := e ▸ hB.1
    exact (List.perm_middle.trans (h1.cons y)).trans (List.perm_append_singleton y l).symm
  have h2 := (hB'.2 _ hq).1
  have h3 := max_more (A := A) (B := B) (y := y) r
  rw [← hc, ← hc', e]
  exact Int.le_trans h2 h3
theorem chkS_more {l : List Int} {x : Int} (h : chkS l = 0) (h6 : l.length ≤ 6) (hx : 0 ≤ x ∧ x ≤ 60) : chkS (l ++ [x]) = 0 := by
  obtain ⟨h1, h7, hle⟩ := chkS_ok h
  refine chkS_of (by simp) (by simp; omega) fun y hy => ?_
  rcases List.mem_append.1 hy with hy | hy
  · exact hle y hy
  · have : y = x := by simpa using hy
    rw [this]; exact hx
end Go.Vit
