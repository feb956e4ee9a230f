/- The turning order with a number, and the number of a turning order; in plain words. -/
import Derived.Test.YtffomiamkiakcaaP9
set_option linter.unusedSimpArgs false
set_option linter.unusedVariables false
namespace Go.Vit
open Go
/-- Going through so many, each counting for some. -/
def scanA (f : Nat → Nat) : List Nat → Nat → Option (Nat × Nat)
  | [], _ => none
  | x :: l, q => if q < f x then some (x, q) else scanA f l (q - f x)
theorem scanA_some {f : Nat → Nat} : ∀ (l : List Nat) (q : Nat), q < sm1 f l → ∃ A x D q', l = A ++ x :: D ∧ scanA f l q = some (x, q') ∧ q' < f x
  | [], q, h => absurd h (Nat.not_lt_zero _)
  | y :: l, q, h => by
    by_cases hq : q < f y
    · exact ⟨[], y, l, q, rfl, if_pos hq, hq⟩
    · have h' : q < f y + sm1 f l := h
      obtain ⟨A, x, D, q', h1, h2, h3⟩ := scanA_some (f := f) l (q - f y) (by omega)
      refine ⟨y :: A, x, D, q', by rw [h1]; rfl, ?_, h3⟩
      show (if q < f y then some (y, q) else scanA f l (q - f y)) = _
      rw [if_neg hq]; exact h2
def atR (n : Nat) : Nat → List Nat → Nat → List Nat
  | 0, b, _ => b
  | m + 1, b, q => match scanA (fun x => cntR n m (b ++ [x])) (lft n b) q with
    | none => b
    | some (x, q') => atR n m (b ++ [x]) q'
/-- One number of it. -/
theorem at_step {n m q : Nat} {b : List Nat} (ht : trnB true b = true) (hq : q < cntR n (m + 1) b) : ∃ A x D q', lft n b = A ++ x :: D ∧ scanA (fun x => cntR n m (b ++ [x])) (lft n b) q = some (x, q') ∧ q' < cntR n m (b ++ [x]) ∧ atR n (m + 1) b q = atR n m (b ++ [x]) q' ∧ trnB true (b ++ [x]) = true := by
  rw [cntR_succ ht] at hq
  obtain ⟨A, x, D, q', h1, h2, h3⟩ := scanA_some _ _ hq
  refine ⟨A, x, D, q', h1, h2, h3, ?_, ?_⟩
  · show (match scanA (fun x => cntR n m (b ++ [x])) (lft n b) q with
      | none => b
      | some (x, q') => atR n m (b ++ [x]) q') = _
    rw [h2]
  · cases h : trnB true (b ++ [x]) with
    | true => rfl
    | false =>
      have h3 : q' < cntR n m (b ++ [x]) := h3
      rw [cntR_no h] at h3; omega
/-- The number of an order. -/
def numN (l : List Nat) : Nat → Nat
  | 0 => 0
  | i + 1 => numN l i + sm1 (fun x => cntR l.length (l.length - i - 1) (l.take i ++ [x])) ((lft l.length (l.take i)).filter fun x => decide (x < l.getD i 0))
theorem lft_len {n : Nat} {l : List Nat} (hnd : l.Nodup) (hlt : ∀ x ∈ l, x < n) : ∀ i, i ≤ l.length → (lft n (l.take i)).length + i = n
  | 0, _ => by
    show (lft n []).length + 0 = n
    rw [lft_nil, List.length_range]; rfl
  | i + 1, h => by
    have hi : i < l.length := by omega
    have ih := lft_len hnd hlt i (by omega)
    have hm : l[i] ∈ lft n (l.take i) := lft_mem.2 ⟨hlt _ (List.getElem_mem hi), fun hmem => by
      obtain ⟨j, hj, he⟩ := List.getElem_of_mem hmem
      rw [List.length_take] at hj
      rw [List.getElem_take] at he
      have := (List.pairwise_iff_getElem.1 hnd) j i (by omega) hi (by omega)
      exact this he⟩
    obtain ⟨A, D, e, _⟩ := List.eq_append_cons_of_mem hm
    have h2 := lft_snoc e
    rw [List.take_add_one, List.getElem?_eq_getElem hi]
    show (lft n (l.take i ++ [l[i]])).length + (i + 1) = n
    rw [h2]
    rw [e] at ih
    simp at ih ⊢
    omega
theorem lft_at {n : Nat} {l : List Nat} (hnd : l.Nodup) (hlt : ∀ x ∈ l, x < n) {i : Nat} (hi : i < l.length) : ∃ A D, lft n (l.take i) = A ++ l[i] :: D ∧ (lft n (l.take i)).filter (fun x => decide (x < l[i])) = A ∧ (∀ x ∈ A, x < l[i]) ∧ A.length + D.length + 1 + i = n := by
  have hm : l[i] ∈ lft n (l.take i) := lft_mem.2 ⟨hlt _ (List.getElem_mem hi), fun hmem => by
    obtain ⟨j, hj, he⟩ := List.getElem_of_mem hmem
    rw [List.length_take] at hj
    rw [List.getElem_take] at he
    have := (List.pairwise_iff_getElem.1 hnd) j i (by omega) hi (by omega)
    exact this he⟩
  obtain ⟨A, D, e, _⟩ := List.eq_append_cons_of_mem hm
  have hs := lft_sorted n (l.take i)
  have hl := lft_len hnd hlt i (by omega)
  rw [e] at hs hl
  rw [List.pairwise_append] at hs
  obtain ⟨_, h2, h3⟩ := hs
  have hA : ∀ x ∈ A, x < l[i] := fun x hx => h3 x hx _ (by simp)
  refine ⟨A, D, e, ?_, hA, by simp at hl; omega⟩
  rw [e, List.filter_append, List.filter_cons_of_neg (by simp)]
  rw [List.filter_eq_self.2 fun x hx => decide_eq_true (hA x hx), List.filter_eq_nil_iff.2 fun x hx => by
    have := (List.pairwise_cons.1 h2).1 x hx
    simp; omega, List.append_nil]
theorem numN_step {l : List Nat} {i : Nat} (hi : i < l.length) {A : List Nat} (hf : (lft l.length (l.take i)).filter (fun x => decide (x < l[i])) = A) : numN l (i + 1) = numN l i + sm1 (fun x => cntR l.length (l.length - i - 1) (l.take i ++ [x])) A := by
  show numN l i + sm1 _ ((lft l.length (l.take i)).filter fun x => decide (x < l.getD i 0)) = _
  have hg : l.getD i 0 = l[i] := by rw [List.getD_eq_getElem?_getD, List.getElem?_eq_getElem hi]; rfl
  rw [hg, hf]
theorem sm1_le {f : Nat → Nat} {B : Nat} : ∀ (l : List Nat), (∀ x ∈ l, f x ≤ B) → sm1 f l ≤ l.length * B
  | [], _ => Nat.zero_le _
  | x :: l, h => by
    have h1 := h x (by simp)
    have h2 := sm1_le l fun y hy => h y (List.mem_cons_of_mem _ hy)
    show f x + sm1 f l ≤ (l.length + 1) * B
    rw [Nat.succ_mul]; omega
theorem cnt_bd {n m : Nat} {b : List Nat} (hn : n ≤ 9) (hm : m ≤ 9) : cntR n m b ≤ 387420489 := by
  have h1 := cntR_le (n := n) m b
  have h2 : n ^ m ≤ 9 ^ 9 := Nat.le_trans (Nat.pow_le_pow_left hn m) (Nat.pow_le_pow_right (by omega) hm)
  have h99 : (9 : Nat) ^ 9 = 387420489 := by decide
  omega
theorem numN_bd {l : List Nat} (h9 : l.length ≤ 9) : ∀ i, numN l i ≤ i * 3486784401
  | 0 => Nat.zero_le _
  | i + 1 => by
    have ih := numN_bd h9 i
    have hle : sm1 (fun x => cntR l.length (l.length - i - 1) (l.take i ++ [x])) ((lft l.length (l.take i)).filter fun x => decide (x < l.getD i 0)) ≤ 9 * 387420489 := by
      have h1 := sm1_le (f := fun x => cntR l.length (l.length - i - 1) (l.take i ++ [x])) ((lft l.length (l.take i)).filter fun x => decide (x < l.getD i 0)) fun x _ => cnt_bd h9 (by omega)
      have h2 : ((lft l.length (l.take i)).filter fun x => decide (x < l.getD i 0)).length ≤ 9 := by
        have h3 := List.length_filter_le (fun x => decide (x < l.getD i 0)) (lft l.length (l.take i))
        have h4 : (lft l.length (l.take i)).length ≤ l.length := by
          have := List.length_filter_le (fun x => decide (x ∉ l.take i)) (List.range l.length)
          rw [List.length_range] at this
          exact this
        omega
      exact Nat.le_trans h1 (Nat.mul_le_mul_right _ h2)
    show numN l i + _ ≤ _
    omega
end Go.Vit
