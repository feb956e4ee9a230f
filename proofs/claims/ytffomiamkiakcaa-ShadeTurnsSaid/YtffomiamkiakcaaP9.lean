/- The triangle, by cells; turning orders in plain words, of ints. -/
import Derived.Test.YtffomiamkiakcaaP4
set_option linter.unusedSimpArgs false
set_option linter.unusedVariables false
set_option maxRecDepth 100000
namespace Go.Vit
open Go
/-- The cells, when row N has its numbers from j on. -/
def triS (N j : Nat) : List Int := (List.range 100).map fun c => if c / 10 < N ∨ (c / 10 = N ∧ j ≤ c % 10) then (triN (c / 10) (c % 10) : Int) else 0
theorem triS_len (N j : Nat) : (triS N j).length = 100 := by unfold triS; simp
theorem triS_all : ((List.range 10).all fun N => (List.range 10).all fun j => decide (2 ≤ N → j + 2 ≤ N → ((triS N (j + 1))[N * 10 + (j + 1)]? = some (triN N (j + 1) : Int) ∧ (triS N (j + 1))[(N - 1) * 10 + (N - 2 - j)]? = some (triN (N - 1) (N - 2 - j) : Int) ∧ triN N (j + 1) + triN (N - 1) (N - 2 - j) = triN N j ∧ triN N (j + 1) ≤ 100000 ∧ triN (N - 1) (N - 2 - j) ≤ 100000 ∧
    (triS N (j + 1)).set (N * 10 + j) (triN N j : Int) = triS N j))) = true := by decide +kernel
theorem triS_step {N j : Nat} (hN : N < 10) (h2 : 2 ≤ N) (hj : j + 2 ≤ N) : (triS N (j + 1))[N * 10 + (j + 1)]? = some (triN N (j + 1) : Int) ∧ (triS N (j + 1))[(N - 1) * 10 + (N - 2 - j)]? = some (triN (N - 1) (N - 2 - j) : Int) ∧ triN N (j + 1) + triN (N - 1) (N - 2 - j) = triN N j ∧ triN N (j + 1) ≤ 100000 ∧ triN (N - 1) (N - 2 - j) ≤ 100000 ∧
    (triS N (j + 1)).set (N * 10 + j) (triN N j : Int) = triS N j :=
  of_decide_eq_true (List.all_eq_true.1 (List.all_eq_true.1 triS_all N (List.mem_range.2 hN)) j (List.mem_range.2 (by omega))) h2 hj
theorem triS_row : ((List.range 10).all fun N => decide (2 ≤ N → triS N 0 = triS (N + 1) N)) = true := by decide +kernel
theorem triS_next {N : Nat} (hN : N < 10) (h2 : 2 ≤ N) : triS N 0 = triS (N + 1) N := of_decide_eq_true (List.all_eq_true.1 triS_row N (List.mem_range.2 hN)) h2
theorem triS_init : (List.replicate 100 (0 : Int)).set 10 1 = triS 2 1 := by decide +kernel
theorem triS_end : triS 10 9 = triL := by decide +kernel
/-- A row, a number of it. -/
theorem triL_get {n k : Nat} (hn : n < 10) (hk : k < 10) : ((triL.drop (n * 10)).take 10)[k]? = some (triN n k : Int) := by
  rw [List.getElem?_take, if_pos hk, List.getElem?_drop]
  unfold triL
  rw [List.getElem?_map, List.getElem?_range (by omega), Option.map_some, show (n * 10 + k) / 10 = n by omega, show (n * 10 + k) % 10 = k by omega]
theorem tri_big : ((List.range 10).all fun n => (List.range 10).all fun k => decide (triN n k ≤ 100000)) = true := by decide +kernel
theorem tri_le {n k : Nat} (hn : n < 10) (hk : k < 10) : triN n k ≤ 100000 := of_decide_eq_true (List.all_eq_true.1 (List.all_eq_true.1 tri_big n (List.mem_range.2 hn)) k (List.mem_range.2 hk))
theorem tri_zero {n k : Nat} (h : n ≤ k) : triN n k = 0 := by unfold triN; rw [if_pos (.inr h)]
theorem tri_some {n k : Nat} (h : k < n) : triN n k = Wt (n - 1) (n - 1 - k) := by unfold triN; rw [if_neg (by omega)]
theorem sm1_range_le {f : Nat → Nat} {B : Nat} (n : Nat) (h : ∀ k, k < n → f k ≤ B) : sm1 f (List.range n) ≤ n * B := by
  induction n with
  | zero => exact Nat.zero_le _
  | succ n ih =>
    rw [List.range_succ, sm1_app]
    have h1 := ih fun k hk => h k (by omega)
    have h2 := h n (by omega)
    have h3 : sm1 f [n] = f n := by show f n + 0 = f n; omega
    rw [h3, Nat.succ_mul]; omega
/-- All of a number of cigars. -/
theorem cnt_all {n : Nat} (h : 1 ≤ n) : cntR n n [] = sm1 (triN n) (List.range n) := by
  obtain ⟨m, rfl⟩ : ∃ m, n = m + 1 := ⟨n - 1, by omega⟩
  rw [cntR_succ rfl]
  have hl : lft (m + 1) [] = List.range (m + 1) := lft_nil _
  rw [hl]
  refine sm1_congr fun x hx => ?_
  have hx := List.mem_range.1 hx
  have hsplit : List.range (m + 1) = (List.range x) ++ x :: (List.range' (x + 1) (m - x)) := by
    rw [List.range_eq_range', List.range_eq_range']
    have e : List.range' 0 (m + 1) = List.range' 0 x ++ List.range' (0 + 1 * x) (m + 1 - x) := by
      rw [List.range'_append]; congr 1; omega
    rw [e, show 0 + 1 * x = x by omega, show m + 1 - x = (m - x) + 1 by omega, List.range'_succ]
  have h2 := cnt_next (n := m + 1) (m := m) (b := []) (A := List.range x) (D := List.range' (x + 1) (m - x)) (x := x) rfl (by rw [hl]; simp) (by rw [hl]; exact hsplit)
  have e0 : nxt [] x (List.range x) (List.range' (x + 1) (m - x)) m = Wt m (List.range' (x + 1) (m - x)).length := rfl
  rw [h2, e0, List.length_range', tri_some hx]
  simp only [Nat.add_sub_cancel]
theorem tri_ten : ((List.range 10).all fun n => decide (sm1 (triN n) (List.range 10) = sm1 (triN n) (List.range n))) = true := by decide +kernel
theorem cnt_ten {n : Nat} (h : 1 ≤ n) (hn : n < 10) : sm1 (triN n) (List.range 10) = cntR n n [] := by
  rw [cnt_all h]
  exact of_decide_eq_true (List.all_eq_true.1 tri_ten n (List.mem_range.2 hn))
/-- How many begin with a number. -/
theorem cnt_begin {n x : Nat} (hx : x < n) : cntR n (n - 1) [x] = triN n x := by
  obtain ⟨m, rfl⟩ : ∃ m, n = m + 1 := ⟨n - 1, by omega⟩
  have hl : lft (m + 1) [] = List.range (m + 1) := lft_nil _
  have hsplit : List.range (m + 1) = (List.range x) ++ x :: (List.range' (x + 1) (m - x)) := by
    rw [List.range_eq_range', List.range_eq_range']
    have e : List.range' 0 (m + 1) = List.range' 0 x ++ List.range' (0 + 1 * x) (m + 1 - x) := by
      rw [List.range'_append]; congr 1; omega
    rw [e, show 0 + 1 * x = x by omega, show m + 1 - x = (m - x) + 1 by omega, List.range'_succ]
  have h2 := cnt_next (n := m + 1) (m := m) (b := []) (A := List.range x) (D := List.range' (x + 1) (m - x)) (x := x) rfl (by rw [hl]; simp) (by rw [hl]; exact hsplit)
  have e0 : nxt [] x (List.range x) (List.range' (x + 1) (m - x)) m = Wt m (List.range' (x + 1) (m - x)).length := rfl
  have h3 : cntR (m + 1) m [x] = Wt m (List.range' (x + 1) (m - x)).length := by rw [← e0, ← h2]; rfl
  rw [show m + 1 - 1 = m from rfl, h3, List.length_range', tri_some hx]
  simp only [Nat.add_sub_cancel]
theorem cntR_le {n : Nat} : ∀ (m : Nat) (b : List Nat), cntR n m b ≤ n ^ m
  | 0, b => by
    show (if trnB true b = true then 1 else 0) ≤ 1
    split <;> omega
  | m + 1, b => by
    show (if trnB true b = true then sm1 (fun x => if x ∈ b then 0 else cntR n m (b ++ [x])) (List.range n) else 0) ≤ _
    split
    · rw [Nat.pow_succ, Nat.mul_comm]
      exact sm1_range_le n fun k hk => by
        split
        · exact Nat.zero_le _
        · exact cntR_le m _
    · exact Nat.zero_le _
end Go.Vit
