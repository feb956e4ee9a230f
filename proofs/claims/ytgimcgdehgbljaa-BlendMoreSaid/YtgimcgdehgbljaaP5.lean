/- Plain laws: how many blends, the round, numbers and places. -/
import Derived.Test.YtgimcgdehgbljaaP4
set_option linter.unusedSimpArgs false
set_option linter.unusedVariables false
namespace Go.Vit
def chsT (n : Nat) : Nat → Nat
  | 0 => 1
  | i + 1 => chsT n i * (n - i) / (i + 1)
def chs (n k : Nat) : Nat := if n < k then 0 else chsT n k
theorem chsT_le : ∀ n, n < 12 → ∀ k, k < 12 → k ≤ n → 1 ≤ chsT n k ∧ chsT n k ≤ 1000 := by decide +kernel
theorem chs_le {n k : Nat} (hn : n < 12) : chs n k ≤ 1000 := by
  unfold chs
  split
  · omega
  · exact (chsT_le n hn k (by omega) (by omega)).2
theorem chs_pos {n k : Nat} (hn : n < 12) (hk : k ≤ n) : 1 ≤ chs n k := by
  unfold chs
  rw [if_neg (by omega)]
  exact (chsT_le n hn k (by omega) hk).1
/-- The place of a blend. -/
def numK (l : List Nat) : Nat → Int
  | 0 => 0
  | k + 1 => (chs (l.getD k 0 + 1) (k + 1) : Int) - 1 - numK l k
/-- The greatest leaf of a blend of k + 1 leaves with the place n. -/
def topL (k n : Nat) : Nat := ((List.range 10).find? fun x => decide (k ≤ x) && decide (n < chs (x + 1) (k + 1))).getD 10
def nthK : Nat → Nat → List Nat
  | 0, _ => []
  | k + 1, n => nthK k (chs (topL k n + 1) (k + 1) - 1 - n) ++ [topL k n]
/-- The round. -/
def rnd : Nat → Nat → List (List Nat)
  | _, 0 => [[]]
  | 0, _ + 1 => []
  | n + 1, k + 1 => if k = n then [List.range (n + 1)] else rnd n (k + 1) ++ (rnd n k).reverse.map (· ++ [n])
def rndOk (N k : Nat) : Bool :=
  decide ((rnd N k).length = chs N k) && (List.range (chs N k)).all fun i => decide (nthK k i = (rnd N k).getD i []) && decide (numK ((rnd N k).getD i []) k = i)
theorem rnd_all : ∀ N, N < 11 → ∀ k, k < 11 → k ≤ N → rndOk N k = true := by decide +kernel
theorem rnd_len {N k : Nat} (hN : N ≤ 10) (hk : k ≤ N) : (rnd N k).length = chs N k := by
  have := rnd_all N (by omega) k (by omega) hk
  unfold rndOk at this
  simp only [Bool.and_eq_true, decide_eq_true_eq] at this
  exact this.1
theorem rnd_at {N k i : Nat} (hN : N ≤ 10) (hk : k ≤ N) (hi : i < chs N k) : nthK k i = (rnd N k).getD i [] ∧ numK ((rnd N k).getD i []) k = i := by
  have := rnd_all N (by omega) k (by omega) hk
  unfold rndOk at this
  simp only [Bool.and_eq_true, decide_eq_true_eq, List.all_eq_true] at this
  exact this.2 i (List.mem_range.2 hi)
theorem range_bl (n : Nat) : Bl n n (List.range n) := ⟨range_asc n, fun x hx => List.mem_range.1 hx, List.length_range⟩
theorem Bl.snoc {n k : Nat} {l : List Nat} (h : Bl n k l) : Bl (n + 1) (k + 1) (l ++ [n]) := by
  refine ⟨List.pairwise_append.2 ⟨h.asc, List.pairwise_singleton _ _, fun x hx y hy => ?_⟩, fun x hx => ?_, by rw [List.length_append, h.len]; rfl⟩
  · rw [List.mem_singleton] at hy; subst hy; exact h.lt x hx
  · rcases List.mem_append.1 hx with hx | hx
    · have := h.lt x hx; omega
    · rw [List.mem_singleton] at hx; omega
theorem rnd_bl : ∀ (N k : Nat), k ≤ N → ∀ l ∈ rnd N k, Bl N k l
  | _, 0, _, l, h => by
    have h : l ∈ [[]] := by
      unfold rnd at h; exact h
    rw [List.mem_singleton] at h
    subst h
    exact ⟨List.Pairwise.nil, fun x hx => (by cases hx), rfl⟩
  | 0, k + 1, hk, l, h => by omega
  | n + 1, k + 1, hk, l, h => by
    unfold rnd at h
    split at h
    · rename_i hkn
      rw [List.mem_singleton] at h
      subst h; subst hkn
      exact range_bl _
    · rename_i hkn
      rcases List.mem_append.1 h with h | h
      · have := rnd_bl n (k + 1) (by omega) l h
        exact ⟨this.asc, fun x hx => by have := this.lt x hx; omega, this.len⟩
      · obtain ⟨l', h1, rfl⟩ := List.mem_map.1 h
        exact (rnd_bl n k (by omega) l' (List.mem_reverse.1 h1)).snoc
theorem bl_full {n : Nat} {l : List Nat} (h : Bl n n l) : l = List.range n := by
  have h1 := h.eq
  have h2 : l.Sublist (List.range n) := by
    conv => lhs; rw [← h1]
    exact List.filter_sublist
  exact h2.eq_of_length (by rw [h.len, List.length_range])
theorem bl_rnd : ∀ (N k : Nat) (l : List Nat), Bl N k l → l ∈ rnd N k
  | _, 0, l, h => by
    have := List.length_eq_zero_iff.1 h.len
    subst this
    unfold rnd; exact List.mem_singleton.2 rfl
  | 0, k + 1, l, h => by
    have h0 := h.len
    cases l with
    | nil => cases h0
    | cons x l => have := h.lt x (List.mem_cons_self ..); omega
  | n + 1, k + 1, l, h => by
    unfold rnd
    split
    · rename_i hkn
      subst hkn
      exact List.mem_singleton.2 (bl_full h)
    · rename_i hkn
      rw [List.mem_append]
      have hle := h.le
      have hne : l ≠ [] := fun e => by have := h.len; rw [e] at this; cases this
      have hsp := List.dropLast_concat_getLast hne
      have hlast := h.lt _ (List.getLast_mem hne)
      have hasc := h.asc
      rw [← hsp, List.pairwise_append] at hasc
      by_cases hn : l.getLast hne = n
      · right
        refine List.mem_map.2 ⟨l.dropLast, List.mem_reverse.2 (bl_rnd n k _ ⟨hasc.1, fun x hx => ?_, ?_⟩), ?_⟩
        · have := hasc.2.2 x hx _ (List.mem_singleton.2 rfl); omega
        · rw [List.length_dropLast, h.len]; rfl
        · rw [← hn]; exact hsp
      · left
        refine bl_rnd n (k + 1) l ⟨h.asc, fun x hx => ?_, h.len⟩
        rw [← hsp] at hx
        rcases List.mem_append.1 hx with hx | hx
        · have := hasc.2.2 x hx _ (List.mem_singleton.2 rfl); omega
        · rw [List.mem_singleton] at hx; omega
/-- The place of a blend in its round. -/
theorem bl_num {N k : Nat} {l : List Nat} (hN : N ≤ 10) (h : Bl N k l) : ∃ i, i < chs N k ∧ (rnd N k).getD i [] = l ∧ numK l k = i ∧ nthK k i = l := by
  have hm := bl_rnd N k l h
  obtain ⟨i, hi, he⟩ := List.getElem_of_mem hm
  rw [rnd_len hN h.le] at hi
  have h1 : (rnd N k).getD i [] = l := by rw [List.getD_eq_getElem?_getD, List.getElem?_eq_getElem (by rw [rnd_len hN h.le]; exact hi)]; exact he
  have h2 := rnd_at hN h.le hi
  rw [h1] at h2
  exact ⟨i, hi, h1, h2.2, h2.1⟩
theorem nth_bl {N k i : Nat} (hN : N ≤ 10) (hk : k ≤ N) (hi : i < chs N k) : Bl N k (nthK k i) := by
  rw [(rnd_at hN hk hi).1]
  refine rnd_bl N k hk _ ?_
  rw [List.getD_eq_getElem?_getD, List.getElem?_eq_getElem (by rw [rnd_len hN hk]; exact hi)]
  exact List.getElem_mem _
end Go.Vit
