/- Walks of the group Bond, numbered for this seat by a program: W6. -/
import Derived.Test.YtppallabmjdolaaGreatDoorB6
set_option linter.unusedSimpArgs false
set_option linter.unusedVariables false
namespace Go.Vit
open Go Go.Proofs
attribute [local irreducible] runT loopS
def nn (l : List Int) : List Nat := l.map Int.toNat
theorem nn_length (l : List Int) : (nn l).length = l.length := List.length_map _
theorem pow_le64 {a : Nat} (h : a ≤ 6) : (2 : Int) ^ a ≤ 64 ∧ (1 : Int) ≤ 2 ^ a ∧ ((2 ^ a : Nat) : Int) = 2 ^ a ∧ 2 ^ a ≤ 64 := by
  have : a = 0 ∨ a = 1 ∨ a = 2 ∨ a = 3 ∨ a = 4 ∨ a = 5 ∨ a = 6 := by omega
  rcases this with rfl | rfl | rfl | rfl | rfl | rfl | rfl <;> decide
/-- What a sound circle is. -/
theorem chk_valid {h : Int} {l : List Int} (hc : chk h l = 0) : ∃ a : Nat, h = a ∧ 1 ≤ a ∧ a ≤ 6 ∧ ci (nn l) = l ∧ l.length ≤ 64 ∧ (∀ g ∈ nn l, g < 2 ^ a) ∧ ∀ g ∈ nn l, g < 64 := by
  unfold chk at hc
  split at hc
  · rename_i h1
    split at hc
    · cases hc
    · rename_i h2
      split at hc
      · cases hc
      · rename_i h3
        have hp := pow_le64 (a := h.toNat) (by omega)
        have h4 : ∀ x ∈ l, 0 ≤ x ∧ x ≤ 2 ^ h.toNat - 1 := fun x hx => by
          have h5 : ¬ (l.any (fun g => !decide (0 ≤ g ∧ g ≤ 2 ^ h.toNat - 1)) = true) := h3
          rw [List.any_eq_true] at h5
          refine Classical.byContradiction fun hn => h5 ⟨x, hx, ?_⟩
          rw [decide_eq_false hn]; rfl
        have h6 : ∀ g ∈ nn l, g < 2 ^ h.toNat := fun g hg => by
          simp only [nn, List.mem_map] at hg
          obtain ⟨x, hx, rfl⟩ := hg
          have := h4 x hx
          omega
        refine ⟨h.toNat, by omega, by omega, by omega, ?_, by omega, h6, fun g hg => Nat.lt_of_lt_of_le (h6 g hg) hp.2.2.2⟩
        unfold ci nn
        rw [List.map_map]
        refine (List.map_congr_left fun x hx => ?_).trans (List.map_id l)
        have := h4 x hx
        simp only [Function.comp_apply, id_eq]
        omega
  · cases hc
theorem chk_ne {h : Int} {l : List Int} (hc : ¬ chk h l = 0) : chk h l = 1 ∨ chk h l = 2 ∨ chk h l = 3 := by
  unfold chk at hc ⊢
  split
  · split
    · exact .inr (.inr rfl)
    · split
      · exact .inr (.inl rfl)
      · rename_i h1 h2 h3
        rw [if_pos h1, if_neg h2, if_neg h3] at hc
        exact absurd rfl hc
  · exact .inl rfl
section
variable {lf n L : Nat} {m : Mem} {k : Value → Mem → Option Unit}
theorem shl1 {a : Nat} (ha : a ≤ 6) : abin Tryz.prog .shl 3 (.int .i64 1) (.int .i64 (a : Int)) = some (.int .i64 ((2 ^ a : Nat) : Int)) := by
  have hp := pow_le64 ha
  rw [shl_e u3 (x := 1) (n := a) (by omega) (by omega) (by omega), Int.one_mul, hp.2.2.1]
/-- The members of an ascending row for which a question is answered by yes. -/
theorem range_filter_succ (p : Nat → Bool) (i : Nat) : (List.range (i + 1)).filter p = if p i = true then (List.range i).filter p ++ [i] else (List.range i).filter p := by
  rw [List.range_succ, List.filter_append]
  by_cases h : p i = true
  · rw [if_pos h]; simp [h]
  · rw [if_neg h]; simp [h]
theorem range_filter_len (p : Nat → Bool) (i : Nat) : ((List.range i).filter p).length ≤ i := by
  have := List.length_filter_le p (List.range i)
  rwa [List.length_range] at this
theorem range_all_succ (p : Nat → Bool) (i : Nat) : (List.range (i + 1)).all p = ((List.range i).all p && p i) := by
  rw [List.range_succ, List.all_append]; simp
def noneBelow (P : Nat → Bool) (g o : Nat) : Bool := !(!decide (o = g) && sub o g && P o)
def leastB (P : Nat → Bool) (N g : Nat) : Bool := P g && (List.range N).all (noneBelow P g)
end
end Go.Vit
