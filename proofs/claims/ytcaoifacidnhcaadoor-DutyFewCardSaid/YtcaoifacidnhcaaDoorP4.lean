/- Plain: all lists of so many parts that make a fraction. -/
import Derived.Test.YtcaoifacidnhcaaDoorP2
set_option linter.unusedSimpArgs false
set_option linter.unusedVariables false
namespace Go.Vit
/-- Lists of n + 1 parts from fr on that make a by b. -/
def ways : Nat → Nat → Nat → Nat → List (List Nat)
  | 0, a, b, fr => if b % a = 0 ∧ fr ≤ b / a ∧ b / a ≤ 2000 then [[b / a]] else []
  | n + 1, a, b, fr => (List.range' (max fr (b / a + 1)) (2001 - max fr (b / a + 1))).flatMap fun p => if p * a < (n + 2) * b then (ways n (a * p - b) (b * p) (p + 1)).map (p :: ·) else []
def bodyW (n a b p : Nat) : List (List Nat) := if p * a < (n + 2) * b then (ways n (a * p - b) (b * p) (p + 1)).map (p :: ·) else []
def tlW (n a b p : Nat) : List (List Nat) := (List.range' p (2001 - p)).flatMap (bodyW n a b)
theorem ways_succ (n a b fr : Nat) : ways (n + 1) a b fr = tlW n a b (max fr (b / a + 1)) := rfl
theorem tlW_step {n a b p : Nat} (hp : p ≤ 2000) : tlW n a b p = bodyW n a b p ++ tlW n a b (p + 1) := by
  unfold tlW
  obtain ⟨q, hq⟩ : ∃ q, 2001 - p = q + 1 := ⟨2000 - p, by omega⟩
  rw [hq, List.range'_succ, List.flatMap_cons, show 2001 - (p + 1) = q by omega]
theorem tlW_stop {n a b p : Nat} (h : ¬ (p ≤ 2000 ∧ p * a < (n + 2) * b)) : tlW n a b p = [] := by
  unfold tlW
  rw [List.flatMap_eq_nil_iff]
  intro q hq
  rw [List.mem_range'_1] at hq
  unfold bodyW
  rw [if_neg]
  intro hlt
  refine h ⟨by omega, Nat.lt_of_le_of_lt (Nat.mul_le_mul_right a hq.1) hlt⟩
theorem ways_ne : ∀ {n a b fr : Nat} {w : List Nat}, w ∈ ways n a b fr → w ≠ []
  | 0, a, b, fr, w, h => by
    simp only [ways] at h
    split at h
    · simp at h; rw [h]; simp
    · cases h
  | n + 1, a, b, fr, w, h => by
    rw [ways_succ] at h
    unfold tlW bodyW at h
    rw [List.mem_flatMap] at h
    obtain ⟨p, _, h⟩ := h
    split at h
    · obtain ⟨w', _, rfl⟩ := List.mem_map.1 h
      simp
    · cases h
theorem ways_len : ∀ {n a b fr : Nat} {w : List Nat}, w ∈ ways n a b fr → w.length = n + 1
  | 0, a, b, fr, w, h => by
    simp only [ways] at h
    split at h
    · simp at h; rw [h]; simp
    · cases h
  | n + 1, a, b, fr, w, h => by
    rw [ways_succ] at h
    unfold tlW bodyW at h
    rw [List.mem_flatMap] at h
    obtain ⟨p, _, h⟩ := h
    split at h
    · obtain ⟨w', hw, rfl⟩ := List.mem_map.1 h
      rw [List.length_cons, ways_len hw]
    · cases h
theorem gcd_red {a b : Nat} (hb : 0 < b) : Nat.gcd (a / Nat.gcd a b) (b / Nat.gcd a b) = 1 := by
  have hg : 0 < Nat.gcd a b := Nat.gcd_pos_of_pos_right _ hb
  have h1 := Nat.gcd_mul_right (a / Nat.gcd a b) (Nat.gcd a b) (b / Nat.gcd a b)
  rw [Nat.div_mul_cancel (Nat.gcd_dvd_left a b), Nat.div_mul_cancel (Nat.gcd_dvd_right a b)] at h1
  have h2 : Nat.gcd (a / Nat.gcd a b) (b / Nat.gcd a b) * Nat.gcd a b = 1 * Nat.gcd a b := by rw [Nat.one_mul]; exact h1.symm
  exact Nat.eq_of_mul_eq_mul_right hg h2
/-- By what both numbers are multiplied does not matter. -/
theorem ways_scale {g : Nat} (hg : 0 < g) : ∀ (n a b fr : Nat), ways n (g * a) (g * b) fr = ways n a b fr
  | 0, a, b, fr => by
    simp only [ways]
    rw [Nat.mul_mod_mul_left, Nat.mul_div_mul_left _ _ hg]
    have h : g * (b % a) = 0 ↔ b % a = 0 := by
      rw [Nat.mul_eq_zero]
      omega
    simp only [h]
  | n + 1, a, b, fr => by
    simp only [ways]
    rw [Nat.mul_div_mul_left _ _ hg]
    congr 1
    funext p
    have h1 : p * (g * a) < (n + 2) * (g * b) ↔ p * a < (n + 2) * b := by
      rw [Nat.mul_left_comm p g a, Nat.mul_left_comm (n + 2) g b]
      exact Nat.mul_lt_mul_left hg
    have h2 : g * a * p - g * b = g * (a * p - b) := by rw [Nat.mul_assoc, Nat.mul_sub]
    have h3 : g * b * p = g * (b * p) := Nat.mul_assoc _ _ _
    simp only [h1, h2, h3, ways_scale hg n]
theorem ways_red {a b : Nat} (n fr : Nat) (hb : 0 < b) : ways n (a / Nat.gcd a b) (b / Nat.gcd a b) fr = ways n a b fr := by
  have hg : 0 < Nat.gcd a b := Nat.gcd_pos_of_pos_right _ hb
  rw [← ways_scale hg n (a / Nat.gcd a b), Nat.mul_div_cancel' (Nat.gcd_dvd_left a b), Nat.mul_div_cancel' (Nat.gcd_dvd_right a b)]
/-- How many lists there may be. -/
theorem ways0_len (a b fr : Nat) : (ways 0 a b fr).length ≤ 1 := by
  simp only [ways]
  split <;> simp
theorem flat_len {f : Nat → List (List Nat)} {B : Nat} : ∀ (l : List Nat), (∀ p ∈ l, (f p).length ≤ B) → (l.flatMap f).length ≤ l.length * B
  | [], _ => by simp
  | p :: l, h => by
    have h1 := h p (by simp)
    have h2 := flat_len l fun q hq => h q (by simp [hq])
    rw [List.flatMap_cons, List.length_append, List.length_cons, Nat.add_mul]
    omega
theorem ways1_len (a b fr : Nat) : (ways 1 a b fr).length ≤ 2000 := by
  rw [ways_succ]
  generalize b / a = q
  unfold tlW
  refine Nat.le_trans (flat_len (B := 1) _ fun p _ => ?_) ?_
  · unfold bodyW
    split
    · rw [List.length_map]; exact ways0_len _ _ _
    · simp
  · rw [List.length_range']; omega
theorem ways2_len {a b fr : Nat} (ha : 0 < a) (hb : b ≤ 30) : (ways 2 a b fr).length ≤ 180000 := by
  rw [ways_succ]
  generalize max fr (b / a + 1) = s
  unfold tlW
  have hcut : ∀ (l : List Nat), (l.flatMap (bodyW 1 a b)).length ≤ (l.filter fun p => decide (p < 90)).length * 2000 := by
    intro l
    induction l with
    | nil => simp
    | cons p l ih =>
      rw [List.flatMap_cons, List.length_append, List.filter_cons]
      have h1 : (bodyW 1 a b p).length ≤ if decide (p < 90) = true then 2000 else 0 := by
        unfold bodyW
        split
        · rename_i h
          have : p < 90 := by
            have : p * 1 ≤ p * a := Nat.mul_le_mul_left _ ha
            omega
          rw [if_pos (by simpa using this), List.length_map]
          exact ways1_len _ _ _
        · simp
      split
      · rename_i h; rw [if_pos h] at h1; rw [List.length_cons, Nat.add_mul]; omega
      · rename_i h; rw [if_neg h] at h1; omega
  refine Nat.le_trans (hcut _) ?_
  have h2 : ∀ (k s : Nat), ((List.range' s k).filter fun p => decide (p < 90)).length ≤ 90 - s := by
    intro k
    induction k with
    | zero => intro s; simp
    | succ k ih =>
      intro s
      rw [List.range'_succ, List.filter_cons]
      have := ih (s + 1)
      split
      · rename_i h
        have h' : s < 90 := by simpa using h
        rw [List.length_cons]; omega
      · omega
  have := h2 (2001 - s) s
  have h3 : ((List.range' s (2001 - s)).filter fun p => decide (p < 90)).length * 2000 ≤ 90 * 2000 := Nat.mul_le_mul_right _ (by omega)
  omega
def takenW (c : Bool) (l : List (List Nat)) : List (List Nat) := if c then l else l.take 1
end Go.Vit
