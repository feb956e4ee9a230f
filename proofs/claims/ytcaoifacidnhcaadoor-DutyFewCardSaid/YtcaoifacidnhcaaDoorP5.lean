/- Plain: all lists as a law tries them, and greedy parts. -/
import Derived.Test.YtcaoifacidnhcaaDoorP4
set_option linter.unusedSimpArgs false
set_option linter.unusedVariables false
namespace Go.Vit
/-- The lists of one, two, three parts that were found. -/
def GG (g1 g2 g3 : List (List Nat)) : Nat → List (List Nat) := fun i => if i = 1 then g1 else if i = 2 then g2 else if i = 3 then g3 else []
def addG (G : Nat → List (List Nat)) (w : List Nat) : Nat → List (List Nat) := fun i => if i = w.length ∧ w.getLastD 0 ≤ 2000 then G i ++ [w] else G i
theorem addG1 (g1 g2 g3 : List (List Nat)) (x : Nat) : addG (GG g1 g2 g3) [x] = GG (g1 ++ if x ≤ 2000 then [[x]] else []) g2 g3 := by
  funext i
  unfold addG GG
  by_cases h1 : i = 1
  · subst h1
    by_cases h : x ≤ 2000 <;> simp [h]
  · simp [h1]
theorem addG2 (g1 g2 g3 : List (List Nat)) (x y : Nat) : addG (GG g1 g2 g3) [x, y] = GG g1 (g2 ++ if y ≤ 2000 then [[x, y]] else []) g3 := by
  funext i
  unfold addG GG
  by_cases h1 : i = 2
  · subst h1
    by_cases h : y ≤ 2000 <;> simp [h]
  · simp [h1]
theorem addG3 (g1 g2 g3 : List (List Nat)) (x y z : Nat) : addG (GG g1 g2 g3) [x, y, z] = GG g1 g2 (g3 ++ if z ≤ 2000 then [[x, y, z]] else []) := by
  funext i
  unfold addG GG
  by_cases h1 : i = 3
  · subst h1
    by_cases h : z ≤ 2000 <;> simp [h]
  · simp [h1]
theorem way0_of {a b fr : Nat} (h : fr ≤ b / a) : ways 0 a b fr = if b % a = 0 then (if b / a ≤ 2000 then [[b / a]] else []) else [] := by
  simp only [ways]
  by_cases h1 : b % a = 0
  · by_cases h2 : b / a ≤ 2000
    · simp [h1, h2, h]
    · simp [h2]
  · simp [h1]
theorem way0_no {a b fr : Nat} (h : ¬ (b % a = 0 ∧ fr ≤ b / a)) : ways 0 a b fr = [] := if_neg fun h2 => h ⟨h2.1, h2.2.1⟩
theorem div_two {a b : Nat} (ha : 0 < a) (hab : a < b) (h : b % a = 0) : 2 ≤ b / a := by
  have h1 := Nat.div_add_mod b a
  rw [h, Nat.add_zero] at h1
  by_cases h2 : b / a ≤ 1
  · have : a * (b / a) ≤ a * 1 := Nat.mul_le_mul_left _ h2
    omega
  · omega
/-- One step of two parts. -/
theorem body0 {a b x : Nat} (hb : 0 < b) (hx : b < x * a) : bodyW 0 a b x = if (b * x) % (a * x - b) = 0 ∧ x < b * x / (a * x - b) then (if b * x / (a * x - b) ≤ 2000 then [[x, b * x / (a * x - b)]] else []) else [] := by
  have hcm : a * x = x * a := Nat.mul_comm _ _
  unfold bodyW
  by_cases h2 : x * a < (0 + 2) * b
  · rw [if_pos h2]
    by_cases h1 : (b * x) % (a * x - b) = 0 ∧ x < b * x / (a * x - b)
    · rw [if_pos h1, way0_of h1.2, if_pos h1.1]
      by_cases h3 : b * x / (a * x - b) ≤ 2000
      · rw [if_pos h3, if_pos h3]; rfl
      · rw [if_neg h3, if_neg h3]; rfl
    · rw [if_neg h1, way0_no (fun h => h1 ⟨h.1, h.2⟩)]; rfl
  · rw [if_neg h2, if_neg]
    rintro ⟨_, h3⟩
    have h4 : b * x / (a * x - b) ≤ b * x / b := Nat.div_le_div_left (by omega) hb
    rw [Nat.mul_div_cancel_left _ hb] at h4
    omega
theorem bodyM (n a b p x : Nat) : (bodyW n a b p).map (x :: ·) = if p * a < (n + 2) * b then (ways n (a * p - b) (b * p) (p + 1)).map (fun w => x :: p :: w) else [] := by
  unfold bodyW
  split
  · rw [List.map_map]; rfl
  · rfl
/-- Greedy parts are among the lists. -/
theorem mem_tlW {n a b p q : Nat} {w : List Nat} (h1 : p ≤ q) (h2 : q ≤ 2000) (h3 : q * a < (n + 2) * b) (hw : w ∈ ways n (a * q - b) (b * q) (q + 1)) : (q :: w) ∈ tlW n a b p := by
  unfold tlW
  rw [List.mem_flatMap]
  refine ⟨q, by rw [List.mem_range'_1]; omega, ?_⟩
  unfold bodyW
  rw [if_pos h3]
  exact List.mem_map.2 ⟨w, hw, rfl⟩
end Go.Vit
