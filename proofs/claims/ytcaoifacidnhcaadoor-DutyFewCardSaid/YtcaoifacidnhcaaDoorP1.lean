/- Plain: products, sums of parts. -/
import Derived.Test.YtcaoifacidnhcaaDoorVitX
set_option linter.unusedSimpArgs false
set_option linter.unusedVariables false
namespace Go.Vit
def prodN : List Nat → Nat
  | [] => 1
  | p :: l => p * prodN l
/-- How often one by B makes the sum of the parts. -/
def sumN (B : Nat) : List Nat → Nat
  | [] => 0
  | p :: l => B / p + sumN B l
theorem prodN_snoc (l : List Nat) (p : Nat) : prodN (l ++ [p]) = prodN l * p := by
  induction l with
  | nil => simp [prodN]
  | cons q l ih => simp only [List.cons_append, prodN, ih, Nat.mul_assoc]
theorem sumN_snoc (B : Nat) (l : List Nat) (p : Nat) : sumN B (l ++ [p]) = sumN B l + B / p := by
  induction l with
  | nil => simp [sumN]
  | cons q l ih => simp only [List.cons_append, sumN, ih, Nat.add_assoc]
theorem dvd_prodN {p : Nat} : ∀ {l : List Nat}, p ∈ l → p ∣ prodN l
  | q :: l, h => by
    rcases List.mem_cons.1 h with rfl | h
    · exact ⟨_, rfl⟩
    · obtain ⟨c, hc⟩ := dvd_prodN h
      exact ⟨q * c, by rw [prodN, hc, Nat.mul_left_comm]⟩
theorem sumN_mul {B p : Nat} : ∀ {l : List Nat}, (∀ q ∈ l, q ∣ B ∧ 0 < q) → sumN (B * p) l = sumN B l * p
  | [], _ => by simp [sumN]
  | q :: l, h => by
    obtain ⟨⟨c, rfl⟩, hq⟩ := h q (by simp)
    have := sumN_mul (B := q * c) (p := p) (l := l) fun x hx => h x (by simp [hx])
    simp only [sumN, this, Nat.add_mul]
    rw [Nat.mul_assoc, Nat.mul_div_cancel_left _ hq, Nat.mul_div_cancel_left _ hq]
/-- The sum of the parts, in the product of all. -/
def partsN (l : List Nat) : Nat := sumN (prodN l) l
theorem partsN_snoc {l : List Nat} {p : Nat} (hp : 0 < p) (hl : ∀ q ∈ l, 0 < q) : partsN (l ++ [p]) = partsN l * p + prodN l := by
  unfold partsN
  rw [prodN_snoc, sumN_snoc, sumN_mul fun q hq => ⟨dvd_prodN hq, hl q hq⟩, Nat.mul_div_cancel _ hp]
/-- Parts as they must be. -/
structure Val (l : List Nat) : Prop where
  len : l.length ≤ 4
  rng : ∀ p ∈ l, 2 ≤ p ∧ p ≤ 2000
  ord : l.Pairwise (· < ·)
theorem prodN_pos {l : List Nat} (h : ∀ q ∈ l, 0 < q) : 0 < prodN l := by
  induction l with
  | nil => simp [prodN]
  | cons q l ih => exact Nat.mul_pos (h q (by simp)) (ih fun x hx => h x (by simp [hx]))
theorem prodN_le {l : List Nat} (h : ∀ q ∈ l, q ≤ 2000) : prodN l ≤ 2000 ^ l.length := by
  induction l with
  | nil => simp [prodN]
  | cons q l ih =>
    have h1 := ih fun x hx => h x (by simp [hx])
    have h2 := Nat.mul_le_mul (h q (by simp)) h1
    simp only [prodN, List.length_cons, Nat.pow_succ]
    rw [Nat.mul_comm (2000 ^ l.length)]
    exact h2
theorem prodN_bound {l : List Nat} (hl : l.length ≤ 4) (h : ∀ q ∈ l, q ≤ 2000) : prodN l ≤ 16000000000000 := by
  have h1 := prodN_le h
  have h2 : 2000 ^ l.length ≤ 2000 ^ 4 := Nat.pow_le_pow_right (by omega) hl
  have h3 : 2000 ^ 4 = 16000000000000 := by decide
  omega
/-- Each part is one by two at most. -/
theorem sumN_le {B : Nat} : ∀ {l : List Nat}, (∀ q ∈ l, 2 ≤ q) → 2 * sumN B l ≤ l.length * B
  | [], _ => by simp [sumN]
  | q :: l, h => by
    have h1 := sumN_le (B := B) (l := l) fun x hx => h x (by simp [hx])
    have h2 : 2 * (B / q) ≤ B := by
      have h3 : B / q ≤ B / 2 := Nat.div_le_div_left (h q (by simp)) (by omega)
      omega
    simp only [sumN, List.length_cons, Nat.add_mul, Nat.one_mul, Nat.mul_add]
    omega
theorem mem_take {l : List Nat} {i q : Nat} (h : q ∈ l.take i) : q ∈ l := List.mem_of_mem_take h
theorem take_snoc {l : List Nat} {i : Nat} (h : i < l.length) : l.take (i + 1) = l.take i ++ [l[i]] := by
  rw [List.take_add_one, List.getElem?_eq_getElem h]; rfl
end Go.Vit
