/- Rules of at most three holders: the fewest locks, and what each largest barred group lacks; all of them reckoned. -/
import Derived.Test.YticlkfhmmcepjaaDoorW9
import Derived.Test.YticlkfhmmcepjaaDoorP2
set_option linter.unusedSimpArgs false
set_option linter.unusedVariables false
set_option maxRecDepth 100000
namespace Go.Vit
open Go
def bitsL (S N : Nat) : List Nat := (List.range N).filter fun x => S.testBit x
def same1 (p : Nat → Bool) (S N : Nat) : Bool := (List.range N).all fun g => p g == hits (bitsL S N) g
def fewF (p : Nat → Bool) (N : Nat) : Nat → Nat
  | 0 => 100
  | s + 1 => if same1 p s N = true then min (fewF p N s) (bitsL s N).length else fewF p N s
def lkT (p : Nat → Bool) (n : Nat) : List Nat := (List.range (2 ^ n)).filter (leastB (fun m => !p (compl n m)) (2 ^ n))
def bdT (p : Nat → Bool) (n : Nat) : List Nat := (List.range (2 ^ n)).filter (mostB (fun g => !p g) (2 ^ n))
def fewE (p : Nat → Bool) (N : Nat) : Nat := (List.range (2 ^ N)).foldl (fun b s => if same1 p s N = true then min b (bitsL s N).length else b) 100
theorem fewE_to (p : Nat → Bool) (N : Nat) : ∀ s, (List.range s).foldl (fun b s => if same1 p s N = true then min b (bitsL s N).length else b) 100 = fewF p N s
  | 0 => rfl
  | s + 1 => by
    rw [List.range_succ, List.foldl_append, fewE_to p N s]; rfl
def okP (p : Nat → Bool) (n : Nat) : Bool := decide (fewE p (2 ^ n) = (lkT p n).length) && (decide ((lkT p n).length = (bdT p n).length) && ((bdT p n).all (fun b => decide ((lack (lkT p n) b).length = 1)) && decide (((bdT p n).map fun b => (lack (lkT p n) b).getD 0 0).Nodup)))
def monoT (t N : Nat) : Bool := (List.range N).all fun a => (List.range N).all fun b => !(sub a b && t.testBit a) || t.testBit b
def okN (n : Nat) : Bool := (List.range (2 ^ 2 ^ n)).all fun t => !(monoT t (2 ^ n)) || okP t.testBit n
theorem ok1 : okN 1 = true := by decide +kernel
theorem ok2 : okN 2 = true := by decide +kernel
theorem ok3 : okN 3 = true := by decide +kernel
/-- The table of a predicate. -/
def tbl (p : Nat → Bool) : Nat → Nat
  | 0 => 0
  | g + 1 => tbl p g ||| (if p g = true then 2 ^ g else 0)
theorem tbl_lt (p : Nat → Bool) : ∀ g, tbl p g < 2 ^ g
  | 0 => Nat.zero_lt_one
  | g + 1 => by
    have h1 := tbl_lt p g
    have h2 : 2 ^ (g + 1) = 2 ^ g + 2 ^ g := by rw [Nat.pow_succ]; omega
    refine Nat.or_lt_two_pow (n := g + 1) (by omega) ?_
    split
    · have := Nat.two_pow_pos g; omega
    · exact Nat.two_pow_pos _
theorem tbl_bit (p : Nat → Bool) : ∀ (g j : Nat), j < g → (tbl p g).testBit j = p j
  | 0, j, h => absurd h (Nat.not_lt_zero _)
  | g + 1, j, h => by
    show (tbl p g ||| (if p g = true then 2 ^ g else 0)).testBit j = p j
    rw [Nat.testBit_or]
    by_cases hj : j = g
    · subst hj
      rw [Nat.testBit_lt_two_pow (tbl_lt p j), Bool.false_or]
      cases hp : p j with
      | true => rw [if_pos rfl, Nat.testBit_two_pow_self]
      | false => rw [if_neg (by simp), Nat.zero_testBit]
    · rw [tbl_bit p g j (by omega)]
      cases hp : p g with
      | true => rw [if_pos rfl, Nat.testBit_two_pow, decide_eq_false (by omega), Bool.or_false]
      | false => rw [if_neg (by simp), Nat.zero_testBit, Bool.or_false]
theorem same1_congr {p q : Nat → Bool} {N : Nat} (h : ∀ g, g < N → p g = q g) (S : Nat) : same1 p S N = same1 q S N := by
  unfold same1
  rw [Bool.eq_iff_iff, List.all_eq_true, List.all_eq_true]
  exact ⟨fun hh g hg => by rw [← h g (List.mem_range.1 hg)]; exact hh g hg, fun hh g hg => by rw [h g (List.mem_range.1 hg)]; exact hh g hg⟩
theorem fewF_congr {p q : Nat → Bool} {N : Nat} (h : ∀ g, g < N → p g = q g) : ∀ s, fewF p N s = fewF q N s
  | 0 => rfl
  | s + 1 => by
    show (if same1 p s N = true then min (fewF p N s) (bitsL s N).length else fewF p N s) = (if same1 q s N = true then min (fewF q N s) (bitsL s N).length else fewF q N s)
    rw [fewF_congr h s, same1_congr h s]
theorem leastB_congr {p q : Nat → Bool} {N g : Nat} (h : ∀ g, g < N → p g = q g) (hg : g < N) : leastB p N g = leastB q N g := by
  rw [Bool.eq_iff_iff, leastB_iff, leastB_iff, h g hg]
  exact and_congr_right fun _ => ⟨fun hh o ho => by rw [← h o ho]; exact hh o ho, fun hh o ho => by rw [h o ho]; exact hh o ho⟩
theorem mostB_congr {p q : Nat → Bool} {N g : Nat} (h : ∀ g, g < N → p g = q g) (hg : g < N) : mostB p N g = mostB q N g := by
  rw [Bool.eq_iff_iff, mostB_iff, mostB_iff, h g hg]
  exact and_congr_right fun _ => ⟨fun hh o ho => by rw [← h o ho]; exact hh o ho, fun hh o ho => by rw [h o ho]; exact hh o ho⟩
theorem bdT_congr {p q : Nat → Bool} {n : Nat} (h : ∀ g, g < 2 ^ n → p g = q g) : bdT p n = bdT q n := by
  unfold bdT
  refine List.filter_congr fun g hg => mostB_congr (fun g hg => by rw [h g hg]) (List.mem_range.1 hg)
theorem lkT_congr {p q : Nat → Bool} {n : Nat} (h : ∀ g, g < 2 ^ n → p g = q g) : lkT p n = lkT q n := by
  unfold lkT
  refine List.filter_congr fun g hg => leastB_congr (fun g _ => by rw [h _ (compl_lt n g)]) (List.mem_range.1 hg)
theorem lkT_hit {gs : List Nat} {n : Nat} (h6 : n ≤ 6) (hs : ∀ g ∈ gs, g < 2 ^ n) : lkT (mayB gs) n = hitl gs := by
  rw [← smallest_eq h6 hs]
  unfold lkT
  refine List.filter_congr fun g hg => leastB_congr (fun m _ => ?_) (List.mem_range.1 hg)
  rw [mayB_compl hs, openB_hits]
theorem mayB_mono' {l : List Nat} {a b : Nat} (h : sub a b = true) (hm : mayB l a = true) : mayB l b = true := by
  obtain ⟨o, ho, hs⟩ := mayB_iff.1 hm
  exact mayB_iff.2 ⟨o, ho, sub_trans hs h⟩
/-- What holds of a rule of at most three holders. -/
theorem stein {gs : List Nat} {n : Nat} (h1 : 1 ≤ n) (h3 : n ≤ 3) (hs : ∀ g ∈ gs, g < 2 ^ n) :
    fewF (mayB gs) (2 ^ n) (2 ^ 2 ^ n) = (hitl gs).length ∧ (hitl gs).length = (bdT (mayB gs) n).length ∧ (∀ b ∈ bdT (mayB gs) n, (lack (hitl gs) b).length = 1) ∧ ((bdT (mayB gs) n).map fun b => (lack (hitl gs) b).getD 0 0).Nodup := by
  have hok : okN n = true := by
    have : n = 1 ∨ n = 2 ∨ n = 3 := by omega
    rcases this with rfl | rfl | rfl
    · exact ok1
    · exact ok2
    · exact ok3
  have hb : ∀ g, g < 2 ^ n → mayB gs g = (tbl (mayB gs) (2 ^ n)).testBit g := fun g hg => (tbl_bit _ _ _ hg).symm
  have h := List.all_eq_true.1 hok (tbl (mayB gs) (2 ^ n)) (List.mem_range.2 (tbl_lt _ _))
  have hm : monoT (tbl (mayB gs) (2 ^ n)) (2 ^ n) = true := List.all_eq_true.2 fun a ha => List.all_eq_true.2 fun b hb' => by
    rw [← hb a (List.mem_range.1 ha), ← hb b (List.mem_range.1 hb')]
    cases h1 : sub a b with
    | false => rfl
    | true =>
      cases h2 : mayB gs a with
      | false => rfl
      | true => rw [mayB_mono' h1 h2]; rfl
  rw [hm, Bool.not_true, Bool.false_or] at h
  unfold okP at h
  rw [Bool.and_eq_true, Bool.and_eq_true, Bool.and_eq_true, decide_eq_true_eq, decide_eq_true_eq, decide_eq_true_eq, List.all_eq_true] at h
  unfold fewE at h
  rw [fewE_to, ← fewF_congr hb, ← lkT_congr hb, ← bdT_congr hb, lkT_hit (by omega) hs] at h
  exact ⟨h.1, h.2.1, fun b hb' => of_decide_eq_true (h.2.2.1 b hb'), h.2.2.2⟩
end Go.Vit
