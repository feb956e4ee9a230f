/- What is left, by its bits; in plain words. -/
import Derived.Test.YtffomiamkiakcaaP3
set_option linter.unusedSimpArgs false
set_option linter.unusedVariables false
namespace Go.Vit
open Go
def bt (s : List Int) (x i : Nat) : List Int := if x.testBit i = true then [s.getD i 0] else []
def Vl (s : List Int) (x : Nat) : Nat → List Int
  | 0 => []
  | i + 1 => Vl s x i ++ bt s x i
def Vr (s : List Int) (x : Nat) : Nat → Nat → List Int
  | 0, _ => []
  | d + 1, i => bt s x i ++ Vr s x d (i + 1)
theorem Vlr (s : List Int) (x : Nat) : ∀ d i, Vl s x (i + d) = Vl s x i ++ Vr s x d i
  | 0, i => by simp [Vr]
  | d + 1, i => by
    rw [show i + (d + 1) = i + 1 + d by omega, Vlr s x d (i + 1)]
    show Vl s x i ++ bt s x i ++ _ = Vl s x i ++ (bt s x i ++ _)
    rw [List.append_assoc]
def clr (x i : Nat) : Nat := x ^^^ (x &&& 2 ^ i)
theorem clr_bit (x i j : Nat) : (clr x i).testBit j = (x.testBit j && !decide (i = j)) := by
  unfold clr
  rw [Nat.testBit_xor, Nat.testBit_and, Nat.testBit_two_pow]
  cases x.testBit j <;> simp
theorem bt_clr_ne {s : List Int} {x i j : Nat} (h : i ≠ j) : bt s (clr x i) j = bt s x j := by
  unfold bt
  rw [clr_bit, decide_eq_false h]; simp
theorem bt_clr_eq {s : List Int} {x i : Nat} : bt s (clr x i) i = [] := by
  unfold bt
  rw [clr_bit, decide_eq_true rfl]; simp
theorem Vl_clr_lt {s : List Int} {x i : Nat} : ∀ {j}, j ≤ i → Vl s (clr x i) j = Vl s x j
  | 0, _ => rfl
  | j + 1, h => by
    show Vl s (clr x i) j ++ bt s (clr x i) j = _
    rw [Vl_clr_lt (show j ≤ i by omega), bt_clr_ne (by omega)]; rfl
theorem Vr_clr_gt {s : List Int} {x i : Nat} : ∀ {d j}, i < j → Vr s (clr x i) d j = Vr s x d j
  | 0, _, _ => rfl
  | d + 1, j, h => by
    show bt s (clr x i) j ++ Vr s (clr x i) d (j + 1) = _
    rw [bt_clr_ne (by omega), Vr_clr_gt (by omega)]; rfl
theorem Vl_clr {s : List Int} {x i n : Nat} (h : i < n) : Vl s (clr x i) n = Vl s x i ++ Vr s x (n - i - 1) (i + 1) := by
  have e : n = i + (n - i) := by omega
  have e2 : n - i = (n - i - 1) + 1 := by omega
  rw [e, Vlr, Vl_clr_lt (Nat.le_refl i), e2]
  show _ ++ (bt s (clr x i) i ++ Vr s (clr x i) _ (i + 1)) = _
  rw [bt_clr_eq, List.nil_append, Vr_clr_gt (by omega)]
  have e3 : i + (n - i - 1 + 1) - i - 1 = n - i - 1 := by omega
  rw [e3]
theorem Vr_on {s : List Int} {x i n : Nat} (h : i < n) (hb : x.testBit i = true) : Vr s x (n - i) i = s.getD i 0 :: Vr s x (n - i - 1) (i + 1) := by
  have e2 : n - i = (n - i - 1) + 1 := by omega
  rw [e2]
  show bt s x i ++ _ = _
  unfold bt
  rw [if_pos hb]
  have e3 : n - i - 1 + 1 - 1 = n - i - 1 := by omega
  rw [e3]; rfl
theorem Vr_off {s : List Int} {x i n : Nat} (h : i < n) (hb : x.testBit i = false) : Vr s x (n - i) i = Vr s x (n - (i + 1)) (i + 1) := by
  have e2 : n - i = (n - (i + 1)) + 1 := by omega
  rw [e2]
  show bt s x i ++ _ = _
  unfold bt
  rw [if_neg (by simp [hb])]; rfl
theorem Vl_on {s : List Int} {x i : Nat} (hb : x.testBit i = true) : Vl s x (i + 1) = Vl s x i ++ [s.getD i 0] := by
  show _ ++ bt s x i = _
  unfold bt
  rw [if_pos hb]
theorem Vl_off {s : List Int} {x i : Nat} (hb : x.testBit i = false) : Vl s x (i + 1) = Vl s x i := by
  show _ ++ bt s x i = _
  unfold bt
  rw [if_neg (by simp [hb]), List.append_nil]
theorem clr_lt {x i n : Nat} (h : x < 2 ^ n) : clr x i < 2 ^ n := by
  refine Nat.lt_pow_two_of_testBit _ fun j hj => ?_
  rw [clr_bit, Nat.testBit_lt_two_pow (Nat.lt_of_lt_of_le h (Nat.pow_le_pow_right (by omega) hj))]; rfl
theorem Vl_zero (s : List Int) : ∀ i, Vl s 0 i = []
  | 0 => rfl
  | i + 1 => by rw [Vl_off (by simp), Vl_zero s i]
theorem Vl_ne {s : List Int} {x n : Nat} (h : x < 2 ^ n) (h0 : x ≠ 0) : Vl s x n ≠ [] := by
  obtain ⟨i, hi⟩ := Nat.exists_testBit_of_ne_zero h0
  have hin : i < n := by
    refine Nat.lt_of_not_le fun hle => ?_
    rw [Nat.testBit_lt_two_pow (Nat.lt_of_lt_of_le h (Nat.pow_le_pow_right (by omega) hle))] at hi
    cases hi
  have e : n = i + (n - i) := by omega
  rw [e, Vlr, Vr_on hin hi]
  simp
theorem Vl_mem {s : List Int} {x n : Nat} (hn : n ≤ s.length) : ∀ {i}, i ≤ n → ∀ y ∈ Vl s x i, y ∈ s
  | 0, _, y, hy => by cases hy
  | i + 1, h, y, hy => by
    have hi : i < s.length := by omega
    rcases List.mem_append.1 hy with hy | hy
    · exact Vl_mem hn (by omega) y hy
    · unfold bt at hy
      split at hy
      · have : y = s[i] := by
          rw [List.getD_eq_getElem?_getD, List.getElem?_eq_getElem hi] at hy
          simpa using hy
        rw [this]; exact List.getElem_mem _
      · cases hy
theorem Vl_all (s : List Int) : ∀ i, i ≤ s.length → Vl s (2 ^ s.length - 1) i = s.take i
  | 0, _ => by simp [Vl]
  | i + 1, h => by
    have hi : i < s.length := by omega
    rw [Vl_on (by rw [Nat.testBit_two_pow_sub_one]; exact decide_eq_true hi), Vl_all s i (by omega), List.take_add_one, List.getElem?_eq_getElem hi, List.getD_eq_getElem?_getD, List.getElem?_eq_getElem hi]; rfl
theorem Vr_all (s : List Int) (i : Nat) (h : i ≤ s.length) : Vr s (2 ^ s.length - 1) (s.length - i) i = s.drop i := by
  have h1 := Vlr s (2 ^ s.length - 1) (s.length - i) i
  rw [show i + (s.length - i) = s.length by omega, Vl_all s _ (Nat.le_refl _), Vl_all s i h, List.take_length] at h1
  have h2 : s.take i ++ s.drop i = s.take i ++ Vr s (2 ^ s.length - 1) (s.length - i) i := by rw [List.take_append_drop]; exact h1
  exact (List.append_cancel_left h2).symm
theorem Vl_clr_all (s : List Int) {i : Nat} (h : i < s.length) : Vl s (clr (2 ^ s.length - 1) i) s.length = s.take i ++ s.drop (i + 1) := by
  rw [Vl_clr h, Vl_all s i (by omega), show s.length - i - 1 = s.length - (i + 1) by omega, Vr_all s (i + 1) (by omega)]
section
variable (wo : Worth) (r : Bool) (s : List Int)
/-- What the ends are worth, by numbers. -/
def Eix (f a x : Nat) : Int := En wo r (Vl s x s.length).length (s.getD f 0) (s.getD a 0) (Vl s x s.length)
/-- The values behind a cigar. -/
def hX (f a : Nat) (j : Nat) : Int → List Int → Int := fun x L' => stW wo (s.getD a 0) x (En wo r j (s.getD f 0) x L')
end
variable {wo : Worth} {r : Bool} {s : List Int}
theorem Eix_succ {f a x j : Nat} (hj : (Vl s x s.length).length = j + 1) : Eix wo r s f a x = bestH (hX wo r s f a j) [] (Vl s x s.length) (-1) := by
  unfold Eix
  rw [hj]; rfl
theorem Vl_clr_len {x i j : Nat} (hi : i < s.length) (hb : x.testBit i = true) (hj : (Vl s x s.length).length = j + 1) : (Vl s (clr x i) s.length).length = j := by
  have e : s.length = i + (s.length - i) := by omega
  have h1 : Vl s x s.length = Vl s x i ++ (s.getD i 0 :: Vr s x (s.length - i - 1) (i + 1)) := by
    rw [← Vr_on hi hb, ← Vlr]; congr 1
  rw [h1] at hj
  rw [Vl_clr hi]
  simp at hj ⊢
  omega
/-- The value of one step, and of what follows. -/
theorem hX_eix {f a x i j : Nat} (hi : i < s.length) (hb : x.testBit i = true) (hj : (Vl s x s.length).length = j + 1) :
    stW wo (s.getD a 0) (s.getD i 0) (Eix wo r s f i (clr x i)) = hX wo r s f a j (s.getD i 0) (Vl s x i ++ Vr s x (s.length - i - 1) (i + 1)) := by
  unfold Eix hX
  rw [Vl_clr_len hi hb hj, Vl_clr hi]
theorem Eix_low (f a x : Nat) : -1 ≤ Eix wo r s f a x := En_low _ _ _ _
theorem Eix_up {f a x : Nat} (hm : ∀ y ∈ s, 0 ≤ y ∧ y ≤ 60) (h7 : s.length ≤ 7) (hf : f < s.length) (ha : a < s.length) (hl : (Vl s x s.length).length ≤ 7) : Eix wo r s f a x ≤ 480 := by
  have hg : ∀ i, i < s.length → 0 ≤ s.getD i 0 ∧ s.getD i 0 ≤ 60 := by
    intro i hi
    rw [List.getD_eq_getElem?_getD, List.getElem?_eq_getElem hi]
    exact hm _ (List.getElem_mem hi)
  have := En_up (wo := wo) (r := r) _ (s.getD f 0) (s.getD a 0) (Vl s x s.length) rfl (fun y hy => hm y (Vl_mem (Nat.le_refl _) (Nat.le_refl _) y hy)) (hg f hf) (hg a ha)
  unfold Eix
  omega
theorem Vl_len (s : List Int) (x : Nat) : ∀ i, (Vl s x i).length ≤ i
  | 0 => Nat.le_refl _
  | i + 1 => by
    have := Vl_len s x i
    show (Vl s x i ++ bt s x i).length ≤ _
    have h2 : (bt s x i).length ≤ 1 := by unfold bt; split <;> simp
    rw [List.length_append]; omega
end Go.Vit
