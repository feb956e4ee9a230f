/- The first free bay, and where carts park: in plain words. -/
import Derived.Test.YtnmmjbclidbdbaaDoorCoreD
set_option linter.unusedSimpArgs false
set_option linter.unusedVariables false
set_option maxRecDepth 20000
namespace Go.Vit
open Go
theorem find_congr {p q : Nat → Bool} : ∀ {l : List Nat}, (∀ b ∈ l, p b = q b) → l.find? p = l.find? q
  | [], _ => rfl
  | x :: l, h => by
    rw [List.find?_cons, List.find?_cons, h x (List.mem_cons_self ..), find_congr fun b hb => h b (List.mem_cons_of_mem _ hb)]
/-- The first bay from a wish on that is free. -/
def fbay (n : Nat) (p : Nat → Bool) (w : Nat) : Option Nat := (List.range n).find? fun b => Nat.ble w b && !p b
theorem fbay_some {n : Nat} {p : Nat → Bool} {w b : Nat} (h : fbay n p w = some b) : b < n ∧ w ≤ b ∧ p b = false ∧ ∀ c, w ≤ c → c < b → p c = true := by
  unfold fbay at h
  have h1 := List.find?_some h
  have h2 := List.mem_of_find?_eq_some h
  rw [List.mem_range] at h2
  simp only [Bool.and_eq_true, Bool.not_eq_true', Nat.ble_eq] at h1
  refine ⟨h2, h1.1, h1.2, fun c hw hc => ?_⟩
  cases hp : p c with
  | true => rfl
  | false =>
    exfalso
    rw [List.find?_eq_some_iff_getElem] at h
    obtain ⟨_, i, hi, he, hj⟩ := h
    rw [List.getElem_range] at he
    subst he
    have := hj c hc
    rw [List.getElem_range] at this
    simp only [hp, Nat.ble_eq_true_of_le hw] at this
    cases this
theorem fbay_none {n : Nat} {p : Nat → Bool} {w : Nat} (h : fbay n p w = none) : ∀ c, w ≤ c → c < n → p c = true := by
  intro c hw hc
  unfold fbay at h
  rw [List.find?_eq_none] at h
  have := h c (List.mem_range.2 hc)
  simpa [hw] using this
theorem fbay_of {n : Nat} {p : Nat → Bool} {w b : Nat} (h1 : b < n) (h2 : w ≤ b) (h3 : p b = false) (h4 : ∀ c, w ≤ c → c < b → p c = true) : fbay n p w = some b := by
  cases h : fbay n p w with
  | none => rw [fbay_none h b h2 h1] at h3; cases h3
  | some c =>
    obtain ⟨g1, g2, g3, g4⟩ := fbay_some h
    congr 1
    rcases Nat.lt_trichotomy b c with hlt | rfl | hlt
    · rw [g4 b h2 hlt] at h3; cases h3
    · rfl
    · rw [h4 c g2 hlt] at g3; cases g3
theorem fbay_no {n : Nat} {p : Nat → Bool} {w : Nat} (h : ∀ c, w ≤ c → c < n → p c = true) : fbay n p w = none := by
  cases he : fbay n p w with
  | none => rfl
  | some b =>
    obtain ⟨g1, g2, g3, g4⟩ := fbay_some he
    rw [h b g2 g1] at g3; cases g3
theorem fbay_congr {n : Nat} {p q : Nat → Bool} {w : Nat} (h : ∀ b, b < n → p b = q b) : fbay n p w = fbay n q w := by
  unfold fbay
  exact find_congr fun b hb => by rw [h b (List.mem_range.1 hb)]
/-- The bays that are free from a wish on, as bits: as the program reckons them. -/
def chain (n T w : Nat) : Int :=
  abits .and .u64 (ashl .u64 (ashr (abits .xor .u64 18446744073709551615 (.ofNat T)) (nmin w 64)) (nmin w 64)) (fwrap .u64 (Int.sub (ashl .u64 1 (nmin n 64)) 1))
def tz8 (x : Nat) : Nat := ((List.range 8).find? fun i => x.testBit i).getD 0
def chOk (n T w : Nat) : Bool := match chain n T w with
  | .ofNat x => match fbay n (fun b => T.testBit b) w with
    | none => Nat.beq x 0
    | some b => !Nat.beq x 0 && (Nat.blt x 256 && Nat.beq (tz8 x) b)
  | .negSucc _ => false
theorem chain_all : ((List.range 9).all fun n => (List.range 256).all fun T => (List.range 9).all fun w => chOk n T w) = true := by decide +kernel
theorem chain_e {n T w : Nat} (hn : n ≤ 8) (hT : T < 256) (hw : w ≤ 8) : ∃ x : Nat, chain n T w = (x : Int) ∧ match fbay n (fun b => T.testBit b) w with
    | none => x = 0
    | some b => x ≠ 0 ∧ x < 256 ∧ tz8 x = b := by
  have h := List.all_eq_true.1 (List.all_eq_true.1 (List.all_eq_true.1 chain_all n (List.mem_range.2 (by omega))) T (List.mem_range.2 hT)) w (List.mem_range.2 (by omega))
  unfold chOk at h
  split at h
  · rename_i x hx
    refine ⟨x, hx, ?_⟩
    split at h
    · exact Nat.eq_of_beq_eq_true h
    · rw [Bool.and_eq_true, Bool.and_eq_true] at h
      refine ⟨fun h0 => ?_, by simpa using h.2.1, Nat.eq_of_beq_eq_true h.2.2⟩
      rw [h0] at h
      exact absurd h.1 (by decide)
  · cases h
theorem or_bit {T b : Nat} (hT : T < 256) (hb : b < 8) : (T ||| 2 ^ b) < 256 := by
  have : 2 ^ b < 2 ^ 8 := Nat.pow_lt_pow_right (by omega) hb
  exact Nat.or_lt_two_pow (n := 8) hT this
theorem or_test (T b c : Nat) : (T ||| 2 ^ b).testBit c = (T.testBit c || decide (b = c)) := by
  rw [Nat.testBit_or, Nat.testBit_two_pow]
/-- Where carts park: bays that are taken first, then all. -/
def bayOf (n : Nat) (acc : List Int) (w : Nat) : Int := match fbay n (fun b => decide ((b : Int) ∈ acc)) w with
  | some b => b
  | none => -1
def parkA (n : Nat) : List Int → List Nat → List Int
  | acc, [] => acc
  | acc, w :: ws => parkA n (acc ++ [bayOf n acc w]) ws
def parkL (n : Nat) (l : List Nat) : List Int := parkA n [] l
theorem parkA_snoc (n : Nat) : ∀ (l : List Nat) (acc : List Int) (w : Nat), parkA n acc (l ++ [w]) = parkA n acc l ++ [bayOf n (parkA n acc l) w]
  | [], _, _ => rfl
  | x :: l, acc, w => parkA_snoc n l (acc ++ [bayOf n acc x]) w
theorem parkL_snoc (n : Nat) (l : List Nat) (w : Nat) : parkL n (l ++ [w]) = parkL n l ++ [bayOf n (parkL n l) w] := parkA_snoc n l [] w
theorem parkL_take {n : Nat} {l : List Nat} {i : Nat} (h : i < l.length) : parkL n (l.take (i + 1)) = parkL n (l.take i) ++ [bayOf n (parkL n (l.take i)) l[i]] := by
  rw [List.take_add_one, List.getElem?_eq_getElem h]
  exact parkL_snoc n _ _
theorem parkA_len (n : Nat) : ∀ (l : List Nat) (acc : List Int), (parkA n acc l).length = acc.length + l.length
  | [], _ => rfl
  | x :: l, acc => by
    show (parkA n (acc ++ [bayOf n acc x]) l).length = _
    rw [parkA_len n l, List.length_append]; simp only [List.length_cons, List.length_nil]; omega
theorem parkL_len (n : Nat) (l : List Nat) : (parkL n l).length = l.length := by rw [parkL, parkA_len]; simp
theorem parkA_pre (n : Nat) : ∀ (l : List Nat) (acc : List Int), ∃ r, parkA n acc l = acc ++ r
  | [], acc => ⟨[], by simp [parkA]⟩
  | x :: l, acc => by
    obtain ⟨r, h⟩ := parkA_pre n l (acc ++ [bayOf n acc x])
    exact ⟨bayOf n acc x :: r, by show parkA n (acc ++ [bayOf n acc x]) l = _; rw [h, List.append_assoc]; rfl⟩
theorem parkA_app (n : Nat) : ∀ (a b : List Nat) (acc : List Int), parkA n acc (a ++ b) = parkA n (parkA n acc a) b
  | [], _, _ => rfl
  | x :: a, b, acc => parkA_app n a b (acc ++ [bayOf n acc x])
theorem parkL_get {n : Nat} {l : List Nat} {i : Nat} (h : i < l.length) : (parkL n l)[i]? = some (bayOf n (parkL n (l.take i)) l[i]) := by
  have h1 : l = l.take (i + 1) ++ l.drop (i + 1) := (List.take_append_drop ..).symm
  have h2 : parkL n l = parkA n (parkL n (l.take (i + 1))) (l.drop (i + 1)) := by
    show parkA n [] l = parkA n (parkA n [] (l.take (i + 1))) (l.drop (i + 1))
    rw [← parkA_app, ← h1]
  obtain ⟨r, h3⟩ := parkA_pre n (l.drop (i + 1)) (parkL n (l.take (i + 1)))
  rw [h2, h3, parkL_take h]
  have h4 := parkL_len n (l.take i)
  rw [List.length_take, Nat.min_eq_left (by omega)] at h4
  rw [List.getElem?_append_left (by rw [List.length_append, h4]; simp), List.getElem?_append_right (by omega), h4, Nat.sub_self]
  rfl
theorem bayOf_cases (n : Nat) (acc : List Int) (w : Nat) : (bayOf n acc w = -1 ∧ fbay n (fun b => decide ((b : Int) ∈ acc)) w = none) ∨ ∃ b : Nat, bayOf n acc w = b ∧ fbay n (fun b => decide ((b : Int) ∈ acc)) w = some b ∧ b < n ∧ w ≤ b ∧ (b : Int) ∉ acc := by
  unfold bayOf
  cases h : fbay n (fun b => decide ((b : Int) ∈ acc)) w with
  | none => exact .inl ⟨rfl, rfl⟩
  | some b =>
    obtain ⟨h1, h2, h3, _⟩ := fbay_some h
    exact .inr ⟨b, rfl, rfl, h1, h2, by simpa using h3⟩
theorem parkL_bd {n : Nat} {l : List Nat} {i : Nat} (h : i < l.length) : ∃ p : Int, (parkL n l)[i]? = some p ∧ (p = -1 ∨ (l[i] : Int) ≤ p ∧ p < n) := by
  refine ⟨_, parkL_get h, ?_⟩
  rcases bayOf_cases n (parkL n (l.take i)) l[i] with ⟨h1, _⟩ | ⟨b, h1, _, h2, h3, _⟩
  · exact .inl h1
  · rw [h1]; exact .inr ⟨by omega, by omega⟩
/-- A row's bits are the bays of the carts that came. -/
def BitsOf (n T : Nat) (acc : List Int) : Prop := T < 256 ∧ ∀ b : Nat, b < n → T.testBit b = decide ((b : Int) ∈ acc)
theorem BitsOf.fb {n T : Nat} {acc : List Int} (h : BitsOf n T acc) (w : Nat) : fbay n (fun b => T.testBit b) w = fbay n (fun b => decide ((b : Int) ∈ acc)) w := fbay_congr h.2
theorem BitsOf.nil (n : Nat) : BitsOf n 0 [] := ⟨by omega, fun b _ => by simp⟩
theorem BitsOf.out {n T : Nat} {acc : List Int} (h : BitsOf n T acc) : BitsOf n T (acc ++ [-1]) := by
  refine ⟨h.1, fun b hb => ?_⟩
  rw [h.2 b hb]
  refine decide_eq_decide.2 ?_
  rw [List.mem_append, List.mem_singleton]
  constructor
  · exact .inl
  · rintro (h | h)
    · exact h
    · omega
theorem BitsOf.put {n T b : Nat} {acc : List Int} (h : BitsOf n T acc) (hb : b < 8) : BitsOf n (T ||| 2 ^ b) (acc ++ [(b : Int)]) := by
  refine ⟨or_bit h.1 hb, fun c hc => ?_⟩
  rw [or_test, h.2 c hc, ← Bool.decide_or]
  refine decide_eq_decide.2 ?_
  rw [List.mem_append, List.mem_singleton]
  constructor
  · rintro (h | h)
    · exact .inl h
    · exact .inr (by omega)
  · rintro (h | h)
    · exact .inl h
    · exact .inr (by omega)
end Go.Vit
