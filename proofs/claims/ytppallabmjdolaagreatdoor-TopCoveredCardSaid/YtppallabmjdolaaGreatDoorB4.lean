/- Walks of the group Bond, numbered for this seat by a program: P1. -/
import Derived.Test.YtppallabmjdolaaGreatDoorCoreD
set_option linter.unusedSimpArgs false
set_option linter.unusedVariables false
namespace Go.Vit

def keepG (gs : List Nat) (g : Nat) : Bool := !gs.any fun o => !decide (o = g) && sub o g
def minl (gs : List Nat) : List Nat := (List.range 64).filter fun g => (gs.filter (keepG gs)).contains g
theorem keepG_iff {gs : List Nat} {g : Nat} : keepG gs g = true ↔ ∀ o ∈ gs, sub o g = true → o = g := by
  unfold keepG
  rw [Bool.not_eq_true', List.any_eq_false]
  constructor
  · intro h o ho hs
    have := h o ho
    simp only [Bool.and_eq_true, Bool.not_eq_true', decide_eq_false_iff_not, not_and, Bool.not_eq_true] at this
    refine Classical.byContradiction fun hn => ?_
    rw [this hn] at hs; cases hs
  · intro h o ho hc
    simp only [Bool.and_eq_true, Bool.not_eq_true', decide_eq_false_iff_not] at hc
    exact hc.1 (h o ho hc.2)
theorem mem_minl {gs : List Nat} {g : Nat} : g ∈ minl gs ↔ g < 64 ∧ g ∈ gs ∧ ∀ o ∈ gs, sub o g = true → o = g := by
  unfold minl
  rw [List.mem_filter, List.mem_range, List.contains_iff_mem, List.mem_filter, keepG_iff]
theorem minl_asc (gs : List Nat) : (minl gs).Pairwise (· < ·) := filter_asc _ (range_asc 64)
theorem minl_lt {gs : List Nat} {x : Nat} (h : x ∈ minl gs) : x < 64 := (mem_minl.1 h).1
theorem minl_len (gs : List Nat) : (minl gs).length ≤ 64 := by
  have := List.length_filter_le (fun g => (gs.filter (keepG gs)).contains g) (List.range 64)
  rwa [List.length_range] at this
/-- Under each member lies a smallest one. -/
theorem under {gs : List Nat} (hs : ∀ x ∈ gs, x < 64) : ∀ (n g : Nat), g ≤ n → g ∈ gs → ∃ o ∈ minl gs, sub o g = true
  | n, g, hn, hg => by
    by_cases h : ∀ o ∈ gs, sub o g = true → o = g
    · exact ⟨g, mem_minl.2 ⟨hs g hg, hg, h⟩, sub_refl g⟩
    · have : ∃ o ∈ gs, sub o g = true ∧ o ≠ g := by
        refine Classical.byContradiction fun hc => h fun o ho hso => Classical.byContradiction fun hne => hc ⟨o, ho, hso, hne⟩
      obtain ⟨o, ho, hso, hne⟩ := this
      have hle := sub_le hso
      cases n with
      | zero => omega
      | succ n =>
        obtain ⟨q, hq, hqo⟩ := under hs n o (by omega) ho
        exact ⟨q, hq, sub_trans hqo hso⟩
/-- m has somebody of each group. -/
def hits (gs : List Nat) (m : Nat) : Bool := gs.all fun g => meet m g
theorem hits_iff {gs : List Nat} {m : Nat} : hits gs m = true ↔ ∀ g ∈ gs, meet m g = true := by unfold hits; exact List.all_eq_true
theorem hits_mono {gs : List Nat} {a b : Nat} (h : sub a b = true) (ha : hits gs a = true) : hits gs b = true :=
  hits_iff.2 fun g hg => meet_mono h (hits_iff.1 ha g hg)
theorem meet_sub {m a b : Nat} (h : sub a b = true) (hm : meet m a = true) : meet m b = true := by
  obtain ⟨i, h1, h2⟩ := meet_iff.1 hm
  exact meet_iff.2 ⟨i, h1, sub_iff.1 h i h2⟩
theorem hits_minl {gs : List Nat} (hs : ∀ x ∈ gs, x < 64) (m : Nat) : hits (minl gs) m = hits gs m := by
  rw [Bool.eq_iff_iff, hits_iff, hits_iff]
  constructor
  · intro h g hg
    obtain ⟨o, ho, hog⟩ := under hs g g (Nat.le_refl _) hg
    exact meet_sub hog (h o ho)
  · intro h g hg
    exact h g (mem_minl.1 hg).2.1
/-- The lowest member, as a group. -/
def lowb (g : Nat) : Nat := g ^^^ (g &&& (g - 1))
def lows : Nat → Nat → List Nat
  | 0, _ => []
  | n + 1, g => if g = 0 then [] else lowb g :: lows n (g &&& (g - 1))
theorem lows_all : ∀ g : Fin 64, lows 6 g.val = ((List.range 6).filter fun i => g.val.testBit i).map fun i => 2 ^ i := by decide +kernel
theorem mem_lows {g x : Nat} (hg : g < 64) : x ∈ lows 6 g ↔ ∃ i, i < 6 ∧ g.testBit i = true ∧ x = 2 ^ i := by
  rw [lows_all ⟨g, hg⟩]
  simp only [List.mem_map, List.mem_filter, List.mem_range]
  constructor
  · rintro ⟨i, ⟨h1, h2⟩, rfl⟩; exact ⟨i, h1, h2, rfl⟩
  · rintro ⟨i, h1, h2, rfl⟩; exact ⟨i, ⟨h1, h2⟩, rfl⟩
theorem lt64_or {a b : Nat} (ha : a < 64) (hb : b < 64) : a ||| b < 64 := Nat.or_lt_two_pow (n := 6) ha hb
theorem bit_lt {g i : Nat} (hg : g < 64) (h : g.testBit i = true) : i < 6 := by
  refine Classical.byContradiction fun hn => ?_
  have h2 : 2 ^ 6 ≤ 2 ^ i := Nat.pow_le_pow_right (by omega) (by omega)
  rw [Nat.testBit_lt_two_pow (show g < 2 ^ i by omega)] at h
  cases h
theorem pow_lt64 {i : Nat} (h : i < 6) : 2 ^ i < 64 := by
  have : i = 0 ∨ i = 1 ∨ i = 2 ∨ i = 3 ∨ i = 4 ∨ i = 5 := by omega
  rcases this with rfl | rfl | rfl | rfl | rfl | rfl <;> decide
/-- One round: what was chosen so far, with somebody of one group more. -/
def stepG (g m : Nat) : List Nat := if m &&& g = 0 then (lows 6 g).map fun b => m ||| b else [m]
def stepL (g : Nat) (ms : List Nat) : List Nat := ms.flatMap (stepG g)
def meetR (ms gs : List Nat) : List Nat := gs.foldl (fun ms g => minl (stepL g ms)) ms
def meetL (gs : List Nat) : List Nat := meetR [0] (minl gs)
/-- The smallest that hit all. -/
def hitl (gs : List Nat) : List Nat := minl ((List.range 64).filter (hits gs))
theorem mem_hitl {gs : List Nat} {m : Nat} : m ∈ hitl gs ↔ m < 64 ∧ hits gs m = true ∧ ∀ o, o < 64 → hits gs o = true → sub o m = true → o = m := by
  unfold hitl
  rw [mem_minl]
  simp only [List.mem_filter, List.mem_range]
  constructor
  · rintro ⟨h1, ⟨_, h2⟩, h3⟩; exact ⟨h1, h2, fun o ho hh hs => h3 o ⟨ho, hh⟩ hs⟩
  · rintro ⟨h1, h2, h3⟩; exact ⟨h1, ⟨h1, h2⟩, fun o ho hs => h3 o ho.1 ho.2 hs⟩
theorem sub_or_left (a b : Nat) : sub a (a ||| b) = true := sub_iff.2 fun i h => by rw [Nat.testBit_or, h]; rfl
theorem sub_or {a b c : Nat} (h : sub a c = true) (h' : sub b c = true) : sub (a ||| b) c = true := sub_iff.2 fun i hi => by
  rw [Nat.testBit_or, Bool.or_eq_true] at hi
  rcases hi with hi | hi
  · exact sub_iff.1 h i hi
  · exact sub_iff.1 h' i hi
theorem sub_bit {g i : Nat} (h : g.testBit i = true) : sub (2 ^ i) g = true := sub_iff.2 fun j hj => by
  rw [Nat.testBit_two_pow] at hj
  simp at hj; subst hj; exact h
theorem mem_stepG {g m x : Nat} (hg : g < 64) : x ∈ stepG g m ↔ (meet m g = true ∧ x = m) ∨ (meet m g = false ∧ ∃ i, g.testBit i = true ∧ x = m ||| 2 ^ i) := by
  unfold stepG
  by_cases h : m &&& g = 0
  · have h1 : meet m g = false := by unfold meet; simp [h]
    rw [if_pos h, h1]
    simp only [List.mem_map, mem_lows hg]
    constructor
    · rintro ⟨b, ⟨i, _, h3, rfl⟩, rfl⟩; exact .inr ⟨trivial, i, h3, rfl⟩
    · rintro (⟨h2, _⟩ | ⟨_, i, h3, rfl⟩)
      · cases h2
      · exact ⟨_, ⟨i, bit_lt hg h3, h3, rfl⟩, rfl⟩
  · have h1 : meet m g = true := by unfold meet; simp [h]
    rw [if_neg h, h1]
    simp
theorem stepG_lt {g m x : Nat} (hg : g < 64) (hm : m < 64) (h : x ∈ stepG g m) : x < 64 := by
  rcases (mem_stepG hg).1 h with ⟨_, rfl⟩ | ⟨_, i, hi, rfl⟩
  · exact hm
  · exact lt64_or hm (pow_lt64 (bit_lt hg hi))
theorem hits_append {a b : List Nat} {m : Nat} : hits (a ++ b) m = (hits a m && hits b m) := List.all_append
/-- The round is right. -/
theorem step_hitl {gs : List Nat} {g : Nat} (hs : ∀ x ∈ gs, x < 64) (hg : g < 64) : minl (stepL g (hitl gs)) = hitl (gs ++ [g]) := by
  refine asc_ext (minl_asc _) (minl_asc _) fun x => ?_
  have hone : ∀ m, hits (gs ++ [g]) m = true ↔ hits gs m = true ∧ meet m g = true := fun m => by
    rw [hits_append, Bool.and_eq_true]
    have : hits [g] m = meet m g := by simp [hits]
    rw [this]
  have hin : ∀ y, y ∈ stepL g (hitl gs) → y < 64 ∧ hits (gs ++ [g]) y = true := fun y hy => by
    unfold stepL at hy
    obtain ⟨m, hm, hy⟩ := List.mem_flatMap.1 hy
    obtain ⟨h1, h2, _⟩ := mem_hitl.1 hm
    refine ⟨stepG_lt hg h1 hy, (hone y).2 ?_⟩
    rcases (mem_stepG hg).1 hy with ⟨h3, rfl⟩ | ⟨_, i, hi, rfl⟩
    · exact ⟨h2, h3⟩
    · refine ⟨hits_mono (sub_or_left _ _) h2, meet_iff.2 ⟨i, ?_, hi⟩⟩
      rw [Nat.testBit_or, Nat.testBit_two_pow]; simp
  have hcov : ∀ y, y < 64 → hits (gs ++ [g]) y = true → ∃ z ∈ stepL g (hitl gs), sub z y = true := fun y hy hh => by
    obtain ⟨h1, h2⟩ := (hone y).1 hh
    obtain ⟨m, hm, hmy⟩ := under (gs := (List.range 64).filter (hits gs)) (fun x hx => List.mem_range.1 (List.mem_filter.1 hx).1) y y (Nat.le_refl _) (List.mem_filter.2 ⟨List.mem_range.2 hy, h1⟩)
    have hm : m ∈ hitl gs := hm
    by_cases h3 : meet m g = true
    · exact ⟨m, List.mem_flatMap.2 ⟨m, hm, (mem_stepG hg).2 (.inl ⟨h3, rfl⟩)⟩, hmy⟩
    · obtain ⟨i, hi1, hi2⟩ := meet_iff.1 h2
      exact ⟨m ||| 2 ^ i, List.mem_flatMap.2 ⟨m, hm, (mem_stepG hg).2 (.inr ⟨by simpa using h3, i, hi2, rfl⟩)⟩, sub_or hmy (sub_bit hi1)⟩
  rw [mem_minl, mem_hitl]
  constructor
  · rintro ⟨h1, h2, h3⟩
    refine ⟨h1, (hin x h2).2, fun o ho hh hso => ?_⟩
    obtain ⟨z, hz, hzo⟩ := hcov o ho hh
    have := h3 z hz (sub_trans hzo hso)
    subst this
    exact sub_antisymm hso hzo
  · rintro ⟨h1, h2, h3⟩
    obtain ⟨z, hz, hzx⟩ := hcov x h1 h2
    have := h3 z (hin z hz).1 (hin z hz).2 hzx
    subst this
    exact ⟨h1, hz, fun o ho hso => h3 o (hin o ho).1 (hin o ho).2 hso⟩
theorem meetR_hitl : ∀ (gs pre : List Nat), (∀ x ∈ pre ++ gs, x < 64) → meetR (hitl pre) gs = hitl (pre ++ gs)
  | [], pre, _ => by simp [meetR]
  | g :: gs, pre, h => by
    have h1 : meetR (hitl pre) (g :: gs) = meetR (minl (stepL g (hitl pre))) gs := rfl
    rw [h1, step_hitl (fun x hx => h x (List.mem_append_left _ hx)) (h g (by simp)), meetR_hitl gs (pre ++ [g]) (fun x hx => h x (by simpa using hx))]
    simp
theorem hitl_nil : hitl [] = [0] := by decide +kernel
theorem hitl_minl {gs : List Nat} (hs : ∀ x ∈ gs, x < 64) : hitl (minl gs) = hitl gs := by
  refine asc_ext (minl_asc _) (minl_asc _) fun x => ?_
  rw [mem_hitl, mem_hitl]
  simp only [hits_minl hs]
theorem meetL_eq {gs : List Nat} (hs : ∀ x ∈ gs, x < 64) : meetL gs = hitl gs := by
  unfold meetL
  rw [← hitl_nil, meetR_hitl (minl gs) [] (fun x hx => minl_lt (by simpa using hx))]
  simp [hitl_minl hs]
end Go.Vit
