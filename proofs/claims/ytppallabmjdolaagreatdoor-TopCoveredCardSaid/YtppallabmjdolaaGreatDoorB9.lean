/- Walks of the group Bond, numbered for this seat by a program: P2. -/
import Derived.Test.YtppallabmjdolaaGreatDoorB8
set_option linter.unusedSimpArgs false
set_option linter.unusedVariables false
namespace Go.Vit
theorem mayB_iff {gs : List Nat} {g : Nat} : mayB gs g = true ↔ ∃ o ∈ gs, sub o g = true := by unfold mayB; exact List.any_eq_true
theorem leastB_iff {P : Nat → Bool} {N g : Nat} : leastB P N g = true ↔ P g = true ∧ ∀ o, o < N → sub o g = true → P o = true → o = g := by
  unfold leastB
  rw [Bool.and_eq_true, List.all_eq_true]
  refine and_congr_right fun _ => ⟨fun h o ho hs hp => ?_, fun h o ho => ?_⟩
  · have := h o (List.mem_range.2 ho)
    simp only [noneBelow, hs, hp, Bool.and_true, Bool.not_not, decide_eq_true_eq] at this
    exact this
  · have := h o (List.mem_range.1 ho)
    unfold noneBelow
    cases hs : sub o g <;> cases hp : P o <;> simp
    exact this hs hp
theorem mostB_iff {P : Nat → Bool} {N g : Nat} : mostB P N g = true ↔ P g = true ∧ ∀ o, o < N → sub g o = true → P o = true → o = g := by
  unfold mostB
  rw [Bool.and_eq_true, List.all_eq_true]
  refine and_congr_right fun _ => ⟨fun h o ho hs hp => ?_, fun h o ho => ?_⟩
  · have := h o (List.mem_range.2 ho)
    simp only [noneAbove, hs, hp, Bool.and_true, Bool.not_not, decide_eq_true_eq] at this
    exact this
  · have := h o (List.mem_range.1 ho)
    unfold noneAbove
    cases hs : sub g o <;> cases hp : P o <;> simp
    exact this hs hp
theorem pow_le {a : Nat} (h : a ≤ 6) : 2 ^ a ≤ 64 := (pow_le64 h).2.2.2
/-- The smallest groups that may open. -/
theorem least_eq {gs : List Nat} {a : Nat} (ha : a ≤ 6) (hs : ∀ g ∈ gs, g < 2 ^ a) : (List.range (2 ^ a)).filter (leastB (mayB gs) (2 ^ a)) = minl gs := by
  have hp := pow_le ha
  refine asc_ext (filter_asc _ (range_asc _)) (minl_asc _) fun x => ?_
  rw [List.mem_filter, List.mem_range, leastB_iff, mem_minl, mayB_iff]
  constructor
  · rintro ⟨hx, ⟨o, ho, hox⟩, h⟩
    have hxo := h o (hs o ho) hox (mayB_iff.2 ⟨o, ho, sub_refl o⟩)
    subst hxo
    exact ⟨by omega, ho, fun q hq hqx => h q (hs q hq) hqx (mayB_iff.2 ⟨q, hq, sub_refl q⟩)⟩
  · rintro ⟨_, hx, h⟩
    refine ⟨hs x hx, ⟨x, hx, sub_refl x⟩, fun o ho hox hm => ?_⟩
    obtain ⟨q, hq, hqo⟩ := mayB_iff.1 hm
    have := h q hq (sub_trans hqo hox)
    subst this
    exact sub_antisymm hox hqo
theorem lack_nil {gs : List Nat} {g : Nat} : lack gs g = [] ↔ ∀ o ∈ gs, meet g o = true := by
  unfold lack
  rw [List.filter_eq_nil_iff]
  constructor
  · intro h o ho
    obtain ⟨i, hi, rfl⟩ := List.getElem_of_mem ho
    have := h i (List.mem_range.2 hi)
    simp only [hi, List.getElem?_eq_getElem, Option.getD_some, decide_eq_true_eq] at this
    unfold meet
    rw [Nat.and_comm]
    simpa using this
  · intro h i hi
    have hi := List.mem_range.1 hi
    have := h gs[i] (List.getElem_mem hi)
    unfold meet at this
    rw [Nat.and_comm] at this
    simp only [hi, List.getElem?_eq_getElem, Option.getD_some, decide_eq_true_eq]
    simpa using this
theorem openB_hits (gs : List Nat) (g : Nat) : openB gs g = hits gs g := by
  rw [Bool.eq_iff_iff]
  unfold openB
  rw [decide_eq_true_eq, lack_nil, hits_iff]
/-- Within the first a. -/
theorem mask_bit (a m i : Nat) : (m &&& (2 ^ a - 1)).testBit i = (m.testBit i && decide (i < a)) := by
  rw [Nat.testBit_and, Nat.testBit_two_pow_sub_one]
theorem bit_of_lt {g a i : Nat} (hg : g < 2 ^ a) (h : g.testBit i = true) : i < a := by
  refine Classical.byContradiction fun hn => ?_
  have h2 : 2 ^ a ≤ 2 ^ i := Nat.pow_le_pow_right (by omega) (by omega)
  rw [Nat.testBit_lt_two_pow (show g < 2 ^ i by omega)] at h
  cases h
theorem hitl_lt {gs : List Nat} {a m : Nat} (ha : a ≤ 6) (hs : ∀ g ∈ gs, g < 2 ^ a) (hm : m ∈ hitl gs) : m < 2 ^ a := by
  obtain ⟨h1, h2, h3⟩ := mem_hitl.1 hm
  have hp := pow_le ha
  have hle : m &&& (2 ^ a - 1) ≤ 2 ^ a - 1 := Nat.and_le_right
  have hpos : 0 < 2 ^ a := Nat.two_pow_pos a
  have := h3 (m &&& (2 ^ a - 1)) (by omega) (hits_iff.2 fun g hg => ?_) (sub_iff.2 fun i hi => ?_)
  · omega
  · obtain ⟨i, hi1, hi2⟩ := meet_iff.1 (hits_iff.1 h2 g hg)
    refine meet_iff.2 ⟨i, ?_, hi2⟩
    rw [mask_bit, hi1, decide_eq_true (bit_of_lt (hs g hg) hi2)]; rfl
  · rw [mask_bit, Bool.and_eq_true] at hi; exact hi.1
/-- The smallest groups that open. -/
theorem smallest_eq {gs : List Nat} {a : Nat} (ha : a ≤ 6) (hs : ∀ g ∈ gs, g < 2 ^ a) : (List.range (2 ^ a)).filter (leastB (openB gs) (2 ^ a)) = hitl gs := by
  have hp := pow_le ha
  refine asc_ext (filter_asc _ (range_asc _)) (minl_asc _) fun x => ?_
  rw [List.mem_filter, List.mem_range, leastB_iff, mem_hitl]
  simp only [openB_hits]
  constructor
  · rintro ⟨hx, h1, h2⟩
    exact ⟨by omega, h1, fun o ho hh hox => h2 o (Nat.lt_of_le_of_lt (sub_le hox) hx) hox hh⟩
  · rintro ⟨hx, h1, h2⟩
    have := hitl_lt ha hs (mem_hitl.2 ⟨hx, h1, h2⟩)
    exact ⟨this, h1, fun o ho hox hh => h2 o (by omega) hh hox⟩
/-- All others. -/
def compl (a m : Nat) : Nat := (2 ^ a - 1) ^^^ ((2 ^ a - 1) &&& m)
theorem compl_bit (a m i : Nat) : (compl a m).testBit i = (decide (i < a) && !m.testBit i) := by
  unfold compl
  rw [Nat.testBit_xor, Nat.testBit_and, Nat.testBit_two_pow_sub_one]
  cases decide (i < a) <;> cases m.testBit i <;> rfl
theorem compl_lt (a m : Nat) : compl a m < 2 ^ a := by
  have hpos : 0 < 2 ^ a := Nat.two_pow_pos a
  refine Nat.lt_pow_two_of_testBit _ fun i hi => ?_
  rw [compl_bit, decide_eq_false (by omega)]; rfl
theorem compl_compl {a m : Nat} (h : m < 2 ^ a) : compl a (compl a m) = m := by
  apply Nat.eq_of_testBit_eq
  intro i
  rw [compl_bit, compl_bit]
  cases hm : m.testBit i with
  | true => rw [decide_eq_true (bit_of_lt h hm)]; rfl
  | false => cases decide (i < a) <;> rfl
theorem sub_compl {a g m : Nat} (hg : g < 2 ^ a) : sub g (compl a m) = !meet m g := by
  rw [Bool.eq_iff_iff, Bool.not_eq_true', sub_iff]
  constructor
  · intro h
    cases hm : meet m g with
    | false => rfl
    | true =>
      obtain ⟨i, h1, h2⟩ := meet_iff.1 hm
      have := h i h2
      rw [compl_bit, h1, Bool.not_true, Bool.and_false] at this
      cases this
  · intro h i hi
    rw [compl_bit, decide_eq_true (bit_of_lt hg hi), Bool.true_and]
    cases hm : m.testBit i with
    | false => rfl
    | true =>
      have := meet_iff.2 ⟨i, hm, hi⟩
      rw [h] at this; cases this
theorem mayB_compl {gs : List Nat} {a m : Nat} (hs : ∀ g ∈ gs, g < 2 ^ a) : (!mayB gs (compl a m)) = hits gs m := by
  rw [Bool.eq_iff_iff, Bool.not_eq_true', hits_iff]
  constructor
  · intro h g hg
    refine Classical.byContradiction fun hn => ?_
    have hn : meet m g = false := by simpa using hn
    have : mayB gs (compl a m) = true := mayB_iff.2 ⟨g, hg, by rw [sub_compl (hs g hg), hn]; rfl⟩
    rw [h] at this; cases this
  · intro h
    cases hm : mayB gs (compl a m) with
    | false => rfl
    | true =>
      obtain ⟨g, hg, hsg⟩ := mayB_iff.1 hm
      rw [sub_compl (hs g hg), h g hg] at hsg; cases hsg
theorem compl_anti {a x y : Nat} (h : sub x y = true) : sub (compl a y) (compl a x) = true := sub_iff.2 fun i hi => by
  rw [compl_bit, Bool.and_eq_true] at hi ⊢
  refine ⟨hi.1, ?_⟩
  cases hx : x.testBit i with
  | false => rfl
  | true => rw [sub_iff.1 h i hx] at hi; exact absurd hi.2 (by simp)
theorem mem_mostB {gs : List Nat} {a x : Nat} (ha : a ≤ 6) (hs : ∀ g ∈ gs, g < 2 ^ a) : x ∈ (List.range (2 ^ a)).filter (mostB (fun g => !mayB gs g) (2 ^ a)) ↔ x < 2 ^ a ∧ compl a x ∈ hitl gs := by
  have hp := pow_le ha
  rw [List.mem_filter, List.mem_range, mostB_iff, mem_hitl]
  refine and_congr_right fun hx => ?_
  have hc := compl_lt a x
  have h0 : (!mayB gs x) = hits gs (compl a x) := by rw [← mayB_compl (a := a) hs, compl_compl hx]
  rw [h0]
  constructor
  · rintro ⟨h1, h2⟩
    refine ⟨by omega, h1, fun o ho hh hox => ?_⟩
    have hoa : o < 2 ^ a := Nat.lt_of_le_of_lt (sub_le hox) hc
    have h3 := h2 (compl a o) (compl_lt a o) (by have := compl_anti (a := a) hox; rwa [compl_compl hx] at this) (by rw [mayB_compl hs]; exact hh)
    rw [← h3, compl_compl hoa]
  · rintro ⟨_, h1, h2⟩
    refine ⟨h1, fun o ho hso hm => ?_⟩
    have h3 := h2 (compl a o) (by have := compl_lt a o; omega) (by rw [← mayB_compl (a := a) hs, compl_compl ho]; exact hm) (compl_anti hso)
    rw [← compl_compl ho, h3, compl_compl hx]
theorem isort_nodup {l : List Nat} {n : Nat} (h : ∀ x ∈ l, x < n) (hn : l.Nodup) : isortI (ci l) = ci ((List.range n).filter fun x => l.contains x) := by
  refine List.Perm.eq_of_pairwise (le := fun a b => a ≤ b) (fun a b _ _ h1 h2 => Int.le_antisymm h1 h2) (isortI_sorted _) ?_ ((isortI_perm _).trans ?_)
  · unfold ci
    rw [List.pairwise_map]
    exact (filter_asc (fun x => l.contains x) (range_asc n)).imp fun h => by omega
  · unfold ci
    refine List.Perm.map _ ?_
    refine (List.perm_ext_iff_of_nodup hn (List.Pairwise.filter _ List.nodup_range)).2 fun x => ?_
    rw [List.mem_filter, List.mem_range, List.contains_iff_mem]
    exact ⟨fun hx => ⟨h x hx, hx⟩, fun hx => hx.2⟩
/-- The largest groups that may not open. -/
theorem barred_eq {gs : List Nat} {a : Nat} (ha : a ≤ 6) (hs : ∀ g ∈ gs, g < 2 ^ a) : isortI (ci ((hitl gs).map (compl a))) = ci ((List.range (2 ^ a)).filter (mostB (fun g => !mayB gs g) (2 ^ a))) := by
  have hinj : ((hitl gs).map (compl a)).Nodup := by
    unfold List.Nodup
    rw [List.pairwise_map]
    refine List.Pairwise.imp_of_mem ?_ (minl_asc _)
    intro x y hx hy hxy he
    have := congrArg (compl a) he
    rw [compl_compl (hitl_lt ha hs hx), compl_compl (hitl_lt ha hs hy)] at this
    omega
  rw [isort_nodup (n := 2 ^ a) (fun x hx => ?_) hinj]
  · congr 1
    refine asc_ext (filter_asc _ (range_asc _)) (filter_asc _ (range_asc _)) fun x => ?_
    rw [mem_mostB ha hs, List.mem_filter, List.mem_range, List.contains_iff_mem, List.mem_map]
    refine and_congr_right fun hx => ⟨?_, fun h => ⟨_, h, compl_compl hx⟩⟩
    rintro ⟨m, hm, rfl⟩
    rw [compl_compl (hitl_lt ha hs hm)]; exact hm
  · obtain ⟨m, _, rfl⟩ := List.mem_map.1 hx
    exact compl_lt a m
end Go.Vit
