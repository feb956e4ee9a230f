/- Hours as holders, heaps as locks: the plain law. -/
import Derived.Test.YtppallabmjdolaaGreatDoorH6
import Derived.Test.YtppallabmjdolaaGreatDoorB11
set_option linter.unusedSimpArgs false
set_option linter.unusedVariables false
namespace Go.Vit
open Go
def lockN (F : Nat) : Nat → Nat
  | 0 => 0
  | c + 1 => lockN F c ||| 2 ^ (F + c)
def lockH (h : Hp) : Nat := lockN h.1 (h.2 + 1 - h.1)
theorem lockN_bit (F : Nat) : ∀ c i, (lockN F c).testBit i = decide (F ≤ i ∧ i < F + c)
  | 0, i => by
    have : ¬ (F ≤ i ∧ i < F + 0) := by omega
    rw [decide_eq_false this]
    show (0 : Nat).testBit i = false
    exact Nat.zero_testBit i
  | c + 1, i => by
    show (lockN F c ||| 2 ^ (F + c)).testBit i = _
    rw [Nat.testBit_or, lockN_bit F c i, Nat.testBit_two_pow, ← Bool.decide_or]
    exact decide_eq_decide.2 (by omega)
theorem lockH_bit {h : Hp} (hv : h.1 ≤ h.2) (i : Nat) : (lockH h).testBit i = hasH h i := by
  unfold lockH hasH
  rw [lockN_bit, ← Bool.decide_and]
  exact decide_eq_decide.2 (by omega)
def V6 (l : List Hp) : Prop := ∀ h ∈ l, h.1 ≤ h.2 ∧ h.2 ≤ 5
theorem V6.vd {l : List Hp} (h : V6 l) : Vd l := fun x hx => (h x hx).1
theorem lockH_lt {h : Hp} (hv : h.1 ≤ h.2 ∧ h.2 ≤ 5) : lockH h < 64 := by
  refine Nat.lt_pow_two_of_testBit (n := 6) _ fun i hi => ?_
  rw [lockH_bit hv.1]
  unfold hasH
  rw [decide_eq_false (show ¬ i ≤ h.2 by omega), Bool.and_false]
theorem hits_hit {l : List Hp} (hv : V6 l) {g : Nat} : hits (l.map lockH) g = hitB (memL g) l := by
  rw [Bool.eq_iff_iff, hits_iff, hitB_iff]
  constructor
  · intro h x hx
    obtain ⟨i, h1, h2⟩ := meet_iff.1 (h _ (List.mem_map.2 ⟨x, hx, rfl⟩))
    rw [lockH_bit (hv x hx).1] at h2
    have := hasH_iff.1 h2
    exact ⟨i, mem_memL.2 ⟨by have := (hv x hx).2; omega, h1⟩, h2⟩
  · intro h g' hg'
    obtain ⟨x, hx, rfl⟩ := List.mem_map.1 hg'
    obtain ⟨i, h1, h2⟩ := h x hx
    exact meet_iff.2 ⟨i, (mem_memL.1 h1).2, by rw [lockH_bit (hv x hx).1]; exact h2⟩
def maskL : List Nat → Nat
  | [] => 0
  | x :: l => 2 ^ x ||| maskL l
theorem maskL_bit : ∀ (l : List Nat) (i : Nat), (maskL l).testBit i = decide (i ∈ l)
  | [], i => by simp [maskL]
  | x :: l, i => by
    show (2 ^ x ||| maskL l).testBit i = _
    rw [Nat.testBit_or, maskL_bit l i, Nat.testBit_two_pow, ← Bool.decide_or]
    refine decide_eq_decide.2 ?_
    rw [List.mem_cons]
    exact ⟨fun h => h.elim (fun h => .inl h.symm) .inr, fun h => h.elim (fun h => .inl h.symm) .inr⟩
theorem memL_mask {l : List Nat} (h : l.Pairwise (· < ·)) (h6 : ∀ x ∈ l, x < 6) : memL (maskL l) = l := by
  refine asc_ext (memL_asc _) h fun x => ?_
  rw [mem_memL, maskL_bit, decide_eq_true_eq]
  exact ⟨fun h => h.2, fun h => ⟨h6 x h, h⟩⟩
theorem maskL_lt {l : List Nat} (h6 : ∀ x ∈ l, x < 6) : maskL l < 64 := by
  refine Nat.lt_pow_two_of_testBit (n := 6) _ fun i hi => ?_
  rw [maskL_bit]
  exact decide_eq_false fun h => by have := h6 i h; omega
theorem memL_nodup (g : Nat) : (memL g).Nodup := (memL_asc g).imp fun h => by omega
theorem memL_asc0 (g : Nat) : Asc 0 (memL g) := ⟨memL_asc g, fun _ _ => Nat.zero_le _⟩
/-- The first hours. -/
def hrs (l : List Hp) : List Nat := hoursR 24 0 l
section
variable {l : List Hp}
theorem hrs_ok (hv : V6 l) : Hit (hrs l) l ∧ (hrs l).length = meetN l ∧ (hrs l).Pairwise (· < ·) ∧ (∀ x ∈ hrs l, x < 6) ∧ ∀ M, Asc 0 M → Hit M l → M.length = meetN l → cmpL (hrs l) M ≤ 0 := by
  obtain ⟨S, s1, s2, s3, s4⟩ := meet_hit hv.vd
  obtain ⟨h1, h2, h3, h5, h4⟩ := hours_ok 24 0 l hv.vd (fun h hh => by have := (hv h hh).2; omega) ⟨S, ⟨s3, fun _ _ => Nat.zero_le _⟩, s2, s1⟩
  refine ⟨h1, h2, h3.1, fun x hx => ?_, h4⟩
  obtain ⟨h, hh, hb⟩ := h5 x hx
  have := hasH_iff.1 hb
  have := (hv h hh).2
  omega
theorem hit_len (hv : V6 l) {x : Nat} (h : hits (l.map lockH) x = true) : meetN l ≤ (memL x).length := meet_le hv.vd (hitB_iff.1 (by rw [← hits_hit hv]; exact h))
theorem hrs_mem (hv : V6 l) : maskL (hrs l) ∈ hitl (l.map lockH) := by
  obtain ⟨h1, h2, h3, h4, h5⟩ := hrs_ok hv
  have hm := memL_mask h3 h4
  rw [mem_hitl]
  refine ⟨maskL_lt h4, by rw [hits_hit hv, hitB_iff, hm]; exact h1, fun o ho hh hs => ?_⟩
  have hlen := hit_len hv hh
  refine Classical.byContradiction fun hne => ?_
  have : ∃ i, (maskL (hrs l)).testBit i = true ∧ o.testBit i = false := by
    refine Classical.byContradiction fun hn => hne ?_
    apply Nat.eq_of_testBit_eq
    intro i
    cases hb : (maskL (hrs l)).testBit i with
    | false =>
      cases ho' : o.testBit i with
      | false => rfl
      | true => rw [sub_iff.1 hs i ho'] at hb; cases hb
    | true =>
      cases ho' : o.testBit i with
      | true => rfl
      | false => exact absurd ⟨i, hb, ho'⟩ hn
  obtain ⟨i, hi1, hi2⟩ := this
  have hiin : i ∈ memL (maskL (hrs l)) := by
    rw [hm]
    rw [maskL_bit, decide_eq_true_eq] at hi1
    exact hi1
  have h6 := nodup_le (a := i :: memL o) (b := memL (maskL (hrs l))) (List.nodup_cons.2 ⟨(fun h => by rw [(mem_memL.1 h).2] at hi2; cases hi2), memL_nodup o⟩) fun y hy => by
    rcases List.mem_cons.1 hy with rfl | hy
    · exact hiin
    · obtain ⟨g1, g2⟩ := mem_memL.1 hy
      exact mem_memL.2 ⟨g1, sub_iff.1 hs y g2⟩
  rw [hm, h2, List.length_cons] at h6
  omega
theorem hitl_le (hv : V6 l) {x : Nat} (hx : x ∈ hitl (l.map lockH)) : x < 64 ∧ meetN l ≤ (memL x).length ∧ ((memL x).length = meetN l → cmpL (hrs l) (memL x) ≤ 0) := by
  obtain ⟨h1, h2, h3⟩ := mem_hitl.1 hx
  exact ⟨h1, hit_len hv h2, fun h => (hrs_ok hv).2.2.2.2 _ (memL_asc0 x) (hitB_iff.1 (by rw [← hits_hit hv]; exact h2)) h⟩
/-- What the law keeps of the smallest groups so far. -/
def BestI (l : List Hp) (xs : List Nat) (found : Bool) (b : List Nat) : Prop :=
  (found = false ∧ ∀ x ∈ xs, (memL x).length ≠ meetN l) ∨ (found = true ∧ (∃ x ∈ hitl (l.map lockH), memL x = b ∧ (memL x).length = meetN l) ∧ (maskL (hrs l) ∈ xs → b = hrs l))
theorem BestI.skip {xs : List Nat} {found : Bool} {b : List Nat} {x : Nat} (hv : V6 l) (h : BestI l xs found b) (hn : (memL x).length ≠ meetN l) : BestI l (xs ++ [x]) found b := by
  obtain ⟨h1, h2, h3, h4, h5⟩ := hrs_ok hv
  rcases h with ⟨rfl, h⟩ | ⟨rfl, g1, g2⟩
  · refine .inl ⟨rfl, fun y hy => ?_⟩
    rcases List.mem_append.1 hy with hy | hy
    · exact h y hy
    · rw [List.mem_singleton.1 hy]; exact hn
  · refine .inr ⟨rfl, g1, fun hm => ?_⟩
    rcases List.mem_append.1 hm with hm | hm
    · exact g2 hm
    · exfalso
      apply hn
      rw [← List.mem_singleton.1 hm, memL_mask h3 h4, h2]
theorem BestI.take {xs : List Nat} {found : Bool} {b : List Nat} {x : Nat} (hv : V6 l) (h : BestI l xs found b) (hx : x ∈ hitl (l.map lockH)) (he : (memL x).length = meetN l) (hc : found = true → cmpL (memL x) b < 0) : BestI l (xs ++ [x]) true (memL x) := by
  obtain ⟨h1, h2, h3, h4, h5⟩ := hrs_ok hv
  refine .inr ⟨rfl, ⟨x, hx, rfl, he⟩, fun hm => ?_⟩
  rcases List.mem_append.1 hm with hm | hm
  · rcases h with ⟨rfl, h⟩ | ⟨rfl, g1, g2⟩
    · exfalso
      refine h _ hm ?_
      rw [memL_mask h3 h4, h2]
    · have h6 := (hitl_le hv hx).2.2 he
      have h7 := hc rfl
      rw [g2 hm, cmpL_anti] at h7
      omega
  · rw [← List.mem_singleton.1 hm, memL_mask h3 h4]
theorem BestI.keep {xs : List Nat} {b : List Nat} {x : Nat} (hv : V6 l) (h : BestI l xs true b) (he : (memL x).length = meetN l) (hc : ¬ cmpL (memL x) b < 0) : BestI l (xs ++ [x]) true b := by
  obtain ⟨h1, h2, h3, h4, h5⟩ := hrs_ok hv
  rcases h with ⟨h, _⟩ | ⟨_, g1, g2⟩
  · cases h
  · refine .inr ⟨rfl, g1, fun hm => ?_⟩
    rcases List.mem_append.1 hm with hm | hm
    · exact g2 hm
    · rw [← List.mem_singleton.1 hm, memL_mask h3 h4] at hc
      obtain ⟨y, hy, rfl, hye⟩ := g1
      have h6 := (hitl_le hv hy).2.2 hye
      have h7 : cmpL (hrs l) (memL y) = 0 := by omega
      exact (cmpL_zero h7).symm
theorem BestI.done {found : Bool} {b : List Nat} (hv : V6 l) (h : BestI l (hitl (l.map lockH)) found b) : found = true ∧ b = hrs l := by
  obtain ⟨h1, h2, h3, h4, h5⟩ := hrs_ok hv
  have hm := hrs_mem hv
  rcases h with ⟨_, h⟩ | ⟨h, _, g⟩
  · exfalso
    refine h _ hm ?_
    rw [memL_mask h3 h4, h2]
  · exact ⟨h, g hm⟩
end
end Go.Vit
