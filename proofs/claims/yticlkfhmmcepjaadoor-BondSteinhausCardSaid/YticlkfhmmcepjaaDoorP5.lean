/- Plain: smallest hitters twice give the smallest groups. -/
import Derived.Test.YticlkfhmmcepjaaDoorP2
set_option linter.unusedSimpArgs false
set_option linter.unusedVariables false
namespace Go.Vit
theorem hits_range (gs : List Nat) (m : Nat) (hm : m < 64) (hs : ∀ g ∈ gs, g < 64) : hits ((List.range 64).filter (hits gs)) m = true ↔ ∃ g ∈ gs, sub g m = true := by
  rw [hits_iff]
  constructor
  · intro h
    refine Classical.byContradiction fun hn => ?_
    have hc : 63 ^^^ m < 64 := Nat.xor_lt_two_pow (n := 6) (by omega) hm
    have hh : hits gs (63 ^^^ m) = true := hits_iff.2 fun g hg => by
      have h1 : ¬ sub g m = true := fun hh => hn ⟨g, hg, hh⟩
      rw [sub_iff] at h1
      have : ∃ i, g.testBit i = true ∧ ¬ m.testBit i = true := Classical.byContradiction fun hc => h1 fun i hi => Classical.byContradiction fun hm => hc ⟨i, hi, hm⟩
      obtain ⟨i, h2, h3⟩ := this
      refine meet_iff.2 ⟨i, ?_, h2⟩
      have hi6 := bit_lt (hs g hg) h2
      rw [Nat.testBit_xor, show (63 : Nat) = 2 ^ 6 - 1 from rfl, Nat.testBit_two_pow_sub_one, decide_eq_true hi6]
      simpa using h3
    obtain ⟨i, h1, h2⟩ := meet_iff.1 (h _ (List.mem_filter.2 ⟨List.mem_range.2 hc, hh⟩))
    have hi6 := bit_lt hm h1
    rw [Nat.testBit_xor, show (63 : Nat) = 2 ^ 6 - 1 from rfl, Nat.testBit_two_pow_sub_one, decide_eq_true hi6, h1] at h2
    cases h2
  · rintro ⟨g, hg, hgm⟩ o ho
    obtain ⟨i, h1, h2⟩ := meet_iff.1 (hits_iff.1 (List.mem_filter.1 ho).2 g hg)
    exact meet_iff.2 ⟨i, sub_iff.1 hgm i h2, h1⟩
theorem hitl_hitl {gs : List Nat} (hs : ∀ g ∈ gs, g < 64) : hitl (hitl gs) = minl gs := by
  have hr : ∀ x ∈ (List.range 64).filter (hits gs), x < 64 := fun x hx => List.mem_range.1 (List.mem_filter.1 hx).1
  have h1 : ∀ m, hits (hitl gs) m = hits ((List.range 64).filter (hits gs)) m := fun m => hits_minl hr m
  refine asc_ext (minl_asc _) (minl_asc _) fun x => ?_
  rw [mem_hitl, mem_minl]
  constructor
  · rintro ⟨h2, h3, h4⟩
    rw [h1] at h3
    obtain ⟨g, hg, hgx⟩ := (hits_range gs x h2 hs).1 h3
    have hup : ∀ o ∈ gs, sub o x = true → o = x := fun o ho hso => h4 o (hs o ho) (by rw [h1]; exact (hits_range gs o (hs o ho) hs).2 ⟨o, ho, sub_refl o⟩) hso
    refine ⟨h2, ?_, hup⟩
    have := hup g hg hgx
    rw [← this]; exact hg
  · rintro ⟨h2, h3, h4⟩
    refine ⟨h2, by rw [h1]; exact (hits_range gs x h2 hs).2 ⟨x, h3, sub_refl x⟩, fun o ho hh hso => ?_⟩
    rw [h1] at hh
    obtain ⟨g, hg, hgo⟩ := (hits_range gs o ho hs).1 hh
    have := h4 g hg (sub_trans hgo hso)
    subst this
    exact sub_antisymm hso hgo
theorem minl_self {gs : List Nat} (h : ∀ x ∈ gs, x < 64) (ha : gs.Pairwise (· < ·)) (hm : ∀ x ∈ gs, ∀ o ∈ gs, sub o x = true → o = x) : minl gs = gs := by
  refine asc_ext (minl_asc _) ha fun x => ?_
  rw [mem_minl]
  exact ⟨fun hh => hh.2.1, fun hh => ⟨h x hh, hh, hm x hh⟩⟩
theorem minl_hitl (gs : List Nat) : minl (hitl gs) = hitl gs :=
  minl_self (fun x hx => minl_lt hx) (minl_asc _) fun x hx o ho hs => (mem_minl.1 hx).2.2 o (mem_minl.1 ho).2.1 hs
end Go.Vit
