/- Plain laws: members are renamed. -/
import Derived.Test.YticlkfhmmcepjaaDoorW15
set_option linter.unusedSimpArgs false
set_option linter.unusedVariables false
namespace Go.Vit
theorem renTo_bit {to : List Nat} {g i : Nat} : ∀ h, (renTo to g h).testBit i = true ↔ ∃ j, j < h ∧ g.testBit j = true ∧ (to[j]?).getD 0 = i
  | 0 => by simp [renTo]
  | h + 1 => by
    rw [renTo, Nat.testBit_or, Bool.or_eq_true, renTo_bit h]
    have hb : ((g >>> h % 2) * 2 ^ (to[h]?).getD 0).testBit i = true ↔ g.testBit h = true ∧ (to[h]?).getD 0 = i := by
      by_cases hg : g.testBit h = true
      · have := (shr_bit g h).2 hg
        rw [show g >>> h % 2 = 1 by omega, Nat.one_mul, Nat.testBit_two_pow, decide_eq_true_eq]
        exact ⟨fun e => ⟨hg, e⟩, fun e => e.2⟩
      · have h1 := mt (shr_bit g h).1 hg
        have h2 : g >>> h % 2 < 2 := Nat.mod_lt _ (by omega)
        rw [show g >>> h % 2 = 0 by omega, Nat.zero_mul, Nat.zero_testBit]
        exact ⟨fun e => (by cases e), fun e => absurd e.1 hg⟩
    rw [hb]
    constructor
    · rintro (⟨j, h1, h2⟩ | h1)
      · exact ⟨j, by omega, h2⟩
      · exact ⟨h, by omega, h1⟩
    · rintro ⟨j, h1, h2⟩
      by_cases e : j = h
      · subst e; exact .inr h2
      · exact .inl ⟨j, by omega, h2⟩
/-- A list that names each of the first N once. -/
structure Ren (to : List Nat) (N : Nat) : Prop where
  perm : to.Perm (List.range N)
  six : N ≤ 6
section
variable {to : List Nat} {N : Nat}
theorem Ren.len (h : Ren to N) : to.length = N := by rw [h.perm.length_eq, List.length_range]
theorem Ren.lt (h : Ren to N) {x : Nat} (hx : x ∈ to) : x < N := List.mem_range.1 (h.perm.mem_iff.1 hx)
theorem Ren.mem (h : Ren to N) {x : Nat} (hx : x < N) : x ∈ to := h.perm.mem_iff.2 (List.mem_range.2 hx)
theorem Ren.nodup (h : Ren to N) : to.Nodup := h.perm.nodup_iff.2 List.nodup_range
theorem Ren.get (h : Ren to N) {j : Nat} (hj : j < N) : ∃ hj' : j < to.length, (to[j]?).getD 0 = to[j] := by
  have : j < to.length := by rw [h.len]; exact hj
  exact ⟨this, by rw [List.getElem?_eq_getElem this]; rfl⟩
theorem Ren.inj (h : Ren to N) {i j : Nat} (hi : i < N) (hj : j < N) (e : (to[i]?).getD 0 = (to[j]?).getD 0) : i = j := by
  obtain ⟨a, ha⟩ := h.get hi
  obtain ⟨b, hb⟩ := h.get hj
  rw [ha, hb] at e
  exact (List.getElem_inj h.nodup).1 e
theorem Ren.lt' (h : Ren to N) {j : Nat} (hj : j < N) : (to[j]?).getD 0 < N := by
  obtain ⟨a, ha⟩ := h.get hj
  rw [ha]; exact h.lt (List.getElem_mem a)
theorem ren_bit (h : Ren to N) {g j : Nat} (hj : j < N) : (renTo to g N).testBit ((to[j]?).getD 0) = g.testBit j := by
  rw [Bool.eq_iff_iff, renTo_bit]
  constructor
  · rintro ⟨i, hi, h1, h2⟩
    rw [← h.inj hi hj h2]; exact h1
  · intro h1; exact ⟨j, hj, h1, rfl⟩
theorem ren_lt (h : Ren to N) (g : Nat) : renTo to g N < 2 ^ N := by
  refine Nat.lt_pow_two_of_testBit _ fun i hi => ?_
  refine Bool.eq_false_iff.2 fun hb => ?_
  obtain ⟨j, hj, _, e⟩ := (renTo_bit N).1 hb
  have := h.lt' hj
  omega
theorem sub_ren (h : Ren to N) {a b : Nat} (ha : a < 2 ^ N) : sub (renTo to a N) (renTo to b N) = sub a b := by
  rw [Bool.eq_iff_iff, sub_iff, sub_iff]
  constructor
  · intro hs i hi
    have hiN := bit_of_lt ha hi
    have := hs _ ((ren_bit h hiN).trans hi)
    rwa [ren_bit h hiN] at this
  · intro hs i hi
    obtain ⟨j, hj, h1, rfl⟩ := (renTo_bit N).1 hi
    rw [ren_bit h hj]; exact hs j h1
theorem meet_ren (h : Ren to N) {a b : Nat} (ha : a < 2 ^ N) : meet (renTo to a N) (renTo to b N) = meet a b := by
  rw [Bool.eq_iff_iff, meet_iff, meet_iff]
  constructor
  · rintro ⟨i, h1, h2⟩
    obtain ⟨j, hj, h3, rfl⟩ := (renTo_bit N).1 h1
    rw [ren_bit h hj] at h2
    exact ⟨j, h3, h2⟩
  · rintro ⟨i, h1, h2⟩
    have hiN := bit_of_lt ha h1
    exact ⟨_, (ren_bit h hiN).trans h1, (ren_bit h hiN).trans h2⟩
theorem ren_inj (h : Ren to N) {a b : Nat} (ha : a < 2 ^ N) (hb : b < 2 ^ N) (e : renTo to a N = renTo to b N) : a = b := by
  refine sub_antisymm ?_ ?_
  · rw [← sub_ren h ha, e]; exact sub_refl _
  · rw [← sub_ren h hb, e]; exact sub_refl _
theorem ren_onto (h : Ren to N) {y : Nat} (hy : y < 2 ^ N) : ∃ x, x < 2 ^ N ∧ renTo to x N = y := by
  have hget : ∀ j, j < N → (((List.range N).map fun i => to.idxOf i)[j]?).getD 0 = to.idxOf j := fun j hj => by simp [hj]
  have hidx : ∀ j, j < N → to.idxOf j < N := fun j hj => by
    have := List.idxOf_lt_length_of_mem (h.mem hj)
    rwa [h.len] at this
  have hback : ∀ j, j < N → (to[to.idxOf j]?).getD 0 = j := fun j hj => by
    have h1 := List.idxOf_lt_length_of_mem (h.mem hj)
    rw [List.getElem?_eq_getElem h1]
    simp
  refine ⟨renTo ((List.range N).map fun i => to.idxOf i) y N, Nat.lt_pow_two_of_testBit _ fun i hi => Bool.eq_false_iff.2 fun hb => ?_, ?_⟩
  · obtain ⟨j, hj, _, e⟩ := (renTo_bit N).1 hb
    rw [hget j hj] at e
    have := hidx j hj
    omega
  · apply Nat.eq_of_testBit_eq
    intro i
    rw [Bool.eq_iff_iff, renTo_bit]
    constructor
    · rintro ⟨j, hj, h1, h2⟩
      obtain ⟨q, hq, h3, h4⟩ := (renTo_bit N).1 h1
      rw [hget q hq] at h4
      rw [← h4, hback q hq] at h2
      rw [← h2]; exact h3
    · intro h1
      have hi := bit_of_lt hy h1
      exact ⟨to.idxOf i, hidx i hi, (renTo_bit N).2 ⟨i, hi, h1, hget i hi⟩, hback i hi⟩
/-- The groups renamed. -/
def rens (to : List Nat) (N : Nat) (gs : List Nat) : List Nat := gs.map fun g => renTo to g N
theorem rens_lt (h : Ren to N) {gs : List Nat} {g : Nat} (hg : g ∈ rens to N gs) : g < 2 ^ N := by
  obtain ⟨x, _, rfl⟩ := List.mem_map.1 hg
  exact ren_lt h x
theorem hits_ren (h : Ren to N) {gs : List Nat} {x : Nat} (hx : x < 2 ^ N) : hits (rens to N gs) (renTo to x N) = hits gs x := by
  unfold hits rens
  rw [List.all_map]
  congr 1
  funext g
  exact meet_ren h hx
theorem mayB_ren (h : Ren to N) {gs : List Nat} (hs : ∀ g ∈ gs, g < 2 ^ N) (x : Nat) : mayB (rens to N gs) (renTo to x N) = mayB gs x := by
  rw [Bool.eq_iff_iff, mayB_iff, mayB_iff]
  constructor
  · rintro ⟨o, ho, h1⟩
    obtain ⟨g, hg, rfl⟩ := List.mem_map.1 ho
    rw [sub_ren h (hs g hg)] at h1
    exact ⟨g, hg, h1⟩
  · rintro ⟨g, hg, h1⟩
    exact ⟨_, List.mem_map.2 ⟨g, hg, rfl⟩, by rw [sub_ren h (hs g hg)]; exact h1⟩
theorem mem_hitl_ren (h : Ren to N) {gs : List Nat} (hs : ∀ g ∈ gs, g < 2 ^ N) {y : Nat} : y ∈ hitl (rens to N gs) ↔ ∃ x ∈ hitl gs, renTo to x N = y := by
  have hp := pow_le h.six
  constructor
  · intro hy
    have hyN := hitl_lt h.six (fun g hg => rens_lt h hg) hy
    obtain ⟨x, hx, rfl⟩ := ren_onto h hyN
    obtain ⟨_, h2, h3⟩ := mem_hitl.1 hy
    rw [hits_ren h hx] at h2
    refine ⟨x, mem_hitl.2 ⟨by omega, h2, fun o ho h4 h5 => ?_⟩, rfl⟩
    have hoN : o < 2 ^ N := Nat.lt_of_le_of_lt (sub_le h5) hx
    have hol := ren_lt h o
    exact ren_inj h hoN hx (h3 _ (by omega) (by rw [hits_ren h hoN]; exact h4) (by rw [sub_ren h hoN]; exact h5))
  · rintro ⟨x, hx, rfl⟩
    have hxN := hitl_lt h.six hs hx
    obtain ⟨_, h2, h3⟩ := mem_hitl.1 hx
    have hxl := ren_lt h x
    refine mem_hitl.2 ⟨by omega, by rw [hits_ren h hxN]; exact h2, fun o ho h4 h5 => ?_⟩
    have hoN : o < 2 ^ N := Nat.lt_of_le_of_lt (sub_le h5) hxl
    obtain ⟨q, hq, rfl⟩ := ren_onto h hoN
    rw [hits_ren h hq] at h4
    rw [sub_ren h hq] at h5
    rw [h3 q (by omega) h4 h5]
theorem rens_nodup (h : Ren to N) {gs : List Nat} (hs : ∀ g ∈ gs, g < 2 ^ N) (hn : gs.Nodup) : (rens to N gs).Nodup := by
  unfold rens List.Nodup
  rw [List.pairwise_map]
  exact List.Pairwise.imp_of_mem (fun ha hb hne e => hne (ren_inj h (hs _ ha) (hs _ hb) e)) hn
theorem asc_nodup {l : List Nat} (h : l.Pairwise (· < ·)) : l.Nodup := h.imp fun e => by omega
theorem sorted_ren (h : Ren to N) {a b : List Nat} (ha : ∀ g ∈ a, g < 2 ^ N) (han : a.Pairwise (· < ·)) (hb : b.Pairwise (· < ·)) (hm : ∀ y, y ∈ b ↔ ∃ x ∈ a, renTo to x N = y) : isortI (ci (rens to N a)) = ci b := by
  rw [isort_nodup (n := 2 ^ N) (fun x hx => rens_lt h hx) (rens_nodup h ha (asc_nodup han))]
  congr 1
  refine asc_ext (filter_asc _ (range_asc _)) hb fun y => ?_
  rw [List.mem_filter, List.mem_range, List.contains_iff_mem, hm]
  unfold rens
  rw [List.mem_map]
  exact ⟨fun e => e.2, fun e => ⟨by obtain ⟨x, _, rfl⟩ := e; exact ren_lt h x, e⟩⟩
theorem hitl_ren (h : Ren to N) {gs : List Nat} (hs : ∀ g ∈ gs, g < 2 ^ N) : isortI (ci (rens to N (hitl gs))) = ci (hitl (rens to N gs)) :=
  sorted_ren h (fun g hg => hitl_lt h.six hs hg) (minl_asc _) (minl_asc _) fun y => mem_hitl_ren h hs
theorem barred_ren (h : Ren to N) {gs : List Nat} (hs : ∀ g ∈ gs, g < 2 ^ N) :
    isortI (ci (rens to N ((List.range (2 ^ N)).filter (mostB (fun g => !mayB gs g) (2 ^ N))))) = ci ((List.range (2 ^ N)).filter (mostB (fun g => !mayB (rens to N gs) g) (2 ^ N))) := by
  refine sorted_ren h (fun g hg => List.mem_range.1 (List.mem_filter.1 hg).1) (filter_asc _ (range_asc _)) (filter_asc _ (range_asc _)) fun y => ?_
  simp only [List.mem_filter, List.mem_range, mostB_iff]
  constructor
  · rintro ⟨hy, h1, h2⟩
    obtain ⟨x, hx, rfl⟩ := ren_onto h hy
    rw [mayB_ren h hs] at h1
    refine ⟨x, ⟨hx, h1, fun o ho h3 h4 => ?_⟩, rfl⟩
    exact ren_inj h ho hx (h2 _ (ren_lt h o) (by rw [sub_ren h hx]; exact h3) (by rw [mayB_ren h hs]; exact h4))
  · rintro ⟨x, ⟨hx, h1, h2⟩, rfl⟩
    refine ⟨ren_lt h x, by rw [mayB_ren h hs]; exact h1, fun o ho h3 h4 => ?_⟩
    obtain ⟨q, hq, rfl⟩ := ren_onto h ho
    rw [sub_ren h hx] at h3
    rw [mayB_ren h hs] at h4
    rw [h2 q hq h3 h4]
theorem keyCount_ren (h : Ren to N) {gs : List Nat} (hs : ∀ g ∈ gs, g < 2 ^ N) {j : Nat} (hj : j < N) : keyCount (hitl (rens to N gs)) ((to[j]?).getD 0) = keyCount (hitl gs) j := by
  have hp : (rens to N (hitl gs)).Perm (hitl (rens to N gs)) :=
    (List.perm_ext_iff_of_nodup (rens_nodup h (fun g hg => hitl_lt h.six hs hg) (asc_nodup (minl_asc _))) (asc_nodup (minl_asc _))).2 fun y => by
      refine Iff.trans ?_ (mem_hitl_ren h hs).symm
      unfold rens; rw [List.mem_map]
  unfold keyCount
  rw [← (hp.filter _).length_eq]
  unfold rens
  rw [List.filter_map, List.length_map]
  congr 3
  funext g
  exact ren_bit h hj
end
end Go.Vit
