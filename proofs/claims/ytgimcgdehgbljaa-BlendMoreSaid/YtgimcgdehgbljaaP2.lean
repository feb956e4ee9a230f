/- Plain laws: the way from one blend to another one. -/
import Derived.Test.YtgimcgdehgbljaaP1
set_option linter.unusedSimpArgs false
set_option linter.unusedVariables false
namespace Go.Vit
def less (a b : List Nat) : List Nat := a.filter fun x => !decide (x ∈ b)
theorem less_len (a b : List Nat) : (less a b).length = awayN a b := rfl
theorem mem_less {a b : List Nat} {x : Nat} : x ∈ less a b ↔ x ∈ a ∧ x ∉ b := by
  unfold less; rw [List.mem_filter]; simp
theorem less_asc {a b : List Nat} (h : a.Pairwise (· < ·)) : (less a b).Pairwise (· < ·) := filter_asc _ h
def exch (N : Nat) (a : List Nat) (o i : Nat) : List Nat := (List.range N).filter fun x => decide (x = i) || (!decide (x = o) && decide (x ∈ a))
theorem mem_exch {N : Nat} {a : List Nat} {o i x : Nat} : x ∈ exch N a o i ↔ x < N ∧ (x = i ∨ (x ≠ o ∧ x ∈ a)) := by
  unfold exch; rw [List.mem_filter, List.mem_range]; simp
def stp (N : Nat) (b a : List Nat) : List Nat := exch N a ((less a b).headD 0) ((less b a).headD 0)
def itr (N : Nat) (b a : List Nat) : Nat → List Nat
  | 0 => a
  | i + 1 => stp N b (itr N b a i)
theorem asc_nodup {l : List Nat} (h : l.Pairwise (· < ·)) : l.Nodup := h.imp fun h => Nat.ne_of_lt h
structure Exg (N k : Nat) (a b a' : List Nat) (o i : Nat) : Prop where
  bl : Bl N k a'
  lt : o < N ∧ i < N
  oa : o ∈ a
  ob : o ∉ b
  ia : i ∉ a
  ib : i ∈ b
  l1 : less a b = o :: less a' b
  l2 : less b a = i :: less b a'
  eq : a' = exch N a o i
theorem stp_ok {N k : Nat} {a b : List Nat} (ha : Bl N k a) (hb : Bl N k b) (h : 0 < awayN a b) : ∃ o i, Exg N k a b (stp N b a) o i := by
  have h2 : 0 < awayN b a := by rw [← away_comm ha hb]; exact h
  rw [← less_len] at h h2
  obtain ⟨o, t, ho⟩ := List.exists_cons_of_length_pos h
  obtain ⟨i, s, hi⟩ := List.exists_cons_of_length_pos h2
  have hom := (mem_less (a := a) (b := b) (x := o)).1 (by rw [ho]; exact List.mem_cons_self ..)
  have him := (mem_less (a := b) (b := a) (x := i)).1 (by rw [hi]; exact List.mem_cons_self ..)
  have e : stp N b a = exch N a o i := by unfold stp; rw [ho, hi]; rfl
  rw [e]
  have hasc : (exch N a o i).Pairwise (· < ·) := filter_asc _ (range_asc N)
  have h3 : (exch N a o i).length = k := by
    have hp : (exch N a o i).Perm (i :: a.erase o) := by
      refine (List.perm_ext_iff_of_nodup (asc_nodup hasc) ?_).2 fun x => ?_
      · refine List.nodup_cons.2 ⟨fun h => him.2 (List.mem_of_mem_erase h), (asc_nodup ha.asc).erase o⟩
      · rw [mem_exch, List.mem_cons, (asc_nodup ha.asc).mem_erase_iff]
        constructor
        · rintro ⟨_, h⟩; exact h
        · rintro (rfl | ⟨h1, h2⟩)
          · exact ⟨hb.lt _ him.1, .inl rfl⟩
          · exact ⟨ha.lt _ h2, .inr ⟨h1, h2⟩⟩
    rw [hp.length_eq, List.length_cons, List.length_erase_of_mem hom.1, ha.len]
    have : 0 < a.length := List.length_pos_of_mem hom.1
    rw [ha.len] at this
    omega
  have p1 := less_asc (b := b) ha.asc
  rw [ho] at p1
  have p2 := less_asc (b := a) hb.asc
  rw [hi] at p2
  obtain ⟨q1, q2⟩ := List.pairwise_cons.1 p1
  obtain ⟨q3, q4⟩ := List.pairwise_cons.1 p2
  refine ⟨o, i, ⟨hasc, fun x hx => (mem_exch.1 hx).1, h3⟩, ⟨ha.lt _ hom.1, hb.lt _ him.1⟩, hom.1, hom.2, him.2, him.1, ?_, ?_, rfl⟩
  · rw [ho]
    congr 1
    refine asc_ext q2 (less_asc hasc) fun x => ?_
    have hx := mem_less (a := a) (b := b) (x := x)
    rw [ho, List.mem_cons] at hx
    rw [mem_less, mem_exch]
    constructor
    · intro ht
      obtain ⟨h4, h5⟩ := hx.1 (.inr ht)
      have := q1 x ht
      exact ⟨⟨ha.lt _ h4, .inr ⟨by omega, h4⟩⟩, h5⟩
    · rintro ⟨⟨_, h4⟩, h5⟩
      rcases h4 with rfl | ⟨h6, h7⟩
      · exact absurd him.1 h5
      · exact (hx.2 ⟨h7, h5⟩).resolve_left h6
  · rw [hi]
    congr 1
    refine asc_ext q4 (less_asc hb.asc) fun x => ?_
    have hx := mem_less (a := b) (b := a) (x := x)
    rw [hi, List.mem_cons] at hx
    rw [mem_less, mem_exch]
    constructor
    · intro ht
      obtain ⟨h4, h5⟩ := hx.1 (.inr ht)
      have := q3 x ht
      refine ⟨h4, ?_⟩
      rintro ⟨_, rfl | ⟨h6, h7⟩⟩
      · omega
      · exact h5 h7
    · rintro ⟨h4, h5⟩
      refine (hx.2 ⟨h4, fun h6 => h5 ⟨hb.lt _ h4, .inr ⟨fun h7 => ?_, h6⟩⟩⟩).resolve_left fun h6 => h5 ⟨hb.lt _ h4, .inl h6⟩
      subst h7; exact hom.2 h4
theorem itr_ok {N k : Nat} {a b : List Nat} (ha : Bl N k a) (hb : Bl N k b) : ∀ i, i ≤ awayN a b → Bl N k (itr N b a i) ∧ awayN (itr N b a i) b = awayN a b - i
  | 0, _ => ⟨ha, rfl⟩
  | i + 1, h => by
    obtain ⟨h1, h2⟩ := itr_ok ha hb i (by omega)
    obtain ⟨o, j, hs⟩ := stp_ok h1 hb (by omega)
    refine ⟨hs.bl, ?_⟩
    have := congrArg List.length hs.l1
    rw [List.length_cons, less_len, less_len] at this
    show awayN (stp N b (itr N b a i)) b = _
    omega
theorem itr_step {N k : Nat} {a b : List Nat} (ha : Bl N k a) (hb : Bl N k b) {i : Nat} (h : i < awayN a b) : ∃ o j, Exg N k (itr N b a i) b (itr N b a (i + 1)) o j := by
  obtain ⟨h1, h2⟩ := itr_ok ha hb i (by omega)
  exact stp_ok h1 hb (by omega)
theorem itr_end {N k : Nat} {a b : List Nat} (ha : Bl N k a) (hb : Bl N k b) : itr N b a (awayN a b) = b := by
  obtain ⟨h1, h2⟩ := itr_ok ha hb _ (Nat.le_refl _)
  exact (away_zero h1 hb).1 (by omega)
theorem nodup_inj {a : List Nat} (hn : a.Nodup) {i j : Nat} (hi : i < a.length) (hj : j < a.length) (h : a[i] = a[j]) : i = j := by
  rcases Nat.lt_trichotomy i j with hh | hh | hh
  · exact absurd h (List.pairwise_iff_getElem.1 hn i j hi hj hh)
  · exact hh
  · exact absurd h.symm (List.pairwise_iff_getElem.1 hn j i hj hi hh)
/-- .. as the program does it: a leaf is put in the place of another one, and all are sorted. -/
theorem set_mem {a : List Nat} (hn : a.Nodup) {j : Nat} (hj : j < a.length) {o i x : Nat} (ho : a[j] = o) (hi : i ∉ a) : x ∈ a.set j i ↔ x = i ∨ (x ≠ o ∧ x ∈ a) := by
  rw [List.mem_iff_getElem]
  constructor
  · rintro ⟨t, ht, rfl⟩
    rw [List.length_set] at ht
    rw [List.getElem_set]
    split
    · exact .inl rfl
    · rename_i hjt
      refine .inr ⟨fun h => hjt ?_, List.getElem_mem ht⟩
      exact nodup_inj hn hj ht (ho.trans h.symm)
  · rintro (rfl | ⟨h1, h2⟩)
    · exact ⟨j, by rw [List.length_set]; exact hj, by rw [List.getElem_set, if_pos rfl]⟩
    · obtain ⟨t, ht, rfl⟩ := List.getElem_of_mem h2
      exact ⟨t, by rw [List.length_set]; exact ht, by rw [List.getElem_set, if_neg (fun h => h1 (by subst h; exact ho))]⟩
theorem set_nodup {a : List Nat} (hn : a.Nodup) {j : Nat} (hj : j < a.length) {i : Nat} (hi : i ∉ a) : (a.set j i).Nodup := by
  refine List.pairwise_iff_getElem.2 fun p q hp hq hpq => ?_
  rw [List.length_set] at hp hq
  rw [List.getElem_set, List.getElem_set]
  intro h
  split at h <;> split at h
  · omega
  · exact hi (h ▸ List.getElem_mem _)
  · exact hi (h ▸ List.getElem_mem _)
  · have := nodup_inj hn hp hq h; omega
end Go.Vit
