/- Joined: P1 P2 P3 P4 P5 P6 P7 P8 P9 P10 P11 P12 P13. -/
import Derived.Test.YtgimcgdehgbljaaW1
set_option linter.unusedSimpArgs false
set_option linter.unusedVariables false
set_option maxRecDepth 20000
/- Plain laws: how many leaves of one blend are not in another. -/
namespace Go.Vit
theorem countP_or (p q : Nat → Bool) : ∀ l : List Nat, l.countP (fun x => p x || q x) ≤ l.countP p + l.countP q
  | [] => Nat.le_refl _
  | x :: l => by
    have := countP_or p q l
    simp only [List.countP_cons]
    cases p x <;> cases q x <;> simp <;> omega
theorem countP_split (p q : Nat → Bool) : ∀ l : List Nat, l.countP p = l.countP (fun x => p x && q x) + l.countP (fun x => p x && !q x)
  | [] => rfl
  | x :: l => by
    have := countP_split p q l
    simp only [List.countP_cons]
    cases p x <;> cases q x <;> simp <;> omega
/-- A blend is the leaves of it. -/
theorem Bl.eq {N k : Nat} {l : List Nat} (h : Bl N k l) : (List.range N).filter (fun x => decide (x ∈ l)) = l := by
  refine asc_ext (filter_asc _ (range_asc N)) h.asc fun x => ?_
  rw [List.mem_filter, List.mem_range, decide_eq_true_eq]
  exact ⟨fun hh => hh.2, fun hh => ⟨h.lt x hh, hh⟩⟩
theorem Bl.cnt {N k : Nat} {l : List Nat} (h : Bl N k l) : (List.range N).countP (fun x => decide (x ∈ l)) = k := by
  rw [List.countP_eq_length_filter, h.eq, h.len]
theorem away_cnt {N k : Nat} {a b : List Nat} (ha : Bl N k a) : awayN a b = (List.range N).countP (fun x => decide (x ∈ a) && !decide (x ∈ b)) := by
  unfold awayN
  conv => lhs; rw [← ha.eq]
  rw [List.filter_filter, List.countP_eq_length_filter]
  congr 1
  exact List.filter_congr fun x hx => Bool.and_comm _ _
theorem away_comm {N k : Nat} {a b : List Nat} (ha : Bl N k a) (hb : Bl N k b) : awayN a b = awayN b a := by
  rw [away_cnt ha, away_cnt hb]
  have h1 := ha.cnt
  have h2 := hb.cnt
  rw [countP_split _ (fun x => decide (x ∈ b))] at h1
  rw [countP_split _ (fun x => decide (x ∈ a))] at h2
  have h3 : (List.range N).countP (fun x => decide (x ∈ a) && decide (x ∈ b)) = (List.range N).countP (fun x => decide (x ∈ b) && decide (x ∈ a)) := by
    congr 1; funext x; rw [Bool.and_comm]
  omega
def oth (N : Nat) (l : List Nat) : List Nat := (List.range N).filter fun x => !decide (x ∈ l)
theorem oth_bl {N k : Nat} {l : List Nat} (h : Bl N k l) : Bl N (N - k) (oth N l) := by
  refine ⟨filter_asc _ (range_asc N), fun x hx => List.mem_range.1 (List.mem_filter.1 hx).1, ?_⟩
  have h1 := h.cnt
  have h2 := countP_split (fun _ => true) (fun x => decide (x ∈ l)) (List.range N)
  simp only [Bool.true_and] at h2
  have h3 : (List.range N).countP (fun _ => true) = N := by simp
  unfold oth
  rw [← List.countP_eq_length_filter]
  omega
theorem mem_oth {N : Nat} {l : List Nat} {x : Nat} (hx : x < N) : decide (x ∈ oth N l) = !decide (x ∈ l) := by
  unfold oth
  by_cases h : x ∈ l
  · simp [h]
  · simp [h, hx]
theorem away_oth {N k : Nat} {a b : List Nat} (ha : Bl N k a) (hb : Bl N k b) : awayN (oth N a) (oth N b) = awayN a b := by
  rw [away_comm ha hb, away_cnt (oth_bl ha), away_cnt hb]
  refine List.countP_congr fun x hx => ?_
  have hx := List.mem_range.1 hx
  rw [mem_oth hx, mem_oth hx, Bool.not_not, Bool.and_comm]
theorem away_tri {N k : Nat} {a b c : List Nat} (ha : Bl N k a) (hb : Bl N k b) (hc : Bl N k c) : awayN a b ≤ awayN a c + awayN c b := by
  rw [away_cnt ha, away_cnt ha, away_cnt hc]
  refine Nat.le_trans ?_ (countP_or _ _ _)
  refine List.countP_mono_left fun x _ h => ?_
  cases h1 : decide (x ∈ a) <;> cases h2 : decide (x ∈ b) <;> cases h3 : decide (x ∈ c) <;> simp_all
theorem away_zero {N k : Nat} {a b : List Nat} (ha : Bl N k a) (hb : Bl N k b) : awayN a b = 0 ↔ a = b := by
  constructor
  · intro h
    have h' := away_comm ha hb
    rw [h] at h'
    have sub : ∀ {p q : List Nat}, awayN p q = 0 → ∀ x, x ∈ p → x ∈ q := fun {p q} h x hx => by
      unfold awayN at h
      rw [List.length_eq_zero_iff, List.filter_eq_nil_iff] at h
      simpa using h x hx
    exact asc_ext ha.asc hb.asc fun x => ⟨sub h x, sub h'.symm x⟩
  · rintro rfl
    unfold awayN
    rw [List.length_eq_zero_iff, List.filter_eq_nil_iff]
    intro x hx; simp [hx]
theorem away_le {N k : Nat} {a b : List Nat} (ha : Bl N k a) (hb : Bl N k b) : awayN a b ≤ k ∧ awayN a b ≤ N - k := by
  constructor
  · have := List.length_filter_le (fun x => !decide (x ∈ b)) a
    rw [ha.len] at this
    exact this
  · rw [away_comm ha hb, away_cnt hb, ← (oth_bl ha).len]
    unfold oth
    rw [← List.countP_eq_length_filter]
    refine List.countP_mono_left fun x _ h => ?_
    simp only [Bool.and_eq_true] at h
    exact h.2
end Go.Vit

/- Plain laws: the way from one blend to another one. -/
namespace Go.Vit
def less (a b : List Nat) : List Nat := a.filter fun x => !decide (x ∈ b)
theorem less_len (a b : List Nat) : (less a b).length = awayN a b := rfl
theorem mem_less {a b : List Nat} {x : Nat} : x ∈ less a b ↔ x ∈ a ∧ x ∉ b := by
  unfold less; rw [List.mem_filter]; simp
theorem less_asc {a b : List Nat} (h : a.Pairwise (· < ·)) : (less a b).Pairwise (· < ·) := filter_asc _ h
def exch (N : Nat) (a : List Nat) (o i : Nat) : List Nat := (List.range N).filter fun x => decide (x = i) || (!decide (x = o) && decide (x ∈ a))
theorem mem_exch {N : Nat} {a : List Nat} {o i x : Nat} : x ∈ exch N a o i ↔ x < N ∧ (x = i ∨ (x ≠ o ∧ x ∈ a)) := by
  unfold exch; rw [List.mem_filter, List.mem_range]; simp
def stp (N : Nat) (b a : List Nat) : List Nat := exch N a ((less a b).headD 0) ((less b a).headD 0)
def itr (N : Nat) (b a : List Nat) : Nat → List Nat
  | 0 => a
  | i + 1 => stp N b (itr N b a i)
theorem asc_nodup {l : List Nat} (h : l.Pairwise (· < ·)) : l.Nodup := h.imp fun h => Nat.ne_of_lt h
structure Exg (N k : Nat) (a b a' : List Nat) (o i : Nat) : Prop where
  bl : Bl N k a'
  lt : o < N ∧ i < N
  oa : o ∈ a
  ob : o ∉ b
  ia : i ∉ a
  ib : i ∈ b
  l1 : less a b = o :: less a' b
  l2 : less b a = i :: less b a'
  eq : a' = exch N a o i
theorem stp_ok {N k : Nat} {a b : List Nat} (ha : Bl N k a) (hb : Bl N k b) (h : 0 < awayN a b) : ∃ o i, Exg N k a b (stp N b a) o i := by
  have h2 : 0 < awayN b a := by rw [← away_comm ha hb]; exact h
  rw [← less_len] at h h2
  obtain ⟨o, t, ho⟩ := List.exists_cons_of_length_pos h
  obtain ⟨i, s, hi⟩ := List.exists_cons_of_length_pos h2
  have hom := (mem_less (a := a) (b := b) (x := o)).1 (by rw [ho]; exact List.mem_cons_self ..)
  have him := (mem_less (a := b) (b := a) (x := i)).1 (by rw [hi]; exact List.mem_cons_self ..)
  have e : stp N b a = exch N a o i := by unfold stp; rw [ho, hi]; rfl
  rw [e]
  have hasc : (exch N a o i).Pairwise (· < ·) := filter_asc _ (range_asc N)
  have h3 : (exch N a o i).length = k := by
    have hp : (exch N a o i).Perm (i :: a.erase o) := by
      refine (List.perm_ext_iff_of_nodup (asc_nodup hasc) ?_).2 fun x => ?_
      · refine List.nodup_cons.2 ⟨fun h => him.2 (List.mem_of_mem_erase h), (asc_nodup ha.asc).erase o⟩
      · rw [mem_exch, List.mem_cons, (asc_nodup ha.asc).mem_erase_iff]
        constructor
        · rintro ⟨_, h⟩; exact h
        · rintro (rfl | ⟨h1, h2⟩)
          · exact ⟨hb.lt _ him.1, .inl rfl⟩
          · exact ⟨ha.lt _ h2, .inr ⟨h1, h2⟩⟩
    rw [hp.length_eq, List.length_cons, List.length_erase_of_mem hom.1, ha.len]
    have : 0 < a.length := List.length_pos_of_mem hom.1
    rw [ha.len] at this
    omega
  have p1 := less_asc (b := b) ha.asc
  rw [ho] at p1
  have p2 := less_asc (b := a) hb.asc
  rw [hi] at p2
  obtain ⟨q1, q2⟩ := List.pairwise_cons.1 p1
  obtain ⟨q3, q4⟩ := List.pairwise_cons.1 p2
  refine ⟨o, i, ⟨hasc, fun x hx => (mem_exch.1 hx).1, h3⟩, ⟨ha.lt _ hom.1, hb.lt _ him.1⟩, hom.1, hom.2, him.2, him.1, ?_, ?_, rfl⟩
  · rw [ho]
    congr 1
    refine asc_ext q2 (less_asc hasc) fun x => ?_
    have hx := mem_less (a := a) (b := b) (x := x)
    rw [ho, List.mem_cons] at hx
    rw [mem_less, mem_exch]
    constructor
    · intro ht
      obtain ⟨h4, h5⟩ := hx.1 (.inr ht)
      have := q1 x ht
      exact ⟨⟨ha.lt _ h4, .inr ⟨by omega, h4⟩⟩, h5⟩
    · rintro ⟨⟨_, h4⟩, h5⟩
      rcases h4 with rfl | ⟨h6, h7⟩
      · exact absurd him.1 h5
      · exact (hx.2 ⟨h7, h5⟩).resolve_left h6
  · rw [hi]
    congr 1
    refine asc_ext q4 (less_asc hb.asc) fun x => ?_
    have hx := mem_less (a := b) (b := a) (x := x)
    rw [hi, List.mem_cons] at hx
    rw [mem_less, mem_exch]
    constructor
    · intro ht
      obtain ⟨h4, h5⟩ := hx.1 (.inr ht)
      have := q3 x ht
      refine ⟨h4, ?_⟩
      rintro ⟨_, rfl | ⟨h6, h7⟩⟩
      · omega
      · exact h5 h7
    · rintro ⟨h4, h5⟩
      refine (hx.2 ⟨h4, fun h6 => h5 ⟨hb.lt _ h4, .inr ⟨fun h7 => ?_, h6⟩⟩⟩).resolve_left fun h6 => h5 ⟨hb.lt _ h4, .inl h6⟩
      subst h7; exact hom.2 h4
theorem itr_ok {N k : Nat} {a b : List Nat} (ha : Bl N k a) (hb : Bl N k b) : ∀ i, i ≤ awayN a b → Bl N k (itr N b a i) ∧ awayN (itr N b a i) b = awayN a b - i
  | 0, _ => ⟨ha, rfl⟩
  | i + 1, h => by
    obtain ⟨h1, h2⟩ := itr_ok ha hb i (by omega)
    obtain ⟨o, j, hs⟩ := stp_ok h1 hb (by omega)
    refine ⟨hs.bl, ?_⟩
    have := congrArg List.length hs.l1
    rw [List.length_cons, less_len, less_len] at this
    show awayN (stp N b (itr N b a i)) b = _
    omega
theorem itr_step {N k : Nat} {a b : List Nat} (ha : Bl N k a) (hb : Bl N k b) {i : Nat} (h : i < awayN a b) : ∃ o j, Exg N k (itr N b a i) b (itr N b a (i + 1)) o j := by
  obtain ⟨h1, h2⟩ := itr_ok ha hb i (by omega)
  exact stp_ok h1 hb (by omega)
theorem itr_end {N k : Nat} {a b : List Nat} (ha : Bl N k a) (hb : Bl N k b) : itr N b a (awayN a b) = b := by
  obtain ⟨h1, h2⟩ := itr_ok ha hb _ (Nat.le_refl _)
  exact (away_zero h1 hb).1 (by omega)
theorem nodup_inj {α : Type} {a : List α} (hn : a.Nodup) {i j : Nat} (hi : i < a.length) (hj : j < a.length) (h : a[i] = a[j]) : i = j := by
  rcases Nat.lt_trichotomy i j with hh | hh | hh
  · exact absurd h (List.pairwise_iff_getElem.1 hn i j hi hj hh)
  · exact hh
  · exact absurd h.symm (List.pairwise_iff_getElem.1 hn j i hj hi hh)
/-- .. as the program does it: a leaf is put in the place of another one, and all are sorted. -/
theorem set_mem {a : List Nat} (hn : a.Nodup) {j : Nat} (hj : j < a.length) {o i x : Nat} (ho : a[j] = o) (hi : i ∉ a) : x ∈ a.set j i ↔ x = i ∨ (x ≠ o ∧ x ∈ a) := by
  rw [List.mem_iff_getElem]
  constructor
  · rintro ⟨t, ht, rfl⟩
    rw [List.length_set] at ht
    rw [List.getElem_set]
    split
    · exact .inl rfl
    · rename_i hjt
      refine .inr ⟨fun h => hjt ?_, List.getElem_mem ht⟩
      exact nodup_inj hn hj ht (ho.trans h.symm)
  · rintro (rfl | ⟨h1, h2⟩)
    · exact ⟨j, by rw [List.length_set]; exact hj, by rw [List.getElem_set, if_pos rfl]⟩
    · obtain ⟨t, ht, rfl⟩ := List.getElem_of_mem h2
      exact ⟨t, by rw [List.length_set]; exact ht, by rw [List.getElem_set, if_neg (fun h => h1 (by subst h; exact ho))]⟩
theorem set_nodup {a : List Nat} (hn : a.Nodup) {j : Nat} (hj : j < a.length) {i : Nat} (hi : i ∉ a) : (a.set j i).Nodup := by
  refine List.pairwise_iff_getElem.2 fun p q hp hq hpq => ?_
  rw [List.length_set] at hp hq
  rw [List.getElem_set, List.getElem_set]
  intro h
  split at h <;> split at h
  · omega
  · exact hi (h ▸ List.getElem_mem _)
  · exact hi (h ▸ List.getElem_mem _)
  · have := nodup_inj hn hp hq h; omega
end Go.Vit

/- Plain laws: leaves that must go out, one after another. -/
namespace Go.Vit
def outs (p b : List Nat) (x : Nat) : List Nat := (List.range x).filter fun y => decide (y ∈ p) && !decide (y ∈ b)
theorem mem_outs {p b : List Nat} {x y : Nat} : y ∈ outs p b x ↔ y < x ∧ y ∈ p ∧ y ∉ b := by
  unfold outs; rw [List.mem_filter, List.mem_range]; simp
theorem outs_le (p b : List Nat) (x : Nat) : (outs p b x).length ≤ x := by
  have := List.length_filter_le (fun y => decide (y ∈ p) && !decide (y ∈ b)) (List.range x)
  rw [List.length_range] at this
  exact this
theorem outs_t {p b : List Nat} {x : Nat} (h : x ∈ p) (h' : x ∉ b) : outs p b (x + 1) = outs p b x ++ [x] := by
  unfold outs; rw [List.range_succ, List.filter_append]; simp [h, h']
theorem outs_f {p b : List Nat} {x : Nat} (h : ¬ (x ∈ p ∧ x ∉ b)) : outs p b (x + 1) = outs p b x := by
  unfold outs; rw [List.range_succ, List.filter_append]
  have : (decide (x ∈ p) && !decide (x ∈ b)) = false := by
    by_cases h1 : x ∈ p
    · by_cases h2 : x ∈ b
      · simp [h2]
      · exact absurd ⟨h1, h2⟩ h
    · simp [h1]
  rw [List.filter_cons_of_neg (by rw [this]; decide), List.filter_nil, List.append_nil]
theorem outs_all {N k : Nat} {p b : List Nat} (h : Bl N k p) : outs p b N = less p b := by
  refine asc_ext (filter_asc _ (range_asc N)) (less_asc h.asc) fun x => ?_
  rw [mem_outs, mem_less]
  exact ⟨fun h => h.2, fun h' => ⟨h.lt x h'.1, h'⟩⟩
theorem outs_hd {N k : Nat} {p b t : List Nat} {o : Nat} (h : Bl N k p) (ho : less p b = o :: t) : outs p b (o + 1) = [o] := by
  have h1 := less_asc (b := b) h.asc
  rw [ho] at h1
  obtain ⟨h2, h3⟩ := List.pairwise_cons.1 h1
  have hm : ∀ y, y ∈ p ∧ y ∉ b ↔ y ∈ o :: t := fun y => by rw [← ho, mem_less]
  refine asc_ext (filter_asc _ (range_asc _)) (List.pairwise_singleton _ _) fun x => ?_
  rw [mem_outs, hm x, List.mem_cons, List.mem_singleton]
  constructor
  · rintro ⟨h4, h5 | h5⟩
    · exact h5
    · have := h2 x h5; omega
  · rintro rfl; exact ⟨by omega, .inl rfl⟩
theorem Exg.mem {N k : Nat} {a b a' : List Nat} {o i x : Nat} (h : Exg N k a b a' o i) (hx : x < N) : x ∈ a' ↔ x = i ∨ (x ≠ o ∧ x ∈ a) := by
  rw [h.eq, mem_exch]; exact ⟨fun h => h.2, fun h => ⟨hx, h⟩⟩
end Go.Vit

/- Plain laws: what passes a check is a blend. -/
namespace Go.Vit
theorem chkL_bl {N : Int} : ∀ (l : List Int) (last : Int), chkL N last l = 0 → ∃ l' : List Nat, l = ci l' ∧ l'.Pairwise (· < ·) ∧ ∀ x ∈ l', (last < (x : Int)) ∧ (x : Int) < N
  | [], _, _ => ⟨[], rfl, List.Pairwise.nil, fun x hx => by cases hx⟩
  | x :: l, last, h => by
    have h' : (if 0 ≤ x ∧ x ≤ N - 1 then (if x ≤ last then 7 else chkL N x l) else 2) = (0 : Int) := h
    split at h'
    · rename_i h1
      split at h'
      · cases h'
      · rename_i h2
        obtain ⟨l', rfl, h3, h4⟩ := chkL_bl l x h'
        obtain ⟨y, rfl⟩ : ∃ y : Nat, x = y := ⟨x.toNat, by omega⟩
        refine ⟨y :: l', rfl, List.pairwise_cons.2 ⟨fun z hz => by have := (h4 z hz).1; omega, h3⟩, fun z hz => ?_⟩
        rcases List.mem_cons.1 hz with rfl | hz
        · omega
        · have := h4 z hz; omega
    · cases h'
theorem chkB_bl {N : Int} {l : List Int} (h : chkB N l = 0) : ∃ (n : Nat) (l' : List Nat), N = n ∧ 1 ≤ n ∧ n ≤ 10 ∧ l = ci l' ∧ Bl n l'.length l' := by
  unfold chkB at h
  split at h
  · rename_i hN
    obtain ⟨l', rfl, h3, h4⟩ := chkL_bl l (-1) h
    obtain ⟨n, rfl⟩ : ∃ n : Nat, N = n := ⟨N.toNat, by omega⟩
    exact ⟨n, l', rfl, by omega, by omega, rfl, h3, fun x hx => by have := (h4 x hx).2; omega, rfl⟩
  · cases h
/-- What the check of two blends answers. -/
def botE (N : Int) (a b : List Int) : Int := if chkB N a = 0 then (if chkB N b = 0 then (if a.length = b.length then 0 else 5) else chkB N b) else chkB N a
theorem botE_bl {N : Int} {a b : List Int} (h : botE N a b = 0) : ∃ (n k : Nat) (a' b' : List Nat), N = n ∧ 1 ≤ n ∧ n ≤ 10 ∧ a = ci a' ∧ b = ci b' ∧ Bl n k a' ∧ Bl n k b' := by
  unfold botE at h
  split at h
  · rename_i h1
    split at h
    · rename_i h2
      split at h
      · rename_i h3
        obtain ⟨n, a', rfl, h4, h5, rfl, h6⟩ := chkB_bl h1
        obtain ⟨n2, b', h7, _, _, rfl, h8⟩ := chkB_bl h2
        have : n2 = n := by omega
        subst this
        rw [ci_length, ci_length] at h3
        exact ⟨n2, a'.length, a', b', rfl, h4, h5, rfl, rfl, h6, h3 ▸ h8⟩
      · cases h
    · contradiction
  · contradiction
def nni (l : List Int) : List Nat := l.map Int.toNat
theorem nni_ci (l : List Nat) : nni (ci l) = l := by
  unfold nni ci
  rw [List.map_map]
  conv => rhs; rw [← List.map_id l]
  exact List.map_congr_left fun x _ => rfl
end Go.Vit

/- Plain laws: how many blends, the round, numbers and places. -/
namespace Go.Vit
def chsT (n : Nat) : Nat → Nat
  | 0 => 1
  | i + 1 => chsT n i * (n - i) / (i + 1)
def chs (n k : Nat) : Nat := if n < k then 0 else chsT n k
theorem chsT_le : ∀ n, n < 12 → ∀ k, k < 12 → k ≤ n → 1 ≤ chsT n k ∧ chsT n k ≤ 1000 := by decide +kernel
theorem chs_le {n k : Nat} (hn : n < 12) : chs n k ≤ 1000 := by
  unfold chs
  split
  · omega
  · exact (chsT_le n hn k (by omega) (by omega)).2
theorem chs_pos {n k : Nat} (hn : n < 12) (hk : k ≤ n) : 1 ≤ chs n k := by
  unfold chs
  rw [if_neg (by omega)]
  exact (chsT_le n hn k (by omega) hk).1
/-- The place of a blend. -/
def numK (l : List Nat) : Nat → Int
  | 0 => 0
  | k + 1 => (chs (l.getD k 0 + 1) (k + 1) : Int) - 1 - numK l k
/-- The greatest leaf of a blend of k + 1 leaves with the place n. -/
def topL (k n : Nat) : Nat := ((List.range 10).find? fun x => decide (k ≤ x) && decide (n < chs (x + 1) (k + 1))).getD 10
def nthK : Nat → Nat → List Nat
  | 0, _ => []
  | k + 1, n => nthK k (chs (topL k n + 1) (k + 1) - 1 - n) ++ [topL k n]
/-- The round. -/
def rnd : Nat → Nat → List (List Nat)
  | _, 0 => [[]]
  | 0, _ + 1 => []
  | n + 1, k + 1 => if k = n then [List.range (n + 1)] else rnd n (k + 1) ++ (rnd n k).reverse.map (· ++ [n])
def rndOk (N k : Nat) : Bool :=
  decide ((rnd N k).length = chs N k) && (List.range (chs N k)).all fun i => decide (nthK k i = (rnd N k).getD i []) && decide (numK ((rnd N k).getD i []) k = i)
theorem rnd_all : ∀ N, N < 11 → ∀ k, k < 11 → k ≤ N → rndOk N k = true := by decide +kernel
theorem rnd_len {N k : Nat} (hN : N ≤ 10) (hk : k ≤ N) : (rnd N k).length = chs N k := by
  have := rnd_all N (by omega) k (by omega) hk
  unfold rndOk at this
  simp only [Bool.and_eq_true, decide_eq_true_eq] at this
  exact this.1
theorem rnd_at {N k i : Nat} (hN : N ≤ 10) (hk : k ≤ N) (hi : i < chs N k) : nthK k i = (rnd N k).getD i [] ∧ numK ((rnd N k).getD i []) k = i := by
  have := rnd_all N (by omega) k (by omega) hk
  unfold rndOk at this
  simp only [Bool.and_eq_true, decide_eq_true_eq, List.all_eq_true] at this
  exact this.2 i (List.mem_range.2 hi)
theorem range_bl (n : Nat) : Bl n n (List.range n) := ⟨range_asc n, fun x hx => List.mem_range.1 hx, List.length_range⟩
theorem Bl.snoc {n k : Nat} {l : List Nat} (h : Bl n k l) : Bl (n + 1) (k + 1) (l ++ [n]) := by
  refine ⟨List.pairwise_append.2 ⟨h.asc, List.pairwise_singleton _ _, fun x hx y hy => ?_⟩, fun x hx => ?_, by rw [List.length_append, h.len]; rfl⟩
  · rw [List.mem_singleton] at hy; subst hy; exact h.lt x hx
  · rcases List.mem_append.1 hx with hx | hx
    · have := h.lt x hx; omega
    · rw [List.mem_singleton] at hx; omega
theorem rnd_bl : ∀ (N k : Nat), k ≤ N → ∀ l ∈ rnd N k, Bl N k l
  | _, 0, _, l, h => by
    have h : l ∈ [[]] := by
      unfold rnd at h; exact h
    rw [List.mem_singleton] at h
    subst h
    exact ⟨List.Pairwise.nil, fun x hx => (by cases hx), rfl⟩
  | 0, k + 1, hk, l, h => by omega
  | n + 1, k + 1, hk, l, h => by
    unfold rnd at h
    split at h
    · rename_i hkn
      rw [List.mem_singleton] at h
      subst h; subst hkn
      exact range_bl _
    · rename_i hkn
      rcases List.mem_append.1 h with h | h
      · have := rnd_bl n (k + 1) (by omega) l h
        exact ⟨this.asc, fun x hx => by have := this.lt x hx; omega, this.len⟩
      · obtain ⟨l', h1, rfl⟩ := List.mem_map.1 h
        exact (rnd_bl n k (by omega) l' (List.mem_reverse.1 h1)).snoc
theorem bl_full {n : Nat} {l : List Nat} (h : Bl n n l) : l = List.range n := by
  have h1 := h.eq
  have h2 : l.Sublist (List.range n) := by
    conv => lhs; rw [← h1]
    exact List.filter_sublist
  exact h2.eq_of_length (by rw [h.len, List.length_range])
theorem bl_rnd : ∀ (N k : Nat) (l : List Nat), Bl N k l → l ∈ rnd N k
  | _, 0, l, h => by
    have := List.length_eq_zero_iff.1 h.len
    subst this
    unfold rnd; exact List.mem_singleton.2 rfl
  | 0, k + 1, l, h => by
    have h0 := h.len
    cases l with
    | nil => cases h0
    | cons x l => have := h.lt x (List.mem_cons_self ..); omega
  | n + 1, k + 1, l, h => by
    unfold rnd
    split
    · rename_i hkn
      subst hkn
      exact List.mem_singleton.2 (bl_full h)
    · rename_i hkn
      rw [List.mem_append]
      have hle := h.le
      have hne : l ≠ [] := fun e => by have := h.len; rw [e] at this; cases this
      have hsp := List.dropLast_concat_getLast hne
      have hlast := h.lt _ (List.getLast_mem hne)
      have hasc := h.asc
      rw [← hsp, List.pairwise_append] at hasc
      by_cases hn : l.getLast hne = n
      · right
        refine List.mem_map.2 ⟨l.dropLast, List.mem_reverse.2 (bl_rnd n k _ ⟨hasc.1, fun x hx => ?_, ?_⟩), ?_⟩
        · have := hasc.2.2 x hx _ (List.mem_singleton.2 rfl); omega
        · rw [List.length_dropLast, h.len]; rfl
        · rw [← hn]; exact hsp
      · left
        refine bl_rnd n (k + 1) l ⟨h.asc, fun x hx => ?_, h.len⟩
        rw [← hsp] at hx
        rcases List.mem_append.1 hx with hx | hx
        · have := hasc.2.2 x hx _ (List.mem_singleton.2 rfl); omega
        · rw [List.mem_singleton] at hx; omega
/-- The place of a blend in its round. -/
theorem bl_num {N k : Nat} {l : List Nat} (hN : N ≤ 10) (h : Bl N k l) : ∃ i, i < chs N k ∧ (rnd N k).getD i [] = l ∧ numK l k = i ∧ nthK k i = l := by
  have hm := bl_rnd N k l h
  obtain ⟨i, hi, he⟩ := List.getElem_of_mem hm
  rw [rnd_len hN h.le] at hi
  have h1 : (rnd N k).getD i [] = l := by rw [List.getD_eq_getElem?_getD, List.getElem?_eq_getElem (by rw [rnd_len hN h.le]; exact hi)]; exact he
  have h2 := rnd_at hN h.le hi
  rw [h1] at h2
  exact ⟨i, hi, h1, h2.2, h2.1⟩
theorem nth_bl {N k i : Nat} (hN : N ≤ 10) (hk : k ≤ N) (hi : i < chs N k) : Bl N k (nthK k i) := by
  rw [(rnd_at hN hk hi).1]
  refine rnd_bl N k hk _ ?_
  rw [List.getD_eq_getElem?_getD, List.getElem?_eq_getElem (by rw [rnd_len hN hk]; exact hi)]
  exact List.getElem_mem _
end Go.Vit

/- Plain laws: the greatest leaf of a place. -/
namespace Go.Vit
theorem chs_pascal : ∀ t, t < 11 → ∀ k, k < 11 → chs (t + 1) (k + 1) = chs t k + chs t (k + 1) := by decide +kernel
theorem chs_mono : ∀ N, N < 11 → ∀ t, t < N + 1 → ∀ k, k < 11 → chs t k ≤ chs N k := by decide +kernel
theorem topL_ok {k n N : Nat} (hN : N ≤ 10) (hk : k + 1 ≤ N) (h : n < chs N (k + 1)) : k ≤ topL k n ∧ topL k n < N ∧ n < chs (topL k n + 1) (k + 1) ∧ ∀ x, k ≤ x → x < topL k n → chs (x + 1) (k + 1) ≤ n := by
  unfold topL
  cases hf : (List.range 10).find? fun x => decide (k ≤ x) && decide (n < chs (x + 1) (k + 1)) with
  | none =>
    rw [List.find?_eq_none] at hf
    have := hf (N - 1) (List.mem_range.2 (by omega))
    simp only [Bool.and_eq_true, decide_eq_true_eq, not_and] at this
    exact absurd (by rw [show N - 1 + 1 = N by omega]; exact h) (this (by omega))
  | some t =>
    simp only [Option.getD_some]
    obtain ⟨h1, us, ws, h2, h3⟩ := List.find?_eq_some_iff_append.1 hf
    simp only [Bool.and_eq_true, decide_eq_true_eq] at h1
    have hlt : t < 10 := by
      have : t ∈ List.range 10 := by rw [h2]; simp
      exact List.mem_range.1 this
    have hless : ∀ x, x < t → x ∈ us := fun x hx => by
      have hm : x ∈ List.range 10 := List.mem_range.2 (by omega)
      have hs := range_asc 10
      rw [h2, List.pairwise_append, List.pairwise_cons] at hs
      rw [h2, List.mem_append, List.mem_cons] at hm
      rcases hm with hm | rfl | hm
      · exact hm
      · omega
      · have := hs.2.1.1 x hm; omega
    have hno : ∀ x, k ≤ x → x < t → chs (x + 1) (k + 1) ≤ n := fun x hk hx => by
      have := h3 x (hless x hx)
      simp only [Bool.not_eq_true', Bool.and_eq_false_iff, decide_eq_false_iff_not] at this
      omega
    refine ⟨h1.1, ?_, h1.2, hno⟩
    refine Nat.lt_of_not_le fun hge => ?_
    by_cases he : t = N
    · subst he
      have := hno (t - 1) (by omega) (by omega)
      rw [show t - 1 + 1 = t by omega] at this
      omega
    · have := hno (N - 1) (by omega) (by omega)
      rw [show N - 1 + 1 = N by omega] at this
      omega
/-- What is left of the place. -/
theorem topL_rest {k n N : Nat} (hN : N ≤ 10) (hk : k + 1 ≤ N) (h : n < chs N (k + 1)) : chs (topL k n + 1) (k + 1) - 1 - n < chs (topL k n) k := by
  obtain ⟨h1, h2, h3, h4⟩ := topL_ok hN hk h
  have h5 := chs_pascal (topL k n) (by omega) k (by omega)
  have h6 : chs (topL k n) (k + 1) ≤ n := by
    by_cases he : topL k n = k
    · rw [he]
      unfold chs; rw [if_pos (by omega)]; omega
    · have := h4 (topL k n - 1) (by omega) (by omega)
      rwa [show topL k n - 1 + 1 = topL k n by omega] at this
  omega
theorem numK_succ (l : List Nat) (k : Nat) : numK l (k + 1) = (chs (l.getD k 0 + 1) (k + 1) : Int) - 1 - numK l k := rfl
theorem numK_bd (l : List Nat) (hl : ∀ x ∈ l, x < 10) : ∀ k : Nat, -(1001 * (k : Int)) ≤ numK l k ∧ numK l k ≤ 1001 * (k : Int)
  | 0 => by unfold numK; omega
  | k + 1 => by
    have h1 := numK_bd l hl k
    have h2 : l.getD k 0 < 10 := by
      rw [List.getD_eq_getElem?_getD]
      by_cases h : k < l.length
      · rw [List.getElem?_eq_getElem h]; exact hl _ (List.getElem_mem h)
      · rw [List.getElem?_eq_none (by omega)]; decide
    have h3 := chs_le (n := l.getD k 0 + 1) (k := k + 1) (by omega)
    unfold numK
    omega
theorem numK_take (l : List Nat) : ∀ (j k : Nat), k ≤ j → numK (l.take j) k = numK l k
  | j, 0, _ => rfl
  | j, k + 1, h => by
    unfold numK
    rw [numK_take l j k (by omega)]
    have : (l.take j).getD k 0 = l.getD k 0 := by
      rw [List.getD_eq_getElem?_getD, List.getD_eq_getElem?_getD, List.getElem?_take, if_pos (by omega)]
    rw [this]
end Go.Vit

/- Plain laws: recipes. -/
namespace Go.Vit
def wgt (ws b : List Nat) : Nat := (b.map fun x => ws.getD x 0).sum
theorem wgt_cons (ws : List Nat) (x : Nat) (b : List Nat) : wgt ws (x :: b) = ws.getD x 0 + wgt ws b := by
  unfold wgt; rw [List.map_cons, List.sum_cons]
theorem wgt_append (ws a b : List Nat) : wgt ws (a ++ b) = wgt ws a + wgt ws b := by
  unfold wgt; rw [List.map_append, List.sum_append]
theorem wgt_step (ws b : List Nat) {i : Nat} (h : i < b.length) : wgt ws (b.take (i + 1)) = wgt ws (b.take i) + ws.getD b[i] 0 := by
  rw [List.take_add_one, List.getElem?_eq_getElem h, Option.toList_some, wgt_append]
  unfold wgt; simp
theorem getD_le {ws : List Nat} (hws : ∀ w ∈ ws, w ≤ 50) (x : Nat) : ws.getD x 0 ≤ 50 := by
  rw [List.getD_eq_getElem?_getD]
  by_cases h : x < ws.length
  · rw [List.getElem?_eq_getElem h]; exact hws _ (List.getElem_mem h)
  · rw [List.getElem?_eq_none (by omega)]; simp
theorem wgt_le {ws : List Nat} (hws : ∀ w ∈ ws, w ≤ 50) : ∀ b, wgt ws b ≤ 50 * b.length
  | [] => Nat.le_refl _
  | x :: b => by
    have := wgt_le hws b
    have := getD_le hws x
    rw [wgt_cons, List.length_cons]; omega
/-- What the check of a recipe answers. -/
def chkR (l : List Int) (lo hi : Int) : Int := if l.length = 0 then 4 else if 10 < l.length then 3 else if l.any (fun w => !decide (0 ≤ w ∧ w ≤ 50)) then 1 else if hi < lo then 7 else 0
theorem chkR_ok {l : List Int} {lo hi : Int} (h : chkR l lo hi = 0) : ∃ ws : List Nat, l = ci ws ∧ 1 ≤ ws.length ∧ ws.length ≤ 10 ∧ (∀ w ∈ ws, w ≤ 50) ∧ lo ≤ hi := by
  unfold chkR at h
  split at h
  · cases h
  · rename_i h1
    split at h
    · cases h
    · rename_i h2
      split at h
      · cases h
      · rename_i h3
        split at h
        · cases h
        · rename_i h4
          have h5 : ∀ w ∈ l, 0 ≤ w ∧ w ≤ 50 := fun w hw => by
            have h3 := Bool.eq_false_iff.2 h3
            rw [List.any_eq_false] at h3
            simpa using h3 w hw
          have h6 : l = ci (l.map Int.toNat) := by
            unfold ci
            rw [List.map_map]
            conv => lhs; rw [← List.map_id l]
            refine List.map_congr_left fun w hw => ?_
            have := h5 w hw
            show w = ((w.toNat : Nat) : Int)
            omega
          refine ⟨l.map Int.toNat, h6, ?_, ?_, fun w hw => ?_, by omega⟩
          · rw [List.length_map]; omega
          · rw [List.length_map]; omega
          · obtain ⟨w', hw', rfl⟩ := List.mem_map.1 hw
            have := h5 w' hw'
            omega
theorem chkR_z {ws : List Nat} {lo hi : Int} (h1 : 1 ≤ ws.length) (h10 : ws.length ≤ 10) (hws : ∀ w ∈ ws, w ≤ 50) (hlh : lo ≤ hi) : chkR (ci ws) lo hi = 0 := by
  unfold chkR
  rw [ci_length, if_neg (by omega), if_neg (by omega), if_neg, if_neg (by omega)]
  rw [Bool.not_eq_true, List.any_eq_false]
  intro w hw
  obtain ⟨w', hw', rfl⟩ := List.mem_map.1 hw
  have := hws w' hw'
  simp; omega
/-- .. and that of a recipe and a blend. -/
def bldE (l : List Int) (lo hi : Int) (b : List Int) : Int := if chkR l lo hi = 0 then chkB l.length b else chkR l lo hi
theorem bldE_ok {l : List Int} {lo hi : Int} {b : List Int} (h : bldE l lo hi b = 0) : ∃ ws b' : List Nat, l = ci ws ∧ b = ci b' ∧ 1 ≤ ws.length ∧ ws.length ≤ 10 ∧ (∀ w ∈ ws, w ≤ 50) ∧ lo ≤ hi ∧ Bl ws.length b'.length b' := by
  unfold bldE at h
  split at h
  · rename_i h1
    obtain ⟨ws, rfl, h2, h3, h4, h5⟩ := chkR_ok h1
    obtain ⟨n, b', h6, _, _, rfl, h7⟩ := chkB_bl h
    rw [ci_length] at h6
    have : n = ws.length := by omega
    subst this
    exact ⟨ws, b', rfl, rfl, h2, h3, h4, h5, h7⟩
  · contradiction
theorem bldE_z {ws b : List Nat} {lo hi : Int} {kk : Nat} (h1 : 1 ≤ ws.length) (h10 : ws.length ≤ 10) (hws : ∀ w ∈ ws, w ≤ 50) (hlh : lo ≤ hi) (hb : Bl ws.length kk b) : bldE (ci ws) lo hi (ci b) = 0 := by
  unfold bldE
  rw [if_pos (chkR_z h1 h10 hws hlh), ci_length]
  exact chkB_ok h1 h10 hb
def fitB (ws : List Nat) (lo hi : Int) (b : List Nat) : Bool := decide (lo ≤ (wgt ws b : Int) ∧ (wgt ws b : Int) ≤ hi)
/-- Those of the first i places that fit. -/
def fitI (ws : List Nat) (s : Nat) (lo hi : Int) (i : Nat) : List (List Nat) := ((List.range i).map (nthK s)).filter (fitB ws lo hi)
def fitL (ws : List Nat) (s : Nat) (lo hi : Int) : List (List Nat) := fitI ws s lo hi (chs ws.length s)
theorem fitI_t {ws : List Nat} {s : Nat} {lo hi : Int} {i : Nat} (h : fitB ws lo hi (nthK s i) = true) : fitI ws s lo hi (i + 1) = fitI ws s lo hi i ++ [nthK s i] := by
  unfold fitI; rw [List.range_succ, List.map_append, List.filter_append]; simp [h]
theorem fitI_f {ws : List Nat} {s : Nat} {lo hi : Int} {i : Nat} (h : fitB ws lo hi (nthK s i) = false) : fitI ws s lo hi (i + 1) = fitI ws s lo hi i := by
  unfold fitI; rw [List.range_succ, List.map_append, List.filter_append]; simp [h]
theorem fitI_len (ws : List Nat) (s : Nat) (lo hi : Int) (i : Nat) : (fitI ws s lo hi i).length ≤ i := by
  have := List.length_filter_le (fitB ws lo hi) ((List.range i).map (nthK s))
  rw [List.length_map, List.length_range] at this
  exact this
theorem rnd_map {N k : Nat} (hN : N ≤ 10) (hk : k ≤ N) : rnd N k = (List.range (chs N k)).map (nthK k) := by
  refine List.ext_getElem (by rw [rnd_len hN hk, List.length_map, List.length_range]) fun i h1 h2 => ?_
  rw [List.getElem_map, List.getElem_range]
  have hi : i < chs N k := by rw [rnd_len hN hk] at h1; exact h1
  rw [(rnd_at hN hk hi).1, List.getD_eq_getElem?_getD, List.getElem?_eq_getElem h1]; rfl
theorem fitL_rnd {ws : List Nat} {s : Nat} {lo hi : Int} (hN : ws.length ≤ 10) (hk : s ≤ ws.length) : fitL ws s lo hi = (rnd ws.length s).filter (fitB ws lo hi) := by
  rw [rnd_map hN hk]; rfl
end Go.Vit

/- Plain laws: the nearest one. -/
namespace Go.Vit
def cmpL : List Nat → List Nat → Int
  | [], [] => 0
  | [], _ :: _ => -1
  | _ :: _, [] => 1
  | x :: a, y :: b => if x < y then -1 else if y < x then 1 else cmpL a b
def nearS (t : List Nat) (st : List Nat × Nat) (b : List Nat) : List Nat × Nat :=
  if awayN b t < st.2 ∨ (awayN b t = st.2 ∧ cmpL b st.1 < 0) then (b, awayN b t) else st
def nearF (t : List Nat) (l : List (List Nat)) : List Nat × Nat := l.foldl (nearS t) ([], 11)
theorem nearF_snoc (t : List Nat) (l : List (List Nat)) (b : List Nat) : nearF t (l ++ [b]) = nearS t (nearF t l) b := by
  unfold nearF; rw [List.foldl_append]; rfl
theorem nearS_far (t : List Nat) (st : List Nat × Nat) (b : List Nat) : (nearS t st b).2 ≤ st.2 ∧ (nearS t st b).2 ≤ awayN b t := by
  unfold nearS
  split
  · rename_i h
    rcases h with h | h
    · exact ⟨by simp only; omega, Nat.le_refl _⟩
    · exact ⟨by simp only; omega, Nat.le_refl _⟩
  · rename_i h
    exact ⟨Nat.le_refl _, by omega⟩
/-- What is held is near. -/
theorem near_inv (t : List Nat) : ∀ (l : List (List Nat)) (st : List Nat × Nat), (l.foldl (nearS t) st).2 ≤ st.2 ∧ (∀ b ∈ l, (l.foldl (nearS t) st).2 ≤ awayN b t) ∧ (l.foldl (nearS t) st = st ∨ ((l.foldl (nearS t) st).1 ∈ l ∧ (l.foldl (nearS t) st).2 = awayN (l.foldl (nearS t) st).1 t))
  | [], st => ⟨Nat.le_refl _, fun b hb => (by cases hb), .inl rfl⟩
  | x :: l, st => by
    obtain ⟨h1, h2, h3⟩ := near_inv t l (nearS t st x)
    obtain ⟨h4, h5⟩ := nearS_far t st x
    rw [List.foldl_cons]
    refine ⟨by omega, fun b hb => ?_, ?_⟩
    · rcases List.mem_cons.1 hb with rfl | hb
      · omega
      · exact h2 b hb
    · rcases h3 with h3 | ⟨h3, h6⟩
      · rw [h3]
        unfold nearS
        split
        · exact .inr ⟨List.mem_cons_self .., rfl⟩
        · exact .inl rfl
      · exact .inr ⟨List.mem_cons_of_mem _ h3, h6⟩
theorem nearF_min {t : List Nat} {l : List (List Nat)} (hl : ∀ b ∈ l, awayN b t ≤ 10) (hne : l ≠ []) : (nearF t l).1 ∈ l ∧ (nearF t l).2 = awayN (nearF t l).1 t ∧ ∀ b ∈ l, awayN (nearF t l).1 t ≤ awayN b t := by
  obtain ⟨h1, h2, h3⟩ := near_inv t l ([], 11)
  rcases h3 with h3 | ⟨h3, h4⟩
  · obtain ⟨b, l', rfl⟩ := List.exists_cons_of_ne_nil hne
    have h5 := h2 b (List.mem_cons_self ..)
    have h6 := hl b (List.mem_cons_self ..)
    rw [h3] at h5
    simp only at h5
    omega
  · refine ⟨h3, h4, fun b hb => ?_⟩
    have := h2 b hb
    have e : (nearF t l).2 = awayN (nearF t l).1 t := h4
    have e2 : (nearF t l).2 ≤ awayN b t := this
    omega
theorem nearF_nil (t : List Nat) : nearF t [] = ([], 11) := rfl
theorem nearF_le (t : List Nat) (l : List (List Nat)) : (nearF t l).2 ≤ 11 := (near_inv t l ([], 11)).1
theorem fitL_bl {ws : List Nat} {s : Nat} {lo hi : Int} (h10 : ws.length ≤ 10) (hs : s ≤ ws.length) {b : List Nat} (hb : b ∈ fitL ws s lo hi) : Bl ws.length s b ∧ fitB ws lo hi b = true := by
  rw [fitL_rnd h10 hs] at hb
  obtain ⟨h1, h2⟩ := List.mem_filter.1 hb
  exact ⟨rnd_bl _ _ hs _ h1, h2⟩
theorem mem_fitL {ws : List Nat} {s : Nat} {lo hi : Int} (h10 : ws.length ≤ 10) {b : List Nat} (hb : Bl ws.length s b) (hf : fitB ws lo hi b = true) : b ∈ fitL ws s lo hi := by
  rw [fitL_rnd h10 hb.le]
  exact List.mem_filter.2 ⟨bl_rnd _ _ _ hb, hf⟩
/-- The nearest one, as it is answered. -/
def nrE (l : List Int) (lo hi : Int) (b : List Int) : Int := if bldE l lo hi b = 0 then (if fitL (nni l) b.length lo hi = [] then 12 else 0) else bldE l lo hi b
def nrL (l : List Int) (lo hi : Int) (b : List Int) : List Nat := if nrE l lo hi b = 0 then (nearF (nni b) (fitL (nni l) b.length lo hi)).1 else []
end Go.Vit

/- Plain laws: wider bounds, and all blends below, within and above. -/
namespace Go.Vit
theorem fitB_mono {ws b : List Nat} {lo hi lo' hi' : Int} (h1 : lo' ≤ lo) (h2 : hi ≤ hi') (h : fitB ws lo hi b = true) : fitB ws lo' hi' b = true := by
  unfold fitB at h ⊢
  have := of_decide_eq_true h
  exact decide_eq_true ⟨by omega, by omega⟩
theorem fitL_mono {ws : List Nat} {s : Nat} {lo hi lo' hi' : Int} (h10 : ws.length ≤ 10) (hs : s ≤ ws.length) (h1 : lo' ≤ lo) (h2 : hi ≤ hi') : (fitL ws s lo hi).length ≤ (fitL ws s lo' hi').length := by
  rw [fitL_rnd h10 hs, fitL_rnd h10 hs, ← List.countP_eq_length_filter, ← List.countP_eq_length_filter]
  exact List.countP_mono_left fun b _ h => fitB_mono h1 h2 h
theorem fitL_all {ws : List Nat} {s : Nat} {lo hi : Int} (h10 : ws.length ≤ 10) (hs : s ≤ ws.length) (hws : ∀ w ∈ ws, w ≤ 50) (h1 : -5 ≤ lo) (h2 : lo ≤ hi) (h3 : hi ≤ 320) :
    (fitL ws s (-10) (lo - 1)).length + (fitL ws s lo hi).length + (fitL ws s (hi + 1) 600).length = chs ws.length s := by
  rw [fitL_rnd h10 hs, fitL_rnd h10 hs, fitL_rnd h10 hs, ← rnd_len h10 hs]
  have hb : ∀ b ∈ rnd ws.length s, wgt ws b ≤ 500 := fun b hb => by
    have h4 := rnd_bl _ _ hs _ hb
    have h5 := wgt_le hws b
    have h6 := h4.len
    omega
  generalize rnd ws.length s = R at hb ⊢
  induction R with
  | nil => rfl
  | cons b R ih =>
    have ih := ih fun c hc => hb c (List.mem_cons_of_mem _ hc)
    have h5 := hb b (List.mem_cons_self ..)
    simp only [← List.countP_eq_length_filter] at ih ⊢
    rw [List.countP_cons, List.countP_cons, List.countP_cons, List.length_cons]
    unfold fitB at ih ⊢
    by_cases c1 : (wgt ws b : Int) ≤ lo - 1
    · have e1 : decide (-10 ≤ (wgt ws b : Int) ∧ (wgt ws b : Int) ≤ lo - 1) = true := decide_eq_true ⟨by omega, by omega⟩
      have e2 : decide (lo ≤ (wgt ws b : Int) ∧ (wgt ws b : Int) ≤ hi) = false := decide_eq_false (by omega)
      have e3 : decide (hi + 1 ≤ (wgt ws b : Int) ∧ (wgt ws b : Int) ≤ 600) = false := decide_eq_false (by omega)
      rw [e1, e2, e3, if_pos rfl, if_neg Bool.false_ne_true]; omega
    · by_cases c2 : (wgt ws b : Int) ≤ hi
      · have e1 : decide (-10 ≤ (wgt ws b : Int) ∧ (wgt ws b : Int) ≤ lo - 1) = false := decide_eq_false (by omega)
        have e2 : decide (lo ≤ (wgt ws b : Int) ∧ (wgt ws b : Int) ≤ hi) = true := decide_eq_true ⟨by omega, by omega⟩
        have e3 : decide (hi + 1 ≤ (wgt ws b : Int) ∧ (wgt ws b : Int) ≤ 600) = false := decide_eq_false (by omega)
        rw [e1, e2, e3, if_pos rfl, if_neg Bool.false_ne_true]; omega
      · have e1 : decide (-10 ≤ (wgt ws b : Int) ∧ (wgt ws b : Int) ≤ lo - 1) = false := decide_eq_false (by omega)
        have e2 : decide (lo ≤ (wgt ws b : Int) ∧ (wgt ws b : Int) ≤ hi) = false := decide_eq_false (by omega)
        have e3 : decide (hi + 1 ≤ (wgt ws b : Int) ∧ (wgt ws b : Int) ≤ 600) = true := decide_eq_true ⟨by omega, by omega⟩
        rw [e1, e2, e3, if_pos rfl, if_neg Bool.false_ne_true]; omega
/-- What the nearest one is, for a recipe and a blend that pass. -/
theorem nr_of {ws b : List Nat} {lo hi : Int} (h1 : 1 ≤ ws.length) (h10 : ws.length ≤ 10) (hws : ∀ w ∈ ws, w ≤ 50) (hlh : lo ≤ hi) {kk : Nat} (hb : Bl ws.length kk b) :
    (fitL ws kk lo hi = [] → nrE (ci ws) lo hi (ci b) = 12 ∧ nrL (ci ws) lo hi (ci b) = []) ∧
    (fitL ws kk lo hi ≠ [] → nrE (ci ws) lo hi (ci b) = 0 ∧ nrL (ci ws) lo hi (ci b) = (nearF b (fitL ws kk lo hi)).1 ∧ (nearF b (fitL ws kk lo hi)).1 ∈ fitL ws kk lo hi ∧ ∀ c ∈ fitL ws kk lo hi, awayN (nearF b (fitL ws kk lo hi)).1 b ≤ awayN c b) := by
  have hz := bldE_z (lo := lo) (hi := hi) h1 h10 hws hlh hb
  have hE : nrE (ci ws) lo hi (ci b) = if fitL ws kk lo hi = [] then 12 else 0 := by
    unfold nrE; rw [if_pos hz, nni_ci, ci_length, hb.len]
  refine ⟨fun h => ?_, fun h => ?_⟩
  · rw [if_pos h] at hE
    exact ⟨hE, if_neg (by rw [hE]; decide)⟩
  · rw [if_neg h] at hE
    obtain ⟨q6, q7, q8⟩ := nearF_min (t := b) (l := fitL ws kk lo hi) (fun c hc => by
      have h1 := (away_le (fitL_bl h10 hb.le hc).1 hb).1
      have := hb.le
      omega) h
    refine ⟨hE, ?_, q6, q8⟩
    unfold nrL; rw [if_pos hE, nni_ci, nni_ci, ci_length, hb.len]
end Go.Vit

/- Plain laws: what so many exchanges reach. -/
namespace Go.Vit
theorem sorted_get {L : List Nat} (h : L.Pairwise (· ≤ ·)) {i j : Nat} (hj : j < L.length) (hij : i ≤ j) : L[i]'(by omega) ≤ L[j] := by
  by_cases he : i = j
  · subst he; exact Nat.le_refl _
  · exact List.pairwise_iff_getElem.1 h i j (by omega) hj (by omega)
theorem take_succ_sum (L : List Nat) {i : Nat} (h : i < L.length) : (L.take (i + 1)).sum = (L.take i).sum + L[i] := by
  rw [List.take_add_one, List.getElem?_eq_getElem h, Option.toList_some, List.sum_append]; simp
/-- The smallest ones sum up to no more. -/
theorem part_sum : ∀ {L S T : List Nat}, (S ++ T).Perm L → L.Pairwise (· ≤ ·) → (L.take S.length).sum ≤ S.sum
  | [], S, T, h, _ => by simp
  | a :: L, S, T, h, hp => by
    obtain ⟨h1, h2⟩ := List.pairwise_cons.1 hp
    have ha : a ∈ S ++ T := h.mem_iff.2 (List.mem_cons_self ..)
    by_cases hs : a ∈ S
    · have e1 := List.perm_cons_erase hs
      have e2 : (S.erase a ++ T).Perm L := List.Perm.cons_inv (a := a) (by
        have := (e1.append_right T).symm.trans h
        exact this)
      have h3 := part_sum e2 h2
      have h4 := e1.length_eq
      have h5 := e1.sum_nat
      rw [List.length_cons] at h4
      rw [List.sum_cons] at h5
      rw [h4, List.take_succ_cons, List.sum_cons]
      omega
    · have ht : a ∈ T := (List.mem_append.1 ha).resolve_left hs
      have e1 := List.perm_cons_erase ht
      have e2 : (S ++ T.erase a).Perm L := List.Perm.cons_inv (a := a) (by
        have e3 : (S ++ T).Perm (S ++ a :: T.erase a) := e1.append_left S
        exact (List.perm_middle.symm.trans e3.symm).trans h)
      have h3 := part_sum e2 h2
      have h4 := e2.length_eq
      rw [List.length_append] at h4
      cases hs : S.length with
      | zero => simp
      | succ d =>
        rw [hs] at h3 h4
        rw [List.take_succ_cons, List.sum_cons]
        rw [take_succ_sum L (by omega)] at h3
        have := h1 _ (List.getElem_mem (show d < L.length by omega))
        omega
/-- .. and the greatest ones to no less. -/
theorem part_sum' {S T L : List Nat} (h : (S ++ T).Perm L) (hp : L.Pairwise (· ≤ ·)) : S.sum ≤ (L.drop (L.length - S.length)).sum := by
  have h2 := part_sum (List.perm_append_comm.trans h) hp
  have h3 := h.sum_nat
  have h4 := h.length_eq
  rw [List.sum_append] at h3
  rw [List.length_append] at h4
  have h5 := congrArg List.sum (List.take_append_drop T.length L)
  rw [List.sum_append] at h5
  rw [show L.length - S.length = T.length by omega]
  omega
def wOf (ws : List Nat) (x : Nat) : Nat := ws.getD x 0
theorem wgt_map (ws b : List Nat) : wgt ws b = (b.map (wOf ws)).sum := rfl
theorem wgt_perm (ws : List Nat) {a b : List Nat} (h : a.Perm b) : wgt ws a = wgt ws b := (h.map _).sum_nat
/-- What stays, what goes, what comes. -/
theorem parts {N k : Nat} {b c : List Nat} (hb : Bl N k b) (hc : Bl N k c) : c.Perm (b.filter (fun x => decide (x ∈ c)) ++ less c b) ∧ less c b = (oth N b).filter (fun x => decide (x ∈ c)) ∧ (b.filter fun x => decide (x ∈ c)).length + awayN c b = k := by
  have h1 : c.filter (fun x => decide (x ∈ b)) = b.filter (fun x => decide (x ∈ c)) := by
    refine asc_ext (filter_asc _ hc.asc) (filter_asc _ hb.asc) fun x => ?_
    rw [List.mem_filter, List.mem_filter]
    simp only [decide_eq_true_eq]
    exact ⟨fun h => ⟨h.2, h.1⟩, fun h => ⟨h.2, h.1⟩⟩
  have h2 : c.Perm (b.filter (fun x => decide (x ∈ c)) ++ less c b) := by
    rw [← h1]
    exact (List.filter_append_perm (fun x => decide (x ∈ b)) c).symm
  refine ⟨h2, ?_, ?_⟩
  · refine asc_ext (less_asc hc.asc) (filter_asc _ (filter_asc _ (range_asc N))) fun x => ?_
    rw [mem_less, List.mem_filter]
    unfold oth
    rw [List.mem_filter, List.mem_range]
    simp only [decide_eq_true_eq, Bool.not_eq_true', decide_eq_false_iff_not]
    exact ⟨fun h => ⟨⟨hc.lt _ h.1, h.2⟩, h.1⟩, fun h => ⟨h.2, h.1.2⟩⟩
  · have := h2.length_eq
    rw [List.length_append, hc.len, less_len] at this
    exact this.symm
/-- Some of the one, some of the other. -/
theorem reach_ex {ws b : List Nat} {N k : Nat} (hb : Bl N k b) {p q : List Nat} (hp : ∃ lb : List Nat, lb.Perm b ∧ p.Sublist lb) (hq : ∃ lo : List Nat, lo.Perm (oth N b) ∧ q.Sublist lo) (hl : p.length + q.length = k) : ∃ c, Bl N k c ∧ awayN c b = q.length ∧ wgt ws c = (p.map (wOf ws)).sum + (q.map (wOf ws)).sum := by
  obtain ⟨lb, p1, p2⟩ := hp
  obtain ⟨lo, q1, q2⟩ := hq
  have pb : ∀ x ∈ p, x ∈ b := fun x hx => p1.mem_iff.1 (p2.subset hx)
  have qb : ∀ x ∈ q, x < N ∧ x ∉ b := fun x hx => by
    have := q1.mem_iff.1 (q2.subset hx)
    unfold oth at this
    rw [List.mem_filter, List.mem_range] at this
    simpa using this
  have np : p.Nodup := p2.nodup (p1.nodup_iff.2 (asc_nodup hb.asc))
  have nq : q.Nodup := q2.nodup (q1.nodup_iff.2 (asc_nodup (oth_bl hb).asc))
  have npq : (p ++ q).Nodup := List.nodup_append.2 ⟨np, nq, fun x hx y hy e => (qb y hy).2 (e ▸ pb x hx)⟩
  have hperm : ((List.range N).filter fun x => decide (x ∈ p ++ q)).Perm (p ++ q) := by
    refine (List.perm_ext_iff_of_nodup (List.Pairwise.filter _ List.nodup_range) npq).2 fun x => ?_
    rw [List.mem_filter, List.mem_range, decide_eq_true_eq]
    refine ⟨fun h => h.2, fun h => ⟨?_, h⟩⟩
    rcases List.mem_append.1 h with h | h
    · exact hb.lt _ (pb x h)
    · exact (qb x h).1
  refine ⟨_, ⟨filter_asc _ (range_asc N), fun x hx => List.mem_range.1 (List.mem_filter.1 hx).1, by rw [hperm.length_eq, List.length_append, hl]⟩, ?_, ?_⟩
  · unfold awayN
    rw [(hperm.filter _).length_eq, List.filter_append]
    have e1 : p.filter (fun x => !decide (x ∈ b)) = [] := by
      rw [List.filter_eq_nil_iff]; intro x hx; simp [pb x hx]
    have e2 : q.filter (fun x => !decide (x ∈ b)) = q := by
      rw [List.filter_eq_self]; intro x hx; simp [(qb x hx).2]
    rw [e1, e2, List.nil_append]
  · rw [wgt_perm ws hperm, wgt_append]; rfl
/-- Leaves in the order of their weights. -/
theorem by_weight {ws : List Nat} (l L : List Nat) (h : L.Perm (l.map (wOf ws))) (hp : L.Pairwise (· ≤ ·)) : ∃ lb : List Nat, lb.Perm l ∧ lb.map (wOf ws) = L := by
  refine ⟨l.mergeSort fun x y => decide (wOf ws x ≤ wOf ws y), List.mergeSort_perm _ _, ?_⟩
  refine List.Perm.eq_of_pairwise (le := fun a b => a ≤ b) (fun a b _ _ h1 h2 => Nat.le_antisymm h1 h2) ?_ hp (((List.mergeSort_perm l _).map _).trans h.symm)
  rw [List.pairwise_map]
  have := List.pairwise_mergeSort (le := fun x y : Nat => decide (wOf ws x ≤ wOf ws y)) (fun a b c h1 h2 => by simp at h1 h2 ⊢; omega) (fun a b => by simp; omega) l
  exact this.imp fun h => by simpa using h
section
variable {ws b A O : List Nat} {N k : Nat} (hb : Bl N k b) (hA : A.Perm (b.map (wOf ws))) (hA' : A.Pairwise (· ≤ ·)) (hO : O.Perm ((oth N b).map (wOf ws))) (hO' : O.Pairwise (· ≤ ·))
include hb hA hA' hO hO'
theorem reach_ge {c : List Nat} (hc : Bl N k c) : (A.take (k - awayN c b)).sum + (O.take (awayN c b)).sum ≤ wgt ws c := by
  obtain ⟨h1, h2, h3⟩ := parts hb hc
  rw [wgt_perm ws h1, wgt_append, wgt_map, wgt_map]
  have h4 : ((b.filter fun x => decide (x ∈ c)).map (wOf ws) ++ (b.filter fun x => !decide (x ∈ c)).map (wOf ws)).Perm A := by
    rw [← List.map_append]
    exact ((List.filter_append_perm (fun x => decide (x ∈ c)) b).map _).trans hA.symm
  have h5 : ((less c b).map (wOf ws) ++ ((oth N b).filter fun x => !decide (x ∈ c)).map (wOf ws)).Perm O := by
    rw [h2, ← List.map_append]
    exact ((List.filter_append_perm (fun x => decide (x ∈ c)) (oth N b)).map _).trans hO.symm
  have h6 := part_sum h4 hA'
  have h7 := part_sum h5 hO'
  rw [List.length_map] at h6 h7
  rw [less_len] at h7
  rw [show k - awayN c b = (b.filter fun x => decide (x ∈ c)).length by omega]
  omega
theorem reach_le {c : List Nat} (hc : Bl N k c) : wgt ws c ≤ (A.drop (awayN c b)).sum + (O.drop (O.length - awayN c b)).sum := by
  obtain ⟨h1, h2, h3⟩ := parts hb hc
  rw [wgt_perm ws h1, wgt_append, wgt_map, wgt_map]
  have h4 : ((b.filter fun x => decide (x ∈ c)).map (wOf ws) ++ (b.filter fun x => !decide (x ∈ c)).map (wOf ws)).Perm A := by
    rw [← List.map_append]
    exact ((List.filter_append_perm (fun x => decide (x ∈ c)) b).map _).trans hA.symm
  have h5 : ((less c b).map (wOf ws) ++ ((oth N b).filter fun x => !decide (x ∈ c)).map (wOf ws)).Perm O := by
    rw [h2, ← List.map_append]
    exact ((List.filter_append_perm (fun x => decide (x ∈ c)) (oth N b)).map _).trans hO.symm
  have h6 := part_sum' h4 hA'
  have h7 := part_sum' h5 hO'
  have hAl := hA.length_eq
  rw [List.length_map, hb.len] at hAl
  rw [List.length_map] at h6 h7
  rw [less_len] at h7
  rw [show A.length - (b.filter fun x => decide (x ∈ c)).length = awayN c b by omega] at h6
  omega
theorem reach_lo {t : Nat} (h1 : t ≤ k) (h2 : t ≤ O.length) : ∃ c, Bl N k c ∧ awayN c b = t ∧ wgt ws c = (A.take (k - t)).sum + (O.take t).sum := by
  obtain ⟨lb, p1, p2⟩ := by_weight b A hA hA'
  obtain ⟨lo, q1, q2⟩ := by_weight (oth N b) O hO hO'
  have l1 : lb.length = k := by rw [p1.length_eq, hb.len]
  have l2 : lo.length = O.length := by rw [← q2, List.length_map]
  obtain ⟨c, c1, c2, c3⟩ := reach_ex (ws := ws) hb (p := lb.take (k - t)) (q := lo.take t) ⟨lb, p1, List.take_sublist _ _⟩ ⟨lo, q1, List.take_sublist _ _⟩ (by rw [List.length_take, List.length_take]; omega)
  refine ⟨c, c1, by rw [c2, List.length_take]; omega, ?_⟩
  rw [c3, List.map_take, List.map_take, p2, q2]
theorem reach_hi {t : Nat} (h1 : t ≤ k) (h2 : t ≤ O.length) : ∃ c, Bl N k c ∧ awayN c b = t ∧ wgt ws c = (A.drop t).sum + (O.drop (O.length - t)).sum := by
  obtain ⟨lb, p1, p2⟩ := by_weight b A hA hA'
  obtain ⟨lo, q1, q2⟩ := by_weight (oth N b) O hO hO'
  have l1 : lb.length = k := by rw [p1.length_eq, hb.len]
  have l2 : lo.length = O.length := by rw [← q2, List.length_map]
  obtain ⟨c, c1, c2, c3⟩ := reach_ex (ws := ws) hb (p := lb.drop t) (q := lo.drop (O.length - t)) ⟨lb, p1, List.drop_sublist _ _⟩ ⟨lo, q1, List.drop_sublist _ _⟩ (by rw [List.length_drop, List.length_drop]; omega)
  refine ⟨c, c1, by rw [c2, List.length_drop]; omega, ?_⟩
  rw [c3, List.map_drop, List.map_drop, p2, q2]
end
/-- A sum of what is below 0. -/
def msum (D : Nat → Int) : Nat → Int
  | 0 => 0
  | i + 1 => msum D i + min 0 (D i)
theorem msum_le (D F : Nat → Int) (J : Nat) (hF : ∀ i, i < J → F (i + 1) = F i + D i) : ∀ i, i ≤ J → ∀ d, d ≤ i → msum D i ≤ F d - F 0
  | 0, _, d, hd => by
    obtain rfl : d = 0 := by omega
    simp [msum]
  | i + 1, hi, d, hd => by
    by_cases h : d = i + 1
    · subst h
      have h1 := msum_le D F J hF i (by omega) i (Nat.le_refl _)
      have h2 := hF i (by omega)
      unfold msum
      omega
    · have h1 := msum_le D F J hF i (by omega) d (by omega)
      unfold msum
      omega
theorem msum_eq (D F : Nat → Int) (J : Nat) (hF : ∀ i, i < J → F (i + 1) = F i + D i) (hD : ∀ i, i + 1 < J → D i ≤ D (i + 1)) : ∀ i, i ≤ J → (∃ t, t ≤ i ∧ msum D i = F t - F 0) ∧ ((∀ j, j < i → D j < 0) → msum D i = F i - F 0)
  | 0, _ => ⟨⟨0, Nat.le_refl _, by simp [msum]⟩, fun _ => by simp [msum]⟩
  | i + 1, hi => by
    obtain ⟨⟨t, h1, h2⟩, h3⟩ := msum_eq D F J hF hD i (by omega)
    have h4 := hF i (by omega)
    have hneg : D i < 0 → ∀ j, j < i → D j < 0 := fun h j hj => by
      have : ∀ e, j + e ≤ i → D j ≤ D (j + e) := by
        intro e
        induction e with
        | zero => intro _; exact Int.le_refl _
        | succ e ih => intro he; have := ih (by omega); have := hD (j + e) (by omega); rw [show j + (e + 1) = j + e + 1 by omega]; omega
      have := this (i - j) (by omega)
      rw [show j + (i - j) = i by omega] at this
      omega
    have key : D i < 0 → msum D (i + 1) = F (i + 1) - F 0 := fun h => by
      have := h3 (hneg h)
      unfold msum
      omega
    refine ⟨?_, fun h => key (h i (by omega))⟩
    by_cases h : D i < 0
    · exact ⟨i + 1, Nat.le_refl _, key h⟩
    · refine ⟨t, by omega, ?_⟩
      unfold msum
      omega
/-- The least and the greatest weight of what so many exchanges reach. -/
def IsLo (ws b : List Nat) (N k j : Nat) (z : Int) : Prop := (∃ c, Bl N k c ∧ awayN c b ≤ j ∧ (wgt ws c : Int) = z) ∧ ∀ c, Bl N k c → awayN c b ≤ j → z ≤ (wgt ws c : Int)
def IsHi (ws b : List Nat) (N k j : Nat) (z : Int) : Prop := (∃ c, Bl N k c ∧ awayN c b ≤ j ∧ (wgt ws c : Int) = z) ∧ ∀ c, Bl N k c → awayN c b ≤ j → (wgt ws c : Int) ≤ z
theorem IsLo.uniq {ws b : List Nat} {N k j : Nat} {y z : Int} (h : IsLo ws b N k j y) (h' : IsLo ws b N k j z) : y = z := by
  obtain ⟨⟨c, c1, c2, c3⟩, c4⟩ := h
  obtain ⟨⟨e, e1, e2, e3⟩, e4⟩ := h'
  have := c4 e e1 e2
  have := e4 c c1 c2
  omega
theorem IsHi.uniq {ws b : List Nat} {N k j : Nat} {y z : Int} (h : IsHi ws b N k j y) (h' : IsHi ws b N k j z) : y = z := by
  obtain ⟨⟨c, c1, c2, c3⟩, c4⟩ := h
  obtain ⟨⟨e, e1, e2, e3⟩, e4⟩ := h'
  have := c4 e e1 e2
  have := e4 c c1 c2
  omega
def dLo (A O : List Nat) (k i : Nat) : Int := (O.getD i 0 : Int) - (A.getD (k - 1 - i) 0 : Int)
def dHi (A O : List Nat) (i : Nat) : Int := (A.getD i 0 : Int) - (O.getD (O.length - 1 - i) 0 : Int)
theorem getD_at {L : List Nat} {i : Nat} (h : i < L.length) : L.getD i 0 = L[i] := by rw [List.getD_eq_getElem?_getD, List.getElem?_eq_getElem h]; rfl
theorem drop_succ_sum (L : List Nat) {i : Nat} (h : i < L.length) : (L.drop i).sum = L[i] + (L.drop (i + 1)).sum := by
  rw [List.drop_eq_getElem_cons h, List.sum_cons]
section
variable {ws b A O : List Nat} {N k : Nat} (hb : Bl N k b) (hA : A.Perm (b.map (wOf ws))) (hA' : A.Pairwise (· ≤ ·)) (hO : O.Perm ((oth N b).map (wOf ws))) (hO' : O.Pairwise (· ≤ ·))
include hb hA hA' hO hO'
theorem lo_is {j : Nat} : IsLo ws b N k j ((wgt ws b : Int) + msum (dLo A O k) (min (min j k) O.length)) := by
  have hAl : A.length = k := by rw [hA.length_eq, List.length_map, hb.len]
  have hOl : O.length = N - k := by rw [hO.length_eq, List.length_map, (oth_bl hb).len]
  let F : Nat → Int := fun d => ((A.take (k - d)).sum : Int) + ((O.take d).sum : Int)
  have hF0 : F 0 = (wgt ws b : Int) := by
    show ((A.take (k - 0)).sum : Int) + ((O.take 0).sum : Int) = _
    rw [Nat.sub_zero, List.take_of_length_le (by omega), hA.sum_nat, wgt_map]; simp
  have hF : ∀ i, i < min (min j k) O.length → F (i + 1) = F i + dLo A O k i := fun i hi => by
    show ((A.take (k - (i + 1))).sum : Int) + ((O.take (i + 1)).sum : Int) = ((A.take (k - i)).sum : Int) + ((O.take i).sum : Int) + dLo A O k i
    have h1 := take_succ_sum A (i := k - 1 - i) (by omega)
    have h2 := take_succ_sum O (i := i) (by omega)
    rw [show k - 1 - i + 1 = k - i by omega] at h1
    unfold dLo
    rw [getD_at (show i < O.length by omega), getD_at (show k - 1 - i < A.length by omega), show k - (i + 1) = k - 1 - i by omega]
    omega
  have hD : ∀ i, i + 1 < min (min j k) O.length → dLo A O k i ≤ dLo A O k (i + 1) := fun i hi => by
    unfold dLo
    rw [getD_at (show i < O.length by omega), getD_at (show k - 1 - i < A.length by omega), getD_at (show i + 1 < O.length by omega), getD_at (show k - 1 - (i + 1) < A.length by omega)]
    have h1 := sorted_get hO' (i := i) (j := i + 1) (by omega) (by omega)
    have h2 := sorted_get hA' (i := k - 1 - (i + 1)) (j := k - 1 - i) (by omega) (by omega)
    omega
  obtain ⟨⟨t, t1, t2⟩, _⟩ := msum_eq _ F _ hF hD _ (Nat.le_refl _)
  rw [hF0] at t2
  refine ⟨?_, fun c hc hcj => ?_⟩
  · obtain ⟨c, c1, c2, c3⟩ := reach_lo (ws := ws) hb hA hA' hO hO' (t := t) (by omega) (by omega)
    refine ⟨c, c1, by omega, ?_⟩
    have : F t = (wgt ws c : Int) := by
      show ((A.take (k - t)).sum : Int) + ((O.take t).sum : Int) = _
      omega
    omega
  · have h1 := reach_ge (ws := ws) hb hA hA' hO hO' hc
    obtain ⟨h2, h3⟩ := away_le hc hb
    have h4 := msum_le _ F _ hF _ (Nat.le_refl _) (awayN c b) (by omega)
    rw [hF0] at h4
    have : F (awayN c b) ≤ (wgt ws c : Int) := by
      show ((A.take (k - awayN c b)).sum : Int) + ((O.take (awayN c b)).sum : Int) ≤ _
      omega
    omega
theorem hi_is {j : Nat} : IsHi ws b N k j ((wgt ws b : Int) - msum (dHi A O) (min (min j k) O.length)) := by
  have hAl : A.length = k := by rw [hA.length_eq, List.length_map, hb.len]
  have hOl : O.length = N - k := by rw [hO.length_eq, List.length_map, (oth_bl hb).len]
  let F : Nat → Int := fun d => -(((A.drop d).sum : Int) + ((O.drop (O.length - d)).sum : Int))
  have hF0 : F 0 = -(wgt ws b : Int) := by
    show -(((A.drop 0).sum : Int) + ((O.drop (O.length - 0)).sum : Int)) = _
    rw [Nat.sub_zero, List.drop_zero, List.drop_eq_nil_of_le (Nat.le_refl _), hA.sum_nat, wgt_map]; simp
  have hF : ∀ i, i < min (min j k) O.length → F (i + 1) = F i + dHi A O i := fun i hi => by
    show -(((A.drop (i + 1)).sum : Int) + ((O.drop (O.length - (i + 1))).sum : Int)) = -(((A.drop i).sum : Int) + ((O.drop (O.length - i)).sum : Int)) + dHi A O i
    have h1 := drop_succ_sum A (i := i) (by omega)
    have h2 := drop_succ_sum O (i := O.length - 1 - i) (by omega)
    rw [show O.length - 1 - i + 1 = O.length - i by omega] at h2
    unfold dHi
    rw [getD_at (show i < A.length by omega), getD_at (show O.length - 1 - i < O.length by omega), show O.length - (i + 1) = O.length - 1 - i by omega]
    omega
  have hD : ∀ i, i + 1 < min (min j k) O.length → dHi A O i ≤ dHi A O (i + 1) := fun i hi => by
    unfold dHi
    rw [getD_at (show i < A.length by omega), getD_at (show O.length - 1 - i < O.length by omega), getD_at (show i + 1 < A.length by omega), getD_at (show O.length - 1 - (i + 1) < O.length by omega)]
    have h1 := sorted_get hA' (i := i) (j := i + 1) (by omega) (by omega)
    have h2 := sorted_get hO' (i := O.length - 1 - (i + 1)) (j := O.length - 1 - i) (by omega) (by omega)
    omega
  obtain ⟨⟨t, t1, t2⟩, _⟩ := msum_eq _ F _ hF hD _ (Nat.le_refl _)
  rw [hF0] at t2
  refine ⟨?_, fun c hc hcj => ?_⟩
  · obtain ⟨c, c1, c2, c3⟩ := reach_hi (ws := ws) hb hA hA' hO hO' (t := t) (by omega) (by omega)
    refine ⟨c, c1, by omega, ?_⟩
    have : F t = -(wgt ws c : Int) := by
      show -(((A.drop t).sum : Int) + ((O.drop (O.length - t)).sum : Int)) = _
      omega
    omega
  · have h1 := reach_le (ws := ws) hb hA hA' hO hO' hc
    obtain ⟨h2, h3⟩ := away_le hc hb
    have h4 := msum_le _ F _ hF _ (Nat.le_refl _) (awayN c b) (by omega)
    rw [hF0] at h4
    have : -(wgt ws c : Int) ≥ F (awayN c b) := by
      show -(wgt ws c : Int) ≥ -(((A.drop (awayN c b)).sum : Int) + ((O.drop (O.length - awayN c b)).sum : Int))
      omega
    omega
end
end Go.Vit

/- Plain laws: other numbers of the leaves. -/
namespace Go.Vit
/-- Leaves get other numbers. -/
def pi (to : List Nat) (x : Nat) : Nat := to.getD x 0
def ren (to : List Nat) (N : Nat) (l : List Nat) : List Nat := (List.range N).filter fun y => decide (y ∈ l.map (pi to))
def unr (to : List Nat) (N : Nat) (l : List Nat) : List Nat := (List.range N).filter fun x => decide (pi to x ∈ l)
theorem mem_ren {to : List Nat} {N : Nat} {l : List Nat} {y : Nat} : y ∈ ren to N l ↔ y < N ∧ ∃ x ∈ l, pi to x = y := by
  unfold ren; rw [List.mem_filter, List.mem_range, decide_eq_true_eq, List.mem_map]
section
variable {to : List Nat} {N : Nat} (hto : to.Perm (List.range N))
include hto
theorem to_len : to.length = N := by rw [hto.length_eq, List.length_range]
theorem to_nodup : to.Nodup := hto.nodup_iff.2 List.nodup_range
theorem pi_lt {x : Nat} (hx : x < N) : pi to x < N := by
  have h := to_len hto
  unfold pi
  rw [getD_at (show x < to.length by omega)]
  exact List.mem_range.1 (hto.mem_iff.1 (List.getElem_mem _))
theorem pi_inj {x y : Nat} (hx : x < N) (hy : y < N) (h : pi to x = pi to y) : x = y := by
  have hl := to_len hto
  unfold pi at h
  rw [getD_at (show x < to.length by omega), getD_at (show y < to.length by omega)] at h
  exact nodup_inj (to_nodup hto) (by omega) (by omega) h
theorem pi_onto {y : Nat} (hy : y < N) : ∃ x, x < N ∧ pi to x = y := by
  obtain ⟨i, hi, he⟩ := List.getElem_of_mem (hto.mem_iff.2 (List.mem_range.2 hy))
  have hl := to_len hto
  refine ⟨i, by omega, ?_⟩
  unfold pi
  rw [getD_at hi]; exact he
theorem map_pi_nodup {l : List Nat} (hl : ∀ x ∈ l, x < N) (hn : l.Nodup) : (l.map (pi to)).Nodup := by
  refine List.pairwise_iff_getElem.2 fun i j hi hj hij => ?_
  rw [List.length_map] at hi hj
  rw [List.getElem_map, List.getElem_map]
  intro h
  have := nodup_inj hn hi hj (pi_inj hto (hl _ (List.getElem_mem hi)) (hl _ (List.getElem_mem hj)) h)
  omega
theorem ren_perm {l : List Nat} (hl : ∀ x ∈ l, x < N) (hn : l.Nodup) : (ren to N l).Perm (l.map (pi to)) := by
  refine (List.perm_ext_iff_of_nodup (List.Pairwise.filter _ List.nodup_range) (map_pi_nodup hto hl hn)).2 fun y => ?_
  show y ∈ ren to N l ↔ _
  rw [mem_ren, List.mem_map]
  refine ⟨fun h => h.2, fun ⟨x, hx, he⟩ => ⟨?_, x, hx, he⟩⟩
  rw [← he]; exact pi_lt hto (hl x hx)
theorem ren_bl {k : Nat} {l : List Nat} (h : Bl N k l) : Bl N k (ren to N l) :=
  ⟨filter_asc _ (range_asc N), fun x hx => (mem_ren.1 hx).1, by rw [(ren_perm hto h.lt (asc_nodup h.asc)).length_eq, List.length_map, h.len]⟩
theorem mem_ren_pi {l : List Nat} (hl : ∀ x ∈ l, x < N) {x : Nat} (hx : x < N) : pi to x ∈ ren to N l ↔ x ∈ l := by
  rw [mem_ren]
  constructor
  · rintro ⟨_, y, hy, he⟩
    exact (pi_inj hto (hl y hy) hx he) ▸ hy
  · exact fun h => ⟨pi_lt hto hx, x, h, rfl⟩
theorem ren_away {k : Nat} {a b : List Nat} (ha : Bl N k a) (hb : Bl N k b) : awayN (ren to N a) (ren to N b) = awayN a b := by
  unfold awayN
  rw [((ren_perm hto ha.lt (asc_nodup ha.asc)).filter _).length_eq, List.filter_map, List.length_map]
  congr 1
  refine List.filter_congr fun x hx => ?_
  have := mem_ren_pi hto hb.lt (ha.lt x hx)
  show (!decide (pi to x ∈ ren to N b)) = _
  rw [decide_eq_decide.2 this]
theorem unr_ren {k : Nat} {c : List Nat} (h : Bl N k c) : ren to N (unr to N c) = c := by
  refine asc_ext (filter_asc _ (range_asc N)) h.asc fun y => ?_
  rw [mem_ren]
  unfold unr
  constructor
  · rintro ⟨_, x, hx, rfl⟩
    exact of_decide_eq_true (List.mem_filter.1 hx).2
  · intro hy
    obtain ⟨x, hx, he⟩ := pi_onto hto (h.lt y hy)
    exact ⟨h.lt y hy, x, List.mem_filter.2 ⟨List.mem_range.2 hx, by rw [he]; exact decide_eq_true hy⟩, he⟩
theorem unr_bl {k : Nat} {c : List Nat} (h : Bl N k c) : Bl N k (unr to N c) := by
  have hlt : ∀ x ∈ unr to N c, x < N := fun x hx => List.mem_range.1 (List.mem_filter.1 hx).1
  refine ⟨filter_asc _ (range_asc N), hlt, ?_⟩
  have h1 := (ren_perm hto hlt (asc_nodup (filter_asc _ (range_asc N)))).length_eq
  rw [unr_ren hto h, List.length_map, h.len] at h1
  exact h1.symm
theorem ren_inj {k : Nat} {a b : List Nat} (ha : Bl N k a) (hb : Bl N k b) (h : ren to N a = ren to N b) : a = b := by
  refine (away_zero ha hb).1 ?_
  rw [← ren_away hto ha hb, h]
  exact (away_zero (ren_bl hto hb) (ren_bl hto hb)).2 rfl
section
variable {ws vs : List Nat} (hw : ∀ x, x < N → vs.getD (pi to x) 0 = ws.getD x 0)
include hw
theorem ren_wgt {k : Nat} {l : List Nat} (h : Bl N k l) : wgt vs (ren to N l) = wgt ws l := by
  rw [wgt_perm vs (ren_perm hto h.lt (asc_nodup h.asc)), wgt_map, wgt_map, List.map_map]
  congr 1
  exact List.map_congr_left fun x hx => hw x (h.lt x hx)
theorem ren_fit {k : Nat} {lo hi : Int} {l : List Nat} (h : Bl N k l) : fitB vs lo hi (ren to N l) = fitB ws lo hi l := by
  unfold fitB; rw [ren_wgt hto hw h]
end
end
theorem rnd_nodup {N k : Nat} (hN : N ≤ 10) (hk : k ≤ N) : (rnd N k).Nodup := by
  refine List.pairwise_iff_getElem.2 fun i j hi hj hij he => ?_
  rw [rnd_len hN hk] at hi hj
  have h1 := (rnd_at hN hk hi).2
  have h2 := (rnd_at hN hk hj).2
  rw [List.getD_eq_getElem?_getD, List.getElem?_eq_getElem (by rw [rnd_len hN hk]; omega)] at h1 h2
  simp only [Option.getD_some] at h1 h2
  rw [he, h2] at h1
  omega
theorem rnd_ren {to : List Nat} {N k : Nat} (hto : to.Perm (List.range N)) (hN : N ≤ 10) (hk : k ≤ N) : ((rnd N k).map (ren to N)).Perm (rnd N k) := by
  refine (List.perm_ext_iff_of_nodup ?_ (rnd_nodup hN hk)).2 fun c => ?_
  · refine List.pairwise_iff_getElem.2 fun i j hi hj hij he => ?_
    rw [List.length_map] at hi hj
    rw [List.getElem_map, List.getElem_map] at he
    have e2 := (ren_inj hto (rnd_bl N k hk _ (List.getElem_mem hi)) (rnd_bl N k hk _ (List.getElem_mem hj)) he)
    have := nodup_inj (a := rnd N k) (rnd_nodup hN hk) hi hj e2
    omega
  · rw [List.mem_map]
    constructor
    · rintro ⟨a, ha, rfl⟩
      exact bl_rnd _ _ _ (ren_bl hto (rnd_bl N k hk a ha))
    · intro hc
      have hb := rnd_bl N k hk c hc
      exact ⟨unr to N c, bl_rnd _ _ _ (unr_bl hto hb), unr_ren hto hb⟩
section
variable {to ws vs : List Nat} {N : Nat} (hto : to.Perm (List.range N)) (hw : ∀ x, x < N → vs.getD (pi to x) 0 = ws.getD x 0)
include hto hw
theorem ren_lo {k j : Nat} {a : List Nat} {y z : Int} (ha : Bl N k a) (h1 : IsLo ws a N k j y) (h2 : IsLo vs (ren to N a) N k j z) : y = z := by
  obtain ⟨⟨c, c1, c2, c3⟩, c4⟩ := h1
  obtain ⟨⟨e, e1, e2, e3⟩, e4⟩ := h2
  have hu := unr_bl hto e1
  have he := unr_ren hto e1
  have g1 := e4 _ (ren_bl hto c1) (by rw [ren_away hto c1 ha]; exact c2)
  rw [ren_wgt hto hw c1] at g1
  have g2 := c4 _ hu (by rw [← ren_away hto hu ha, he]; exact e2)
  rw [← ren_wgt hto hw hu, he] at g2
  omega
theorem ren_hi {k j : Nat} {a : List Nat} {y z : Int} (ha : Bl N k a) (h1 : IsHi ws a N k j y) (h2 : IsHi vs (ren to N a) N k j z) : y = z := by
  obtain ⟨⟨c, c1, c2, c3⟩, c4⟩ := h1
  obtain ⟨⟨e, e1, e2, e3⟩, e4⟩ := h2
  have hu := unr_bl hto e1
  have he := unr_ren hto e1
  have g1 := e4 _ (ren_bl hto c1) (by rw [ren_away hto c1 ha]; exact c2)
  rw [ren_wgt hto hw c1] at g1
  have g2 := c4 _ hu (by rw [← ren_away hto hu ha, he]; exact e2)
  rw [← ren_wgt hto hw hu, he] at g2
  omega
end
section
variable {to ws vs : List Nat} {N : Nat} (hto : to.Perm (List.range N)) (hN : N ≤ 10) (hws : ws.length = N) (hvs : vs.length = N) (hw : ∀ x, x < N → vs.getD (pi to x) 0 = ws.getD x 0)
include hto hN hws hvs hw
theorem ren_fitL {k : Nat} {lo hi : Int} (hk : k ≤ N) : (fitL vs k lo hi).length = (fitL ws k lo hi).length := by
  rw [fitL_rnd (by omega) (by omega), fitL_rnd (by omega) (by omega), hws, hvs, ← List.countP_eq_length_filter, ← List.countP_eq_length_filter, ← (rnd_ren hto hN hk).countP_eq, List.countP_map]
  refine List.countP_congr fun l hl => ?_
  show fitB vs lo hi (ren to N l) = true ↔ _
  rw [ren_fit hto hw (rnd_bl N k hk l hl)]
/-- The nearest ones are as far away. -/
theorem ren_near {k : Nat} {lo hi : Int} {a p q : List Nat} (ha : Bl N k a) (hp : p ∈ fitL ws k lo hi) (hp2 : ∀ c ∈ fitL ws k lo hi, awayN p a ≤ awayN c a)
    (hq : q ∈ fitL vs k lo hi) (hq2 : ∀ c ∈ fitL vs k lo hi, awayN q (ren to N a) ≤ awayN c (ren to N a)) : awayN p a = awayN q (ren to N a) := by
  have hk := ha.le
  obtain ⟨p1, p2⟩ := fitL_bl (by omega) (by omega) hp
  obtain ⟨r1, r2⟩ := fitL_bl (by omega) (by omega) hq
  rw [hws] at p1
  rw [hvs] at r1
  have g1 := hq2 (ren to N p) (mem_fitL (by omega) (by rw [hvs]; exact ren_bl hto p1) (by rw [ren_fit hto hw p1]; exact p2))
  rw [ren_away hto p1 ha] at g1
  have hu := unr_bl hto r1
  have he := unr_ren hto r1
  have g2 := hp2 (unr to N q) (mem_fitL (by omega) (by rw [hws]; exact hu) (by rw [← ren_fit hto hw hu, he]; exact r2))
  rw [← ren_away hto hu ha, he] at g2
  omega
end
end Go.Vit

/- Plain laws: all blends, by their bits; the first one of the nearest. -/
namespace Go.Vit
def heldN (x N : Nat) : List Nat := (List.range N).filter fun i => x.testBit i
def popN (x : Nat) : Nat := ((List.range 10).filter fun i => x.testBit i).length
def allH (N k : Nat) : List (List Nat) := ((List.range (2 ^ N)).filter fun x => decide (popN x = k)).map (heldN · N)
theorem pop_held : ∀ N, N < 11 → ∀ x, x < 2 ^ N → (heldN x N).length = popN x := by decide +kernel
theorem allH_rnd : ∀ N, N < 11 → ∀ k, k < N + 1 → (rnd N k).isPerm (allH N k) = true := by decide +kernel
theorem allH_perm {N k : Nat} (hN : N ≤ 10) (hk : k ≤ N) : (rnd N k).Perm (allH N k) := List.isPerm_iff.1 (allH_rnd N (by omega) k (by omega))
theorem held_bl {N k x : Nat} (hN : N ≤ 10) (hx : x < 2 ^ N) (h : popN x = k) : Bl N k (heldN x N) :=
  ⟨filter_asc _ (range_asc N), fun y hy => List.mem_range.1 (List.mem_filter.1 hy).1, (pop_held N (by omega) x hx).trans h⟩
/-- Those of the first x sets. -/
def allI (N k x : Nat) : List (List Nat) := ((List.range x).filter fun x => decide (popN x = k)).map (heldN · N)
theorem allI_t {N k x : Nat} (h : popN x = k) : allI N k (x + 1) = allI N k x ++ [heldN x N] := by
  unfold allI; rw [List.range_succ, List.filter_append, List.map_append]; simp [h]
theorem allI_f {N k x : Nat} (h : popN x ≠ k) : allI N k (x + 1) = allI N k x := by
  unfold allI; rw [List.range_succ, List.filter_append, List.map_append]; simp [h]
/-! The order of lists. -/
theorem cmpL_self : ∀ a : List Nat, cmpL a a = 0
  | [] => rfl
  | x :: a => by
    show (if x < x then (-1 : Int) else if x < x then 1 else cmpL a a) = 0
    rw [if_neg (Nat.lt_irrefl x), if_neg (Nat.lt_irrefl x)]
    exact cmpL_self a
theorem cmpL_cc (x y : Nat) (a b : List Nat) : cmpL (x :: a) (y :: b) = if x < y then -1 else if y < x then 1 else cmpL a b := rfl
theorem cmpL_neg : ∀ a b : List Nat, cmpL a b = -cmpL b a
  | [], [] => rfl
  | [], _ :: _ => rfl
  | _ :: _, [] => rfl
  | x :: a, y :: b => by
    rw [cmpL_cc, cmpL_cc]
    by_cases h1 : x < y
    · rw [if_pos h1, if_neg (by omega), if_pos h1]
    · rw [if_neg h1]
      by_cases h2 : y < x
      · rw [if_pos h2, if_pos h2]; rfl
      · rw [if_neg h2, if_neg h2, if_neg h1]; exact cmpL_neg a b
theorem cmpL_eq : ∀ {a b : List Nat}, cmpL a b = 0 → a = b
  | [], [], _ => rfl
  | [], _ :: _, h => by cases h
  | _ :: _, [], h => by cases h
  | x :: a, y :: b, h => by
    rw [cmpL_cc] at h
    split at h
    · cases h
    · split at h
      · cases h
      · rw [cmpL_eq h, show x = y by omega]
theorem cmpL_trans : ∀ {a b c : List Nat}, cmpL a b ≤ 0 → cmpL b c ≤ 0 → cmpL a c ≤ 0
  | [], _, [], _, _ => by decide
  | [], _, _ :: _, _, _ => by
    show (-1 : Int) ≤ 0
    decide
  | _ :: _, [], _, h, _ => by
    change (1 : Int) ≤ 0 at h
    omega
  | _ :: _, _ :: _, [], _, h => by
    change (1 : Int) ≤ 0 at h
    omega
  | x :: a, y :: b, z :: c, h1, h2 => by
    rw [cmpL_cc] at h1 h2 ⊢
    by_cases a1 : x < y
    · by_cases a2 : y < z
      · rw [if_pos (by omega)]; decide
      · rw [if_neg a2] at h2
        by_cases a3 : z < y
        · rw [if_pos a3] at h2; omega
        · rw [if_pos (by omega)]; decide
    · rw [if_neg a1] at h1
      by_cases a4 : y < x
      · rw [if_pos a4] at h1; omega
      · rw [if_neg a4] at h1
        by_cases a2 : y < z
        · rw [if_pos (by omega)]; decide
        · rw [if_neg a2] at h2
          by_cases a3 : z < y
          · rw [if_pos a3] at h2; omega
          · rw [if_neg a3] at h2
            rw [if_neg (by omega), if_neg (by omega)]
            exact cmpL_trans h1 h2
/-- The least one: the nearest, and of them the first. -/
def Bst (t : List Nat) (l : List (List Nat)) (b : List Nat) : Prop := b ∈ l ∧ ∀ c ∈ l, awayN b t < awayN c t ∨ (awayN b t = awayN c t ∧ cmpL b c ≤ 0)
theorem Bst.uniq {t : List Nat} {l l' : List (List Nat)} {b c : List Nat} (hp : l.Perm l') (h : Bst t l b) (h' : Bst t l' c) : b = c := by
  have h1 := h.2 c (hp.mem_iff.2 h'.1)
  have h2 := h'.2 b (hp.mem_iff.1 h.1)
  refine cmpL_eq ?_
  have := cmpL_neg b c
  rcases h1 with h1 | ⟨h1, h3⟩ <;> rcases h2 with h2 | ⟨h2, h4⟩ <;> omega
theorem fold_bst (t : List Nat) : ∀ (l : List (List Nat)) (st : List Nat × Nat), (st.2 = awayN st.1 t → ∀ u : List (List Nat), Bst t u st.1 → Bst t (u ++ l) (l.foldl (nearS t) st).1 ∧ (l.foldl (nearS t) st).2 = awayN (l.foldl (nearS t) st).1 t)
  | [], st => fun h u hu => by rw [List.append_nil]; exact ⟨hu, h⟩
  | x :: l, st => fun h u hu => by
    rw [List.foldl_cons]
    have key : (nearS t st x).2 = awayN (nearS t st x).1 t ∧ Bst t (u ++ [x]) (nearS t st x).1 := by
      unfold nearS
      split
      · rename_i hc
        refine ⟨rfl, List.mem_append_right _ (List.mem_singleton.2 rfl), fun c hcm => ?_⟩
        rcases List.mem_append.1 hcm with hcm | hcm
        · have h1 := hu.2 c hcm
          rcases hc with hc | ⟨hc, hc2⟩
          · left; simp only; rcases h1 with h1 | ⟨h1, _⟩ <;> omega
          · rcases h1 with h1 | ⟨h1, h3⟩
            · left; simp only; omega
            · right; exact ⟨by simp only; omega, cmpL_trans (show cmpL x st.1 ≤ 0 by omega) h3⟩
        · rw [List.mem_singleton] at hcm
          subst hcm
          exact .inr ⟨rfl, by rw [cmpL_self]; decide⟩
      · rename_i hc
        refine ⟨h, List.mem_append_left _ hu.1, fun c hcm => ?_⟩
        rcases List.mem_append.1 hcm with hcm | hcm
        · exact hu.2 c hcm
        · rw [List.mem_singleton] at hcm
          subst hcm
          by_cases h1 : awayN st.1 t < awayN c t
          · exact .inl h1
          · have h2 : awayN st.1 t = awayN c t := by
              have := fun hh => hc (.inl hh)
              omega
            refine .inr ⟨h2, ?_⟩
            have h3 : ¬ cmpL c st.1 < 0 := fun hh => hc (.inr ⟨by omega, hh⟩)
            have := cmpL_neg st.1 c
            omega
    have := fold_bst t l (nearS t st x) key.1 (u ++ [x]) key.2
    rw [List.append_assoc] at this
    exact this
/-- From nothing held, with a great distance. -/
theorem start_bst {t : List Nat} {l : List (List Nat)} {far : Nat} (hl : ∀ c ∈ l, awayN c t < far) (hne : l ≠ []) : Bst t l (l.foldl (nearS t) ([], far)).1 ∧ (l.foldl (nearS t) ([], far)).2 = awayN (l.foldl (nearS t) ([], far)).1 t := by
  obtain ⟨x, l', rfl⟩ := List.exists_cons_of_ne_nil hne
  have hx := hl x (List.mem_cons_self ..)
  rw [List.foldl_cons]
  have h1 : nearS t ([], far) x = (x, awayN x t) := if_pos (.inl hx)
  rw [h1]
  exact fold_bst t l' (x, awayN x t) rfl [x] ⟨List.mem_singleton.2 rfl, fun c hc => by rw [List.mem_singleton] at hc; subst hc; exact .inr ⟨rfl, by rw [cmpL_self]; decide⟩⟩
/-- The least and the greatest weight, as they are held. -/
def lowS (ws t : List Nat) (j : Nat) (z : Int) (c : List Nat) : Int := if awayN c t ≤ j then min z (wgt ws c) else z
def highS (ws t : List Nat) (j : Nat) (z : Int) (c : List Nat) : Int := if awayN c t ≤ j then max z (wgt ws c) else z
theorem low_fold (ws t : List Nat) (j : Nat) : ∀ (l : List (List Nat)) (z : Int), (∀ c ∈ l, awayN c t ≤ j → l.foldl (lowS ws t j) z ≤ (wgt ws c : Int)) ∧ l.foldl (lowS ws t j) z ≤ z ∧ (l.foldl (lowS ws t j) z = z ∨ ∃ c ∈ l, awayN c t ≤ j ∧ (wgt ws c : Int) = l.foldl (lowS ws t j) z)
  | [], z => ⟨fun c hc => (by cases hc), Int.le_refl _, .inl rfl⟩
  | x :: l, z => by
    obtain ⟨h1, h2, h3⟩ := low_fold ws t j l (lowS ws t j z x)
    rw [List.foldl_cons]
    have h4 : lowS ws t j z x ≤ z := by unfold lowS; split <;> omega
    refine ⟨fun c hc hcd => ?_, by omega, ?_⟩
    · rcases List.mem_cons.1 hc with rfl | hc
      · have : lowS ws t j z c ≤ (wgt ws c : Int) := by unfold lowS; rw [if_pos hcd]; omega
        omega
      · exact h1 c hc hcd
    · rcases h3 with h3 | ⟨c, c1, c2, c3⟩
      · rw [h3]
        unfold lowS
        split
        · rename_i hd
          by_cases hz : z ≤ (wgt ws x : Int)
          · left; omega
          · right; exact ⟨x, List.mem_cons_self .., hd, by omega⟩
        · exact .inl rfl
      · exact .inr ⟨c, List.mem_cons_of_mem _ c1, c2, c3⟩
theorem high_fold (ws t : List Nat) (j : Nat) : ∀ (l : List (List Nat)) (z : Int), (∀ c ∈ l, awayN c t ≤ j → (wgt ws c : Int) ≤ l.foldl (highS ws t j) z) ∧ z ≤ l.foldl (highS ws t j) z ∧ (l.foldl (highS ws t j) z = z ∨ ∃ c ∈ l, awayN c t ≤ j ∧ (wgt ws c : Int) = l.foldl (highS ws t j) z)
  | [], z => ⟨fun c hc => (by cases hc), Int.le_refl _, .inl rfl⟩
  | x :: l, z => by
    obtain ⟨h1, h2, h3⟩ := high_fold ws t j l (highS ws t j z x)
    rw [List.foldl_cons]
    have h4 : z ≤ highS ws t j z x := by unfold highS; split <;> omega
    refine ⟨fun c hc hcd => ?_, by omega, ?_⟩
    · rcases List.mem_cons.1 hc with rfl | hc
      · have : (wgt ws c : Int) ≤ highS ws t j z c := by unfold highS; rw [if_pos hcd]; omega
        omega
      · exact h1 c hc hcd
    · rcases h3 with h3 | ⟨c, c1, c2, c3⟩
      · rw [h3]
        unfold highS
        split
        · rename_i hd
          by_cases hz : (wgt ws x : Int) ≤ z
          · left; omega
          · right; exact ⟨x, List.mem_cons_self .., hd, by omega⟩
        · exact .inl rfl
      · exact .inr ⟨c, List.mem_cons_of_mem _ c1, c2, c3⟩
theorem low_is {ws t : List Nat} {j N k : Nat} (hN : N ≤ 10) (ht : Bl N k t) (hw : ∀ c, Bl N k c → wgt ws c < 1000) : IsLo ws t N k j ((allH N k).foldl (lowS ws t j) 1000) := by
  obtain ⟨h1, h2, h3⟩ := low_fold ws t j (allH N k) 1000
  have hm : ∀ c, c ∈ allH N k ↔ Bl N k c := fun c => ((allH_perm hN ht.le).mem_iff.symm).trans ⟨rnd_bl N k ht.le c, bl_rnd N k c⟩
  refine ⟨?_, fun c hc => h1 c ((hm c).2 hc)⟩
  rcases h3 with h3 | ⟨c, c1, c2, c3⟩
  · have h4 := h1 t ((hm t).2 ht) (by rw [(away_zero ht ht).2 rfl]; omega)
    have := hw t ht
    omega
  · exact ⟨c, (hm c).1 c1, c2, c3⟩
theorem high_is {ws t : List Nat} {j N k : Nat} (hN : N ≤ 10) (ht : Bl N k t) : IsHi ws t N k j ((allH N k).foldl (highS ws t j) (-1)) := by
  obtain ⟨h1, h2, h3⟩ := high_fold ws t j (allH N k) (-1)
  have hm : ∀ c, c ∈ allH N k ↔ Bl N k c := fun c => ((allH_perm hN ht.le).mem_iff.symm).trans ⟨rnd_bl N k ht.le c, bl_rnd N k c⟩
  refine ⟨?_, fun c hc => h1 c ((hm c).2 hc)⟩
  rcases h3 with h3 | ⟨c, c1, c2, c3⟩
  · have h4 := h1 t ((hm t).2 ht) (by rw [(away_zero ht ht).2 rfl]; omega)
    omega
  · exact ⟨c, (hm c).1 c1, c2, c3⟩
end Go.Vit

/- Plain laws: the round as sets; each one next to the one before; the round without the greatest leaf. -/
namespace Go.Vit
/-- The bits of a list. -/
def setN (l : List Nat) : Nat := l.foldl (fun s x => s ||| 2 ^ x) 0
theorem setN_snoc (l : List Nat) (x : Nat) : setN (l ++ [x]) = setN l ||| 2 ^ x := by
  unfold setN; rw [List.foldl_append]; rfl
theorem setN_lt {l : List Nat} (h : ∀ x ∈ l, x < 10) : setN l < 1024 := by
  have key : ∀ (l : List Nat) (s : Nat), s < 2 ^ 10 → (∀ x ∈ l, x < 10) → l.foldl (fun s x => s ||| 2 ^ x) s < 2 ^ 10 := by
    intro l
    induction l with
    | nil => intro s hs _; exact hs
    | cons x l ih =>
      intro s hs hl
      refine ih _ (Nat.or_lt_two_pow hs ?_) fun y hy => hl y (by simp [hy])
      exact Nat.pow_lt_pow_right (by decide) (hl x (by simp))
  exact key l 0 (by decide) h
def nodB : List Nat → Bool
  | [] => true
  | x :: l => l.all (fun y => !(Nat.beq x y)) && nodB l
theorem nodB_at : ∀ {l : List Nat}, nodB l = true → ∀ {i : Nat} (hi : i < l.length), l[i] ∉ l.take i
  | [], _, i, hi => by cases hi
  | x :: l, h, 0, hi => by simp
  | x :: l, h, i + 1, hi => by
    unfold nodB at h
    rw [Bool.and_eq_true, List.all_eq_true] at h
    have hil : i < l.length := by simpa using hi
    rw [List.getElem_cons_succ, List.take_succ_cons, List.mem_cons, not_or]
    refine ⟨fun e => ?_, nodB_at h.2 hil⟩
    have := h.1 l[i] (List.getElem_mem hil)
    rw [e] at this
    simp at this
def doorOk (N k : Nat) : Bool := nodB ((rnd N k).map setN) && (decide (chs N k = 1) || (List.range (chs N k)).all fun i => decide (awayN ((rnd N k).getD i []) ((rnd N k).getD ((i + 1) % chs N k) []) = 1))
theorem door_all : ∀ N, N < 11 → ∀ k, k < 11 → k ≤ N → doorOk N k = true := by decide +kernel
def restOk (N k : Nat) : Bool := (List.range (chs N k)).all fun i => (decide (N - 1 ∈ (rnd N k).getD i []) == decide (chs (N - 1) k ≤ i)) &&
  (match Nat.ble (chs (N - 1) k) i with
  | true => decide (chs N k - 1 - i < chs (N - 1) (k - 1)) && decide (nthK (k - 1) (chs N k - 1 - i) = ((rnd N k).getD i []).take (k - 1))
  | false => true)
theorem rest_all : ∀ N, N < 11 → ∀ k, k < 11 → 1 ≤ k → k < N → restOk N k = true := by decide +kernel
theorem door_new {N k i : Nat} (hN : N ≤ 10) (hk : k ≤ N) (hi : i < (rnd N k).length) : setN (rnd N k)[i] ∉ ((rnd N k).take i).map setN := by
  have h := door_all N (by omega) k (by omega) hk
  unfold doorOk at h
  rw [Bool.and_eq_true] at h
  have := nodB_at h.1 (i := i) (by rw [List.length_map]; exact hi)
  rwa [List.getElem_map, ← List.map_take] at this
theorem door_next {N k i : Nat} (hN : N ≤ 10) (hk : k ≤ N) (h1 : chs N k ≠ 1) (hi : i < chs N k) : awayN ((rnd N k).getD i []) ((rnd N k).getD ((i + 1) % chs N k) []) = 1 := by
  have h := door_all N (by omega) k (by omega) hk
  unfold doorOk at h
  rw [Bool.and_eq_true, Bool.or_eq_true, decide_eq_true_eq] at h
  rcases h.2 with h | h
  · exact absurd h h1
  · exact of_decide_eq_true (List.all_eq_true.1 h i (List.mem_range.2 hi))
theorem rest_at {N k i : Nat} (hN : N ≤ 10) (h1 : 1 ≤ k) (hk : k < N) (hi : i < chs N k) : (N - 1 ∈ (rnd N k).getD i [] ↔ chs (N - 1) k ≤ i) ∧
    (chs (N - 1) k ≤ i → chs N k - 1 - i < chs (N - 1) (k - 1) ∧ nthK (k - 1) (chs N k - 1 - i) = ((rnd N k).getD i []).take (k - 1)) := by
  have h := rest_all N (by omega) k (by omega) h1 hk
  unfold restOk at h
  have := List.all_eq_true.1 h i (List.mem_range.2 hi)
  rw [Bool.and_eq_true, beq_iff_eq, decide_eq_decide] at this
  refine ⟨this.1, fun hle => ?_⟩
  have h2 := this.2
  rw [Nat.ble_eq_true_of_le hle] at h2
  simp only [Bool.and_eq_true, decide_eq_true_eq] at h2
  exact h2
end Go.Vit

