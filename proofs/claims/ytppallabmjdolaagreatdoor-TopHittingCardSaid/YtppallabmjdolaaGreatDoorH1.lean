/- Heaps and hours: the fewest hours, and the most heaps without a common hour. -/
import Derived.Test.YtppallabmjdolaaGreatDoorC1
set_option linter.unusedSimpArgs false
set_option linter.unusedVariables false
namespace Go.Vit
open Go
abbrev Hp := Nat × Nat
def hasH (h : Hp) (x : Nat) : Bool := decide (h.1 ≤ x) && decide (x ≤ h.2)
theorem hasH_iff {h : Hp} {x : Nat} : hasH h x = true ↔ h.1 ≤ x ∧ x ≤ h.2 := by
  unfold hasH; rw [Bool.and_eq_true, decide_eq_true_eq, decide_eq_true_eq]
def minT (t : Nat) : List Hp → Nat
  | [] => t
  | h :: l => minT (min t h.2) l
theorem minT_le : ∀ (l : List Hp) (t : Nat), minT t l ≤ t ∧ ∀ h ∈ l, minT t l ≤ h.2
  | [], t => ⟨Nat.le_refl _, fun h hh => by cases hh⟩
  | h :: l, t => by
    obtain ⟨h1, h2⟩ := minT_le l (min t h.2)
    show minT (min t h.2) l ≤ t ∧ ∀ x ∈ h :: l, minT (min t h.2) l ≤ x.2
    refine ⟨by omega, fun x hx => ?_⟩
    rcases List.mem_cons.1 hx with rfl | hx
    · omega
    · exact h2 x hx
theorem minT_mem : ∀ (l : List Hp) (t : Nat), minT t l = t ∨ ∃ h ∈ l, h.2 = minT t l
  | [], t => .inl rfl
  | h :: l, t => by
    show minT (min t h.2) l = t ∨ ∃ x ∈ h :: l, x.2 = minT (min t h.2) l
    rcases minT_mem l (min t h.2) with h1 | ⟨x, hx, h2⟩
    · rw [h1]
      by_cases hle : t ≤ h.2
      · exact .inl (by omega)
      · exact .inr ⟨h, List.mem_cons_self .., by omega⟩
    · exact .inr ⟨x, List.mem_cons_of_mem _ hx, h2⟩
def lastT : List Hp → Nat
  | [] => 0
  | h :: l => minT h.2 (h :: l)
theorem lastT_le {l : List Hp} {h : Hp} (hh : h ∈ l) : lastT l ≤ h.2 := by
  cases l with
  | nil => cases hh
  | cons a l => exact (minT_le (a :: l) a.2).2 h hh
theorem lastT_mem {l : List Hp} (h : l ≠ []) : ∃ x ∈ l, x.2 = lastT l := by
  cases l with
  | nil => exact absurd rfl h
  | cons a l =>
    rcases minT_mem (a :: l) a.2 with h1 | h1
    · exact ⟨a, List.mem_cons_self .., h1.symm⟩
    · exact h1
def left (l : List Hp) (x : Nat) : List Hp := l.filter fun h => !hasH h x
theorem mem_left {l : List Hp} {x : Nat} {h : Hp} : h ∈ left l x ↔ h ∈ l ∧ hasH h x = false := by
  unfold left; rw [List.mem_filter, Bool.not_eq_true']
def grN : Nat → List Hp → Nat
  | 0, _ => 0
  | _ + 1, [] => 0
  | n + 1, h :: l => grN n (left (h :: l) (lastT (h :: l))) + 1
def Vd (l : List Hp) : Prop := ∀ h ∈ l, h.1 ≤ h.2
theorem Vd.left {l : List Hp} (h : Vd l) (x : Nat) : Vd (left l x) := fun a ha => h a (mem_left.1 ha).1
theorem left_len {l : List Hp} (hv : Vd l) (h : l ≠ []) : (left l (lastT l)).length < l.length := by
  obtain ⟨x, hx, hxe⟩ := lastT_mem h
  have h1 : x ∉ left l (lastT l) := fun hm => by
    have := (mem_left.1 hm).2
    rw [hasH_iff.2 ⟨by rw [← hxe]; exact hv x hx, by omega⟩] at this
    cases this
  rcases Nat.lt_or_ge (left l (lastT l)).length l.length with h2 | h2
  · exact h2
  · exfalso
    have hs : (left l (lastT l)).Sublist l := List.filter_sublist
    have := hs.eq_of_length_le h2
    rw [this] at h1
    exact h1 hx
/-- No hour in common. -/
def dj (a b : Hp) : Prop := a.2 < b.1 ∨ b.2 < a.1
def Hit (S : List Nat) (l : List Hp) : Prop := ∀ h ∈ l, ∃ x ∈ S, hasH h x = true
theorem greedy : ∀ (n : Nat) (l : List Hp), Vd l → l.length ≤ n → ∃ (S : List Nat) (D : List Hp), S.length = grN n l ∧ D.length = grN n l ∧ Hit S l ∧ S.Pairwise (· < ·) ∧ (∀ x ∈ S, ∃ h ∈ l, h.2 = x) ∧ (∀ h ∈ D, h ∈ l) ∧ D.Pairwise dj
  | 0, l, _, hl => by
    have : l = [] := List.length_eq_zero_iff.1 (by omega)
    subst this
    exact ⟨[], [], rfl, rfl, fun h hh => (by cases hh), List.Pairwise.nil, fun x hx => (by cases hx), fun x hx => (by cases hx), List.Pairwise.nil⟩
  | n + 1, [], _, _ => ⟨[], [], rfl, rfl, fun h hh => (by cases hh), List.Pairwise.nil, fun x hx => (by cases hx), fun x hx => (by cases hx), List.Pairwise.nil⟩
  | n + 1, a :: l, hv, hl => by
    have hlt := left_len hv (by simp)
    obtain ⟨S, D, h1, h2, h3, h4, h5, h6, h7⟩ := greedy n (left (a :: l) (lastT (a :: l))) (hv.left _) (by omega)
    obtain ⟨x, hx, hxe⟩ := lastT_mem (l := a :: l) (by simp)
    have hgt : ∀ h ∈ left (a :: l) (lastT (a :: l)), lastT (a :: l) < h.1 := fun h hh => by
      obtain ⟨g1, g2⟩ := mem_left.1 hh
      have g3 := lastT_le g1
      rcases Nat.lt_or_ge (lastT (a :: l)) h.1 with g | g
      · exact g
      · rw [hasH_iff.2 ⟨g, g3⟩] at g2; cases g2
    refine ⟨lastT (a :: l) :: S, x :: D, by simp [h1, grN], by simp [h2, grN], fun h hh => ?_, ?_, fun y hy => ?_, fun h hh => ?_, ?_⟩
    · cases hb : hasH h (lastT (a :: l)) with
      | true => exact ⟨_, List.mem_cons_self .., hb⟩
      | false =>
        obtain ⟨y, hy, hy2⟩ := h3 h (mem_left.2 ⟨hh, hb⟩)
        exact ⟨y, List.mem_cons_of_mem _ hy, hy2⟩
    · refine List.pairwise_cons.2 ⟨fun y hy => ?_, h4⟩
      obtain ⟨h, hh, rfl⟩ := h5 y hy
      have g1 := hgt h hh
      have g2 := hv h (mem_left.1 hh).1
      omega
    · rcases List.mem_cons.1 hy with rfl | hy
      · exact ⟨x, hx, hxe⟩
      · obtain ⟨h, hh, he⟩ := h5 y hy
        exact ⟨h, (mem_left.1 hh).1, he⟩
    · rcases List.mem_cons.1 hh with rfl | hh
      · exact hx
      · exact (mem_left.1 (h6 h hh)).1
    · refine List.pairwise_cons.2 ⟨fun h hh => .inl ?_, h7⟩
      rw [hxe]
      exact hgt h (h6 h hh)
theorem pts_le {S : List Nat} {D l : List Hp} (hS : Hit S l) (hD : ∀ h ∈ D, h ∈ l) (hp : D.Pairwise dj) : D.length ≤ S.length := by
  have hf : ∀ h ∈ D, (S.find? (hasH h)).getD 0 ∈ S ∧ hasH h ((S.find? (hasH h)).getD 0) = true := fun h hh => by
    obtain ⟨x, hx, hx2⟩ := hS h (hD h hh)
    cases hfd : S.find? (hasH h) with
    | none => rw [List.find?_eq_none] at hfd; exact absurd hx2 (hfd x hx)
    | some y => exact ⟨List.mem_of_find?_eq_some hfd, List.find?_some hfd⟩
  have hnd : (D.map fun h => (S.find? (hasH h)).getD 0).Nodup := by
    unfold List.Nodup
    rw [List.pairwise_map]
    refine List.Pairwise.imp_of_mem ?_ hp
    intro a b ha hb hab he
    have h1 := hasH_iff.1 (hf a ha).2
    have h2 := hasH_iff.1 (hf b hb).2
    rw [he] at h1
    rcases hab with h | h <;> omega
  have := nodup_le hnd (b := S) fun x hx => by
    obtain ⟨h, hh, rfl⟩ := List.mem_map.1 hx
    exact (hf h hh).1
  rwa [List.length_map] at this
/-- The fewest hours. -/
def meetN (l : List Hp) : Nat := grN l.length l
theorem meet_hit {l : List Hp} (hv : Vd l) : ∃ S : List Nat, S.length = meetN l ∧ Hit S l ∧ S.Pairwise (· < ·) ∧ ∀ x ∈ S, ∃ h ∈ l, h.2 = x := by
  obtain ⟨S, D, h1, h2, h3, h4, h5, h6, h7⟩ := greedy l.length l hv (Nat.le_refl _)
  exact ⟨S, h1, h3, h4, h5⟩
theorem meet_le {S : List Nat} {l : List Hp} (hv : Vd l) (hS : Hit S l) : meetN l ≤ S.length := by
  obtain ⟨S', D, h1, h2, h3, h4, h5, h6, h7⟩ := greedy l.length l hv (Nat.le_refl _)
  have := pts_le hS h6 h7
  show grN l.length l ≤ _
  omega
theorem apart_le {D l : List Hp} (hv : Vd l) (hD : ∀ h ∈ D, h ∈ l) (hp : D.Pairwise dj) : D.length ≤ meetN l := by
  obtain ⟨S, h1, h2, _⟩ := meet_hit hv
  rw [← h1]
  exact pts_le h2 hD hp
theorem apart_ex {l : List Hp} (hv : Vd l) : ∃ D : List Hp, D.length = meetN l ∧ (∀ h ∈ D, h ∈ l) ∧ D.Pairwise dj := by
  obtain ⟨S, D, h1, h2, h3, h4, h5, h6, h7⟩ := greedy l.length l hv (Nat.le_refl _)
  exact ⟨D, h2, h6, h7⟩
theorem meetN_mono {l l' : List Hp} (hv : Vd l) (hv' : Vd l') (h : ∀ x ∈ l, x ∈ l') : meetN l ≤ meetN l' := by
  obtain ⟨D, h1, h2, h3⟩ := apart_ex hv
  rw [← h1]
  exact apart_le hv' (fun x hx => h x (h2 x hx)) h3
theorem grN_fuel : ∀ (n m : Nat) (l : List Hp), Vd l → l.length ≤ n → l.length ≤ m → grN n l = grN m l
  | 0, m, l, _, h, _ => by
    have : l = [] := List.length_eq_zero_iff.1 (by omega)
    subst this
    cases m <;> rfl
  | n + 1, 0, l, _, _, h => by
    have : l = [] := List.length_eq_zero_iff.1 (by omega)
    subst this; rfl
  | n + 1, m + 1, [], _, _, _ => rfl
  | n + 1, m + 1, a :: l, hv, h1, h2 => by
    have hlt := left_len hv (by simp)
    show grN n _ + 1 = grN m _ + 1
    rw [grN_fuel n m _ (hv.left _) (by omega) (by omega)]
theorem meetN_step {l : List Hp} (hv : Vd l) (h : l ≠ []) : meetN l = meetN (left l (lastT l)) + 1 := by
  cases l with
  | nil => exact absurd rfl h
  | cons a l =>
    have hlt := left_len hv h
    have h1 : meetN (a :: l) = grN l.length (left (a :: l) (lastT (a :: l))) + 1 := rfl
    have h2 : (left (a :: l) (lastT (a :: l))).length < l.length + 1 := hlt
    rw [h1, grN_fuel l.length _ _ (hv.left _) (by omega) (Nat.le_refl _)]
    rfl
/-! The first hours. -/
def cmpL : List Nat → List Nat → Int
  | [], [] => 0
  | [], _ :: _ => -1
  | _ :: _, [] => 1
  | x :: a, y :: b => if x < y then -1 else if y < x then 1 else cmpL a b
theorem cmpL_zero : ∀ {a b : List Nat}, cmpL a b = 0 → a = b
  | [], [], _ => rfl
  | [], _ :: _, h => by simp [cmpL] at h
  | _ :: _, [], h => by simp [cmpL] at h
  | x :: a, y :: b, h => by
    unfold cmpL at h
    by_cases h1 : x < y
    · rw [if_pos h1] at h; omega
    · rw [if_neg h1] at h
      by_cases h2 : y < x
      · rw [if_pos h2] at h; omega
      · rw [if_neg h2] at h
        rw [cmpL_zero h, show x = y by omega]
theorem cmpL_anti : ∀ (a b : List Nat), cmpL a b = - cmpL b a
  | [], [] => rfl
  | [], _ :: _ => rfl
  | _ :: _, [] => rfl
  | x :: a, y :: b => by
    unfold cmpL
    by_cases h1 : x < y
    · rw [if_pos h1, if_neg (by omega), if_pos h1]
    · rw [if_neg h1]
      by_cases h2 : y < x
      · rw [if_pos h2, if_pos h2]; omega
      · rw [if_neg h2, if_neg h2, if_neg h1]; exact cmpL_anti a b
def takeH (l : List Hp) (x : Nat) : Bool := decide (meetN (left l x) < meetN l) && !(left l x).any fun h => decide (h.2 < x)
def hoursR : Nat → Nat → List Hp → List Nat
  | 0, _, _ => []
  | _ + 1, _, [] => []
  | f + 1, x, h :: l => if takeH (h :: l) x = true then x :: hoursR f (x + 1) (left (h :: l) x) else hoursR f (x + 1) (h :: l)
def Asc (x : Nat) (M : List Nat) : Prop := M.Pairwise (· < ·) ∧ ∀ y ∈ M, x ≤ y
theorem take_of {l : List Hp} {x : Nat} {M : List Nat} (hv : Vd l) (hM : ∀ y ∈ M, x < y) (hh : Hit (x :: M) l) (hl : M.length + 1 = meetN l) : takeH l x = true ∧ meetN (left l x) = M.length := by
  have hh2 : Hit M (left l x) := fun h hm => by
    obtain ⟨g1, g2⟩ := mem_left.1 hm
    obtain ⟨y, hy, hy2⟩ := hh h g1
    rcases List.mem_cons.1 hy with rfl | hy
    · rw [hy2] at g2; cases g2
    · exact ⟨y, hy, hy2⟩
  have h1 := meet_le (hv.left x) hh2
  obtain ⟨S, s1, s2, _, _⟩ := meet_hit (hv.left x)
  have h2 : Hit (x :: S) l := fun h hm => by
    cases hb : hasH h x with
    | true => exact ⟨x, List.mem_cons_self .., hb⟩
    | false =>
      obtain ⟨y, hy, hy2⟩ := s2 h (mem_left.2 ⟨hm, hb⟩)
      exact ⟨y, List.mem_cons_of_mem _ hy, hy2⟩
  have h3 := meet_le hv h2
  rw [List.length_cons] at h3
  refine ⟨?_, by omega⟩
  unfold takeH
  rw [decide_eq_true (by omega), Bool.true_and, Bool.not_eq_true', List.any_eq_false]
  intro h hm hc
  obtain ⟨y, hy, hy2⟩ := hh2 h hm
  have h4 := hM y hy
  have h5 := hasH_iff.1 hy2
  have h6 := of_decide_eq_true hc
  omega
theorem hours_ok : ∀ (f x : Nat) (l : List Hp), Vd l → (∀ h ∈ l, h.2 < x + f) → (∃ R, Asc x R ∧ Hit R l ∧ R.length = meetN l) →
    Hit (hoursR f x l) l ∧ (hoursR f x l).length = meetN l ∧ Asc x (hoursR f x l) ∧ (∀ y ∈ hoursR f x l, ∃ h ∈ l, hasH h y = true) ∧ ∀ M, Asc x M → Hit M l → M.length = meetN l → cmpL (hoursR f x l) M ≤ 0
  | 0, x, l, hv, ht, ⟨R, r1, r2, r3⟩ => by
    have hl : l = [] := by
      cases l with
      | nil => rfl
      | cons h l =>
        obtain ⟨y, hy, hy2⟩ := r2 h (List.mem_cons_self ..)
        have h1 := r1.2 y hy
        have h2 := (hasH_iff.1 hy2).2
        have h3 := ht h (List.mem_cons_self ..)
        omega
    subst hl
    refine ⟨fun h hh => (by cases hh), rfl, ⟨List.Pairwise.nil, fun y hy => (by cases hy)⟩, fun y hy => (by cases hy), fun M m1 m2 m3 => ?_⟩
    have : M = [] := List.length_eq_zero_iff.1 m3
    subst this
    exact Int.le_refl _
  | f + 1, x, [], hv, ht, _ => by
    refine ⟨fun h hh => (by cases hh), rfl, ⟨List.Pairwise.nil, fun y hy => (by cases hy)⟩, fun y hy => (by cases hy), fun M m1 m2 m3 => ?_⟩
    have : M = [] := List.length_eq_zero_iff.1 m3
    subst this
    exact Int.le_refl _
  | f + 1, x, a :: l, hv, ht, ⟨R, r1, r2, r3⟩ => by
    -- what begins with x could be taken
    have split : ∀ M, Asc x M → Hit M (a :: l) → M.length = meetN (a :: l) → (∃ M', M = x :: M' ∧ takeH (a :: l) x = true ∧ Asc (x + 1) M' ∧ Hit M' (left (a :: l) x) ∧ M'.length = meetN (left (a :: l) x)) ∨ (Asc (x + 1) M ∧ ∃ y M', M = y :: M' ∧ x < y) := by
      intro M m1 m2 m3
      cases M with
      | nil =>
        exfalso
        obtain ⟨y, hy, _⟩ := m2 a (List.mem_cons_self ..)
        cases hy
      | cons y M =>
        obtain ⟨p1, p2⟩ := List.pairwise_cons.1 m1.1
        have hy := m1.2 y (List.mem_cons_self ..)
        by_cases he : y = x
        · subst he
          obtain ⟨t1, t2⟩ := take_of hv p1 m2 m3
          refine .inl ⟨M, rfl, t1, ⟨p2, fun z hz => p1 z hz⟩, fun h hm => ?_, t2.symm⟩
          obtain ⟨g1, g2⟩ := mem_left.1 hm
          obtain ⟨z, hz, hz2⟩ := m2 h g1
          rcases List.mem_cons.1 hz with rfl | hz
          · rw [hz2] at g2; cases g2
          · exact ⟨z, hz, hz2⟩
        · refine .inr ⟨⟨m1.1, fun z hz => ?_⟩, y, M, rfl, by omega⟩
          rcases List.mem_cons.1 hz with rfl | hz
          · omega
          · have := p1 z hz; omega
    by_cases htk : takeH (a :: l) x = true
    · have hr : hoursR (f + 1) x (a :: l) = x :: hoursR f (x + 1) (left (a :: l) x) := by
        show (if takeH (a :: l) x = true then _ else _) = _
        rw [if_pos htk]
      unfold takeH at htk
      rw [Bool.and_eq_true, decide_eq_true_eq, Bool.not_eq_true', List.any_eq_false] at htk
      obtain ⟨t1, t2⟩ := htk
      have hgt : ∀ h ∈ left (a :: l) x, x < h.2 := fun h hm => by
        have h1 := t2 h hm
        have h2 := (mem_left.1 hm).2
        have h3 : ¬ h.2 < x := fun hc => h1 (decide_eq_true hc)
        rcases Nat.lt_or_ge x h.2 with g | g
        · exact g
        · have h4 := hv h (mem_left.1 hm).1
          rw [hasH_iff.2 ⟨by omega, by omega⟩] at h2; cases h2
      obtain ⟨S, s1, s2, s3, s4⟩ := meet_hit (hv.left x)
      obtain ⟨i1, i2, i3, i5, i4⟩ := hours_ok f (x + 1) (left (a :: l) x) (hv.left x) (fun h hm => by have := ht h (mem_left.1 hm).1; omega) ⟨S, ⟨s3, fun y hy => by obtain ⟨h, hm, rfl⟩ := s4 y hy; exact hgt h hm⟩, s2, s1⟩
      rw [hr]
      have hhit : Hit (x :: hoursR f (x + 1) (left (a :: l) x)) (a :: l) := fun h hm => by
        cases hb : hasH h x with
        | true => exact ⟨x, List.mem_cons_self .., hb⟩
        | false =>
          obtain ⟨y, hy, hy2⟩ := i1 h (mem_left.2 ⟨hm, hb⟩)
          exact ⟨y, List.mem_cons_of_mem _ hy, hy2⟩
      have hle := meet_le hv hhit
      rw [List.length_cons, i2] at hle
      refine ⟨hhit, by rw [List.length_cons, i2]; omega, ⟨List.pairwise_cons.2 ⟨fun y hy => i3.2 y hy, i3.1⟩, fun y hy => ?_⟩, fun y hy => ?_, fun M m1 m2 m3 => ?_⟩
      · rcases List.mem_cons.1 hy with rfl | hy
        · exact Nat.le_refl _
        · have := i3.2 y hy; omega
      · rcases List.mem_cons.1 hy with rfl | hy
        · refine Classical.byContradiction fun hn => ?_
          have : left (a :: l) y = a :: l := by
            unfold left
            rw [List.filter_eq_self]
            intro h hm
            cases hb : hasH h y with
            | false => rfl
            | true => exact absurd ⟨h, hm, hb⟩ hn
          rw [this] at t1
          omega
        · obtain ⟨h, hm, hb⟩ := i5 y hy
          exact ⟨h, (mem_left.1 hm).1, hb⟩
      · rcases split M m1 m2 m3 with ⟨M', rfl, _, q1, q2, q3⟩ | ⟨_, y, M', rfl, hxy⟩
        · show (if x < x then -1 else if x < x then 1 else cmpL (hoursR f (x + 1) (left (a :: l) x)) M') ≤ 0
          rw [if_neg (by omega), if_neg (by omega)]
          exact i4 M' q1 q2 q3
        · show (if x < y then -1 else if y < x then 1 else cmpL (hoursR f (x + 1) (left (a :: l) x)) M') ≤ 0
          rw [if_pos hxy]; omega
    · have hr : hoursR (f + 1) x (a :: l) = hoursR f (x + 1) (a :: l) := by
        show (if takeH (a :: l) x = true then _ else _) = _
        rw [if_neg htk]
      have hR : Asc (x + 1) R := by
        rcases split R r1 r2 r3 with ⟨_, _, h, _⟩ | ⟨h, _⟩
        · exact absurd h htk
        · exact h
      obtain ⟨i1, i2, i3, i5, i4⟩ := hours_ok f (x + 1) (a :: l) hv (fun h hm => by have := ht h hm; omega) ⟨R, hR, r2, r3⟩
      rw [hr]
      refine ⟨i1, i2, ⟨i3.1, fun y hy => by have := i3.2 y hy; omega⟩, i5, fun M m1 m2 m3 => i4 M ?_ m2 m3⟩
      rcases split M m1 m2 m3 with ⟨_, _, h, _⟩ | ⟨h, _⟩
      · exact absurd h htk
      · exact h
/-! The most heaps without a common hour. -/
def crs (h o : Hp) : Bool := decide (o.1 ≤ h.2) && decide (h.1 ≤ o.2)
def restH (h : Hp) (lf t : List Hp) : List Hp := t.filter fun o => !(crs h o || !decide (o ∈ lf))
def apS : List Hp → Nat → List Hp → Nat
  | _, mo, [] => mo
  | lf, mo, h :: t => if h ∈ lf then (if meetN (restH h lf t) + 1 = mo then apS (restH h lf t) (mo - 1) t else apS lf mo t) else apS lf mo t
theorem crs_dj {h o : Hp} : crs h o = false ↔ dj h o := by
  unfold crs dj
  rw [Bool.and_eq_false_iff, decide_eq_false_iff_not, decide_eq_false_iff_not]
  constructor
  · rintro (h | h)
    · exact .inl (by omega)
    · exact .inr (by omega)
  · rintro (h | h)
    · exact .inl (by omega)
    · exact .inr (by omega)
theorem mem_rest {h x : Hp} {lf t : List Hp} : x ∈ restH h lf t ↔ x ∈ t ∧ dj h x ∧ x ∈ lf := by
  unfold restH
  rw [List.mem_filter, Bool.not_eq_true', Bool.or_eq_false_iff, crs_dj, Bool.not_eq_false', decide_eq_true_eq]
theorem dj_symm {a b : Hp} (h : dj a b) : dj b a := h.elim .inr .inl
theorem apS_zero : ∀ (t lf : List Hp) (mo : Nat), Vd t → mo ≤ meetN (t.filter fun o => decide (o ∈ lf)) → apS lf mo t = 0
  | [], lf, mo, _, h => by
    have : meetN (([] : List Hp).filter fun o => decide (o ∈ lf)) = 0 := rfl
    rw [this] at h
    exact Nat.le_zero.1 h
  | h :: t, lf, mo, hv, hm => by
    have hvt : Vd t := fun x hx => hv x (List.mem_cons_of_mem _ hx)
    have hvf : ∀ q : Hp → Bool, Vd (t.filter q) := fun q x hx => hvt x (List.mem_filter.1 hx).1
    have hvc : Vd ((h :: t).filter fun o => decide (o ∈ lf)) := fun x hx => hv x (List.mem_filter.1 hx).1
    show (if h ∈ lf then (if meetN (restH h lf t) + 1 = mo then apS (restH h lf t) (mo - 1) t else apS lf mo t) else apS lf mo t) = 0
    by_cases hin : h ∈ lf
    · rw [if_pos hin]
      by_cases he : meetN (restH h lf t) + 1 = mo
      · rw [if_pos he]
        refine apS_zero t _ _ hvt ?_
        have hf : (t.filter fun o => decide (o ∈ restH h lf t)) = restH h lf t := by
          conv => rhs; unfold restH
          refine List.filter_congr fun x hx => ?_
          rw [Bool.eq_iff_iff, decide_eq_true_eq, mem_rest, Bool.not_eq_true', Bool.or_eq_false_iff, crs_dj, Bool.not_eq_false', decide_eq_true_eq]
          exact ⟨fun h => h.2, fun h => ⟨hx, h⟩⟩
        rw [hf]; omega
      · rw [if_neg he]
        refine apS_zero t _ _ hvt ?_
        obtain ⟨D, d1, d2, d3⟩ := apart_ex hvc
        by_cases hD : h ∈ D
        · have hdm : ∀ x ∈ D.erase h, x ∈ restH h lf t := fun x hx => by
            have hx1 := List.mem_of_mem_erase hx
            have hxc := List.mem_filter.1 (d2 x hx1)
            have hndup : D.Nodup := d3.imp_of_mem fun ha hb hab he => by
              have hva := hvc _ (d2 _ ha)
              rw [← he] at hab
              rcases hab with h | h <;> omega
            have hne : x ≠ h := fun e => by
              rw [e] at hx
              exact (List.Nodup.not_mem_erase hndup) hx
            have hdj : dj h x := by
              obtain ⟨i, hi, hie⟩ := List.mem_iff_getElem.1 hD
              obtain ⟨j, hj, hje⟩ := List.mem_iff_getElem.1 hx1
              have hij : i ≠ j := fun e => by subst e; exact hne (by rw [← hie, ← hje])
              rcases Nat.lt_or_gt_of_ne hij with hlt | hlt
              · have := List.pairwise_iff_getElem.1 d3 i j hi hj hlt; rwa [hie, hje] at this
              · have := List.pairwise_iff_getElem.1 d3 j i hj hi hlt; rw [hie, hje] at this; exact dj_symm this
            refine mem_rest.2 ⟨?_, hdj, of_decide_eq_true hxc.2⟩
            rcases List.mem_cons.1 hxc.1 with e | e
            · exact absurd e hne
            · exact e
          have hvr : Vd (restH h lf t) := hvf _
          have h1 := apart_le hvr hdm (d3.sublist List.erase_sublist)
          rw [List.length_erase_of_mem hD] at h1
          have h2 := meetN_mono hvr (hvf fun o => decide (o ∈ lf)) fun x hx => by
            obtain ⟨g1, _, g3⟩ := mem_rest.1 hx
            exact List.mem_filter.2 ⟨g1, decide_eq_true g3⟩
          omega
        · have h1 := apart_le (hvf fun o => decide (o ∈ lf)) (fun x hx => by
            have hxc := List.mem_filter.1 (d2 x hx)
            refine List.mem_filter.2 ⟨?_, hxc.2⟩
            rcases List.mem_cons.1 hxc.1 with e | e
            · rw [e] at hx; exact absurd hx hD
            · exact e) d3
          omega
    · rw [if_neg hin]
      refine apS_zero t lf mo hvt ?_
      rwa [List.filter_cons_of_neg (by simpa using hin)] at hm
end Go.Vit
