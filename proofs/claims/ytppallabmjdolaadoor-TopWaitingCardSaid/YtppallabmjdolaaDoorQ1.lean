/- Heaps that can be turned one at each hour, those that must be turned first: in plain words. -/
import Derived.Test.YtppallabmjdolaaDoorP4
set_option linter.unusedSimpArgs false
set_option linter.unusedVariables false
namespace Go.Vit
open Go
abbrev Hp := Nat × Nat
/-- A heap goes back among sorted ones (the ones ahead of it stand from the last one on). -/
def insB (x : Hp) : List Hp → List Hp → List Hp
  | [], B => x :: B
  | a :: R, B => if x.2 < a.2 then insB x R (a :: B) else (a :: R).reverse ++ x :: B
def isoT : List Hp → List Hp → List Hp
  | P, [] => P
  | P, x :: xs => isoT (insB x P.reverse []) xs
theorem insB_len (x : Hp) : ∀ R B : List Hp, (insB x R B).length = R.length + 1 + B.length
  | [], B => by simp [insB]; omega
  | a :: R, B => by
    unfold insB
    split
    · rw [insB_len x R (a :: B)]; simp; omega
    · simp; omega
theorem mem_insB {x y : Hp} : ∀ {R B : List Hp}, y ∈ insB x R B → y = x ∨ y ∈ R ∨ y ∈ B
  | [], B, h => by
    rcases List.mem_cons.1 h with h | h
    · exact .inl h
    · exact .inr (.inr h)
  | a :: R, B, h => by
    unfold insB at h
    split at h
    · rcases mem_insB h with h | h | h
      · exact .inl h
      · exact .inr (.inl (List.mem_cons_of_mem _ h))
      · rcases List.mem_cons.1 h with rfl | h
        · exact .inr (.inl (List.mem_cons_self ..))
        · exact .inr (.inr h)
    · rcases List.mem_append.1 h with h | h
      · exact .inr (.inl (List.mem_reverse.1 h))
      · rcases List.mem_cons.1 h with h | h
        · exact .inl h
        · exact .inr (.inr h)
theorem mem_isoT {y : Hp} : ∀ {xs P : List Hp}, y ∈ isoT P xs → y ∈ P ∨ y ∈ xs
  | [], P, h => .inl h
  | x :: xs, P, h => by
    rcases mem_isoT (xs := xs) h with h | h
    · rcases mem_insB h with h | h | h
      · exact .inr (by rw [h]; exact List.mem_cons_self ..)
      · exact .inl (List.mem_reverse.1 h)
      · cases h
    · exact .inr (List.mem_cons_of_mem _ h)
theorem isoT_len : ∀ (xs P : List Hp), (isoT P xs).length = P.length + xs.length
  | [], P => rfl
  | x :: xs, P => by
    show (isoT (insB x P.reverse []) xs).length = _
    rw [isoT_len, insB_len]; simp; omega
theorem insB_last {D : Nat} {x : Hp} (hx : D ≤ x.2) : ∀ {R : List Hp}, (∀ h ∈ R, h.2 ≤ D) → insB x R [] = R.reverse ++ [x]
  | [], _ => rfl
  | a :: R, h => by
    have := h a (List.mem_cons_self ..)
    unfold insB
    rw [if_neg (by omega)]
theorem isoT_same {D : Nat} : ∀ {xs P : List Hp}, (∀ h ∈ P, h.2 = D) → (∀ h ∈ xs, h.2 = D) → isoT P xs = P ++ xs
  | [], P, _, _ => by rw [List.append_nil]; rfl
  | x :: xs, P, h1, h2 => by
    show isoT (insB x P.reverse []) xs = _
    have hx := h2 x (List.mem_cons_self ..)
    rw [insB_last (D := D) (by omega) fun h hh => by rw [h1 h (List.mem_reverse.1 hh)]; exact Nat.le_refl _, List.reverse_reverse, isoT_same (xs := xs) (P := P ++ [x]) ?_ fun h hh => h2 h (List.mem_cons_of_mem _ hh), List.append_assoc]
    · rfl
    · intro h hh
      rcases List.mem_append.1 hh with hh | hh
      · exact h1 h hh
      · rw [List.mem_singleton.1 hh]; exact hx
/-- The hours, one by one. -/
def stuck : List Hp → Nat → Bool
  | [], _ => false
  | h :: _, hr => decide (h.2 ≤ hr)
def delH (l : List Hp) (hr : Nat) : List Hp := l.eraseP fun h => decide (h.1 ≤ hr)
def posL : Nat → Nat → List Hp → Bool
  | 0, _, _ => true
  | f + 1, hr, l => match l with
    | [] => true
    | _ :: _ => if stuck (delH l hr) hr = true then false else posL f (hr + 1) (delH l hr)
def possN (l : List Hp) : Bool := posL 25 0 (isoT [] l)
theorem delH_sub (l : List Hp) (hr : Nat) : (delH l hr).Sublist l := List.eraseP_sublist
def cg (t : Nat) (l : List Hp) : Nat := l.countP fun h => decide (t ≤ h.1)
theorem posL_nil (f hr : Nat) : posL f hr [] = true := by cases f <;> rfl
theorem pos_common {D : Nat} : ∀ {f hr : Nat} {l : List Hp}, (∀ h ∈ l, h.2 = D ∧ h.1 ≤ D) → hr ≤ D → D + 2 ≤ f + hr → (posL f hr l = true ↔ l.length ≤ D + 1 - hr ∧ ∀ t, hr < t → t ≤ D → cg t l ≤ D + 1 - t)
  | 0, hr, l, _, h1, h2 => by omega
  | f + 1, hr, [], _, _, _ => by simp [posL, cg]
  | f + 1, hr, a :: l, hl, h1, h2 => by
    have hstep : posL (f + 1) hr (a :: l) = if stuck (delH (a :: l) hr) hr = true then false else posL f (hr + 1) (delH (a :: l) hr) := rfl
    rw [hstep]
    have hl2 : ∀ h ∈ delH (a :: l) hr, h.2 = D ∧ h.1 ≤ D := fun h hh => hl h ((delH_sub _ _).subset hh)
    by_cases he : hr = D
    · subst he
      have h3 : delH (a :: l) hr = l := by
        unfold delH
        rw [List.eraseP_cons_of_pos (by simpa using (hl a (List.mem_cons_self ..)).2)]
      rw [h3] at hl2 ⊢
      cases l with
      | nil =>
        simp only [stuck, posL_nil]
        refine ⟨fun _ => ⟨by simp, fun t ht1 ht2 => by omega⟩, fun _ => by simp⟩
      | cons b l =>
        have := (hl2 b (List.mem_cons_self ..)).1
        rw [if_pos (by show decide (b.2 ≤ hr) = true; exact decide_eq_true (by omega))]
        refine ⟨fun h => (by cases h), fun h => ?_⟩
        have := h.1
        simp only [List.length_cons] at this
        omega
    · have hns : stuck (delH (a :: l) hr) hr = false := by
        cases hd : delH (a :: l) hr with
        | nil => rfl
        | cons b l' =>
          have := (hl2 b (by rw [hd]; exact List.mem_cons_self ..)).1
          show decide (b.2 ≤ hr) = false
          exact decide_eq_false (by omega)
      rw [hns, if_neg (by simp), pos_common hl2 (by omega) (by omega)]
      rcases List.exists_or_eq_self_of_eraseP (fun h : Hp => decide (h.1 ≤ hr)) (a :: l) with h4 | ⟨x, l1, l2, h4, h5, h6, h7⟩
      · have h5 : delH (a :: l) hr = a :: l := h4
        have h6 : ∀ h ∈ a :: l, hr < h.1 := by
          intro h hh
          refine Nat.lt_of_not_le fun hc => ?_
          have h8 := List.length_eraseP_of_mem (p := fun h : Hp => decide (h.1 ≤ hr)) hh (decide_eq_true hc)
          rw [h4] at h8
          simp only [List.length_cons] at h8
          omega
        rw [h5]
        have h7 : ∀ t, t ≤ hr + 1 → cg t (a :: l) = (a :: l).length := fun t ht => by
          unfold cg
          rw [List.countP_eq_length]
          intro h hh
          have := h6 h hh
          exact decide_eq_true (by omega)
        refine ⟨fun ⟨g1, g2⟩ => ⟨by omega, fun t t1 t2 => ?_⟩, fun ⟨g1, g2⟩ => ⟨?_, fun t t1 t2 => g2 t (by omega) t2⟩⟩
        · by_cases ht : t = hr + 1
          · rw [h7 t (by omega)]; omega
          · exact g2 t (by omega) t2
        · have := g2 (hr + 1) (by omega) (by omega)
          rw [h7 _ (Nat.le_refl _)] at this
          omega
      · have h8 : delH (a :: l) hr = l1 ++ l2 := h7
        have h9 : (a :: l).length = (l1 ++ l2).length + 1 := by rw [h6]; simp; omega
        have h10 : ∀ t, hr < t → cg t (a :: l) = cg t (l1 ++ l2) := fun t ht => by
          have h5' : x.1 ≤ hr := of_decide_eq_true h5
          unfold cg
          rw [h6, List.countP_append, List.countP_append, List.countP_cons_of_neg (by simp; omega)]
        rw [h8, h9]
        have h11 : cg (hr + 1) (l1 ++ l2) ≤ (l1 ++ l2).length := List.countP_le_length
        refine ⟨fun ⟨g1, g2⟩ => ⟨by omega, fun t t1 t2 => ?_⟩, fun ⟨g1, g2⟩ => ⟨by omega, fun t t1 t2 => ?_⟩⟩
        · rw [h10 t t1]
          by_cases ht : t = hr + 1
          · subst ht; omega
          · exact g2 t (by omega) t2
        · rw [← h10 t (by omega)]
          exact g2 t (by omega) t2
/-- Wishes as heaps. -/
def hpw (D : Nat) (w : List Nat) : List Hp := w.map fun x => (x, D)
theorem cg_hpw (D t : Nat) (w : List Nat) : cg t (hpw D w) = cntGe (t : Int) (ci w) := by
  unfold cg hpw cntGe ci
  rw [List.countP_map, List.filter_map, List.length_map, List.countP_eq_length_filter]
  congr 1
  refine List.filter_congr fun x _ => ?_
  show decide (t ≤ x) = decide ((t : Int) ≤ (x : Int))
  exact decide_eq_decide.2 (by omega)
theorem hpw_mem {D : Nat} {w : List Nat} {h : Hp} (hh : h ∈ hpw D w) : h.2 = D ∧ h.1 ∈ w := by
  obtain ⟨x, hx, rfl⟩ := List.mem_map.1 hh
  exact ⟨rfl, hx⟩
theorem hpw_len (D : Nat) (w : List Nat) : (hpw D w).length = w.length := List.length_map _
theorem poss_iff {D : Nat} {l : List Hp} (hl : ∀ h ∈ l, h.2 = D ∧ h.1 ≤ D) (hD : D ≤ 23) : possN l = true ↔ l.length ≤ D + 1 ∧ ∀ t, 0 < t → t ≤ D → cg t l ≤ D + 1 - t := by
  have h1 : isoT [] l = l := isoT_same (D := D) (fun h hh => by cases hh) fun h hh => (hl h hh).1
  unfold possN
  rw [h1, pos_common hl (Nat.zero_le _) (by omega)]
  rfl
/-- What can be turned are wishes that serve all. -/
theorem poss_park {D : Nat} {w : List Nat} (hw : ∀ x ∈ w, x ≤ D) (hD : D ≤ 23) : possN (hpw D w) = true ↔ (-1 : Int) ∉ parkL (D + 1) w := by
  rw [poss_iff (D := D) (fun h hh => by obtain ⟨h1, h2⟩ := hpw_mem hh; exact ⟨h1, hw _ h2⟩) hD, served_iff fun x hx => by have := hw x hx; omega, hpw_len]
  refine ⟨fun ⟨g1, g2⟩ k k1 k2 => ?_, fun g => ⟨?_, fun t t1 t2 => ?_⟩⟩
  · by_cases hk : k = D + 1
    · subst hk
      have := List.length_filter_le (fun x => decide ((((D + 1 : Nat) : Int) - ((D + 1 : Nat) : Int)) ≤ x)) (ci w)
      rw [ci_length] at this
      show (List.filter _ _).length ≤ _
      omega
    · have := g2 (D + 1 - k) (by omega) (by omega)
      rw [cg_hpw] at this
      rw [show (((D + 1 : Nat) : Int) - (k : Int)) = ((D + 1 - k : Nat) : Int) by omega]
      omega
  · have := g (D + 1) (by omega) (Nat.le_refl _)
    rw [show (((D + 1 : Nat) : Int) - ((D + 1 : Nat) : Int)) = ((0 : Nat) : Int) by omega, ← cg_hpw D] at this
    unfold cg at this
    rw [List.countP_eq_length.2 (by intro h _; simp), hpw_len] at this
    exact this
  · have := g (D + 1 - t) (by omega) (by omega)
    rw [show (((D + 1 : Nat) : Int) - ((D + 1 - t : Nat) : Int)) = ((t : Nat) : Int) by omega, ← cg_hpw D] at this
    exact this
/-! What is kept. -/
def kS (s : List Hp × List Nat × Nat) (h : Hp) : List Hp × List Nat × Nat := if possN (s.1 ++ [h]) = true then (s.1 ++ [h], s.2.1 ++ [s.2.2], s.2.2 + 1) else (s.1, s.2.1, s.2.2 + 1)
def keepL (l : List Hp) : List Hp × List Nat × Nat := l.foldl kS ([], [], 0)
theorem keepL_snoc (l : List Hp) (h : Hp) : keepL (l ++ [h]) = kS (keepL l) h := by unfold keepL; rw [List.foldl_append]; rfl
theorem keepL_take {l : List Hp} {i : Nat} (hi : i < l.length) : keepL (l.take (i + 1)) = kS (keepL (l.take i)) l[i] := by
  rw [List.take_add_one, List.getElem?_eq_getElem hi]
  exact keepL_snoc _ _
theorem keepL_cnt : ∀ (l : List Hp) (s : List Hp × List Nat × Nat), (l.foldl kS s).2.2 = s.2.2 + l.length ∧ (l.foldl kS s).1.length ≤ s.1.length + l.length ∧ (l.foldl kS s).2.1.length ≤ s.2.1.length + l.length ∧ (∀ h ∈ (l.foldl kS s).1, h ∈ s.1 ∨ h ∈ l)
  | [], s => ⟨rfl, Nat.le_refl _, Nat.le_refl _, fun h hh => .inl hh⟩
  | x :: l, s => by
    obtain ⟨h1, h2, h3, h4⟩ := keepL_cnt l (kS s x)
    show (l.foldl kS (kS s x)).2.2 = _ ∧ (l.foldl kS (kS s x)).1.length ≤ _ ∧ (l.foldl kS (kS s x)).2.1.length ≤ _ ∧ ∀ h ∈ (l.foldl kS (kS s x)).1, _
    have e1 : (kS s x).2.2 = s.2.2 + 1 := by unfold kS; split <;> rfl
    have e2 : (kS s x).1.length ≤ s.1.length + 1 := by unfold kS; split <;> simp
    have e3 : (kS s x).2.1.length ≤ s.2.1.length + 1 := by unfold kS; split <;> simp
    have e4 : ∀ h ∈ (kS s x).1, h ∈ s.1 ∨ h = x := fun h hh => by
      unfold kS at hh
      split at hh
      · rcases List.mem_append.1 hh with hh | hh
        · exact .inl hh
        · exact .inr (List.mem_singleton.1 hh)
      · exact .inl hh
    refine ⟨by rw [h1, e1, List.length_cons]; omega, by rw [List.length_cons]; omega, by rw [List.length_cons]; omega, fun h hh => ?_⟩
    rcases h4 h hh with hh | hh
    · rcases e4 h hh with hh | rfl
      · exact .inl hh
      · exact .inr (List.mem_cons_self ..)
    · exact .inr (List.mem_cons_of_mem _ hh)
/-- What the statement gathers: who parks, where, their wishes, the last bay, and how many were looked at. -/
def wS (s : List Nat × List Int × List Nat × Int × Nat) (q : Int × Nat) : List Nat × List Int × List Nat × Int × Nat :=
  if q.1 < 0 then (s.1, s.2.1, s.2.2.1, s.2.2.2.1, s.2.2.2.2 + 1) else (s.1 ++ [s.2.2.2.2], s.2.1 ++ [q.1], s.2.2.1 ++ [q.2], max s.2.2.2.1 q.1, s.2.2.2.2 + 1)
def wL (P : List Int) (w : List Nat) : List Nat × List Int × List Nat × Int × Nat := (P.zip w).foldl wS ([], [], [], 0, 0)
theorem wL_snoc {P : List Int} {w : List Nat} (h : P.length = w.length) (p : Int) (x : Nat) : wL (P ++ [p]) (w ++ [x]) = wS (wL P w) (p, x) := by
  unfold wL
  rw [List.zip_append h, List.foldl_append]
  rfl
theorem wL_take {P : List Int} {w : List Nat} {i : Nat} (h : P.length = w.length) (hi : i < w.length) (hp : i < P.length) : wL (P.take (i + 1)) (w.take (i + 1)) = wS (wL (P.take i) (w.take i)) (P[i], w[i]) := by
  rw [List.take_add_one, List.take_add_one, List.getElem?_eq_getElem hi, List.getElem?_eq_getElem hp]
  exact wL_snoc (by rw [List.length_take, List.length_take]; omega) _ _
theorem bayOf_nat {n : Nat} {a b : List Int} (h : ∀ c : Nat, (c : Int) ∈ a ↔ (c : Int) ∈ b) (x : Nat) : bayOf n a x = bayOf n b x := by
  unfold bayOf
  rw [fbay_congr fun c _ => decide_eq_decide.2 (h c)]
theorem foldmax_snoc (l : List Int) (a x : Int) : (l ++ [x]).foldl max a = max (l.foldl max a) x := by rw [List.foldl_append]; rfl
/-- All about carts and heaps with one last hour. -/
structure Both (n : Nat) (w : List Nat) : Prop where
  cnt : (wL (parkL n w) w).2.2.2.2 = w.length
  kept : (keepL (hpw (n - 1) w)).2.1 = (wL (parkL n w) w).1
  stay : (keepL (hpw (n - 1) w)).1 = hpw (n - 1) (wL (parkL n w) w).2.2.1
  cnt2 : (keepL (hpw (n - 1) w)).2.2 = w.length
  park : parkL n (wL (parkL n w) w).2.2.1 = (wL (parkL n w) w).2.1
  bays : ∀ c : Nat, (c : Int) ∈ parkL n w ↔ (c : Int) ∈ (wL (parkL n w) w).2.1
  ge : ∀ p ∈ (wL (parkL n w) w).2.1, 0 ≤ p ∧ p < n
  last : (wL (parkL n w) w).2.2.2.1 = (wL (parkL n w) w).2.1.foldl max 0
  all : (wL (parkL n w) w).1.length = w.length ↔ (-1 : Int) ∉ parkL n w
  le : (wL (parkL n w) w).1.length ≤ w.length
  len : (wL (parkL n w) w).2.1.length = (wL (parkL n w) w).1.length
  mem : ∀ x ∈ (wL (parkL n w) w).2.2.1, x ∈ w
theorem bothW {n : Nat} (h1 : 1 ≤ n) (h24 : n ≤ 24) {w : List Nat} (hw : ∀ x ∈ w, x < n) : Both n w := by
  revert hw
  have hr : w = w.reverse.reverse := (List.reverse_reverse w).symm
  rw [hr]
  generalize w.reverse = r
  induction r with
  | nil => intro _; exact ⟨rfl, rfl, rfl, rfl, rfl, fun c => Iff.rfl, fun p hp => (by cases hp), rfl, ⟨fun _ h => (by cases h), fun _ => rfl⟩, Nat.le_refl _, rfl, fun x hx => (by cases hx)⟩
  | cons x r ih =>
    rw [List.reverse_cons]
    intro hw
    have hw1 : ∀ y ∈ r.reverse, y < n := fun y hy => hw y (List.mem_append_left _ hy)
    have hx : x < n := hw x (List.mem_append_right _ (List.mem_singleton.2 rfl))
    have I := ih hw1
    generalize r.reverse = w at hw1 I
    have hpl := parkL_len n w
    have hP := parkL_snoc n w x
    have hW := wL_snoc hpl (bayOf n (parkL n w) x) x
    have hH : hpw (n - 1) (w ++ [x]) = hpw (n - 1) w ++ [(x, n - 1)] := by unfold hpw; simp
    have hK := keepL_snoc (hpw (n - 1) w) (x, n - 1)
    have hb := bayOf_nat (n := n) I.bays x
    have hst : ∀ y ∈ (wL (parkL n w) w).2.2.1 ++ [x], y ≤ n - 1 := fun y hy => by
      rcases List.mem_append.1 hy with hy | hy
      · have := hw1 y (I.mem y hy); omega
      · rw [List.mem_singleton.1 hy]; omega
    have hpk := poss_park hst (by omega)
    rw [show n - 1 + 1 = n by omega, parkL_snoc, I.park, ← hb] at hpk
    have hsn : (keepL (hpw (n - 1) w)).1 ++ [(x, n - 1)] = hpw (n - 1) ((wL (parkL n w) w).2.2.1 ++ [x]) := by rw [I.stay]; unfold hpw; simp
    have hno : (-1 : Int) ∉ (wL (parkL n w) w).2.1 := fun hc => by have := (I.ge _ hc).1; omega
    rcases bayOf_cases n (parkL n w) x with ⟨hc, _⟩ | ⟨b, hc, hf, _⟩
    · have hw' : wL (parkL n (w ++ [x])) (w ++ [x]) = ((wL (parkL n w) w).1, (wL (parkL n w) w).2.1, (wL (parkL n w) w).2.2.1, (wL (parkL n w) w).2.2.2.1, (wL (parkL n w) w).2.2.2.2 + 1) := by
        rw [hP, hW, hc]; unfold wS; rw [if_pos (by show (-1 : Int) < 0; omega)]
      have hk' : keepL (hpw (n - 1) (w ++ [x])) = ((keepL (hpw (n - 1) w)).1, (keepL (hpw (n - 1) w)).2.1, (keepL (hpw (n - 1) w)).2.2 + 1) := by
        rw [hH, hK]; unfold kS
        rw [hsn, if_neg]
        rw [hpk, hc]; simp
      refine ⟨by rw [hw', List.length_append, I.cnt]; rfl, by rw [hk', hw']; exact I.kept, by rw [hk', hw']; exact I.stay, by rw [hk', List.length_append, I.cnt2]; rfl, by rw [hw']; exact I.park, fun c => ?_, by rw [hw']; exact I.ge, by rw [hw']; exact I.last, ?_, ?_, by rw [hw']; exact I.len, fun y hy => ?_⟩
      · rw [hw', hP, hc, ← I.bays c, List.mem_append]
        refine ⟨fun h => ?_, .inl⟩
        rcases h with h | h
        · exact h
        · have := List.mem_singleton.1 h; omega
      · rw [hw', hP, hc]
        have := I.le
        refine ⟨fun h => ?_, fun h => ?_⟩
        · rw [List.length_append, List.length_singleton] at h
          have h' : (wL (parkL n w) w).1.length = w.length + 1 := h
          omega
        · exact absurd (List.mem_append_right _ (List.mem_singleton.2 rfl)) h
      · rw [hw', List.length_append]
        have := I.le
        show (wL (parkL n w) w).1.length ≤ _
        omega
      · rw [hw'] at hy
        exact List.mem_append_left _ (I.mem y hy)
    · obtain ⟨f1, f2, f3, f4⟩ := fbay_some hf
      have hbn : ¬ ((b : Int) < 0) := by omega
      have hw' : wL (parkL n (w ++ [x])) (w ++ [x]) = ((wL (parkL n w) w).1 ++ [(wL (parkL n w) w).2.2.2.2], (wL (parkL n w) w).2.1 ++ [(b : Int)], (wL (parkL n w) w).2.2.1 ++ [x], max (wL (parkL n w) w).2.2.2.1 (b : Int), (wL (parkL n w) w).2.2.2.2 + 1) := by
        rw [hP, hW, hc]; unfold wS; rw [if_neg hbn]
      have hk' : keepL (hpw (n - 1) (w ++ [x])) = ((keepL (hpw (n - 1) w)).1 ++ [(x, n - 1)], (keepL (hpw (n - 1) w)).2.1 ++ [(keepL (hpw (n - 1) w)).2.2], (keepL (hpw (n - 1) w)).2.2 + 1) := by
        rw [hH, hK]; unfold kS
        rw [hsn, if_pos]
        rw [hpk, hc]
        intro hm
        rcases List.mem_append.1 hm with hm | hm
        · exact hno hm
        · have := List.mem_singleton.1 hm; omega
      refine ⟨by rw [hw', List.length_append, I.cnt]; rfl, by rw [hk', hw', I.kept, I.cnt, I.cnt2], by rw [hk', hw']; exact hsn, by rw [hk', List.length_append, I.cnt2]; rfl, ?_, fun c => ?_, ?_, ?_, ?_, ?_, ?_, fun y hy => ?_⟩
      · rw [hw']
        show parkL n ((wL (parkL n w) w).2.2.1 ++ [x]) = (wL (parkL n w) w).2.1 ++ [(b : Int)]
        rw [parkL_snoc, I.park, ← hb, hc]
      · rw [hw', hP, hc]
        show _ ↔ (c : Int) ∈ (wL (parkL n w) w).2.1 ++ [(b : Int)]
        rw [List.mem_append, List.mem_append, I.bays c]
      · rw [hw']
        intro p hp
        rcases List.mem_append.1 hp with hp | hp
        · exact I.ge p hp
        · rw [List.mem_singleton.1 hp]; omega
      · rw [hw']
        show max _ _ = ((wL (parkL n w) w).2.1 ++ [(b : Int)]).foldl max 0
        rw [foldmax_snoc, I.last]
      · rw [hw', hP, hc]
        show ((wL (parkL n w) w).1 ++ [(wL (parkL n w) w).2.2.2.2]).length = (w ++ [x]).length ↔ _
        rw [List.length_append, List.length_append, List.length_singleton, List.length_singleton]
        have := I.all
        refine ⟨fun h => ?_, fun h => ?_⟩
        · intro hm
          rcases List.mem_append.1 hm with hm | hm
          · exact this.1 (by omega) hm
          · have := List.mem_singleton.1 hm; omega
        · have := this.2 fun hm => h (List.mem_append_left _ hm)
          omega
      · rw [hw']
        show ((wL (parkL n w) w).1 ++ [(wL (parkL n w) w).2.2.2.2]).length ≤ (w ++ [x]).length
        rw [List.length_append, List.length_append, List.length_singleton, List.length_singleton]
        have := I.le
        omega
      · rw [hw']
        show ((wL (parkL n w) w).2.1 ++ [(b : Int)]).length = ((wL (parkL n w) w).1 ++ [(wL (parkL n w) w).2.2.2.2]).length
        rw [List.length_append, List.length_append, I.len]; rfl
      · rw [hw'] at hy
        rcases List.mem_append.1 hy with hy | hy
        · exact List.mem_append_left _ (I.mem y hy)
        · exact List.mem_append_right _ hy
end Go.Vit
