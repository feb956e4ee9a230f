/- When somebody goes away; another order of the carts; smaller wishes: in plain words. -/
import Derived.Test.YtppallabmjdolaaDoorP2
import Derived.Test.YtppallabmjdolaaDoorP3
set_option linter.unusedSimpArgs false
set_option linter.unusedVariables false
namespace Go.Vit
open Go
theorem nodup_len {α : Type} [DecidableEq α] : ∀ {a b : List α}, a.Nodup → (∀ x ∈ a, x ∈ b) → a.length ≤ b.length
  | [], _, _, _ => Nat.zero_le _
  | x :: a, b, h, hs => by
    obtain ⟨h1, h2⟩ := List.nodup_cons.1 h
    have hx := hs x (List.mem_cons_self ..)
    have ih := nodup_len (b := b.erase x) h2 fun y hy => (List.mem_erase_of_ne (show y ≠ x from fun e => h1 (by rw [← e]; exact hy))).2 (hs y (List.mem_cons_of_mem _ hy))
    rw [List.length_erase_of_mem hx] at ih
    have := List.length_pos_of_mem hx
    rw [List.length_cons]; omega
theorem cntGe_snoc (t : Int) (l : List Int) (x : Int) : cntGe t (l ++ [x]) = cntGe t l + (if t ≤ x then 1 else 0) := by
  unfold cntGe
  rw [List.filter_append, List.length_append]
  by_cases ht : t ≤ x
  · rw [if_pos ht, List.filter_cons_of_pos (by simpa using ht)]; rfl
  · rw [if_neg ht, List.filter_cons_of_neg (by simpa using ht)]; rfl
theorem ci_snoc (l : List Nat) (x : Nat) : ci (l ++ [x]) = ci l ++ [(x : Int)] := by simp [ci]
theorem take_snoc {l : List Nat} {i : Nat} (h : i < l.length) : l.take (i + 1) = l.take i ++ [l[i]] := by
  rw [List.take_add_one, List.getElem?_eq_getElem h]; rfl
theorem parkL_pre (n : Nat) (l : List Nat) (i : Nat) : ∃ r, parkL n l = parkL n (l.take i) ++ r := by
  have h1 : l = l.take i ++ l.drop i := (List.take_append_drop ..).symm
  obtain ⟨r, hr⟩ := parkA_pre n (l.drop i) (parkL n (l.take i))
  refine ⟨r, ?_⟩
  rw [← hr]
  show parkA n [] l = parkA n (parkA n [] (l.take i)) (l.drop i)
  rw [← parkA_app, ← h1]
theorem parkL_cell {n : Nat} {l : List Nat} : ∀ x ∈ parkL n l, x = -1 ∨ 0 ≤ x ∧ x < n := fun x hx => by
  obtain ⟨i, hi, rfl⟩ := List.getElem_of_mem hx
  rw [parkL_len] at hi
  obtain ⟨p, hp, hb⟩ := parkL_bd (n := n) hi
  rw [List.getElem?_eq_getElem (by rw [parkL_len]; exact hi)] at hp
  rw [Option.some.inj hp]
  rcases hb with h | h
  · exact .inl h
  · exact .inr ⟨by omega, h.2⟩
/-- All are served: then no last bays are crowded. -/
theorem served_cnt {n : Nat} {l : List Nat} {t : Int} : ∀ i, i ≤ l.length → (-1 : Int) ∉ parkL n (l.take i) → cntGe t (ci (l.take i)) ≤ cntGe t (parkL n (l.take i)) ∧ (parkL n (l.take i)).Nodup
  | 0, _, _ => ⟨Nat.le_refl _, List.nodup_nil⟩
  | i + 1, hi, hno => by
    rw [parkL_take hi] at hno
    rw [List.mem_append, List.mem_singleton] at hno
    obtain ⟨h1, h2⟩ := served_cnt (t := t) i (by omega) (fun h => hno (.inl h))
    rw [parkL_take hi, take_snoc hi, ci_snoc, cntGe_snoc, cntGe_snoc]
    rcases bayOf_cases n (parkL n (l.take i)) l[i] with ⟨hb, _⟩ | ⟨b, hb, _, hbn, hwb, hfree⟩
    · exact absurd (.inr hb.symm) hno
    · rw [hb]
      refine ⟨?_, ?_⟩
      · split <;> split <;> omega
      · rw [List.nodup_append]
        refine ⟨h2, by simp, fun x hx y hy => ?_⟩
        rw [List.mem_singleton] at hy
        rw [hy]
        exact fun e => hfree (e ▸ hx)
theorem served_uncrowded {n k : Nat} {l : List Nat} (hno : (-1 : Int) ∉ parkL n l) (hk : k ≤ n) : cntGe ((n : Int) - k) (ci l) ≤ k := by
  obtain ⟨h1, h2⟩ := served_cnt (n := n) (l := l) (t := (n : Int) - k) l.length (Nat.le_refl _) (by rwa [List.take_length])
  rw [List.take_length] at h1 h2
  refine Nat.le_trans h1 ?_
  have h3 := nodup_len (a := (parkL n l).filter fun x => decide ((n : Int) - k ≤ x)) (b := (List.range k).map fun (j : Nat) => (n : Int) - k + j) (h2.filter _) fun x hx => by
    obtain ⟨hx1, hx2⟩ := List.mem_filter.1 hx
    have hx3 : (n : Int) - k ≤ x := by simpa using hx2
    rcases parkL_cell x hx1 with h | h
    · exact absurd (h ▸ hx1) hno
    · exact List.mem_map.2 ⟨(x - ((n : Int) - k)).toNat, List.mem_range.2 (by omega), by omega⟩
  rw [List.length_map, List.length_range] at h3
  exact h3
/-- Behind a free bay only those stand who wished for it. -/
theorem free_cnt {n j : Nat} {l : List Nat} : ∀ i, i ≤ l.length → (j = 0 ∨ ((j : Int) - 1) ∉ parkL n (l.take i) ∧ j ≤ n) → cntGe (j : Int) (parkL n (l.take i)) ≤ cntGe (j : Int) (ci (l.take i))
  | 0, _, _ => Nat.le_refl _
  | i + 1, hi, hf => by
    rw [parkL_take hi] at hf
    have hf' : j = 0 ∨ ((j : Int) - 1) ∉ parkL n (l.take i) ∧ j ≤ n := by
      rcases hf with h | ⟨h, hn⟩
      · exact .inl h
      · exact .inr ⟨fun hh => h (List.mem_append_left _ hh), hn⟩
    have ih := free_cnt i (by omega) hf'
    rw [parkL_take hi, take_snoc hi, ci_snoc, cntGe_snoc, cntGe_snoc]
    by_cases hx : (j : Int) ≤ (l[i] : Int)
    · rw [if_pos hx]
      split <;> omega
    · rw [if_neg hx]
      have : ¬ ((j : Int) ≤ bayOf n (parkL n (l.take i)) l[i]) := by
        rcases bayOf_cases n (parkL n (l.take i)) l[i] with ⟨hb, _⟩ | ⟨b, hb, hfb, hbn, hwb, hfree⟩
        · omega
        · rw [hb]
          intro hjb
          rcases hf' with h | ⟨h, hjn⟩
          · omega
          · obtain ⟨_, _, _, hall⟩ := fbay_some hfb
            have := hall (j - 1) (by omega) (by omega)
            rw [decide_eq_true_eq] at this
            exact h (by rw [show (j : Int) - 1 = ((j - 1 : Nat) : Int) by omega]; exact this)
      rw [if_neg this]; exact ih
theorem first_run {p : Nat → Bool} : ∀ w, ∃ j, j ≤ w ∧ (∀ c, j ≤ c → c < w → p c = true) ∧ (j = 0 ∨ p (j - 1) = false)
  | 0 => ⟨0, Nat.le_refl _, fun c h1 h2 => by omega, .inl rfl⟩
  | w + 1 => by
    cases hp : p w with
    | false => exact ⟨w + 1, Nat.le_refl _, fun c h1 h2 => by omega, .inr hp⟩
    | true =>
      obtain ⟨j, h1, h2, h3⟩ := first_run (p := p) w
      refine ⟨j, by omega, fun c h4 h5 => ?_, h3⟩
      by_cases hc : c = w
      · rw [hc]; exact hp
      · exact h2 c h4 (by omega)
theorem away_crowded {n : Nat} {l : List Nat} (hl : ∀ x ∈ l, x < n) (h : (-1 : Int) ∈ parkL n l) : ∃ k, 1 ≤ k ∧ k ≤ n ∧ k < cntGe ((n : Int) - k) (ci l) := by
  obtain ⟨i, hi, he⟩ := List.getElem_of_mem h
  rw [parkL_len] at hi
  have hg := parkL_get (n := n) hi
  rw [List.getElem?_eq_getElem (by rw [parkL_len]; exact hi), he] at hg
  have hb := (Option.some.inj hg).symm
  have hw := hl _ (List.getElem_mem hi)
  have hnone : fbay n (fun b => decide ((b : Int) ∈ parkL n (l.take i))) l[i] = none := by
    rcases bayOf_cases n (parkL n (l.take i)) l[i] with ⟨_, hn⟩ | ⟨b, hb2, _⟩
    · exact hn
    · omega
  have hall := fbay_none hnone
  obtain ⟨j, hj1, hj2, hj3⟩ := first_run (p := fun b => decide ((b : Int) ∈ parkL n (l.take i))) l[i]
  have hfull : ∀ c, j ≤ c → c < n → (c : Int) ∈ parkL n (l.take i) := fun c h1 h2 => by
    by_cases hc : c < l[i]
    · simpa using hj2 c h1 hc
    · simpa using hall c (by omega) h2
  have hcnt := free_cnt (n := n) (j := j) (l := l) i (by omega) (by
    rcases hj3 with h | h
    · exact .inl h
    · by_cases h0 : j = 0
      · exact .inl h0
      · refine .inr ⟨?_, by omega⟩
        have h' : ((j - 1 : Nat) : Int) ∉ parkL n (l.take i) := by simpa using h
        rwa [show ((j - 1 : Nat) : Int) = (j : Int) - 1 by omega] at h')
  have hmany := nodup_len (a := (List.range (n - j)).map fun (c : Nat) => ((j + c : Nat) : Int)) (b := (parkL n (l.take i)).filter fun x => decide ((j : Int) ≤ x)) (by
    rw [List.nodup_iff_pairwise_ne, List.pairwise_map]
    refine (List.nodup_iff_pairwise_ne.1 List.nodup_range).imp fun hab he => hab ?_
    omega) fun x hx => by
    obtain ⟨c, hc, rfl⟩ := List.mem_map.1 hx
    rw [List.mem_range] at hc
    refine List.mem_filter.2 ⟨hfull _ (by omega) (by omega), ?_⟩
    rw [decide_eq_true_eq]; omega
  rw [List.length_map, List.length_range] at hmany
  have hone : cntGe (j : Int) (ci (l.take (i + 1))) = cntGe (j : Int) (ci (l.take i)) + 1 := by
    rw [take_snoc hi, ci_snoc, cntGe_snoc, if_pos (by omega)]
  have hmono : cntGe (j : Int) (ci (l.take (i + 1))) ≤ cntGe (j : Int) (ci l) := by
    have h1 : ci l = ci (l.take (i + 1)) ++ ci (l.drop (i + 1)) := by
      unfold ci
      rw [← List.map_append, List.take_append_drop]
    rw [h1]
    unfold cntGe
    rw [List.filter_append, List.length_append]; omega
  refine ⟨n - j, by omega, by omega, ?_⟩
  rw [show (n : Int) - ((n - j : Nat) : Int) = (j : Int) by omega]
  have : cntGe (j : Int) (parkL n (l.take i)) = ((parkL n (l.take i)).filter fun x => decide ((j : Int) ≤ x)).length := rfl
  omega
/-- Who serves all. -/
theorem served_iff {n : Nat} {l : List Nat} (hl : ∀ x ∈ l, x < n) : ((-1 : Int) ∉ parkL n l) ↔ ∀ k, 1 ≤ k → k ≤ n → cntGe ((n : Int) - k) (ci l) ≤ k :=
  ⟨fun h k _ hk => served_uncrowded h hk, fun h hh => by
    obtain ⟨k, h1, h2, h3⟩ := away_crowded hl hh
    have := h k h1 h2
    omega⟩
theorem agK_served {n : Nat} {l : List Nat} (hl : ∀ x ∈ l, x < n) : agK n (ci l) = none ↔ (-1 : Int) ∉ parkL n l := by
  rw [served_iff hl]
  constructor
  · intro h k h1 h2
    have := fbay_none h k h1 (by omega)
    simp only [crd, Bool.not_eq_true', decide_eq_false_iff_not] at this
    omega
  · intro h
    refine fbay_no fun k h1 h2 => ?_
    have := h k h1 (by omega)
    simp only [crd, Bool.not_eq_true', decide_eq_false_iff_not]
    omega
theorem cntGe_le_of {t : Int} : ∀ {a b : List Int}, a.length = b.length → (∀ i (h : i < a.length) (h' : i < b.length), a[i] ≤ b[i]) → cntGe t a ≤ cntGe t b
  | [], [], _, _ => Nat.le_refl _
  | x :: a, y :: b, hl, h => by
    have ih := cntGe_le_of (t := t) (a := a) (b := b) (by simpa using hl) fun i h1 h2 => by
      have := h (i + 1) (by simpa using h1) (by simpa using h2)
      simpa using this
    have h0 := h 0 (by simp) (by simp)
    simp only [List.getElem_cons_zero] at h0
    have hx : ∀ (z : Int) (l : List Int), cntGe t (z :: l) = (if t ≤ z then 1 else 0) + cntGe t l := fun z l => by
      unfold cntGe
      rw [List.filter_cons]
      by_cases hz : t ≤ z
      · simp [hz]; omega
      · simp [hz]
    rw [hx, hx]
    split <;> split <;> omega
theorem cntGe_sub {t : Int} {a b : List Int} (h : a.Sublist b) : cntGe t a ≤ cntGe t b := (h.filter _).length_le
/-- Another order. -/
theorem bayOf_congr {n : Nat} {a b : List Int} (h : ∀ x, x ∈ a ↔ x ∈ b) (w : Nat) : bayOf n a w = bayOf n b w := by
  unfold bayOf
  rw [fbay_congr (q := fun c => decide ((c : Int) ∈ b)) fun c _ => decide_eq_decide.2 (h c)]
theorem parkA_perm_acc {n : Nat} : ∀ (l : List Nat) {a b : List Int}, a.Perm b → (parkA n a l).Perm (parkA n b l)
  | [], _, _, h => h
  | x :: l, a, b, h => by
    show (parkA n (a ++ [bayOf n a x]) l).Perm (parkA n (b ++ [bayOf n b x]) l)
    rw [bayOf_congr (fun y => h.mem_iff) x]
    exact parkA_perm_acc l (h.append_right _)
theorem bay_keep {n x : Nat} {acc : List Int} {c : Int} (h : bayOf n acc x ≠ c) : bayOf n (acc ++ [c]) x = bayOf n acc x := by
  rcases bayOf_cases n acc x with ⟨hb, hn⟩ | ⟨b, hb, hf, hbn, hwb, hfree⟩
  · rw [hb]
    have hall := fbay_none hn
    unfold bayOf
    rw [fbay_no fun d h1 h2 => ?_]
    have := hall d h1 h2
    simp only [decide_eq_true_eq] at this ⊢
    exact List.mem_append_left _ this
  · rw [hb] at h ⊢
    obtain ⟨_, _, _, hall⟩ := fbay_some hf
    unfold bayOf
    rw [fbay_of hbn hwb ?_ fun d h1 h2 => ?_]
    · simp only [decide_eq_false_iff_not, List.mem_append, List.mem_singleton]
      rintro (h1 | h1)
      · exact hfree h1
      · exact h h1
    · have := hall d h1 h2
      simp only [decide_eq_true_eq] at this ⊢
      exact List.mem_append_left _ this
theorem bay_next {n x y c : Nat} {acc : List Int} (hx : bayOf n acc x = c) (hy : bayOf n acc y = c) : bayOf n (acc ++ [(c : Int)]) x = bayOf n (acc ++ [(c : Int)]) y := by
  have key : ∀ z, bayOf n acc z = (c : Int) → fbay n (fun d => decide ((d : Int) ∈ acc ++ [(c : Int)])) z = fbay n (fun d => decide ((d : Int) ∈ acc ++ [(c : Int)])) c := fun z hz => by
    rcases bayOf_cases n acc z with ⟨hb, _⟩ | ⟨b, hb, hf, hbn, hwb, hfree⟩
    · omega
    · have hbc : b = c := by omega
      subst hbc
      obtain ⟨_, _, _, hall⟩ := fbay_some hf
      have hup : ∀ d, z ≤ d → d < b + 1 → decide ((d : Int) ∈ acc ++ [(b : Int)]) = true := fun d h1 h2 => by
        by_cases hd : d = b
        · subst hd; simp
        · have := hall d h1 (by omega)
          simp only [decide_eq_true_eq] at this ⊢
          exact List.mem_append_left _ this
      cases hf2 : fbay n (fun d => decide ((d : Int) ∈ acc ++ [(b : Int)])) b with
      | none =>
        have := fbay_none hf2
        exact fbay_no fun d h1 h2 => by
          by_cases hd : d < b
          · exact hup d h1 (by omega)
          · exact this d (by omega) h2
      | some e =>
        obtain ⟨g1, g2, g3, g4⟩ := fbay_some hf2
        exact fbay_of g1 (by omega) g3 fun d h1 h2 => by
          by_cases hd : d < b
          · exact hup d h1 (by omega)
          · exact g4 d (by omega) h2
  unfold bayOf
  rw [key x hx, key y hy]
theorem park_swap {n : Nat} (acc : List Int) (x y : Nat) : (parkA n acc [y, x]).Perm (parkA n acc [x, y]) := by
  show (acc ++ [bayOf n acc y] ++ [bayOf n (acc ++ [bayOf n acc y]) x]).Perm (acc ++ [bayOf n acc x] ++ [bayOf n (acc ++ [bayOf n acc x]) y])
  by_cases h : bayOf n acc x = bayOf n acc y
  · rw [h]
    refine List.Perm.append_left _ ?_
    rcases bayOf_cases n acc y with ⟨hb, hn⟩ | ⟨c, hb, _⟩
    · rw [hb]
      rw [hb] at h
      have hm : ∀ z, bayOf n acc z = -1 → bayOf n (acc ++ [-1]) z = -1 := fun z hz => by
        rcases bayOf_cases n acc z with ⟨_, hn2⟩ | ⟨b, hb2, _⟩
        · unfold bayOf
          have hall := fbay_none hn2
          rw [fbay_no fun d h1 h2 => ?_]
          have := hall d h1 h2
          simp only [decide_eq_true_eq] at this ⊢
          exact List.mem_append_left _ this
        · omega
      rw [hm x h, hm y hb]
    · rw [hb] at h ⊢
      rw [bay_next h hb]
  · rw [bay_keep h, bay_keep (Ne.symm h)]
    rw [List.append_assoc, List.append_assoc]
    exact List.Perm.append_left _ (List.Perm.swap ..)
theorem parkA_perm {n : Nat} {l o : List Nat} (h : l.Perm o) : ∀ acc, (parkA n acc l).Perm (parkA n acc o) := by
  induction h with
  | nil => exact fun _ => List.Perm.refl _
  | cons x h ih => exact fun acc => ih _
  | swap x y l => exact fun acc => parkA_perm_acc l (by
      have := park_swap (n := n) acc x y
      exact this)
  | trans h1 h2 ih1 ih2 => exact fun acc => (ih1 acc).trans (ih2 acc)
theorem parkL_perm {n : Nat} {l o : List Nat} (h : l.Perm o) : (parkL n l).Perm (parkL n o) := parkA_perm h []
/-- How many turns there are. -/
theorem filter_or_eq (C : Nat → Bool) (q : Nat) (hq : C q = false) : ∀ l : List Nat, l.Nodup → q ∈ l → (l.filter fun j => C j || decide (j = q)).length = (l.filter C).length + 1
  | [], _, h => by cases h
  | x :: l, h, hm => by
    obtain ⟨h1, h2⟩ := List.nodup_cons.1 h
    by_cases hx : x = q
    · subst hx
      have he : (l.filter fun j => C j || decide (j = x)) = l.filter C := List.filter_congr fun j hj => by
        have : ¬ j = x := fun e => h1 (e ▸ hj)
        simp [this]
      rw [List.filter_cons_of_pos (by simp), he, List.length_cons, List.filter_cons_of_neg (by simp [hq])]
    · have ih := filter_or_eq C q hq l h2 (by
        rcases List.mem_cons.1 hm with e | e
        · exact absurd e.symm hx
        · exact e)
      rw [List.filter_cons, List.filter_cons]
      simp only [hx, decide_false, Bool.or_false]
      split
      · rw [List.length_cons, List.length_cons]; omega
      · exact ih
theorem cntC_circ_eq (n : Nat) : ∀ (l : List Nat) (C : Nat → Bool), (∀ p ∈ l, p < n) → cntC n C + l.length ≤ n → cntC n (circ n C l) = cntC n C + l.length
  | [], C, _, _ => rfl
  | p :: l, C, hl, h => by
    have hp := hl p (List.mem_cons_self ..)
    rw [List.length_cons] at h
    obtain ⟨k, hk⟩ := cntC_free (C := C) hp (by omega)
    obtain ⟨k1, k2, _⟩ := cfree_some hk
    have hc : cput n C p = fun j => C j || decide (j = (p + k) % n) := by unfold cput; rw [hk]
    have h1 : cntC n (cput n C p) = cntC n C + 1 := by
      rw [hc]
      exact filter_or_eq C _ k2 _ List.nodup_range (List.mem_range.2 (Nat.mod_lt _ (by omega)))
    have ih := cntC_circ_eq n l (cput n C p) (fun q hq => hl q (List.mem_cons_of_mem _ hq)) (by omega)
    show cntC n (circ n (cput n C p) l) = _
    rw [ih, h1, List.length_cons]; omega
theorem filter_not_len (p : Nat → Bool) : ∀ l : List Nat, (l.filter p).length + (l.filter fun x => !p x).length = l.length
  | [] => rfl
  | x :: l => by
    have ih := filter_not_len p l
    cases h : p x with
    | true => rw [List.filter_cons_of_pos h, List.filter_cons_of_neg (by simp [h]), List.length_cons, List.length_cons]; omega
    | false => rw [List.filter_cons_of_neg (by simp [h]), List.filter_cons_of_pos (by simp [h]), List.length_cons, List.length_cons]; omega
theorem range_back (a : Nat) : (List.range (a + 1)).map (fun s => a - s) = (List.range (a + 1)).reverse := by
  refine List.ext_getElem (by simp) fun i h1 h2 => ?_
  rw [List.length_map, List.length_range] at h1
  rw [List.getElem_map, List.getElem_range, List.getElem_reverse, List.getElem_range, List.length_range]
  omega
theorem turnL_count {a : Nat} {l : List Nat} (hl : ∀ p ∈ l, p ≤ a) (hla : l.length ≤ a) : (turnL a l).length = a + 1 - l.length := by
  have h1 := cntC_circ_eq (a + 1) l (fun _ => false) (fun p hp => by have := hl p hp; omega) (by rw [cntC_none]; omega)
  rw [cntC_none] at h1
  have h2 : (turnL a l).length = ((List.range (a + 1)).filter fun x => !circ (a + 1) (fun _ => false) l x).length := by
    have h3 : ((List.range (a + 1)).filter fun s => !circ (a + 1) (fun _ => false) l (a - s)).length = (((List.range (a + 1)).map fun s => a - s).filter fun x => !circ (a + 1) (fun _ => false) l x).length := by
      rw [List.filter_map, List.length_map]; rfl
    unfold turnL
    rw [h3, range_back, List.filter_reverse, List.length_reverse]
  have h4 := filter_not_len (circ (a + 1) (fun _ => false) l) (List.range (a + 1))
  rw [List.length_range] at h4
  unfold cntC at h1
  omega
end Go.Vit
