/- Places on a circle with one more; and how many wishes lead to a bay: in plain words. -/
import Derived.Test.YtnmmjbclidbdbaaDoorP1
set_option linter.unusedSimpArgs false
set_option linter.unusedVariables false
namespace Go.Vit
open Go
theorem mod2 {n x : Nat} (h : x < 2 * n) : x % n = if x < n then x else x - n := by
  split
  · rename_i hx; exact Nat.mod_eq_of_lt hx
  · rename_i hx
    rw [Nat.mod_eq_sub_mod (by omega)]
    exact Nat.mod_eq_of_lt (by omega)
def cfree (n : Nat) (C : Nat → Bool) (p : Nat) : Option Nat := (List.range n).find? fun k => !C ((p + k) % n)
def cput (n : Nat) (C : Nat → Bool) (p : Nat) : Nat → Bool := match cfree n C p with
  | some k => fun j => C j || decide (j = (p + k) % n)
  | none => C
def circ (n : Nat) : (Nat → Bool) → List Nat → Nat → Bool
  | C, [] => C
  | C, p :: l => circ n (cput n C p) l
theorem circ_snoc (n : Nat) : ∀ (l : List Nat) (C : Nat → Bool) (p : Nat), circ n C (l ++ [p]) = cput n (circ n C l) p
  | [], _, _ => rfl
  | x :: l, C, p => circ_snoc n l (cput n C x) p
theorem cfree_some {n : Nat} {C : Nat → Bool} {p k : Nat} (h : cfree n C p = some k) : k < n ∧ C ((p + k) % n) = false ∧ ∀ j, j < k → C ((p + j) % n) = true := by
  unfold cfree at h
  have h1 := List.find?_some h
  have h2 := List.mem_of_find?_eq_some h
  rw [List.mem_range] at h2
  refine ⟨h2, by simpa using h1, fun j hj => ?_⟩
  rw [List.find?_eq_some_iff_getElem] at h
  obtain ⟨_, i, hi, he, hjj⟩ := h
  rw [List.getElem_range] at he
  subst he
  have := hjj j hj
  rw [List.getElem_range] at this
  simpa using this
theorem cfree_none {n : Nat} {C : Nat → Bool} {p : Nat} (h : cfree n C p = none) : ∀ k, k < n → C ((p + k) % n) = true := by
  intro k hk
  unfold cfree at h
  rw [List.find?_eq_none] at h
  have := h k (List.mem_range.2 hk)
  simpa using this
theorem cfree_of {n : Nat} {C : Nat → Bool} {p k : Nat} (h1 : k < n) (h2 : C ((p + k) % n) = false) (h3 : ∀ j, j < k → C ((p + j) % n) = true) : cfree n C p = some k := by
  cases h : cfree n C p with
  | none => rw [cfree_none h k h1] at h2; cases h2
  | some c =>
    obtain ⟨g1, g2, g3⟩ := cfree_some h
    congr 1
    rcases Nat.lt_trichotomy k c with hlt | rfl | hlt
    · rw [g3 k hlt] at h2; cases h2
    · rfl
    · rw [h3 c hlt] at g2; cases g2
theorem cfree_congr {n : Nat} {C D : Nat → Bool} {p q : Nat} (h : ∀ k, k < n → C ((p + k) % n) = D ((q + k) % n)) : cfree n C p = cfree n D q := by
  unfold cfree
  exact find_congr fun k hk => by rw [h k (List.mem_range.1 hk)]
theorem cput_mono {n : Nat} {C : Nat → Bool} {p j : Nat} (h : C j = true) : cput n C p j = true := by
  unfold cput
  cases cfree n C p with
  | none => exact h
  | some k =>
    show (C j || decide (j = (p + k) % n)) = true
    rw [h]; rfl
theorem circ_mono {n : Nat} : ∀ (l : List Nat) {C : Nat → Bool} {j : Nat}, C j = true → circ n C l j = true
  | [], _, _, h => h
  | p :: l, C, j, h => circ_mono l (cput_mono h)
/-- D is C, turned by s. -/
def Rot (n s : Nat) (C D : Nat → Bool) : Prop := ∀ j, j < n → D ((j + s) % n) = C j
theorem rot_put {n s p : Nat} {C D : Nat → Bool} (hs : s < n) (hp : p < n) (h : Rot n s C D) : Rot n s (cput n C p) (cput n D ((p + s) % n)) := by
  have hn : 0 < n := by omega
  have he : ∀ k, ((p + s) % n + k) % n = ((p + k) % n + s) % n := fun k => by
    rw [Nat.mod_add_mod, Nat.mod_add_mod, Nat.add_right_comm]
  have hc : cfree n D ((p + s) % n) = cfree n C p := cfree_congr fun k hk => by
    rw [he, h _ (Nat.mod_lt _ hn)]
  intro j hj
  unfold cput
  rw [hc]
  cases hk : cfree n C p with
  | none => exact h j hj
  | some k =>
    show (D ((j + s) % n) || decide ((j + s) % n = ((p + s) % n + k) % n)) = (C j || decide (j = (p + k) % n))
    rw [h j hj, he]
    congr 1
    have hq := Nat.mod_lt (p + k) hn
    generalize (p + k) % n = q at hq
    refine decide_eq_decide.2 ⟨fun hh => ?_, fun hh => by rw [hh]⟩
    rw [mod2 (by omega), mod2 (by omega)] at hh
    split at hh <;> split at hh <;> omega
theorem rot_circ {n s : Nat} (hs : s < n) : ∀ (l : List Nat) {C D : Nat → Bool}, (∀ p ∈ l, p < n) → Rot n s C D → Rot n s (circ n C l) (circ n D (l.map fun p => (p + s) % n))
  | [], _, _, _, h => h
  | p :: l, C, D, hl, h => rot_circ hs l (fun q hq => hl q (List.mem_cons_of_mem _ hq)) (rot_put hs (hl p (List.mem_cons_self ..)) h)
/-- How many places are taken. -/
def cntC (n : Nat) (C : Nat → Bool) : Nat := ((List.range n).filter C).length
theorem cntC_free {n : Nat} {C : Nat → Bool} {p : Nat} (hp : p < n) (h : cntC n C < n) : ∃ k, cfree n C p = some k := by
  cases hf : cfree n C p with
  | some k => exact ⟨k, rfl⟩
  | none =>
    exfalso
    have hall : (List.range n).filter C = List.range n := by
      rw [List.filter_eq_self]
      intro j hj
      rw [List.mem_range] at hj
      have h1 := cfree_none hf (if p ≤ j then j - p else j + n - p) (by split <;> omega)
      split at h1
      · rwa [show p + (j - p) = j by omega, Nat.mod_eq_of_lt hj] at h1
      · rwa [show p + (j + n - p) = j + n by omega, Nat.add_mod_right, Nat.mod_eq_of_lt hj] at h1
    unfold cntC at h
    rw [hall, List.length_range] at h
    omega
theorem filter_or_len (C : Nat → Bool) (q : Nat) : ∀ l : List Nat, l.Nodup → (l.filter fun j => C j || decide (j = q)).length ≤ (l.filter C).length + 1
  | [], _ => by simp
  | x :: l, h => by
    obtain ⟨h1, h2⟩ := List.nodup_cons.1 h
    by_cases hx : x = q
    · subst hx
      have he : (l.filter fun j => C j || decide (j = x)) = l.filter C := List.filter_congr fun j hj => by
        have : ¬ j = x := fun e => h1 (e ▸ hj)
        simp [this]
      rw [List.filter_cons_of_pos (by simp), he, List.length_cons, List.filter_cons]
      split
      · rw [List.length_cons]; omega
      · omega
    · have ih := filter_or_len C q l h2
      rw [List.filter_cons, List.filter_cons]
      simp only [hx, decide_false, Bool.or_false]
      split
      · rw [List.length_cons, List.length_cons]; omega
      · exact ih
theorem cntC_put (n : Nat) (C : Nat → Bool) (p : Nat) : cntC n (cput n C p) ≤ cntC n C + 1 := by
  unfold cput
  split
  · exact filter_or_len C _ _ List.nodup_range
  · omega
theorem cntC_circ (n : Nat) : ∀ (l : List Nat) (C : Nat → Bool), cntC n (circ n C l) ≤ cntC n C + l.length
  | [], C => Nat.le_refl _
  | p :: l, C => by
    have h1 := cntC_circ n l (cput n C p)
    have h2 := cntC_put n C p
    show cntC n (circ n (cput n C p) l) ≤ _
    rw [List.length_cons]; omega
theorem cntC_none (n : Nat) : cntC n (fun _ => false) = 0 := by
  unfold cntC
  rw [List.length_eq_zero_iff, List.filter_eq_nil_iff]
  intro x _; exact Bool.false_ne_true
/-- The row and the circle agree as long as the circle's last place is free. -/
theorem circ_row {a : Nat} : ∀ (t : List Nat) (C : Nat → Bool) (acc : List Int), (∀ p ∈ t, p ≤ a) → (∀ j, j < a → C j = decide ((j : Int) ∈ acc)) → C a = false → (-1 : Int) ∉ acc →
    ((circ (a + 1) C t a = false) ↔ ((∀ p ∈ t, p < a) ∧ (-1 : Int) ∉ parkA a acc t))
  | [], C, acc, _, _, hCa, hacc => ⟨fun _ => ⟨fun p hp => (by cases hp), hacc⟩, fun _ => hCa⟩
  | p :: t, C, acc, hle, hC, hCa, hacc => by
    have hp := hle p (List.mem_cons_self ..)
    have hle' : ∀ q ∈ t, q ≤ a := fun q hq => hle q (List.mem_cons_of_mem _ hq)
    have hmod : ∀ k, p + k ≤ a → (p + k) % (a + 1) = p + k := fun k hk => Nat.mod_eq_of_lt (by omega)
    show (circ (a + 1) (cput (a + 1) C p) t a = false) ↔ ((∀ q ∈ p :: t, q < a) ∧ (-1 : Int) ∉ parkA a (acc ++ [bayOf a acc p]) t)
    cases hf : fbay a (fun b => decide ((b : Int) ∈ acc)) p with
    | none =>
      have hall := fbay_none hf
      have hk : cfree (a + 1) C p = some (a - p) := cfree_of (by omega) (by rw [hmod _ (by omega), show p + (a - p) = a by omega]; exact hCa) fun j hj => by
        rw [hmod _ (by omega), hC _ (by omega)]
        exact hall _ (by omega) (by omega)
      have ha : cput (a + 1) C p a = true := by
        unfold cput
        rw [hk]
        show (C a || decide (a = (p + (a - p)) % (a + 1))) = true
        rw [hmod _ (by omega), show p + (a - p) = a by omega]; simp
      have hb : bayOf a acc p = -1 := by unfold bayOf; rw [hf]
      rw [circ_mono t ha, hb]
      refine ⟨(fun h => by cases h), fun h => absurd ?_ h.2⟩
      obtain ⟨r, hr⟩ := parkA_pre a t (acc ++ [-1])
      rw [hr]; simp
    | some b =>
      obtain ⟨f1, f2, f3, f4⟩ := fbay_some hf
      have hk : cfree (a + 1) C p = some (b - p) := cfree_of (by omega) (by rw [hmod _ (by omega), show p + (b - p) = b by omega, hC b f1]; exact f3) fun j hj => by
        rw [hmod _ (by omega), hC _ (by omega)]
        exact f4 _ (by omega) (by omega)
      have hcp : cput (a + 1) C p = fun j => C j || decide (j = b) := by
        unfold cput
        rw [hk]
        show (fun j => C j || decide (j = (p + (b - p)) % (a + 1))) = _
        rw [hmod (b - p) (by omega), show p + (b - p) = b by omega]
      have hb : bayOf a acc p = b := by unfold bayOf; rw [hf]
      rw [hcp, hb]
      have ih := circ_row t (fun j => C j || decide (j = b)) (acc ++ [(b : Int)]) hle' (fun j hj => by
        rw [hC j hj, ← Bool.decide_or]
        refine decide_eq_decide.2 ?_
        rw [List.mem_append, List.mem_singleton]
        constructor
        · rintro (h | h)
          · exact .inl h
          · exact .inr (by omega)
        · rintro (h | h)
          · exact .inl h
          · exact .inr (by omega)) (by show (C a || decide (a = b)) = false; rw [hCa, decide_eq_false (by omega)]; rfl) (by
        rw [List.mem_append, List.mem_singleton]
        rintro (h | h)
        · exact hacc h
        · omega)
      rw [ih]
      refine and_congr_left fun _ => ⟨fun h q hq => ?_, fun h q hq => h q (List.mem_cons_of_mem _ hq)⟩
      rcases List.mem_cons.1 hq with rfl | hq
      · omega
      · exact h q hq
/-- Which turns serve all. -/
theorem turn_free {a s : Nat} {l : List Nat} (hs : s ≤ a) (hl : ∀ p ∈ l, p ≤ a) :
    (circ (a + 1) (fun _ => false) l (a - s) = false) ↔ ((∀ p ∈ l.map (fun p => (p + s) % (a + 1)), p < a) ∧ (-1 : Int) ∉ parkL a (l.map fun p => (p + s) % (a + 1))) := by
  have h1 := rot_circ (n := a + 1) (s := s) (by omega) l (C := fun _ => false) (D := fun _ => false) (fun p hp => by have := hl p hp; omega) (fun _ _ => rfl) (a - s) (by omega)
  rw [show (a - s + s) = a by omega, Nat.mod_eq_of_lt (by omega)] at h1
  rw [← h1]
  exact circ_row _ _ [] (fun p hp => by
    obtain ⟨q, _, rfl⟩ := List.mem_map.1 hp
    have := Nat.mod_lt (q + s) (show 0 < a + 1 by omega)
    omega) (fun j _ => by simp) rfl (by simp)
def turnL (a : Nat) (l : List Nat) : List Nat := (List.range (a + 1)).filter fun s => !circ (a + 1) (fun _ => false) l (a - s)
/-- How many wishes lead to a free bay. -/
def bkN (p : Nat → Bool) : Nat → Nat
  | 0 => 1
  | b + 1 => if p b then 1 + bkN p b else 1
theorem bkN_le (p : Nat → Bool) : ∀ b, 1 ≤ bkN p b ∧ bkN p b ≤ b + 1
  | 0 => ⟨Nat.le_refl _, Nat.le_refl _⟩
  | b + 1 => by
    have := bkN_le p b
    unfold bkN
    split <;> omega
def upto (p : Nat → Bool) (w b : Nat) : Bool := Nat.ble w b && (List.range b).all fun c => Nat.blt c w || p c
theorem upto_iff {p : Nat → Bool} {w b : Nat} : upto p w b = true ↔ w ≤ b ∧ ∀ c, w ≤ c → c < b → p c = true := by
  unfold upto
  rw [Bool.and_eq_true, Nat.ble_eq, List.all_eq_true]
  refine and_congr_right fun _ => ⟨fun h c h1 h2 => ?_, fun h c hc => ?_⟩
  · have := h c (List.mem_range.2 h2)
    rw [Bool.or_eq_true] at this
    rcases this with h3 | h3
    · have : c < w := by simpa using h3
      omega
    · exact h3
  · rw [List.mem_range] at hc
    by_cases hcw : c < w
    · have : Nat.blt c w = true := by simpa using hcw
      rw [this]; rfl
    · rw [h c (by omega) hc, Bool.or_true]
theorem upto_cnt (p : Nat → Bool) : ∀ b, ((List.range (b + 1)).filter fun w => upto p w b).length = bkN p b
  | 0 => rfl
  | b + 1 => by
    have hlast : upto p (b + 1) (b + 1) = true := upto_iff.2 ⟨Nat.le_refl _, fun c h1 h2 => by omega⟩
    rw [List.range_succ, List.filter_append, List.length_append, List.filter_cons_of_pos (by simpa using hlast)]
    show _ + 1 = _
    unfold bkN
    by_cases hb : p b = true
    · rw [if_pos hb, ← upto_cnt p b, Nat.add_comm]
      congr 2
      refine List.filter_congr fun w hw => ?_
      rw [List.mem_range] at hw
      rw [Bool.eq_iff_iff, upto_iff, upto_iff]
      refine ⟨fun h => ⟨by omega, fun c h1 h2 => h.2 c h1 (by omega)⟩, fun h => ⟨by omega, fun c h1 h2 => ?_⟩⟩
      by_cases hcb : c = b
      · rw [hcb]; exact hb
      · exact h.2 c h1 (by omega)
    · rw [if_neg hb]
      have : (List.range (b + 1)).filter (fun w => upto p w (b + 1)) = [] := by
        rw [List.filter_eq_nil_iff]
        intro w hw h
        rw [List.mem_range] at hw
        exact hb ((upto_iff.1 h).2 b (by omega) (by omega))
      rw [this]; rfl
theorem lead_cnt {a b : Nat} {acc : List Int} (hb : b < a) (hfree : (b : Int) ∉ acc) : ((List.range a).filter fun w => decide (bayOf a acc w = (b : Int))).length = bkN (fun c => decide ((c : Int) ∈ acc)) b := by
  have hiff : ∀ w, decide (bayOf a acc w = (b : Int)) = upto (fun c => decide ((c : Int) ∈ acc)) w b := fun w => by
    rw [Bool.eq_iff_iff, decide_eq_true_eq, upto_iff]
    constructor
    · intro h
      rcases bayOf_cases a acc w with ⟨h1, _⟩ | ⟨c, h1, h2, h3, h4, h5⟩
      · omega
      · have : c = b := by omega
        subst this
        exact ⟨h4, (fbay_some h2).2.2.2⟩
    · rintro ⟨h1, h2⟩
      unfold bayOf
      rw [fbay_of hb h1 (by simpa using hfree) h2]
  rw [List.filter_congr fun w _ => hiff w, ← upto_cnt]
  have : List.range a = List.range (b + 1) ++ (List.range (a - (b + 1))).map (b + 1 + ·) := by
    rw [← List.range_add]; congr 1; omega
  rw [this, List.filter_append, List.length_append]
  have hz : (List.filter (fun w => upto (fun c => decide ((c : Int) ∈ acc)) w b) ((List.range (a - (b + 1))).map (b + 1 + ·))) = [] := by
    rw [List.filter_eq_nil_iff]
    intro w hw h
    obtain ⟨c, _, rfl⟩ := List.mem_map.1 hw
    have := (upto_iff.1 h).1
    omega
  rw [hz]; rfl
end Go.Vit
