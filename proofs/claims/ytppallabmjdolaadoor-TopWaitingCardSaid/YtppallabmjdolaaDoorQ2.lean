/- The earliest end, and crowded spans, of heaps with one last hour: in plain words. -/
import Derived.Test.YtppallabmjdolaaDoorQ1
set_option linter.unusedSimpArgs false
set_option linter.unusedVariables false
namespace Go.Vit
open Go
theorem le_foldmax : ∀ {l : List Int} {a : Int}, a ≤ l.foldl max a ∧ ∀ x ∈ l, x ≤ l.foldl max a
  | [], a => ⟨Int.le_refl _, fun x hx => by cases hx⟩
  | y :: l, a => by
    obtain ⟨h1, h2⟩ := le_foldmax (l := l) (a := max a y)
    show a ≤ l.foldl max (max a y) ∧ ∀ x ∈ y :: l, x ≤ l.foldl max (max a y)
    refine ⟨by omega, fun x hx => ?_⟩
    rcases List.mem_cons.1 hx with rfl | hx
    · omega
    · exact h2 x hx
theorem foldmax_le {e : Int} : ∀ {l : List Int} {a : Int}, a ≤ e → (∀ x ∈ l, x ≤ e) → l.foldl max a ≤ e
  | [], a, h, _ => h
  | y :: l, a, h, h2 => by
    have := h2 y (List.mem_cons_self ..)
    exact foldmax_le (l := l) (a := max a y) (by omega) fun x hx => h2 x (List.mem_cons_of_mem _ hx)
theorem bay_cap {n e x : Nat} {acc : List Int} (he : e + 1 ≤ n) {b : Nat} (hb : b ≤ e) : bayOf n acc x = b ↔ bayOf (e + 1) acc x = b := by
  have h1 : ∀ N, b < N → (bayOf N acc x = b ↔ fbay N (fun c => decide ((c : Int) ∈ acc)) x = some b) := fun N hN => by
    rcases bayOf_cases N acc x with ⟨h1, h2⟩ | ⟨c, h1, h2, _⟩
    · rw [h1, h2]
      exact ⟨fun h => by omega, fun h => by cases h⟩
    · rw [h1, h2]
      exact ⟨fun h => by rw [show c = b by omega], fun h => by injection h with h; rw [h]⟩
  rw [h1 n (by omega), h1 (e + 1) (by omega)]
  refine ⟨fun h => ?_, fun h => ?_⟩
  · obtain ⟨_, g2, g3, g4⟩ := fbay_some h
    exact fbay_of (by omega) g2 g3 g4
  · obtain ⟨_, g2, g3, g4⟩ := fbay_some h
    exact fbay_of (by omega) g2 g3 g4
theorem mem_parkA {n : Nat} {acc : List Int} {l : List Nat} {p : Int} (h : p ∈ acc) : p ∈ parkA n acc l := by
  obtain ⟨r, hr⟩ := parkA_pre n l acc
  rw [hr]; exact List.mem_append_left _ h
theorem parkA_cap {n e : Nat} (he : e + 1 ≤ n) : ∀ (l : List Nat) (acc : List Int), (∀ p ∈ parkA n acc l, 0 ≤ p ∧ p ≤ e) → parkA (e + 1) acc l = parkA n acc l
  | [], acc, _ => rfl
  | x :: l, acc, h => by
    have h1 : ∀ p ∈ parkA n (acc ++ [bayOf n acc x]) l, 0 ≤ p ∧ p ≤ e := h
    obtain ⟨g1, g2⟩ := h1 _ (mem_parkA (List.mem_append_right _ (List.mem_singleton.2 rfl)))
    obtain ⟨b, hb⟩ : ∃ b : Nat, bayOf n acc x = b := ⟨(bayOf n acc x).toNat, by omega⟩
    have h2 := (bay_cap (n := n) (x := x) (acc := acc) he (b := b) (by omega)).1 hb
    show parkA (e + 1) (acc ++ [bayOf (e + 1) acc x]) l = parkA n (acc ++ [bayOf n acc x]) l
    rw [h2, ← hb]
    exact parkA_cap he l _ h1
theorem parkA_cap2 {n e : Nat} (he : e + 1 ≤ n) : ∀ (l : List Nat) (acc : List Int), (-1 : Int) ∉ parkA (e + 1) acc l → parkA n acc l = parkA (e + 1) acc l
  | [], acc, _ => rfl
  | x :: l, acc, h => by
    have h1 : (-1 : Int) ∉ parkA (e + 1) (acc ++ [bayOf (e + 1) acc x]) l := h
    show parkA n (acc ++ [bayOf n acc x]) l = parkA (e + 1) (acc ++ [bayOf (e + 1) acc x]) l
    rcases bayOf_cases (e + 1) acc x with ⟨h2, _⟩ | ⟨b, h2, h3, _⟩
    · exact absurd (mem_parkA (List.mem_append_right _ (List.mem_singleton.2 h2.symm))) h1
    · have h4 := (fbay_some h3).1
      have h5 := (bay_cap (n := n) (x := x) (acc := acc) he (b := b) (by omega)).2 h2
      rw [h5, h2]
      rw [h2] at h1
      exact parkA_cap2 he l _ h1
/-- The earliest end is the last bay that is taken. -/
theorem fin_end {n : Nat} (h1 : 1 ≤ n) (h24 : n ≤ 24) {S : List Nat} (hS : ∀ x ∈ S, x < n) {P : List Int} (hP : parkL n S = P) (hg : ∀ p ∈ P, 0 ≤ p ∧ p < n) :
    ∃ E : Nat, P.foldl max 0 = (E : Int) ∧ E ≤ n - 1 ∧ (∀ x ∈ S, x ≤ E) ∧ possN (hpw E S) = true ∧ ∀ e, e < E → (∀ x ∈ S, x ≤ e) → possN (hpw e S) = false := by
  obtain ⟨m1, m2⟩ := le_foldmax (l := P) (a := 0)
  have m3 : P.foldl max 0 ≤ ((n - 1 : Nat) : Int) := foldmax_le (by omega) fun p hp => by have := (hg p hp).2; omega
  obtain ⟨E, hE⟩ : ∃ E : Nat, P.foldl max 0 = (E : Int) := ⟨(P.foldl max 0).toNat, by omega⟩
  rw [hE] at m2 m3
  have hx : ∀ x ∈ S, x ≤ E := fun x hx => by
    obtain ⟨i, hi, rfl⟩ := List.getElem_of_mem hx
    obtain ⟨p, hp, hb⟩ := parkL_bd (n := n) hi
    have hm := List.mem_of_getElem? hp
    rw [hP] at hm
    have := m2 p hm
    have := (hg p hm).1
    rcases hb with hb | ⟨hb, _⟩ <;> omega
  refine ⟨E, hE, by omega, hx, ?_, fun e he hxe => ?_⟩
  · rw [poss_park hx (by omega)]
    have : parkL (E + 1) S = P := by
      rw [← hP]
      refine parkA_cap (by omega) S [] fun p hp => ?_
      have hp' : p ∈ P := by rw [← hP]; exact hp
      exact ⟨(hg p hp').1, m2 p hp'⟩
    rw [this]
    intro hc
    have := (hg _ hc).1
    omega
  · cases hb : possN (hpw e S) with
    | false => rfl
    | true =>
      exfalso
      rw [poss_park hxe (by omega)] at hb
      have h2 : parkL n S = parkL (e + 1) S := parkA_cap2 (by omega) S [] hb
      have h3 : P.foldl max 0 ≤ (e : Int) := foldmax_le (by omega) fun p hp => by
        rw [← hP, h2] at hp
        rcases parkL_cell p hp with h | ⟨_, h⟩
        · subst h; exact absurd hp hb
        · omega
      omega
/-- The first crowded span that ends with the last hour. -/
def crP (D : Nat) (l : List Hp) (f : Nat) : Bool := decide (f ≤ D ∧ D - f + 1 < cg f l)
def crN (D : Nat) (l : List Hp) : Option Nat := (List.range 24).find? (crP D l)
theorem crd_cg {n k : Nat} {w : List Nat} (hk : k ≤ n) : crd n (ci w) k = decide (k < cg (n - k) (hpw (n - 1) w)) := by
  unfold crd
  rw [cg_hpw, show ((n : Int) - (k : Int)) = ((n - k : Nat) : Int) by omega]
theorem crN_some {D f : Nat} {l : List Hp} (h : crN D l = some f) : crP D l f = true ∧ f < 24 ∧ ∀ g, g < f → crP D l g = false := by
  unfold crN at h
  have h1 := List.find?_some h
  have h2 := List.mem_range.1 (List.mem_of_find?_eq_some h)
  refine ⟨h1, h2, fun g hg => ?_⟩
  obtain ⟨_, as, bs, h3, h4⟩ := List.find?_eq_some_iff_append.1 h
  have h5 : (List.range 24)[as.length]? = some f := by rw [h3]; simp
  have h6 : as.length = f := by
    rw [List.getElem?_range (by rcases Nat.lt_or_ge as.length 24 with q | q; exact q; rw [List.getElem?_eq_none (by rw [List.length_range]; exact q)] at h5; cases h5)] at h5
    exact Option.some.inj h5
  have h7 : g ∈ as := by
    have h8 : (List.range 24)[g]? = some g := List.getElem?_range (by omega)
    rw [h3, List.getElem?_append_left (by omega)] at h8
    exact List.mem_of_getElem? h8
  have := h4 g h7
  simpa using this
theorem crN_none {D : Nat} {l : List Hp} (h : crN D l = none) : ∀ f, f < 24 → crP D l f = false := fun f hf => by
  unfold crN at h
  rw [List.find?_eq_none] at h
  have := h f (List.mem_range.2 hf)
  simpa using this
theorem crN_served {n : Nat} (h1 : 1 ≤ n) (h24 : n ≤ 24) {w : List Nat} (hw : ∀ x ∈ w, x < n) (hs : (-1 : Int) ∉ parkL n w) : crN (n - 1) (hpw (n - 1) w) = none := by
  cases hc : crN (n - 1) (hpw (n - 1) w) with
  | none => rfl
  | some f =>
    exfalso
    obtain ⟨g1, g2, _⟩ := crN_some hc
    obtain ⟨g3, g4⟩ := of_decide_eq_true g1
    have := (served_iff hw).1 hs (n - f) (by omega) (by omega)
    rw [cg_hpw] at g4
    rw [show ((n : Int) - ((n - f : Nat) : Int)) = (f : Int) by omega] at this
    omega
theorem crN_away {n k : Nat} (h24 : n ≤ 24) {w : List Nat} (hk : agK n (ci w) = some k) :
    1 ≤ k ∧ k ≤ n ∧ k < cg (n - k) (hpw (n - 1) w) ∧ ∃ f, crN (n - 1) (hpw (n - 1) w) = some f ∧ f ≤ n - k ∧ f ≤ n - 1 ∧ crd n (ci w) (n - f) = true := by
  obtain ⟨g1, g2, g3, _⟩ := fbay_some hk
  have g4 : crd n (ci w) k = true := by simpa using g3
  rw [crd_cg (by omega)] at g4
  have g5 := of_decide_eq_true g4
  refine ⟨g2, by omega, g5, ?_⟩
  have g6 : crP (n - 1) (hpw (n - 1) w) (n - k) = true := decide_eq_true ⟨by omega, by omega⟩
  cases hc : crN (n - 1) (hpw (n - 1) w) with
  | none => rw [crN_none hc (n - k) (by omega)] at g6; cases g6
  | some f =>
    obtain ⟨q1, q2, q3⟩ := crN_some hc
    obtain ⟨q4, q5⟩ := of_decide_eq_true q1
    refine ⟨f, rfl, Nat.le_of_not_lt fun hlt => ?_, q4, ?_⟩
    · rw [q3 _ hlt] at g6; cases g6
    · rw [crd_cg (by omega), show n - (n - f) = f by omega]
      exact decide_eq_true (by omega)
theorem served_nodup {n : Nat} {l : List Nat} (h : (-1 : Int) ∉ parkL n l) : (parkL n l).Nodup := by
  have := (served_cnt (n := n) (l := l) (t := 0) l.length (Nat.le_refl _) (by rw [List.take_length]; exact h)).2
  rw [List.take_length] at this
  exact this
/-- Hours that are taken. -/
def busyC (l : List Int) : List Value := (List.range 24).map fun (h : Nat) => if (h : Int) ∈ l then Value.int .i64 1 else Value.int .i64 0
theorem busyC_len (l : List Int) : (busyC l).length = 24 := by unfold busyC; rw [List.length_map, List.length_range]
theorem busyC_get {l : List Int} {h : Nat} (hh : h < 24) : (busyC l)[h]? = some (if (h : Int) ∈ l then Value.int .i64 1 else Value.int .i64 0) := by
  unfold busyC
  rw [List.getElem?_map, List.getElem?_range hh]; rfl
theorem busyC_set {l : List Int} {h : Nat} (hh : h < 24) : (busyC l).set h (.int .i64 1) = busyC (l ++ [(h : Int)]) := by
  refine List.ext_getElem? fun i => ?_
  rcases Nat.lt_or_ge i 24 with hi | hi
  · rw [List.getElem?_set, busyC_get hi, busyC_get hi, busyC_len]
    by_cases he : h = i
    · subst he
      rw [if_pos rfl, if_pos hh, if_pos (List.mem_append_right _ (List.mem_singleton.2 rfl))]
    · rw [if_neg he]
      congr 1
      by_cases hm : (i : Int) ∈ l
      · rw [if_pos hm, if_pos (List.mem_append_left _ hm)]
      · rw [if_neg hm, if_neg]
        intro hc
        rcases List.mem_append.1 hc with hc | hc
        · exact hm hc
        · have := List.mem_singleton.1 hc; omega
  · rw [List.getElem?_eq_none (by rw [List.length_set, busyC_len]; exact hi), List.getElem?_eq_none (by rw [busyC_len]; exact hi)]
end Go.Vit
