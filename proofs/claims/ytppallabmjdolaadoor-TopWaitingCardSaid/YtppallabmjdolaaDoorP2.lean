/- Crowded bays, and a list reversed: in plain words. -/
import Derived.Test.YtppallabmjdolaaDoorP1
import Derived.Test.YtppallabmjdolaaDoorCoreD
set_option linter.unusedSimpArgs false
set_option linter.unusedVariables false
namespace Go.Vit
open Go
/-- How many are at least so great. -/
def cntGe (t : Int) (l : List Int) : Nat := (l.filter fun x => decide (t ≤ x)).length
theorem cntGe_perm {t : Int} {a b : List Int} (h : a.Perm b) : cntGe t a = cntGe t b := (h.filter _).length_eq
theorem cntGe_zero {t : Int} {l : List Int} (h : ∀ x ∈ l, x < t) : cntGe t l = 0 := by
  unfold cntGe
  rw [List.length_eq_zero_iff, List.filter_eq_nil_iff]
  intro x hx
  have := h x hx
  simpa using this
theorem cntGe_desc {t : Int} : ∀ (d : List Int), d.Pairwise (fun x y => y ≤ x) → ∀ k, k < cntGe t d ↔ ∃ x, d[k]? = some x ∧ t ≤ x
  | [], _, k => by simp [cntGe]
  | x :: d, hp, k => by
    obtain ⟨h1, h2⟩ := List.pairwise_cons.1 hp
    by_cases hx : t ≤ x
    · have hc : cntGe t (x :: d) = cntGe t d + 1 := by
        unfold cntGe
        rw [List.filter_cons_of_pos (by simpa using hx), List.length_cons]
      rw [hc]
      cases k with
      | zero => exact ⟨fun _ => ⟨x, rfl, hx⟩, fun _ => by omega⟩
      | succ k =>
        rw [List.getElem?_cons_succ, ← cntGe_desc d h2 k]
        omega
    · have hz : cntGe t (x :: d) = 0 := cntGe_zero fun y hy => by
        rcases List.mem_cons.1 hy with rfl | hy
        · omega
        · have := h1 y hy; omega
      rw [hz]
      refine ⟨fun h => by omega, ?_⟩
      rintro ⟨y, hy, hty⟩
      have := List.mem_of_getElem? hy
      rcases List.mem_cons.1 this with rfl | hy2
      · omega
      · have := h1 y hy2; omega
/-- More carts wish for the last bays than there are. -/
def crd (a : Nat) (l : List Int) (k : Nat) : Bool := decide (k < cntGe ((a : Int) - k) l)
def agK (a : Nat) (l : List Int) : Option Nat := fbay (a + 1) (fun k => !crd a l k) 1
/-- The first of the wishes, the greatest first, that shows it. -/
theorem agK_first {a i : Nat} {l d : List Int} (hp : d.Perm l) (hd : d.Pairwise (fun x y => y ≤ x)) (hlt : ∀ x ∈ l, x < a) (hla : l.length ≤ a) (hi : i < d.length) (h1 : (a : Int) - d[i] ≤ i) (h2 : ∀ j (hj : j < d.length), j < i → (j : Int) < (a : Int) - d[j]) :
    agK a l = some i ∧ (a : Int) - d[i] = i := by
  have hdl := hp.length_eq
  have hx : d[i] < a := hlt _ (hp.mem_iff.1 (List.getElem_mem hi))
  have hi1 : 1 ≤ i := by omega
  have hprev := h2 (i - 1) (by omega) (by omega)
  have hmono : d[i] ≤ d[i - 1]'(by omega) := List.pairwise_iff_getElem.1 hd (i - 1) i (by omega) hi (by omega)
  have he : (a : Int) - d[i] = i := by omega
  refine ⟨fbay_of (by omega) hi1 ?_ fun c hc1 hc2 => ?_, he⟩
  · have : i < cntGe ((a : Int) - i) l := by
      rw [← cntGe_perm hp]
      exact (cntGe_desc d hd i).2 ⟨d[i], List.getElem?_eq_getElem hi, by omega⟩
    simp [crd, this]
  · have : ¬ c < cntGe ((a : Int) - c) l := by
      rw [← cntGe_perm hp, cntGe_desc d hd c]
      rintro ⟨y, hy, hty⟩
      rw [List.getElem?_eq_getElem (by omega)] at hy
      have := h2 c (by omega) hc2
      rw [Option.some.inj hy] at this
      omega
    simp [crd, this]
theorem agK_none {a : Nat} {l d : List Int} (hp : d.Perm l) (hd : d.Pairwise (fun x y => y ≤ x)) (h2 : ∀ j (hj : j < d.length), (j : Int) < (a : Int) - d[j]) : agK a l = none := by
  refine fbay_no fun c hc1 hc2 => ?_
  have : ¬ c < cntGe ((a : Int) - c) l := by
    rw [← cntGe_perm hp, cntGe_desc d hd c]
    rintro ⟨y, hy, hty⟩
    have hcl : c < d.length := by
      rcases Nat.lt_or_ge c d.length with h | h
      · exact h
      · rw [List.getElem?_eq_none h] at hy; cases hy
    rw [List.getElem?_eq_getElem hcl] at hy
    have := h2 c hcl
    rw [Option.some.inj hy] at this
    omega
  simp [crd, this]
/-- A list that is reversed from both ends. -/
def rvI (l : List Int) (i : Nat) : List Int := (List.range l.length).map fun p => if p < i ∨ l.length ≤ p + i then l.getD (l.length - 1 - p) 0 else l.getD p 0
theorem rvI_len (l : List Int) (i : Nat) : (rvI l i).length = l.length := by unfold rvI; rw [List.length_map, List.length_range]
theorem rvI_get {l : List Int} {i p : Nat} (h : p < l.length) (h' : p < (rvI l i).length) : (rvI l i)[p] = if p < i ∨ l.length ≤ p + i then l.getD (l.length - 1 - p) 0 else l.getD p 0 := by
  have h1 : (rvI l i)[p]? = some (if p < i ∨ l.length ≤ p + i then l.getD (l.length - 1 - p) 0 else l.getD p 0) := by
    unfold rvI
    rw [List.getElem?_map, List.getElem?_range h]; rfl
  rw [List.getElem?_eq_getElem h'] at h1
  exact Option.some.inj h1
theorem rvI_zero (l : List Int) : rvI l 0 = l := by
  refine List.ext_getElem (rvI_len l 0) fun p h1 h2 => ?_
  rw [rvI_get h2, if_neg (by omega), List.getD_eq_getElem?_getD, List.getElem?_eq_getElem h2]; rfl
theorem rvI_end {l : List Int} {i : Nat} (h : l.length ≤ 2 * i + 1) : rvI l i = l.reverse := by
  refine List.ext_getElem (by rw [rvI_len, List.length_reverse]) fun p h1 h2 => ?_
  rw [rvI_len] at h1
  rw [rvI_get h1, List.getElem_reverse]
  split
  · rw [List.getD_eq_getElem?_getD, List.getElem?_eq_getElem (by omega)]; rfl
  · have : p = l.length - 1 - p := by omega
    rw [List.getD_eq_getElem?_getD, List.getElem?_eq_getElem h1]
    simp only [Option.getD_some]
    congr 1
theorem rvI_step {l : List Int} {i j : Nat} (hij : i + j + 1 = l.length) (h : i < j) (hi : i < (rvI l i).length) (hj : j < (rvI l i).length) : ((rvI l i).set i (rvI l i)[j]).set j (rvI l i)[i] = rvI l (i + 1) := by
  refine List.ext_getElem (by rw [List.length_set, List.length_set, rvI_len, rvI_len]) fun p h1 h2 => ?_
  have hp := h2
  rw [rvI_len] at hp
  have e1 := rvI_get (l := l) (i := i + 1) hp h2
  have e2 := rvI_get (l := l) (i := i) (p := i) (by omega) hi
  have e3 := rvI_get (l := l) (i := i) (p := j) (by omega) hj
  rw [if_neg (by omega)] at e2 e3
  rw [List.getElem_set, List.getElem_set, e1]
  by_cases hpj : j = p
  · subst hpj
    rw [if_pos rfl, if_pos (by omega)]
    refine e2.trans ?_
    congr 1; omega
  · rw [if_neg hpj]
    by_cases hpi : i = p
    · subst hpi
      rw [if_pos rfl, if_pos (by omega)]
      refine e3.trans ?_
      congr 1; omega
    · rw [if_neg hpi]
      refine (rvI_get hp (by rw [rvI_len]; exact hp)).trans ?_
      by_cases hc : p < i ∨ l.length ≤ p + i
      · rw [if_pos hc, if_pos (by omega)]
      · rw [if_neg hc, if_neg (by omega)]
theorem desc_of_sorted (l : List Int) : (isortI l).reverse.Perm l ∧ (isortI l).reverse.Pairwise (fun x y => y ≤ x) :=
  ⟨(List.reverse_perm _).trans (isortI_perm l), List.pairwise_reverse.2 (isortI_sorted l)⟩
end Go.Vit
