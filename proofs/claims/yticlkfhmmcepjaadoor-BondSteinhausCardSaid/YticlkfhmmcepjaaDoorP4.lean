/- Plain: the plan that the reference makes, and makes thin. -/
import Derived.Test.YticlkfhmmcepjaaDoorP2
set_option linter.unusedSimpArgs false
set_option linter.unusedVariables false
namespace Go.Vit
open Go
theorem compl_all : ∀ a : Fin 7, ∀ m : Fin 64, m.val < 2 ^ a.val → compl a.val m.val + m.val + 1 = 2 ^ a.val := by decide +kernel
theorem compl_add {a m : Nat} (ha : a ≤ 6) (hm : m < 2 ^ a) : compl a m + m + 1 = 2 ^ a :=
  compl_all ⟨a, by omega⟩ ⟨m, Nat.lt_of_lt_of_le hm (pow_le ha)⟩ hm
def fillB (X : List Nat) (N g : Nat) : Bool := X.any fun x => decide (x + g + 1 = N)
theorem rmake_eq {gs : List Nat} {a : Nat} (ha : a ≤ 6) (hs : ∀ g ∈ gs, g < 2 ^ a) :
    (List.range (2 ^ a)).filter (fillB ((List.range (2 ^ a)).filter (mostB (fun g => !mayB gs g) (2 ^ a))) (2 ^ a)) = hitl gs := by
  refine asc_ext (filter_asc _ (range_asc _)) (minl_asc _) fun g => ?_
  rw [List.mem_filter, List.mem_range]
  unfold fillB
  rw [List.any_eq_true]
  constructor
  · rintro ⟨hg, x, hx, he⟩
    obtain ⟨h1, h2⟩ := (mem_mostB ha hs).1 hx
    have h3 := compl_add ha h1
    have he' : x + g + 1 = 2 ^ a := by simpa using he
    have : compl a x = g := by omega
    rwa [this] at h2
  · intro hg
    have hg2 := hitl_lt ha hs hg
    refine ⟨hg2, compl a g, (mem_mostB ha hs).2 ⟨compl_lt a g, ?_⟩, ?_⟩
    · rw [compl_compl hg2]; exact hg
    · have := compl_add ha hg2
      simpa using this
/-- At most one is the other half. -/
theorem fill_once {X : List Nat} {N g i : Nat} (hn : X.Nodup) (h : i < X.length) (he : X[i] + g + 1 = N) : fillB (X.take i) N g = false := by
  unfold fillB
  rw [List.any_eq_false]
  intro x hx
  obtain ⟨j, hj, rfl⟩ := List.getElem_of_mem hx
  rw [List.getElem_take]
  rw [List.length_take] at hj
  intro h2
  have h3 : X[j] + g + 1 = N := by simpa using h2
  have h4 : X[j] = X[i] := by omega
  exact List.pairwise_iff_getElem.1 hn j i (by omega) h (by omega) h4
theorem fill_snoc {X : List Nat} {N g i : Nat} (h : i < X.length) : fillB (X.take (i + 1)) N g = (fillB (X.take i) N g || decide (X[i] + g + 1 = N)) := by
  unfold fillB
  rw [List.take_add_one, List.getElem?_eq_getElem h, List.any_append]
  simp
def isB (gs : List Nat) (g : Nat) : Bool := gs.any fun x => decide (x = g)
def lowB (gs : List Nat) (g : Nat) : Bool := gs.all fun x => decide (x = g) || !sub x g
theorem isB_snoc {gs : List Nat} {g i : Nat} (h : i < gs.length) : isB (gs.take (i + 1)) g = (isB (gs.take i) g || decide (gs[i] = g)) := by
  unfold isB
  rw [List.take_add_one, List.getElem?_eq_getElem h, List.any_append]
  simp
theorem lowB_snoc {gs : List Nat} {g i : Nat} (h : i < gs.length) : lowB (gs.take (i + 1)) g = (lowB (gs.take i) g && (decide (gs[i] = g) || !sub gs[i] g)) := by
  unfold lowB
  rw [List.take_add_one, List.getElem?_eq_getElem h, List.all_append]
  simp
theorem rthin_eq {gs : List Nat} {a : Nat} (ha : a ≤ 6) (hs : ∀ g ∈ gs, g < 2 ^ a) : (List.range (2 ^ a)).filter (fun g => isB gs g && lowB gs g) = minl gs := by
  refine asc_ext (filter_asc _ (range_asc _)) (minl_asc _) fun g => ?_
  have hp := pow_le ha
  rw [List.mem_filter, List.mem_range, mem_minl, Bool.and_eq_true]
  unfold isB lowB
  rw [List.any_eq_true, List.all_eq_true]
  constructor
  · rintro ⟨hg, ⟨x, hx, he⟩, hl⟩
    have he' : x = g := by simpa using he
    subst he'
    refine ⟨by omega, hx, fun o ho hsub => ?_⟩
    have := hl o ho
    rw [hsub] at this
    simpa using this
  · rintro ⟨hg, hm, hl⟩
    refine ⟨hs g hm, ⟨g, hm, by simp⟩, fun o ho => ?_⟩
    cases hsub : sub o g with
    | false => simp
    | true => simp [hl o ho hsub]
/-- Where a rule and a plan differ. -/
def fitL (gs ls : List Nat) (N : Nat) : Option Nat := (List.range N).find? fun g => mayB gs g != openB ls g
def fitV (h : Int) (l : List Int) (h2 : Int) (l2 : List Int) : Int × Int :=
  if chk h l = 0 then (if chk h2 l2 = 0 then (if h = h2 then (match fitL (nn l) (nn l2) (2 ^ h.toNat) with | some g => ((g : Int), 0) | none => (0, 13)) else (0, 5)) else (0, chk h2 l2)) else (0, chk h l)
theorem find_at {p : Nat → Bool} {N g : Nat} (hg : g < N) (hp : p g = true) (hb : ∀ o, o < g → p o = false) : (List.range N).find? p = some g := by
  rw [List.find?_range_eq_some]
  exact ⟨hp, by simpa using hg, fun j hj => by simp [hb j hj]⟩
theorem find_no {p : Nat → Bool} {N : Nat} (hb : ∀ o, o < N → p o = false) : (List.range N).find? p = none := by
  rw [List.find?_eq_none]
  intro x hx
  rw [hb x (List.mem_range.1 hx)]
  decide
end Go.Vit
