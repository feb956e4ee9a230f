/- Arguments: a slice of ints; a struct of such a slice and two numbers. -/
import Derived.Test.YtgimcgdehgbljaaVitAA
set_option linter.unusedSimpArgs false
set_option linter.unusedVariables false
namespace Go.Vit
open Go Go.ChangeShapes Go.WideShapes Go.RowKit Go.Joins Go.Deep
/-- A slice of ints as an argument. -/
theorem open_is {H : Type} {enc : TypeId × Value → H} {P : Program} {w : World} {base b0 : Nat} {spare : Nat → Bool} {held : Bool} {r : Reach} {t e : TypeId} {v : Value} {d : DataW H} {p : List MemPlace}
    (ht : P.underlying t = some (.slice e)) (he : P.underlying e = some (.int .i64)) (hc : P.cellsOf e = 1) (hv : Value.okWide P w r b0 t v) (h : DataW.Trod enc P w base spare held t v d p) : ∃ l, IntSlice w v l := by
  simp only [Value.okWide, ht] at hv
  obtain ⟨fuel, hf⟩ := h
  have hcs : v.cells.toList = [v] := by
    have hv2 := hv
    simp only [Cell.okWide, ht] at hv2
    cases v <;> first | rfl | simp_all [Cell.ok]
  rw [hcs] at hf
  exact open_islice ht he hc hv hf
/-- A struct of a slice of ints and two numbers. -/
theorem open_is3 {H : Type} {enc : TypeId × Value → H} {P : Program} {w : World} {base b0 : Nat} {spare : Nat → Bool} {held : Bool} {r : Reach} {t e : TypeId} {f0 f1 f2 : Field} {v : Value} {d : DataW H} {p : List MemPlace}
    (hs : P.underlying t = some (.struct #[f0, f1, f2])) (hone : oneCellFields P #[f0, f1, f2] = true) (hC : P.cellsOf t = 3) (hT : P.cellTypes P.depth t = some [f0.type, f1.type, f2.type]) (h0 : P.underlying f0.type = some (.slice e)) (h1 : P.underlying f1.type = some (.int .i64))
    (h2 : P.underlying f2.type = some (.int .i64)) (he : P.underlying e = some (.int .i64)) (hc : P.cellsOf e = 1) (hv : Value.okWide P w r b0 t v) (h : DataW.Trod enc P w base spare held t v d p) :
    ∃ (y z : Int) (va : Value) (l : List Int), v = .agg #[va, .int .i64 y, .int .i64 z] ∧ IntSlice w va l := by
  obtain ⟨v0, v1, v2, y0, y1, y2, n, rfl, _, _, k0, k1, k2⟩ := open_agg3 hs hone hC hv h
  simp only [Value.okWide, hs] at hv
  obtain ⟨cs, hcs, _, ts, hts, _, hrow⟩ := hv
  cases hcs
  rw [hT] at hts
  cases hts
  obtain ⟨u, hu, hok⟩ := hrow 0 v0 rfl
  have : u = f0.type := by simpa using hu.symm
  subst this
  obtain ⟨l, hl⟩ := open_islice h0 he hc hok k0
  obtain ⟨u1, hu1, hok1⟩ := hrow 1 v1 rfl
  have : u1 = f1.type := by simpa using hu1.symm
  subst this
  obtain ⟨y, hy⟩ : ∃ z, v1 = .int .i64 z := by
    simp only [Cell.okWide, h1] at hok1
    cases v1 <;> simp_all [Cell.ok]
  subst hy
  obtain ⟨u2, hu2, hok2⟩ := hrow 2 v2 rfl
  have : u2 = f2.type := by simpa using hu2.symm
  subst this
  obtain ⟨z, hz⟩ : ∃ z, v2 = .int .i64 z := by
    simp only [Cell.okWide, h2] at hok2
    cases v2 <;> simp_all [Cell.ok]
  subst hz
  exact ⟨y, z, v0, l, rfl, hl⟩
end Go.Vit
