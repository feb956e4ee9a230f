/- The program of this seat: the table, the start of a run. -/
import Derived.Test.YtcaoifacidnhcaaDoorCards
import Derived.Test.YtcaoifacidnhcaaDoorTie
import Derived.Test.YtcaoifacidnhcaaDoorCoreB
set_option linter.unusedSimpArgs false
set_option linter.unusedVariables false
namespace Go.Vit
open Go Go.Proofs Go.Proofs.YtcaoifacidnhcaaDoor Go.ChangeShapes Go.WideShapes Go.RowKit

def primeL : List Int := [2,3,5,7,11,13,17,19,23,29,31,37]
def i64s (l : List Int) : List Value := l.map fun n => .int .i64 n
def k0 : Blk := ⟨1, i64s primeL, none⟩
def mTab : Mem := ⟨Tr.set depth .e 0 (some k0), 1⟩
def es0 : List Ent := [⟨0, 0, 0⟩]
def laid0 : List (String × DataW Unit) := [("vitola/duty.primes", Rows.laid_vitola_duty_primes)]

theorem prog_ok : Prog Tryd.prog := by
  refine ⟨fun f fn h => ?_, by kernel_rfl⟩
  have all : (Tryd.prog.funcs.all fun fn => !(fn.name == "runtime.NumGoroutine")) = true := by kernel_rfl
  rw [Array.all_eq_true] at all
  obtain ⟨hf, hfn⟩ := Array.getElem?_eq_some_iff.1 h
  have := all f hf
  rw [hfn] at this
  simpa using this

theorem rd0 : mTab.rd 0 = some k0 := by kernel_rfl
/-- The run's start, in a world that holds the table. -/
theorem start {W : World} {U : Nat} (h : laidMetH Tryd.prog laid0 W) : Rel 1 mTab.next W U (fun b => es0[b]?) mTab W := by
  have h : laidMet Tryd.prog laid0 W := h
  obtain ⟨s0, c0⟩ := tab_of_laid (zs := primeL) (k := .i64) (g := 0) (t := 101) (e := 3) (n := 12) (by kernel_rfl) (by kernel_rfl) Tryd.underlying101 Tryd.underlying3 (by kernel_rfl) (by kernel_rfl) h (by exact List.Mem.head _)
  have one : ∀ (b : Nat) (e : Ent), es0[b]? = some e → (b = 0 ∧ e = ⟨0, 0, 0⟩) := fun b e hb => by
    match b, hb with
    | 0, hb => cases hb; exact ⟨rfl, rfl⟩
    | b + 1, hb => cases hb
  have cells : ∀ (l : List Int) (i : Nat) (v : Value), (i64s l)[i]? = some v → ∃ z, l[i]? = some z ∧ v = .int .i64 z := fun l i v hv => by
    simp only [i64s, List.getElem?_map, Option.map_eq_some_iff] at hv
    obtain ⟨z, hz, rfl⟩ := hv
    exact ⟨z, hz, rfl⟩
  refine Rel.start rfl (fun g hg => ?_) (fun b e hb => ?_) (fun b e k hb hk => ?_)
  · match g, hg with
    | 0, _ => rfl
  · obtain ⟨rfl, rfl⟩ := one b e hb
    exact s0
  · obtain ⟨rfl, rfl⟩ := one b e hb
    rw [rd0] at hk
    cases hk
    refine ⟨rfl, fun i v hv => ?_⟩
    obtain ⟨z, hz, rfl⟩ := cells _ _ _ hv
    exact ⟨_, .int _ _, by simpa using c0 i z hz⟩

theorem own : ownKnob Tryd.prog.godebug = none := by kernel_rfl
/-- A world for witnesses: the settled one, the table holding what its initialiser lays. -/
def fill (l : List Int) : Obj → Obj
  | .cells _ t frozen => .cells (i64s l).toArray t frozen
  | o => o
noncomputable def laidWorld (os : Os) : World :=
  { World.holding Tryd.prog os ⟨#[], #[], []⟩ with heap := (World.holding Tryd.prog os ⟨#[], #[], []⟩).heap.modify 0 (fill primeL) }
end Go.Vit
