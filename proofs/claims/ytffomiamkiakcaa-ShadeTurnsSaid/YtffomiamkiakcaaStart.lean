/- The program of this seat: the start of a run. No variable of the program is read. -/
import Derived.Test.YtffomiamkiakcaaRows
import Derived.Test.YtffomiamkiakcaaFs
import Derived.Test.YtffomiamkiakcaaCoreC
set_option linter.unusedSimpArgs false
set_option linter.unusedVariables false
namespace Go.Vit
open Go Go.Proofs Go.Proofs.Ytffomiamkiakcaa Go.ChangeShapes Go.WideShapes Go.RowKit

def mTab : Mem := ⟨.e, 0⟩
def es0 : List Ent := []
theorem prog_ok : Prog Try.prog := by
  refine ⟨fun f fn h => ?_, by kernel_rfl⟩
  have all : (Try.prog.funcs.all fun fn => !(fn.name == "runtime.NumGoroutine")) = true := by kernel_rfl
  rw [Array.all_eq_true] at all
  obtain ⟨hf, hfn⟩ := Array.getElem?_eq_some_iff.1 h
  have := all f hf
  rw [hfn] at this
  simpa using this
/-- The run's start. -/
theorem start (W : World) {U : Nat} : Rel 0 mTab.next ⟨W, ltab Try.prog fsT⟩ U (fun b => es0[b]?) mTab W :=
  Rel.start rfl (fun g hg => absurd hg (Nat.not_lt_zero g)) (fun b e hb => by cases hb) (fun b e k hb hk => by cases hb)
theorem own : ownKnob Try.prog.godebug = none := by kernel_rfl
noncomputable def laidWorld (os : Os) : World := World.holding Try.prog os ⟨#[], #[], []⟩
end Go.Vit
