/- Walks of the group Bond, numbered for this seat by a program: W7. -/
import Derived.Test.YtppallabmjdolaaGreatDoorB7
set_option linter.unusedSimpArgs false
set_option linter.unusedVariables false
namespace Go.Vit
open Go Go.Proofs
attribute [local irreducible] runT loopS
def openB (gs : List Nat) (g : Nat) : Bool := decide (lack gs g = [])
theorem openB_eq (gs : List Nat) (g : Nat) : decide (((lack gs g).length : Int) = 0) = openB gs g := by
  unfold openB
  refine decide_eq_decide.2 ?_
  rw [← List.length_eq_zero_iff]; omega
def noneAbove (P : Nat → Bool) (g o : Nat) : Bool := !(!decide (o = g) && sub g o && P o)
def mostB (P : Nat → Bool) (N g : Nat) : Bool := P g && (List.range N).all (noneAbove P g)
section
variable {lf n L : Nat} {m : Mem} {k : Value → Mem → Option Unit}
end
end Go.Vit
