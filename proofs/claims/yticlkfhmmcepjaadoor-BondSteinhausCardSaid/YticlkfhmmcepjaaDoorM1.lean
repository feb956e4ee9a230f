/- Walks: the examples of the chapter. -/
import Derived.Test.YticlkfhmmcepjaaDoorW9
set_option linter.unusedSimpArgs false
set_option linter.unusedVariables false
set_option maxRecDepth 20000
namespace Go.Vit
open Go Go.Proofs
attribute [local irreducible] runT loopS
section
variable {lf n L : Nat} {m : Mem} {k : Value → Mem → Option Unit}
theorem works_sp (hT : TabOk mTab m) (hk : k (.bool true) m = some ()) : runT (tab lf) (n + 1) 15 [] L m k = some () := by
  rw [r15]
  exact SClosed_sp hT hk
end
end Go.Vit
