/- Which slots a round needs, of each function with a range over a function: printed by a program. -/
import Derived.Test.YticlkfhmmcepjaaDoorCoreC
namespace Go.Vit
def fsT : Nat → List Nat
  | _ => []
end Go.Vit
