/- Which slots a round needs, of each function with a range over a function: printed by a program. -/
import Derived.Test.YtnmmjbclidbdbaaDoorCoreC
namespace Go.Vit
def fsT : Nat → List Nat
  | 84 => [2]
  | _ => []
end Go.Vit
