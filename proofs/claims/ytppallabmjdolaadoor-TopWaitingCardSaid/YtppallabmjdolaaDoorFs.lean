/- Which slots a round needs, of each function with a range over a function: printed by a program. -/
import Derived.Test.YtppallabmjdolaaDoorCoreC
namespace Go.Vit
def fsT : Nat → List Nat
  | 106 => [2]
  | _ => []
end Go.Vit
