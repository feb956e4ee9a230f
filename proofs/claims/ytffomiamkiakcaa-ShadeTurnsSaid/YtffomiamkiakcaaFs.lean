/- Which slots a round needs, of each function with a range over a function: printed by a program. -/
import Derived.Test.YtffomiamkiakcaaCoreC
namespace Go.Vit
def fsT : Nat → List Nat
  | 101 => [2]
  | _ => []
end Go.Vit
