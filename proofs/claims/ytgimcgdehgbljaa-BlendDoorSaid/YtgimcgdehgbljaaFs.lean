/- Which slots a round needs, of each function with a range over a function: printed by a program. -/
import Derived.Test.YtgimcgdehgbljaaCoreC
namespace Go.Vit
def fsT : Nat → List Nat
  | 34 => [7]
  | 38 => [8, 7, 3]
  | _ => []
end Go.Vit
