/- Wrappers of some numbers of marks, reckoned: part 1. -/
import Derived.Test.YtppallabmjdolaaGreatDoorG4
set_option maxRecDepth 100000
namespace Go.Vit
theorem part1 : lawPart 24 10 = true := by decide +kernel
end Go.Vit
