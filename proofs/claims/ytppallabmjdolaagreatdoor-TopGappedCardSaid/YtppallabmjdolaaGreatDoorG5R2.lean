/- Wrappers of some numbers of marks, reckoned: part 2. -/
import Derived.Test.YtppallabmjdolaaGreatDoorG4
set_option maxRecDepth 100000
namespace Go.Vit
theorem part2 : lawPart 34 8 = true := by decide +kernel
end Go.Vit
