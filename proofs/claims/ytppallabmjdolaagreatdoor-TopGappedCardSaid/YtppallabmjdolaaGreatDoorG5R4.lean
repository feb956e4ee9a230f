/- Wrappers of some numbers of marks, reckoned: part 4. -/
import Derived.Test.YtppallabmjdolaaGreatDoorG4
set_option maxRecDepth 100000
namespace Go.Vit
theorem part4 : lawPart 49 6 = true := by decide +kernel
end Go.Vit
