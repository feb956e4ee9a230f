/- Wrappers of some numbers of marks, reckoned: part 5. -/
import Derived.Test.YtppallabmjdolaaGreatDoorG4
set_option maxRecDepth 100000
namespace Go.Vit
theorem part5 : lawPart 55 6 = true := by decide +kernel
end Go.Vit
