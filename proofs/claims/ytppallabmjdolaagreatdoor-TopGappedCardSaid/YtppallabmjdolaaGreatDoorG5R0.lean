/- Wrappers of some numbers of marks, reckoned: part 0. -/
import Derived.Test.YtppallabmjdolaaGreatDoorG4
set_option maxRecDepth 100000
namespace Go.Vit
theorem part0 : lawPart 0 24 = true := by decide +kernel
end Go.Vit
