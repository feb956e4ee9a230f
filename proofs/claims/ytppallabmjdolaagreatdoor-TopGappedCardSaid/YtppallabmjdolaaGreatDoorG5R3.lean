/- Wrappers of some numbers of marks, reckoned: part 3. -/
import Derived.Test.YtppallabmjdolaaGreatDoorG4
set_option maxRecDepth 100000
namespace Go.Vit
theorem part3 : lawPart 42 7 = true := by decide +kernel
end Go.Vit
