/- A run of the law TopReached, reckoned: 2, 1. -/
import Derived.Test.YtppallabmjdolaaGreatDoorWorksB
import Derived.Test.YtppallabmjdolaaGreatDoorCoreD
set_option maxRecDepth 1000000
namespace Go.Proofs.YtppallabmjdolaaGreatDoor.TopReached
open Go Go.Vit Go.Proofs
theorem t2_1 : okU (Vit.runT (tabM 1000000) 200 6 [.int .u8 (.ofNat 2), .int .u8 (.ofNat 1)] mTab.next mTab isTrue) = true := by kernel_rfl
end Go.Proofs.YtppallabmjdolaaGreatDoor.TopReached
