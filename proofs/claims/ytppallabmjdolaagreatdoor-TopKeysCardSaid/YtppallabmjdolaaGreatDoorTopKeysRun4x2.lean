/- A run of the law TopKeys, reckoned: 4, 2. -/
import Derived.Test.YtppallabmjdolaaGreatDoorWorksB
import Derived.Test.YtppallabmjdolaaGreatDoorCoreD
set_option maxRecDepth 1000000
namespace Go.Proofs.YtppallabmjdolaaGreatDoor.TopKeys
open Go Go.Vit Go.Proofs
theorem t4_2 : okU (Vit.runT (tabM 1000000) 200 3 [.int .u8 (.ofNat 4), .int .u8 (.ofNat 2)] mTab.next mTab isTrue) = true := by kernel_rfl
end Go.Proofs.YtppallabmjdolaaGreatDoor.TopKeys
