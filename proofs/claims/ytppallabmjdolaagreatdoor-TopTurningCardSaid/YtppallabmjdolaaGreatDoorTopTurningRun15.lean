/- The runs of the law TopTurning, reckoned: 15. -/
import Derived.Test.YtppallabmjdolaaGreatDoorWorks
import Derived.Test.YtppallabmjdolaaGreatDoorCoreD
set_option maxRecDepth 1000000
namespace Go.Proofs.YtppallabmjdolaaGreatDoor.TopTurning
open Go Go.Vit Go.Proofs
theorem r6_154 : ((List.range 14).all fun t => okU (Vit.runT (tabR 1000000) 200 8 [.int .u8 (.ofNat 6), .int .u16 (.ofNat (Nat.add 154 t))] mTab.next mTab isTrue)) = true := by kernel_rfl
end Go.Proofs.YtppallabmjdolaaGreatDoor.TopTurning
