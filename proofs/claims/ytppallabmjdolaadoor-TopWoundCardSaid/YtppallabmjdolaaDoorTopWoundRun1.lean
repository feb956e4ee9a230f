/- Runs of the law TopWound, reckoned: 1. -/
import Derived.Test.YtppallabmjdolaaDoorWorksB
import Derived.Test.YtppallabmjdolaaDoorCoreD
set_option maxRecDepth 1000000
namespace Go.Proofs.YtppallabmjdolaaDoor.TopWound
open Go Go.Vit Go.Proofs
theorem t10 : ((List.range 11).all fun t => okU (Vit.runT (tabM 1000000) 200 4 [.int .u8 (.ofNat 10), .int .u8 (.ofNat t)] mTab.next mTab isTrue)) = true := by kernel_rfl
theorem t11 : ((List.range 12).all fun t => okU (Vit.runT (tabM 1000000) 200 4 [.int .u8 (.ofNat 11), .int .u8 (.ofNat t)] mTab.next mTab isTrue)) = true := by kernel_rfl
end Go.Proofs.YtppallabmjdolaaDoor.TopWound
