/- Runs of the law TopWound, reckoned: 2. -/
import Derived.Test.YtppallabmjdolaaDoorWorksB
import Derived.Test.YtppallabmjdolaaDoorCoreD
set_option maxRecDepth 1000000
namespace Go.Proofs.YtppallabmjdolaaDoor.TopWound
open Go Go.Vit Go.Proofs
theorem t12 : ((List.range 13).all fun t => okU (Vit.runT (tabM 1000000) 200 4 [.int .u8 (.ofNat 12), .int .u8 (.ofNat t)] mTab.next mTab isTrue)) = true := by kernel_rfl
theorem t13 : ((List.range 14).all fun t => okU (Vit.runT (tabM 1000000) 200 4 [.int .u8 (.ofNat 13), .int .u8 (.ofNat t)] mTab.next mTab isTrue)) = true := by kernel_rfl
end Go.Proofs.YtppallabmjdolaaDoor.TopWound
