/- Runs of the law TopWound, reckoned: 4. -/
import Derived.Test.YtppallabmjdolaaDoorWorksB
import Derived.Test.YtppallabmjdolaaDoorCoreD
set_option maxRecDepth 1000000
namespace Go.Proofs.YtppallabmjdolaaDoor.TopWound
open Go Go.Vit Go.Proofs
theorem t15 : ((List.range 16).all fun t => okU (Vit.runT (tabM 1000000) 200 4 [.int .u8 (.ofNat 15), .int .u8 (.ofNat t)] mTab.next mTab isTrue)) = true := by kernel_rfl
end Go.Proofs.YtppallabmjdolaaDoor.TopWound
