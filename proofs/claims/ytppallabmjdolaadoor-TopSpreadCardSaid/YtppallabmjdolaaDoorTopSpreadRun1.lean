/- The runs of the law TopSpread, reckoned: 1. -/
import Derived.Test.YtppallabmjdolaaDoorWorks
import Derived.Test.YtppallabmjdolaaDoorCoreD
set_option maxRecDepth 1000000
namespace Go.Proofs.YtppallabmjdolaaDoor.TopSpread
open Go Go.Vit Go.Proofs
theorem r1_0 : ((List.range 1).all fun t => okU (Vit.runT (tabR 1000000) 200 3 [.int .u8 (.ofNat 1), .int .u8 (.ofNat 0), .int .u8 (.ofNat t)] mTab.next mTab isTrue)) = true := by kernel_rfl
theorem r2_2 : ((List.range 3).all fun t => okU (Vit.runT (tabR 1000000) 200 3 [.int .u8 (.ofNat 2), .int .u8 (.ofNat 2), .int .u8 (.ofNat t)] mTab.next mTab isTrue)) = true := by kernel_rfl
theorem r3_3 : ((List.range 4).all fun t => okU (Vit.runT (tabR 1000000) 200 3 [.int .u8 (.ofNat 3), .int .u8 (.ofNat 3), .int .u8 (.ofNat t)] mTab.next mTab isTrue)) = true := by kernel_rfl
theorem r4_3 : ((List.range 5).all fun t => okU (Vit.runT (tabR 1000000) 200 3 [.int .u8 (.ofNat 4), .int .u8 (.ofNat 3), .int .u8 (.ofNat t)] mTab.next mTab isTrue)) = true := by kernel_rfl
theorem r5_2 : ((List.range 3).all fun t => okU (Vit.runT (tabR 1000000) 200 3 [.int .u8 (.ofNat 5), .int .u8 (.ofNat 2), .int .u8 (.ofNat t)] mTab.next mTab isTrue)) = true := by kernel_rfl
theorem r6_0 : ((List.range 1).all fun t => okU (Vit.runT (tabR 1000000) 200 3 [.int .u8 (.ofNat 6), .int .u8 (.ofNat 0), .int .u8 (.ofNat t)] mTab.next mTab isTrue)) = true := by kernel_rfl
theorem r6_4 : ((List.range 7).all fun t => okU (Vit.runT (tabR 1000000) 200 3 [.int .u8 (.ofNat 6), .int .u8 (.ofNat 4), .int .u8 (.ofNat t)] mTab.next mTab isTrue)) = true := by kernel_rfl
theorem r7_1 : ((List.range 8).all fun t => okU (Vit.runT (tabR 1000000) 200 3 [.int .u8 (.ofNat 7), .int .u8 (.ofNat 1), .int .u8 (.ofNat t)] mTab.next mTab isTrue)) = true := by kernel_rfl
theorem r7_5 : ((List.range 8).all fun t => okU (Vit.runT (tabR 1000000) 200 3 [.int .u8 (.ofNat 7), .int .u8 (.ofNat 5), .int .u8 (.ofNat t)] mTab.next mTab isTrue)) = true := by kernel_rfl
end Go.Proofs.YtppallabmjdolaaDoor.TopSpread
