/- Runs of the law TopWound, reckoned: 0. -/
import Derived.Test.YtppallabmjdolaaDoorWorksB
import Derived.Test.YtppallabmjdolaaDoorCoreD
set_option maxRecDepth 1000000
namespace Go.Proofs.YtppallabmjdolaaDoor.TopWound
open Go Go.Vit Go.Proofs
theorem t0 : ((List.range 1).all fun t => okU (Vit.runT (tabM 1000000) 200 4 [.int .u8 (.ofNat 0), .int .u8 (.ofNat t)] mTab.next mTab isTrue)) = true := by kernel_rfl
theorem t1 : ((List.range 2).all fun t => okU (Vit.runT (tabM 1000000) 200 4 [.int .u8 (.ofNat 1), .int .u8 (.ofNat t)] mTab.next mTab isTrue)) = true := by kernel_rfl
theorem t2 : ((List.range 3).all fun t => okU (Vit.runT (tabM 1000000) 200 4 [.int .u8 (.ofNat 2), .int .u8 (.ofNat t)] mTab.next mTab isTrue)) = true := by kernel_rfl
theorem t3 : ((List.range 4).all fun t => okU (Vit.runT (tabM 1000000) 200 4 [.int .u8 (.ofNat 3), .int .u8 (.ofNat t)] mTab.next mTab isTrue)) = true := by kernel_rfl
theorem t4 : ((List.range 5).all fun t => okU (Vit.runT (tabM 1000000) 200 4 [.int .u8 (.ofNat 4), .int .u8 (.ofNat t)] mTab.next mTab isTrue)) = true := by kernel_rfl
theorem t5 : ((List.range 6).all fun t => okU (Vit.runT (tabM 1000000) 200 4 [.int .u8 (.ofNat 5), .int .u8 (.ofNat t)] mTab.next mTab isTrue)) = true := by kernel_rfl
theorem t6 : ((List.range 7).all fun t => okU (Vit.runT (tabM 1000000) 200 4 [.int .u8 (.ofNat 6), .int .u8 (.ofNat t)] mTab.next mTab isTrue)) = true := by kernel_rfl
theorem t7 : ((List.range 8).all fun t => okU (Vit.runT (tabM 1000000) 200 4 [.int .u8 (.ofNat 7), .int .u8 (.ofNat t)] mTab.next mTab isTrue)) = true := by kernel_rfl
theorem t8 : ((List.range 9).all fun t => okU (Vit.runT (tabM 1000000) 200 4 [.int .u8 (.ofNat 8), .int .u8 (.ofNat t)] mTab.next mTab isTrue)) = true := by kernel_rfl
theorem t9 : ((List.range 10).all fun t => okU (Vit.runT (tabM 1000000) 200 4 [.int .u8 (.ofNat 9), .int .u8 (.ofNat t)] mTab.next mTab isTrue)) = true := by kernel_rfl
end Go.Proofs.YtppallabmjdolaaDoor.TopWound
