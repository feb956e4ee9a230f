/- The runs of the law BondCounted, reckoned case by case: 1. -/
import Derived.Test.YticlkfhmmcepjaaDoorStart
import Derived.Test.YticlkfhmmcepjaaDoorTab
set_option maxRecDepth 1000000
namespace Go.Proofs.YticlkfhmmcepjaaDoor.BondCounted
open Go Go.Vit Go.Proofs
theorem e1_1 : Vit.runT (tabW 1000000) 60 7 [.int .u8 (.ofNat 0), .int .u8 (.ofNat 1)] mTab.next mTab isTrue = some () := by kernel_rfl
theorem e2_2 : Vit.runT (tabW 1000000) 60 7 [.int .u8 (.ofNat 1), .int .u8 (.ofNat 2)] mTab.next mTab isTrue = some () := by kernel_rfl
theorem e3_2 : Vit.runT (tabW 1000000) 60 7 [.int .u8 (.ofNat 2), .int .u8 (.ofNat 2)] mTab.next mTab isTrue = some () := by kernel_rfl
theorem e4_1 : Vit.runT (tabW 1000000) 60 7 [.int .u8 (.ofNat 3), .int .u8 (.ofNat 1)] mTab.next mTab isTrue = some () := by kernel_rfl
theorem e4_4 : Vit.runT (tabW 1000000) 60 7 [.int .u8 (.ofNat 3), .int .u8 (.ofNat 4)] mTab.next mTab isTrue = some () := by kernel_rfl
theorem e5_2 : Vit.runT (tabW 1000000) 60 7 [.int .u8 (.ofNat 4), .int .u8 (.ofNat 2)] mTab.next mTab isTrue = some () := by kernel_rfl
theorem e5_5 : Vit.runT (tabW 1000000) 60 7 [.int .u8 (.ofNat 4), .int .u8 (.ofNat 5)] mTab.next mTab isTrue = some () := by kernel_rfl
theorem e6_2 : Vit.runT (tabW 1000000) 60 7 [.int .u8 (.ofNat 5), .int .u8 (.ofNat 2)] mTab.next mTab isTrue = some () := by kernel_rfl
theorem e6_5 : Vit.runT (tabW 1000000) 60 7 [.int .u8 (.ofNat 5), .int .u8 (.ofNat 5)] mTab.next mTab isTrue = some () := by kernel_rfl
end Go.Proofs.YticlkfhmmcepjaaDoor.BondCounted
