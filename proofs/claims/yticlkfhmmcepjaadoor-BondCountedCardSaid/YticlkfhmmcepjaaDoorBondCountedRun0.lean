/- The runs of the law BondCounted, reckoned case by case: 0. -/
import Derived.Test.YticlkfhmmcepjaaDoorStart
import Derived.Test.YticlkfhmmcepjaaDoorTab
set_option maxRecDepth 1000000
namespace Go.Proofs.YticlkfhmmcepjaaDoor.BondCounted
open Go Go.Vit Go.Proofs
theorem e2_0 : Vit.runT (tabW 1000000) 60 7 [.int .u8 (.ofNat 1), .int .u8 (.ofNat 0)] mTab.next mTab isTrue = some () := by kernel_rfl
theorem e3_0 : Vit.runT (tabW 1000000) 60 7 [.int .u8 (.ofNat 2), .int .u8 (.ofNat 0)] mTab.next mTab isTrue = some () := by kernel_rfl
theorem e3_3 : Vit.runT (tabW 1000000) 60 7 [.int .u8 (.ofNat 2), .int .u8 (.ofNat 3)] mTab.next mTab isTrue = some () := by kernel_rfl
theorem e4_2 : Vit.runT (tabW 1000000) 60 7 [.int .u8 (.ofNat 3), .int .u8 (.ofNat 2)] mTab.next mTab isTrue = some () := by kernel_rfl
theorem e5_0 : Vit.runT (tabW 1000000) 60 7 [.int .u8 (.ofNat 4), .int .u8 (.ofNat 0)] mTab.next mTab isTrue = some () := by kernel_rfl
theorem e5_3 : Vit.runT (tabW 1000000) 60 7 [.int .u8 (.ofNat 4), .int .u8 (.ofNat 3)] mTab.next mTab isTrue = some () := by kernel_rfl
theorem e6_0 : Vit.runT (tabW 1000000) 60 7 [.int .u8 (.ofNat 5), .int .u8 (.ofNat 0)] mTab.next mTab isTrue = some () := by kernel_rfl
theorem e6_3 : Vit.runT (tabW 1000000) 60 7 [.int .u8 (.ofNat 5), .int .u8 (.ofNat 3)] mTab.next mTab isTrue = some () := by kernel_rfl
theorem e6_6 : Vit.runT (tabW 1000000) 60 7 [.int .u8 (.ofNat 5), .int .u8 (.ofNat 6)] mTab.next mTab isTrue = some () := by kernel_rfl
end Go.Proofs.YticlkfhmmcepjaaDoor.BondCounted
