/- The runs of the law ShadeTriangle, reckoned: 0. -/
import Derived.Test.YtffomiamkiakcaaWorks
set_option maxRecDepth 1000000
namespace Go.Proofs.Ytffomiamkiakcaa.ShadeTriangle
open Go Go.Vit Go.Proofs
theorem e0_0 : Vit.runT (tabR 1000000) 60 7 [.int .u8 (.ofNat 0), .int .u8 (.ofNat 0)] mTab.next mTab isTrue = some () := by kernel_rfl
theorem e1_2 : Vit.runT (tabR 1000000) 60 7 [.int .u8 (.ofNat 1), .int .u8 (.ofNat 2)] mTab.next mTab isTrue = some () := by kernel_rfl
theorem e2_3 : Vit.runT (tabR 1000000) 60 7 [.int .u8 (.ofNat 2), .int .u8 (.ofNat 3)] mTab.next mTab isTrue = some () := by kernel_rfl
theorem e3_3 : Vit.runT (tabR 1000000) 60 7 [.int .u8 (.ofNat 3), .int .u8 (.ofNat 3)] mTab.next mTab isTrue = some () := by kernel_rfl
theorem e4_2 : Vit.runT (tabR 1000000) 60 7 [.int .u8 (.ofNat 4), .int .u8 (.ofNat 2)] mTab.next mTab isTrue = some () := by kernel_rfl
theorem e5_0 : Vit.runT (tabR 1000000) 60 7 [.int .u8 (.ofNat 5), .int .u8 (.ofNat 0)] mTab.next mTab isTrue = some () := by kernel_rfl
theorem e5_4 : Vit.runT (tabR 1000000) 60 7 [.int .u8 (.ofNat 5), .int .u8 (.ofNat 4)] mTab.next mTab isTrue = some () := by kernel_rfl
theorem e6_1 : Vit.runT (tabR 1000000) 60 7 [.int .u8 (.ofNat 6), .int .u8 (.ofNat 1)] mTab.next mTab isTrue = some () := by kernel_rfl
theorem e6_5 : Vit.runT (tabR 1000000) 60 7 [.int .u8 (.ofNat 6), .int .u8 (.ofNat 5)] mTab.next mTab isTrue = some () := by kernel_rfl
theorem e7_1 : Vit.runT (tabR 1000000) 60 7 [.int .u8 (.ofNat 7), .int .u8 (.ofNat 1)] mTab.next mTab isTrue = some () := by kernel_rfl
theorem e7_5 : Vit.runT (tabR 1000000) 60 7 [.int .u8 (.ofNat 7), .int .u8 (.ofNat 5)] mTab.next mTab isTrue = some () := by kernel_rfl
end Go.Proofs.Ytffomiamkiakcaa.ShadeTriangle
