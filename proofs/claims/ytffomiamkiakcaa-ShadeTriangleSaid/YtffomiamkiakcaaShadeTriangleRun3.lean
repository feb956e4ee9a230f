/- The runs of the law ShadeTriangle, reckoned: 3. -/
import Derived.Test.YtffomiamkiakcaaWorks
set_option maxRecDepth 1000000
namespace Go.Proofs.Ytffomiamkiakcaa.ShadeTriangle
open Go Go.Vit Go.Proofs
theorem e1_1 : Vit.runT (tabR 1000000) 60 7 [.int .u8 (.ofNat 1), .int .u8 (.ofNat 1)] mTab.next mTab isTrue = some () := by kernel_rfl
theorem e2_2 : Vit.runT (tabR 1000000) 60 7 [.int .u8 (.ofNat 2), .int .u8 (.ofNat 2)] mTab.next mTab isTrue = some () := by kernel_rfl
theorem e3_2 : Vit.runT (tabR 1000000) 60 7 [.int .u8 (.ofNat 3), .int .u8 (.ofNat 2)] mTab.next mTab isTrue = some () := by kernel_rfl
theorem e4_1 : Vit.runT (tabR 1000000) 60 7 [.int .u8 (.ofNat 4), .int .u8 (.ofNat 1)] mTab.next mTab isTrue = some () := by kernel_rfl
theorem e4_5 : Vit.runT (tabR 1000000) 60 7 [.int .u8 (.ofNat 4), .int .u8 (.ofNat 5)] mTab.next mTab isTrue = some () := by kernel_rfl
theorem e5_3 : Vit.runT (tabR 1000000) 60 7 [.int .u8 (.ofNat 5), .int .u8 (.ofNat 3)] mTab.next mTab isTrue = some () := by kernel_rfl
theorem e6_0 : Vit.runT (tabR 1000000) 60 7 [.int .u8 (.ofNat 6), .int .u8 (.ofNat 0)] mTab.next mTab isTrue = some () := by kernel_rfl
theorem e6_4 : Vit.runT (tabR 1000000) 60 7 [.int .u8 (.ofNat 6), .int .u8 (.ofNat 4)] mTab.next mTab isTrue = some () := by kernel_rfl
theorem e7_0 : Vit.runT (tabR 1000000) 60 7 [.int .u8 (.ofNat 7), .int .u8 (.ofNat 0)] mTab.next mTab isTrue = some () := by kernel_rfl
theorem e7_4 : Vit.runT (tabR 1000000) 60 7 [.int .u8 (.ofNat 7), .int .u8 (.ofNat 4)] mTab.next mTab isTrue = some () := by kernel_rfl
theorem e7_8 : Vit.runT (tabR 1000000) 60 7 [.int .u8 (.ofNat 7), .int .u8 (.ofNat 8)] mTab.next mTab isTrue = some () := by kernel_rfl
end Go.Proofs.Ytffomiamkiakcaa.ShadeTriangle
