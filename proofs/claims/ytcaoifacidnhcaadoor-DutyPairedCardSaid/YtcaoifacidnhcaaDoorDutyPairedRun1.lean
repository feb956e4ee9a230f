/- The runs of the law DutyPaired, reckoned case by case: 1. -/
import Derived.Test.YtcaoifacidnhcaaDoorStart
import Derived.Test.YtcaoifacidnhcaaDoorTab
set_option maxRecDepth 1000000
namespace Go.Proofs.YtcaoifacidnhcaaDoor.DutyPaired
open Go Go.Vit Go.Proofs
theorem e38 : Vit.runT (tabR 1000000) 60 9 [.int .u8 (.ofNat 38)] mTab.next mTab isTrue = some () := by kernel_rfl
theorem e35 : Vit.runT (tabR 1000000) 60 9 [.int .u8 (.ofNat 35)] mTab.next mTab isTrue = some () := by kernel_rfl
theorem e32 : Vit.runT (tabR 1000000) 60 9 [.int .u8 (.ofNat 32)] mTab.next mTab isTrue = some () := by kernel_rfl
theorem e29 : Vit.runT (tabR 1000000) 60 9 [.int .u8 (.ofNat 29)] mTab.next mTab isTrue = some () := by kernel_rfl
theorem e27 : Vit.runT (tabR 1000000) 60 9 [.int .u8 (.ofNat 27)] mTab.next mTab isTrue = some () := by kernel_rfl
theorem e22 : Vit.runT (tabR 1000000) 60 9 [.int .u8 (.ofNat 22)] mTab.next mTab isTrue = some () := by kernel_rfl
theorem e19 : Vit.runT (tabR 1000000) 60 9 [.int .u8 (.ofNat 19)] mTab.next mTab isTrue = some () := by kernel_rfl
theorem e18 : Vit.runT (tabR 1000000) 60 9 [.int .u8 (.ofNat 18)] mTab.next mTab isTrue = some () := by kernel_rfl
theorem e14 : Vit.runT (tabR 1000000) 60 9 [.int .u8 (.ofNat 14)] mTab.next mTab isTrue = some () := by kernel_rfl
theorem e11 : Vit.runT (tabR 1000000) 60 9 [.int .u8 (.ofNat 11)] mTab.next mTab isTrue = some () := by kernel_rfl
theorem e9 : Vit.runT (tabR 1000000) 60 9 [.int .u8 (.ofNat 9)] mTab.next mTab isTrue = some () := by kernel_rfl
theorem e4 : Vit.runT (tabR 1000000) 60 9 [.int .u8 (.ofNat 4)] mTab.next mTab isTrue = some () := by kernel_rfl
theorem e1 : Vit.runT (tabR 1000000) 60 9 [.int .u8 (.ofNat 1)] mTab.next mTab isTrue = some () := by kernel_rfl
theorem e0 : Vit.runT (tabR 1000000) 60 9 [.int .u8 (.ofNat 0)] mTab.next mTab isTrue = some () := by kernel_rfl
end Go.Proofs.YtcaoifacidnhcaaDoor.DutyPaired
