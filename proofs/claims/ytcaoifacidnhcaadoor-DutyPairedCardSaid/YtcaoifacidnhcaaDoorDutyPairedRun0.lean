/- The runs of the law DutyPaired, reckoned case by case: 0. -/
import Derived.Test.YtcaoifacidnhcaaDoorStart
import Derived.Test.YtcaoifacidnhcaaDoorTab
set_option maxRecDepth 1000000
namespace Go.Proofs.YtcaoifacidnhcaaDoor.DutyPaired
open Go Go.Vit Go.Proofs
theorem e39 : Vit.runT (tabR 1000000) 60 9 [.int .u8 (.ofNat 39)] mTab.next mTab isTrue = some () := by kernel_rfl
theorem e34 : Vit.runT (tabR 1000000) 60 9 [.int .u8 (.ofNat 34)] mTab.next mTab isTrue = some () := by kernel_rfl
theorem e31 : Vit.runT (tabR 1000000) 60 9 [.int .u8 (.ofNat 31)] mTab.next mTab isTrue = some () := by kernel_rfl
theorem e30 : Vit.runT (tabR 1000000) 60 9 [.int .u8 (.ofNat 30)] mTab.next mTab isTrue = some () := by kernel_rfl
theorem e26 : Vit.runT (tabR 1000000) 60 9 [.int .u8 (.ofNat 26)] mTab.next mTab isTrue = some () := by kernel_rfl
theorem e23 : Vit.runT (tabR 1000000) 60 9 [.int .u8 (.ofNat 23)] mTab.next mTab isTrue = some () := by kernel_rfl
theorem e20 : Vit.runT (tabR 1000000) 60 9 [.int .u8 (.ofNat 20)] mTab.next mTab isTrue = some () := by kernel_rfl
theorem e17 : Vit.runT (tabR 1000000) 60 9 [.int .u8 (.ofNat 17)] mTab.next mTab isTrue = some () := by kernel_rfl
theorem e15 : Vit.runT (tabR 1000000) 60 9 [.int .u8 (.ofNat 15)] mTab.next mTab isTrue = some () := by kernel_rfl
theorem e10 : Vit.runT (tabR 1000000) 60 9 [.int .u8 (.ofNat 10)] mTab.next mTab isTrue = some () := by kernel_rfl
theorem e7 : Vit.runT (tabR 1000000) 60 9 [.int .u8 (.ofNat 7)] mTab.next mTab isTrue = some () := by kernel_rfl
theorem e6 : Vit.runT (tabR 1000000) 60 9 [.int .u8 (.ofNat 6)] mTab.next mTab isTrue = some () := by kernel_rfl
theorem e2 : Vit.runT (tabR 1000000) 60 9 [.int .u8 (.ofNat 2)] mTab.next mTab isTrue = some () := by kernel_rfl
end Go.Proofs.YtcaoifacidnhcaaDoor.DutyPaired
