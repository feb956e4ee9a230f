/- The runs of the law DutyPaired, reckoned case by case: 2. -/
import Derived.Test.YtcaoifacidnhcaaDoorStart
import Derived.Test.YtcaoifacidnhcaaDoorTab
set_option maxRecDepth 1000000
namespace Go.Proofs.YtcaoifacidnhcaaDoor.DutyPaired
open Go Go.Vit Go.Proofs
theorem e37 : Vit.runT (tabR 1000000) 60 9 [.int .u8 (.ofNat 37)] mTab.next mTab isTrue = some () := by kernel_rfl
theorem e36 : Vit.runT (tabR 1000000) 60 9 [.int .u8 (.ofNat 36)] mTab.next mTab isTrue = some () := by kernel_rfl
theorem e33 : Vit.runT (tabR 1000000) 60 9 [.int .u8 (.ofNat 33)] mTab.next mTab isTrue = some () := by kernel_rfl
theorem e28 : Vit.runT (tabR 1000000) 60 9 [.int .u8 (.ofNat 28)] mTab.next mTab isTrue = some () := by kernel_rfl
theorem e25 : Vit.runT (tabR 1000000) 60 9 [.int .u8 (.ofNat 25)] mTab.next mTab isTrue = some () := by kernel_rfl
theorem e24 : Vit.runT (tabR 1000000) 60 9 [.int .u8 (.ofNat 24)] mTab.next mTab isTrue = some () := by kernel_rfl
theorem e21 : Vit.runT (tabR 1000000) 60 9 [.int .u8 (.ofNat 21)] mTab.next mTab isTrue = some () := by kernel_rfl
theorem e16 : Vit.runT (tabR 1000000) 60 9 [.int .u8 (.ofNat 16)] mTab.next mTab isTrue = some () := by kernel_rfl
theorem e13 : Vit.runT (tabR 1000000) 60 9 [.int .u8 (.ofNat 13)] mTab.next mTab isTrue = some () := by kernel_rfl
theorem e12 : Vit.runT (tabR 1000000) 60 9 [.int .u8 (.ofNat 12)] mTab.next mTab isTrue = some () := by kernel_rfl
theorem e8 : Vit.runT (tabR 1000000) 60 9 [.int .u8 (.ofNat 8)] mTab.next mTab isTrue = some () := by kernel_rfl
theorem e5 : Vit.runT (tabR 1000000) 60 9 [.int .u8 (.ofNat 5)] mTab.next mTab isTrue = some () := by kernel_rfl
theorem e3 : Vit.runT (tabR 1000000) 60 9 [.int .u8 (.ofNat 3)] mTab.next mTab isTrue = some () := by kernel_rfl
end Go.Proofs.YtcaoifacidnhcaaDoor.DutyPaired
