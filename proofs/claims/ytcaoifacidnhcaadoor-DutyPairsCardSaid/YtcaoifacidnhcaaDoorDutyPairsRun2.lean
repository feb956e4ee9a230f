/- The runs of the law DutyPairs, reckoned case by case: 2. -/
import Derived.Test.YtcaoifacidnhcaaDoorStart
import Derived.Test.YtcaoifacidnhcaaDoorTab
set_option maxRecDepth 1000000
namespace Go.Proofs.YtcaoifacidnhcaaDoor.DutyPairs
open Go Go.Vit Go.Proofs
theorem e38 : Vit.runT (tabR 1000000) 60 6 [.int .i64 (.ofNat 38)] mTab.next mTab isTrue = some () := by kernel_rfl
theorem e37 : Vit.runT (tabR 1000000) 60 6 [.int .i64 (.ofNat 37)] mTab.next mTab isTrue = some () := by kernel_rfl
theorem e32 : Vit.runT (tabR 1000000) 60 6 [.int .i64 (.ofNat 32)] mTab.next mTab isTrue = some () := by kernel_rfl
theorem e31 : Vit.runT (tabR 1000000) 60 6 [.int .i64 (.ofNat 31)] mTab.next mTab isTrue = some () := by kernel_rfl
theorem e26 : Vit.runT (tabR 1000000) 60 6 [.int .i64 (.ofNat 26)] mTab.next mTab isTrue = some () := by kernel_rfl
theorem e25 : Vit.runT (tabR 1000000) 60 6 [.int .i64 (.ofNat 25)] mTab.next mTab isTrue = some () := by kernel_rfl
theorem e20 : Vit.runT (tabR 1000000) 60 6 [.int .i64 (.ofNat 20)] mTab.next mTab isTrue = some () := by kernel_rfl
theorem e19 : Vit.runT (tabR 1000000) 60 6 [.int .i64 (.ofNat 19)] mTab.next mTab isTrue = some () := by kernel_rfl
theorem e14 : Vit.runT (tabR 1000000) 60 6 [.int .i64 (.ofNat 14)] mTab.next mTab isTrue = some () := by kernel_rfl
theorem e13 : Vit.runT (tabR 1000000) 60 6 [.int .i64 (.ofNat 13)] mTab.next mTab isTrue = some () := by kernel_rfl
theorem e8 : Vit.runT (tabR 1000000) 60 6 [.int .i64 (.ofNat 8)] mTab.next mTab isTrue = some () := by kernel_rfl
theorem e7 : Vit.runT (tabR 1000000) 60 6 [.int .i64 (.ofNat 7)] mTab.next mTab isTrue = some () := by kernel_rfl
theorem e2 : Vit.runT (tabR 1000000) 60 6 [.int .i64 (.ofNat 2)] mTab.next mTab isTrue = some () := by kernel_rfl
theorem e1 : Vit.runT (tabR 1000000) 60 6 [.int .i64 (.ofNat 1)] mTab.next mTab isTrue = some () := by kernel_rfl
end Go.Proofs.YtcaoifacidnhcaaDoor.DutyPairs
