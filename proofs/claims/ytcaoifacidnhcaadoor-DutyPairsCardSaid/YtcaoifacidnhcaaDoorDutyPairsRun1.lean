/- The runs of the law DutyPairs, reckoned case by case: 1. -/
import Derived.Test.YtcaoifacidnhcaaDoorStart
import Derived.Test.YtcaoifacidnhcaaDoorTab
set_option maxRecDepth 1000000
namespace Go.Proofs.YtcaoifacidnhcaaDoor.DutyPairs
open Go Go.Vit Go.Proofs
theorem e39 : Vit.runT (tabR 1000000) 60 6 [.int .i64 (.ofNat 39)] mTab.next mTab isTrue = some () := by kernel_rfl
theorem e36 : Vit.runT (tabR 1000000) 60 6 [.int .i64 (.ofNat 36)] mTab.next mTab isTrue = some () := by kernel_rfl
theorem e33 : Vit.runT (tabR 1000000) 60 6 [.int .i64 (.ofNat 33)] mTab.next mTab isTrue = some () := by kernel_rfl
theorem e30 : Vit.runT (tabR 1000000) 60 6 [.int .i64 (.ofNat 30)] mTab.next mTab isTrue = some () := by kernel_rfl
theorem e27 : Vit.runT (tabR 1000000) 60 6 [.int .i64 (.ofNat 27)] mTab.next mTab isTrue = some () := by kernel_rfl
theorem e24 : Vit.runT (tabR 1000000) 60 6 [.int .i64 (.ofNat 24)] mTab.next mTab isTrue = some () := by kernel_rfl
theorem e21 : Vit.runT (tabR 1000000) 60 6 [.int .i64 (.ofNat 21)] mTab.next mTab isTrue = some () := by kernel_rfl
theorem e18 : Vit.runT (tabR 1000000) 60 6 [.int .i64 (.ofNat 18)] mTab.next mTab isTrue = some () := by kernel_rfl
theorem e15 : Vit.runT (tabR 1000000) 60 6 [.int .i64 (.ofNat 15)] mTab.next mTab isTrue = some () := by kernel_rfl
theorem e12 : Vit.runT (tabR 1000000) 60 6 [.int .i64 (.ofNat 12)] mTab.next mTab isTrue = some () := by kernel_rfl
theorem e9 : Vit.runT (tabR 1000000) 60 6 [.int .i64 (.ofNat 9)] mTab.next mTab isTrue = some () := by kernel_rfl
theorem e6 : Vit.runT (tabR 1000000) 60 6 [.int .i64 (.ofNat 6)] mTab.next mTab isTrue = some () := by kernel_rfl
theorem e3 : Vit.runT (tabR 1000000) 60 6 [.int .i64 (.ofNat 3)] mTab.next mTab isTrue = some () := by kernel_rfl
theorem e0 : Vit.runT (tabR 1000000) 60 6 [.int .i64 (.ofNat 0)] mTab.next mTab isTrue = some () := by kernel_rfl
theorem eb (a : Nat) : Vit.runT (tabR 1000000) 60 6 [.int .i64 (.ofNat (a + 41))] mTab.next mTab isTrue = some () := by kernel_rfl
end Go.Proofs.YtcaoifacidnhcaaDoor.DutyPairs
