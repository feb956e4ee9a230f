/- The runs of the law DutyPairs, reckoned case by case: 0. -/
import Derived.Test.YtcaoifacidnhcaaDoorStart
import Derived.Test.YtcaoifacidnhcaaDoorTab
set_option maxRecDepth 1000000
namespace Go.Proofs.YtcaoifacidnhcaaDoor.DutyPairs
open Go Go.Vit Go.Proofs
theorem e40 : Vit.runT (tabR 1000000) 60 6 [.int .i64 (.ofNat 40)] mTab.next mTab isTrue = some () := by kernel_rfl
theorem e35 : Vit.runT (tabR 1000000) 60 6 [.int .i64 (.ofNat 35)] mTab.next mTab isTrue = some () := by kernel_rfl
theorem e34 : Vit.runT (tabR 1000000) 60 6 [.int .i64 (.ofNat 34)] mTab.next mTab isTrue = some () := by kernel_rfl
theorem e29 : Vit.runT (tabR 1000000) 60 6 [.int .i64 (.ofNat 29)] mTab.next mTab isTrue = some () := by kernel_rfl
theorem e28 : Vit.runT (tabR 1000000) 60 6 [.int .i64 (.ofNat 28)] mTab.next mTab isTrue = some () := by kernel_rfl
theorem e23 : Vit.runT (tabR 1000000) 60 6 [.int .i64 (.ofNat 23)] mTab.next mTab isTrue = some () := by kernel_rfl
theorem e22 : Vit.runT (tabR 1000000) 60 6 [.int .i64 (.ofNat 22)] mTab.next mTab isTrue = some () := by kernel_rfl
theorem e17 : Vit.runT (tabR 1000000) 60 6 [.int .i64 (.ofNat 17)] mTab.next mTab isTrue = some () := by kernel_rfl
theorem e16 : Vit.runT (tabR 1000000) 60 6 [.int .i64 (.ofNat 16)] mTab.next mTab isTrue = some () := by kernel_rfl
theorem e11 : Vit.runT (tabR 1000000) 60 6 [.int .i64 (.ofNat 11)] mTab.next mTab isTrue = some () := by kernel_rfl
theorem e10 : Vit.runT (tabR 1000000) 60 6 [.int .i64 (.ofNat 10)] mTab.next mTab isTrue = some () := by kernel_rfl
theorem e5 : Vit.runT (tabR 1000000) 60 6 [.int .i64 (.ofNat 5)] mTab.next mTab isTrue = some () := by kernel_rfl
theorem e4 : Vit.runT (tabR 1000000) 60 6 [.int .i64 (.ofNat 4)] mTab.next mTab isTrue = some () := by kernel_rfl
theorem en (a : Nat) : Vit.runT (tabR 1000000) 60 6 [.int .i64 (.negSucc a)] mTab.next mTab isTrue = some () := by kernel_rfl
end Go.Proofs.YtcaoifacidnhcaaDoor.DutyPairs
