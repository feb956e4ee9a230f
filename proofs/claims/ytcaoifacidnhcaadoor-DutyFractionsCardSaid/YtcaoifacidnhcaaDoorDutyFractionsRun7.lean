/- The runs of the law DutyFractions, reckoned case by case: 7. -/
import Derived.Test.YtcaoifacidnhcaaDoorTabP
set_option maxRecDepth 1000000
namespace Go.Proofs.YtcaoifacidnhcaaDoor.DutyFractions
open Go Go.Vit Go.Proofs
theorem e10_12  : Vit.runT (tabP 1000000) 60 3 [frV (.ofNat 10) (.ofNat 12)] mTab.next mTab isTrue = some () := by kernel_rfl
theorem e10_24  : Vit.runT (tabP 1000000) 60 3 [frV (.ofNat 10) (.ofNat 24)] mTab.next mTab isTrue = some () := by kernel_rfl
theorem e11_12  : Vit.runT (tabP 1000000) 60 3 [frV (.ofNat 11) (.ofNat 12)] mTab.next mTab isTrue = some () := by kernel_rfl
theorem e11_14  : Vit.runT (tabP 1000000) 60 3 [frV (.ofNat 11) (.ofNat 14)] mTab.next mTab isTrue = some () := by kernel_rfl
theorem e12_17  : Vit.runT (tabP 1000000) 60 3 [frV (.ofNat 12) (.ofNat 17)] mTab.next mTab isTrue = some () := by kernel_rfl
theorem e12_25  : Vit.runT (tabP 1000000) 60 3 [frV (.ofNat 12) (.ofNat 25)] mTab.next mTab isTrue = some () := by kernel_rfl
theorem e12_27  : Vit.runT (tabP 1000000) 60 3 [frV (.ofNat 12) (.ofNat 27)] mTab.next mTab isTrue = some () := by kernel_rfl
theorem e13_20  : Vit.runT (tabP 1000000) 60 3 [frV (.ofNat 13) (.ofNat 20)] mTab.next mTab isTrue = some () := by kernel_rfl
theorem e13_22  : Vit.runT (tabP 1000000) 60 3 [frV (.ofNat 13) (.ofNat 22)] mTab.next mTab isTrue = some () := by kernel_rfl
theorem e13_24  : Vit.runT (tabP 1000000) 60 3 [frV (.ofNat 13) (.ofNat 24)] mTab.next mTab isTrue = some () := by kernel_rfl
theorem e13_27  : Vit.runT (tabP 1000000) 60 3 [frV (.ofNat 13) (.ofNat 27)] mTab.next mTab isTrue = some () := by kernel_rfl
theorem e14_25  : Vit.runT (tabP 1000000) 60 3 [frV (.ofNat 14) (.ofNat 25)] mTab.next mTab isTrue = some () := by kernel_rfl
theorem e14_28  : Vit.runT (tabP 1000000) 60 3 [frV (.ofNat 14) (.ofNat 28)] mTab.next mTab isTrue = some () := by kernel_rfl
theorem e15_22  : Vit.runT (tabP 1000000) 60 3 [frV (.ofNat 15) (.ofNat 22)] mTab.next mTab isTrue = some () := by kernel_rfl
theorem e15_24  : Vit.runT (tabP 1000000) 60 3 [frV (.ofNat 15) (.ofNat 24)] mTab.next mTab isTrue = some () := by kernel_rfl
theorem e16_17  : Vit.runT (tabP 1000000) 60 3 [frV (.ofNat 16) (.ofNat 17)] mTab.next mTab isTrue = some () := by kernel_rfl
theorem e17_28  : Vit.runT (tabP 1000000) 60 3 [frV (.ofNat 17) (.ofNat 28)] mTab.next mTab isTrue = some () := by kernel_rfl
theorem e18_22  : Vit.runT (tabP 1000000) 60 3 [frV (.ofNat 18) (.ofNat 22)] mTab.next mTab isTrue = some () := by kernel_rfl
theorem e18_26  : Vit.runT (tabP 1000000) 60 3 [frV (.ofNat 18) (.ofNat 26)] mTab.next mTab isTrue = some () := by kernel_rfl
theorem e19_24  : Vit.runT (tabP 1000000) 60 3 [frV (.ofNat 19) (.ofNat 24)] mTab.next mTab isTrue = some () := by kernel_rfl
theorem e19_25  : Vit.runT (tabP 1000000) 60 3 [frV (.ofNat 19) (.ofNat 25)] mTab.next mTab isTrue = some () := by kernel_rfl
theorem e19_29  : Vit.runT (tabP 1000000) 60 3 [frV (.ofNat 19) (.ofNat 29)] mTab.next mTab isTrue = some () := by kernel_rfl
theorem e1_14  : Vit.runT (tabP 1000000) 60 3 [frV (.ofNat 1) (.ofNat 14)] mTab.next mTab isTrue = some () := by kernel_rfl
theorem e1_22  : Vit.runT (tabP 1000000) 60 3 [frV (.ofNat 1) (.ofNat 22)] mTab.next mTab isTrue = some () := by kernel_rfl
theorem e1_23  : Vit.runT (tabP 1000000) 60 3 [frV (.ofNat 1) (.ofNat 23)] mTab.next mTab isTrue = some () := by kernel_rfl
theorem e20_22  : Vit.runT (tabP 1000000) 60 3 [frV (.ofNat 20) (.ofNat 22)] mTab.next mTab isTrue = some () := by kernel_rfl
theorem e21_22  : Vit.runT (tabP 1000000) 60 3 [frV (.ofNat 21) (.ofNat 22)] mTab.next mTab isTrue = some () := by kernel_rfl
theorem e21_24  : Vit.runT (tabP 1000000) 60 3 [frV (.ofNat 21) (.ofNat 24)] mTab.next mTab isTrue = some () := by kernel_rfl
theorem e22_26  : Vit.runT (tabP 1000000) 60 3 [frV (.ofNat 22) (.ofNat 26)] mTab.next mTab isTrue = some () := by kernel_rfl
theorem e22_30  : Vit.runT (tabP 1000000) 60 3 [frV (.ofNat 22) (.ofNat 30)] mTab.next mTab isTrue = some () := by kernel_rfl
theorem e2_11  : Vit.runT (tabP 1000000) 60 3 [frV (.ofNat 2) (.ofNat 11)] mTab.next mTab isTrue = some () := by kernel_rfl
theorem e2_13  : Vit.runT (tabP 1000000) 60 3 [frV (.ofNat 2) (.ofNat 13)] mTab.next mTab isTrue = some () := by kernel_rfl
theorem e2_22  : Vit.runT (tabP 1000000) 60 3 [frV (.ofNat 2) (.ofNat 22)] mTab.next mTab isTrue = some () := by kernel_rfl
theorem e3_11  : Vit.runT (tabP 1000000) 60 3 [frV (.ofNat 3) (.ofNat 11)] mTab.next mTab isTrue = some () := by kernel_rfl
theorem e3_14  : Vit.runT (tabP 1000000) 60 3 [frV (.ofNat 3) (.ofNat 14)] mTab.next mTab isTrue = some () := by kernel_rfl
theorem e3_20  : Vit.runT (tabP 1000000) 60 3 [frV (.ofNat 3) (.ofNat 20)] mTab.next mTab isTrue = some () := by kernel_rfl
theorem e3_25  : Vit.runT (tabP 1000000) 60 3 [frV (.ofNat 3) (.ofNat 25)] mTab.next mTab isTrue = some () := by kernel_rfl
theorem e3_26  : Vit.runT (tabP 1000000) 60 3 [frV (.ofNat 3) (.ofNat 26)] mTab.next mTab isTrue = some () := by kernel_rfl
theorem e4_10  : Vit.runT (tabP 1000000) 60 3 [frV (.ofNat 4) (.ofNat 10)] mTab.next mTab isTrue = some () := by kernel_rfl
theorem e4_7  : Vit.runT (tabP 1000000) 60 3 [frV (.ofNat 4) (.ofNat 7)] mTab.next mTab isTrue = some () := by kernel_rfl
theorem e4_9  : Vit.runT (tabP 1000000) 60 3 [frV (.ofNat 4) (.ofNat 9)] mTab.next mTab isTrue = some () := by kernel_rfl
theorem e5_26  : Vit.runT (tabP 1000000) 60 3 [frV (.ofNat 5) (.ofNat 26)] mTab.next mTab isTrue = some () := by kernel_rfl
theorem e6_18  : Vit.runT (tabP 1000000) 60 3 [frV (.ofNat 6) (.ofNat 18)] mTab.next mTab isTrue = some () := by kernel_rfl
theorem e6_19  : Vit.runT (tabP 1000000) 60 3 [frV (.ofNat 6) (.ofNat 19)] mTab.next mTab isTrue = some () := by kernel_rfl
theorem e6_22  : Vit.runT (tabP 1000000) 60 3 [frV (.ofNat 6) (.ofNat 22)] mTab.next mTab isTrue = some () := by kernel_rfl
theorem e6_24  : Vit.runT (tabP 1000000) 60 3 [frV (.ofNat 6) (.ofNat 24)] mTab.next mTab isTrue = some () := by kernel_rfl
theorem e6_27  : Vit.runT (tabP 1000000) 60 3 [frV (.ofNat 6) (.ofNat 27)] mTab.next mTab isTrue = some () := by kernel_rfl
theorem e7_20  : Vit.runT (tabP 1000000) 60 3 [frV (.ofNat 7) (.ofNat 20)] mTab.next mTab isTrue = some () := by kernel_rfl
theorem e7_23  : Vit.runT (tabP 1000000) 60 3 [frV (.ofNat 7) (.ofNat 23)] mTab.next mTab isTrue = some () := by kernel_rfl
theorem e7_8  : Vit.runT (tabP 1000000) 60 3 [frV (.ofNat 7) (.ofNat 8)] mTab.next mTab isTrue = some () := by kernel_rfl
theorem e8_22  : Vit.runT (tabP 1000000) 60 3 [frV (.ofNat 8) (.ofNat 22)] mTab.next mTab isTrue = some () := by kernel_rfl
theorem e9_12  : Vit.runT (tabP 1000000) 60 3 [frV (.ofNat 9) (.ofNat 12)] mTab.next mTab isTrue = some () := by kernel_rfl
theorem e9_17  : Vit.runT (tabP 1000000) 60 3 [frV (.ofNat 9) (.ofNat 17)] mTab.next mTab isTrue = some () := by kernel_rfl
theorem e9_23  : Vit.runT (tabP 1000000) 60 3 [frV (.ofNat 9) (.ofNat 23)] mTab.next mTab isTrue = some () := by kernel_rfl
theorem g10 (a : Nat) : Vit.runT (tabP 1000000) 60 3 [frV (.ofNat (a + 10)) (.ofNat 10)] mTab.next mTab isTrue = some () := by kernel_rfl
theorem g15 (a : Nat) : Vit.runT (tabP 1000000) 60 3 [frV (.ofNat (a + 15)) (.ofNat 15)] mTab.next mTab isTrue = some () := by kernel_rfl
theorem g23 (a : Nat) : Vit.runT (tabP 1000000) 60 3 [frV (.ofNat (a + 23)) (.ofNat 23)] mTab.next mTab isTrue = some () := by kernel_rfl
theorem g5 (a : Nat) : Vit.runT (tabP 1000000) 60 3 [frV (.ofNat (a + 5)) (.ofNat 5)] mTab.next mTab isTrue = some () := by kernel_rfl
theorem yb (a b : Nat) : Vit.runT (tabP 1000000) 60 3 [frV (.ofNat (a + 1)) (.ofNat (b + 31))] mTab.next mTab isTrue = some () := by kernel_rfl
end Go.Proofs.YtcaoifacidnhcaaDoor.DutyFractions
