/- The runs of the law DutyFractions, reckoned case by case: 1. -/
import Derived.Test.YtcaoifacidnhcaaDoorTabP
set_option maxRecDepth 1000000
namespace Go.Proofs.YtcaoifacidnhcaaDoor.DutyFractions
open Go Go.Vit Go.Proofs
theorem e10_11  : Vit.runT (tabP 1000000) 60 3 [frV (.ofNat 10) (.ofNat 11)] mTab.next mTab isTrue = some () := by kernel_rfl
theorem e10_26  : Vit.runT (tabP 1000000) 60 3 [frV (.ofNat 10) (.ofNat 26)] mTab.next mTab isTrue = some () := by kernel_rfl
theorem e11_20  : Vit.runT (tabP 1000000) 60 3 [frV (.ofNat 11) (.ofNat 20)] mTab.next mTab isTrue = some () := by kernel_rfl
theorem e11_30  : Vit.runT (tabP 1000000) 60 3 [frV (.ofNat 11) (.ofNat 30)] mTab.next mTab isTrue = some () := by kernel_rfl
theorem e12_26  : Vit.runT (tabP 1000000) 60 3 [frV (.ofNat 12) (.ofNat 26)] mTab.next mTab isTrue = some () := by kernel_rfl
theorem e12_28  : Vit.runT (tabP 1000000) 60 3 [frV (.ofNat 12) (.ofNat 28)] mTab.next mTab isTrue = some () := by kernel_rfl
theorem e12_30  : Vit.runT (tabP 1000000) 60 3 [frV (.ofNat 12) (.ofNat 30)] mTab.next mTab isTrue = some () := by kernel_rfl
theorem e14_16  : Vit.runT (tabP 1000000) 60 3 [frV (.ofNat 14) (.ofNat 16)] mTab.next mTab isTrue = some () := by kernel_rfl
theorem e14_20  : Vit.runT (tabP 1000000) 60 3 [frV (.ofNat 14) (.ofNat 20)] mTab.next mTab isTrue = some () := by kernel_rfl
theorem e14_24  : Vit.runT (tabP 1000000) 60 3 [frV (.ofNat 14) (.ofNat 24)] mTab.next mTab isTrue = some () := by kernel_rfl
theorem e14_27  : Vit.runT (tabP 1000000) 60 3 [frV (.ofNat 14) (.ofNat 27)] mTab.next mTab isTrue = some () := by kernel_rfl
theorem e16_19  : Vit.runT (tabP 1000000) 60 3 [frV (.ofNat 16) (.ofNat 19)] mTab.next mTab isTrue = some () := by kernel_rfl
theorem e16_26  : Vit.runT (tabP 1000000) 60 3 [frV (.ofNat 16) (.ofNat 26)] mTab.next mTab isTrue = some () := by kernel_rfl
theorem e17_23  : Vit.runT (tabP 1000000) 60 3 [frV (.ofNat 17) (.ofNat 23)] mTab.next mTab isTrue = some () := by kernel_rfl
theorem e18_19  : Vit.runT (tabP 1000000) 60 3 [frV (.ofNat 18) (.ofNat 19)] mTab.next mTab isTrue = some () := by kernel_rfl
theorem e18_23  : Vit.runT (tabP 1000000) 60 3 [frV (.ofNat 18) (.ofNat 23)] mTab.next mTab isTrue = some () := by kernel_rfl
theorem e18_27  : Vit.runT (tabP 1000000) 60 3 [frV (.ofNat 18) (.ofNat 27)] mTab.next mTab isTrue = some () := by kernel_rfl
theorem e18_28  : Vit.runT (tabP 1000000) 60 3 [frV (.ofNat 18) (.ofNat 28)] mTab.next mTab isTrue = some () := by kernel_rfl
theorem e18_29  : Vit.runT (tabP 1000000) 60 3 [frV (.ofNat 18) (.ofNat 29)] mTab.next mTab isTrue = some () := by kernel_rfl
theorem e19_20  : Vit.runT (tabP 1000000) 60 3 [frV (.ofNat 19) (.ofNat 20)] mTab.next mTab isTrue = some () := by kernel_rfl
theorem e19_26  : Vit.runT (tabP 1000000) 60 3 [frV (.ofNat 19) (.ofNat 26)] mTab.next mTab isTrue = some () := by kernel_rfl
theorem e1_16  : Vit.runT (tabP 1000000) 60 3 [frV (.ofNat 1) (.ofNat 16)] mTab.next mTab isTrue = some () := by kernel_rfl
theorem e1_29  : Vit.runT (tabP 1000000) 60 3 [frV (.ofNat 1) (.ofNat 29)] mTab.next mTab isTrue = some () := by kernel_rfl
theorem e1_6  : Vit.runT (tabP 1000000) 60 3 [frV (.ofNat 1) (.ofNat 6)] mTab.next mTab isTrue = some () := by kernel_rfl
theorem e20_26  : Vit.runT (tabP 1000000) 60 3 [frV (.ofNat 20) (.ofNat 26)] mTab.next mTab isTrue = some () := by kernel_rfl
theorem e20_28  : Vit.runT (tabP 1000000) 60 3 [frV (.ofNat 20) (.ofNat 28)] mTab.next mTab isTrue = some () := by kernel_rfl
theorem e21_23  : Vit.runT (tabP 1000000) 60 3 [frV (.ofNat 21) (.ofNat 23)] mTab.next mTab isTrue = some () := by kernel_rfl
theorem e21_25  : Vit.runT (tabP 1000000) 60 3 [frV (.ofNat 21) (.ofNat 25)] mTab.next mTab isTrue = some () := by kernel_rfl
theorem e21_26  : Vit.runT (tabP 1000000) 60 3 [frV (.ofNat 21) (.ofNat 26)] mTab.next mTab isTrue = some () := by kernel_rfl
theorem e22_25  : Vit.runT (tabP 1000000) 60 3 [frV (.ofNat 22) (.ofNat 25)] mTab.next mTab isTrue = some () := by kernel_rfl
theorem e29_30  : Vit.runT (tabP 1000000) 60 3 [frV (.ofNat 29) (.ofNat 30)] mTab.next mTab isTrue = some () := by kernel_rfl
theorem e2_14  : Vit.runT (tabP 1000000) 60 3 [frV (.ofNat 2) (.ofNat 14)] mTab.next mTab isTrue = some () := by kernel_rfl
theorem e2_16  : Vit.runT (tabP 1000000) 60 3 [frV (.ofNat 2) (.ofNat 16)] mTab.next mTab isTrue = some () := by kernel_rfl
theorem e2_18  : Vit.runT (tabP 1000000) 60 3 [frV (.ofNat 2) (.ofNat 18)] mTab.next mTab isTrue = some () := by kernel_rfl
theorem e2_20  : Vit.runT (tabP 1000000) 60 3 [frV (.ofNat 2) (.ofNat 20)] mTab.next mTab isTrue = some () := by kernel_rfl
theorem e2_30  : Vit.runT (tabP 1000000) 60 3 [frV (.ofNat 2) (.ofNat 30)] mTab.next mTab isTrue = some () := by kernel_rfl
theorem e2_7  : Vit.runT (tabP 1000000) 60 3 [frV (.ofNat 2) (.ofNat 7)] mTab.next mTab isTrue = some () := by kernel_rfl
theorem e2_9  : Vit.runT (tabP 1000000) 60 3 [frV (.ofNat 2) (.ofNat 9)] mTab.next mTab isTrue = some () := by kernel_rfl
theorem e3_6  : Vit.runT (tabP 1000000) 60 3 [frV (.ofNat 3) (.ofNat 6)] mTab.next mTab isTrue = some () := by kernel_rfl
theorem e4_15  : Vit.runT (tabP 1000000) 60 3 [frV (.ofNat 4) (.ofNat 15)] mTab.next mTab isTrue = some () := by kernel_rfl
theorem e4_18  : Vit.runT (tabP 1000000) 60 3 [frV (.ofNat 4) (.ofNat 18)] mTab.next mTab isTrue = some () := by kernel_rfl
theorem e4_5  : Vit.runT (tabP 1000000) 60 3 [frV (.ofNat 4) (.ofNat 5)] mTab.next mTab isTrue = some () := by kernel_rfl
theorem e5_15  : Vit.runT (tabP 1000000) 60 3 [frV (.ofNat 5) (.ofNat 15)] mTab.next mTab isTrue = some () := by kernel_rfl
theorem e5_20  : Vit.runT (tabP 1000000) 60 3 [frV (.ofNat 5) (.ofNat 20)] mTab.next mTab isTrue = some () := by kernel_rfl
theorem e5_25  : Vit.runT (tabP 1000000) 60 3 [frV (.ofNat 5) (.ofNat 25)] mTab.next mTab isTrue = some () := by kernel_rfl
theorem e5_30  : Vit.runT (tabP 1000000) 60 3 [frV (.ofNat 5) (.ofNat 30)] mTab.next mTab isTrue = some () := by kernel_rfl
theorem e6_14  : Vit.runT (tabP 1000000) 60 3 [frV (.ofNat 6) (.ofNat 14)] mTab.next mTab isTrue = some () := by kernel_rfl
theorem e6_9  : Vit.runT (tabP 1000000) 60 3 [frV (.ofNat 6) (.ofNat 9)] mTab.next mTab isTrue = some () := by kernel_rfl
theorem e7_12  : Vit.runT (tabP 1000000) 60 3 [frV (.ofNat 7) (.ofNat 12)] mTab.next mTab isTrue = some () := by kernel_rfl
theorem e7_13  : Vit.runT (tabP 1000000) 60 3 [frV (.ofNat 7) (.ofNat 13)] mTab.next mTab isTrue = some () := by kernel_rfl
theorem e7_15  : Vit.runT (tabP 1000000) 60 3 [frV (.ofNat 7) (.ofNat 15)] mTab.next mTab isTrue = some () := by kernel_rfl
theorem e7_24  : Vit.runT (tabP 1000000) 60 3 [frV (.ofNat 7) (.ofNat 24)] mTab.next mTab isTrue = some () := by kernel_rfl
theorem e8_23  : Vit.runT (tabP 1000000) 60 3 [frV (.ofNat 8) (.ofNat 23)] mTab.next mTab isTrue = some () := by kernel_rfl
theorem e8_25  : Vit.runT (tabP 1000000) 60 3 [frV (.ofNat 8) (.ofNat 25)] mTab.next mTab isTrue = some () := by kernel_rfl
theorem e9_18  : Vit.runT (tabP 1000000) 60 3 [frV (.ofNat 9) (.ofNat 18)] mTab.next mTab isTrue = some () := by kernel_rfl
theorem g16 (a : Nat) : Vit.runT (tabP 1000000) 60 3 [frV (.ofNat (a + 16)) (.ofNat 16)] mTab.next mTab isTrue = some () := by kernel_rfl
theorem g24 (a : Nat) : Vit.runT (tabP 1000000) 60 3 [frV (.ofNat (a + 24)) (.ofNat 24)] mTab.next mTab isTrue = some () := by kernel_rfl
end Go.Proofs.YtcaoifacidnhcaaDoor.DutyFractions
