/- The runs of the law DutyFractions, reckoned case by case: 6. -/
import Derived.Test.YtcaoifacidnhcaaDoorTabP
set_option maxRecDepth 1000000
namespace Go.Proofs.YtcaoifacidnhcaaDoor.DutyFractions
open Go Go.Vit Go.Proofs
theorem e10_15  : Vit.runT (tabP 1000000) 60 3 [frV (.ofNat 10) (.ofNat 15)] mTab.next mTab isTrue = some () := by kernel_rfl
theorem e10_21  : Vit.runT (tabP 1000000) 60 3 [frV (.ofNat 10) (.ofNat 21)] mTab.next mTab isTrue = some () := by kernel_rfl
theorem e10_27  : Vit.runT (tabP 1000000) 60 3 [frV (.ofNat 10) (.ofNat 27)] mTab.next mTab isTrue = some () := by kernel_rfl
theorem e11_27  : Vit.runT (tabP 1000000) 60 3 [frV (.ofNat 11) (.ofNat 27)] mTab.next mTab isTrue = some () := by kernel_rfl
theorem e12_22  : Vit.runT (tabP 1000000) 60 3 [frV (.ofNat 12) (.ofNat 22)] mTab.next mTab isTrue = some () := by kernel_rfl
theorem e13_14  : Vit.runT (tabP 1000000) 60 3 [frV (.ofNat 13) (.ofNat 14)] mTab.next mTab isTrue = some () := by kernel_rfl
theorem e13_23  : Vit.runT (tabP 1000000) 60 3 [frV (.ofNat 13) (.ofNat 23)] mTab.next mTab isTrue = some () := by kernel_rfl
theorem e13_29  : Vit.runT (tabP 1000000) 60 3 [frV (.ofNat 13) (.ofNat 29)] mTab.next mTab isTrue = some () := by kernel_rfl
theorem e15_30  : Vit.runT (tabP 1000000) 60 3 [frV (.ofNat 15) (.ofNat 30)] mTab.next mTab isTrue = some () := by kernel_rfl
theorem e16_28  : Vit.runT (tabP 1000000) 60 3 [frV (.ofNat 16) (.ofNat 28)] mTab.next mTab isTrue = some () := by kernel_rfl
theorem e17_19  : Vit.runT (tabP 1000000) 60 3 [frV (.ofNat 17) (.ofNat 19)] mTab.next mTab isTrue = some () := by kernel_rfl
theorem e17_21  : Vit.runT (tabP 1000000) 60 3 [frV (.ofNat 17) (.ofNat 21)] mTab.next mTab isTrue = some () := by kernel_rfl
theorem e18_21  : Vit.runT (tabP 1000000) 60 3 [frV (.ofNat 18) (.ofNat 21)] mTab.next mTab isTrue = some () := by kernel_rfl
theorem e18_24  : Vit.runT (tabP 1000000) 60 3 [frV (.ofNat 18) (.ofNat 24)] mTab.next mTab isTrue = some () := by kernel_rfl
theorem e18_30  : Vit.runT (tabP 1000000) 60 3 [frV (.ofNat 18) (.ofNat 30)] mTab.next mTab isTrue = some () := by kernel_rfl
theorem e19_22  : Vit.runT (tabP 1000000) 60 3 [frV (.ofNat 19) (.ofNat 22)] mTab.next mTab isTrue = some () := by kernel_rfl
theorem e19_28  : Vit.runT (tabP 1000000) 60 3 [frV (.ofNat 19) (.ofNat 28)] mTab.next mTab isTrue = some () := by kernel_rfl
theorem e19_30  : Vit.runT (tabP 1000000) 60 3 [frV (.ofNat 19) (.ofNat 30)] mTab.next mTab isTrue = some () := by kernel_rfl
theorem e1_12  : Vit.runT (tabP 1000000) 60 3 [frV (.ofNat 1) (.ofNat 12)] mTab.next mTab isTrue = some () := by kernel_rfl
theorem e1_2  : Vit.runT (tabP 1000000) 60 3 [frV (.ofNat 1) (.ofNat 2)] mTab.next mTab isTrue = some () := by kernel_rfl
theorem e1_21  : Vit.runT (tabP 1000000) 60 3 [frV (.ofNat 1) (.ofNat 21)] mTab.next mTab isTrue = some () := by kernel_rfl
theorem e1_24  : Vit.runT (tabP 1000000) 60 3 [frV (.ofNat 1) (.ofNat 24)] mTab.next mTab isTrue = some () := by kernel_rfl
theorem e1_9  : Vit.runT (tabP 1000000) 60 3 [frV (.ofNat 1) (.ofNat 9)] mTab.next mTab isTrue = some () := by kernel_rfl
theorem e20_29  : Vit.runT (tabP 1000000) 60 3 [frV (.ofNat 20) (.ofNat 29)] mTab.next mTab isTrue = some () := by kernel_rfl
theorem e21_29  : Vit.runT (tabP 1000000) 60 3 [frV (.ofNat 21) (.ofNat 29)] mTab.next mTab isTrue = some () := by kernel_rfl
theorem e23_30  : Vit.runT (tabP 1000000) 60 3 [frV (.ofNat 23) (.ofNat 30)] mTab.next mTab isTrue = some () := by kernel_rfl
theorem e25_30  : Vit.runT (tabP 1000000) 60 3 [frV (.ofNat 25) (.ofNat 30)] mTab.next mTab isTrue = some () := by kernel_rfl
theorem e26_27  : Vit.runT (tabP 1000000) 60 3 [frV (.ofNat 26) (.ofNat 27)] mTab.next mTab isTrue = some () := by kernel_rfl
theorem e26_28  : Vit.runT (tabP 1000000) 60 3 [frV (.ofNat 26) (.ofNat 28)] mTab.next mTab isTrue = some () := by kernel_rfl
theorem e27_28  : Vit.runT (tabP 1000000) 60 3 [frV (.ofNat 27) (.ofNat 28)] mTab.next mTab isTrue = some () := by kernel_rfl
theorem e2_17  : Vit.runT (tabP 1000000) 60 3 [frV (.ofNat 2) (.ofNat 17)] mTab.next mTab isTrue = some () := by kernel_rfl
theorem e2_25  : Vit.runT (tabP 1000000) 60 3 [frV (.ofNat 2) (.ofNat 25)] mTab.next mTab isTrue = some () := by kernel_rfl
theorem e3_16  : Vit.runT (tabP 1000000) 60 3 [frV (.ofNat 3) (.ofNat 16)] mTab.next mTab isTrue = some () := by kernel_rfl
theorem e4_14  : Vit.runT (tabP 1000000) 60 3 [frV (.ofNat 4) (.ofNat 14)] mTab.next mTab isTrue = some () := by kernel_rfl
theorem e4_17  : Vit.runT (tabP 1000000) 60 3 [frV (.ofNat 4) (.ofNat 17)] mTab.next mTab isTrue = some () := by kernel_rfl
theorem e4_26  : Vit.runT (tabP 1000000) 60 3 [frV (.ofNat 4) (.ofNat 26)] mTab.next mTab isTrue = some () := by kernel_rfl
theorem e4_27  : Vit.runT (tabP 1000000) 60 3 [frV (.ofNat 4) (.ofNat 27)] mTab.next mTab isTrue = some () := by kernel_rfl
theorem e5_16  : Vit.runT (tabP 1000000) 60 3 [frV (.ofNat 5) (.ofNat 16)] mTab.next mTab isTrue = some () := by kernel_rfl
theorem e5_17  : Vit.runT (tabP 1000000) 60 3 [frV (.ofNat 5) (.ofNat 17)] mTab.next mTab isTrue = some () := by kernel_rfl
theorem e5_23  : Vit.runT (tabP 1000000) 60 3 [frV (.ofNat 5) (.ofNat 23)] mTab.next mTab isTrue = some () := by kernel_rfl
theorem e5_27  : Vit.runT (tabP 1000000) 60 3 [frV (.ofNat 5) (.ofNat 27)] mTab.next mTab isTrue = some () := by kernel_rfl
theorem e5_7  : Vit.runT (tabP 1000000) 60 3 [frV (.ofNat 5) (.ofNat 7)] mTab.next mTab isTrue = some () := by kernel_rfl
theorem e6_17  : Vit.runT (tabP 1000000) 60 3 [frV (.ofNat 6) (.ofNat 17)] mTab.next mTab isTrue = some () := by kernel_rfl
theorem e6_25  : Vit.runT (tabP 1000000) 60 3 [frV (.ofNat 6) (.ofNat 25)] mTab.next mTab isTrue = some () := by kernel_rfl
theorem e7_11  : Vit.runT (tabP 1000000) 60 3 [frV (.ofNat 7) (.ofNat 11)] mTab.next mTab isTrue = some () := by kernel_rfl
theorem e7_14  : Vit.runT (tabP 1000000) 60 3 [frV (.ofNat 7) (.ofNat 14)] mTab.next mTab isTrue = some () := by kernel_rfl
theorem e7_17  : Vit.runT (tabP 1000000) 60 3 [frV (.ofNat 7) (.ofNat 17)] mTab.next mTab isTrue = some () := by kernel_rfl
theorem e7_21  : Vit.runT (tabP 1000000) 60 3 [frV (.ofNat 7) (.ofNat 21)] mTab.next mTab isTrue = some () := by kernel_rfl
theorem e7_9  : Vit.runT (tabP 1000000) 60 3 [frV (.ofNat 7) (.ofNat 9)] mTab.next mTab isTrue = some () := by kernel_rfl
theorem e8_10  : Vit.runT (tabP 1000000) 60 3 [frV (.ofNat 8) (.ofNat 10)] mTab.next mTab isTrue = some () := by kernel_rfl
theorem e8_18  : Vit.runT (tabP 1000000) 60 3 [frV (.ofNat 8) (.ofNat 18)] mTab.next mTab isTrue = some () := by kernel_rfl
theorem e8_21  : Vit.runT (tabP 1000000) 60 3 [frV (.ofNat 8) (.ofNat 21)] mTab.next mTab isTrue = some () := by kernel_rfl
theorem e8_30  : Vit.runT (tabP 1000000) 60 3 [frV (.ofNat 8) (.ofNat 30)] mTab.next mTab isTrue = some () := by kernel_rfl
theorem e8_9  : Vit.runT (tabP 1000000) 60 3 [frV (.ofNat 8) (.ofNat 9)] mTab.next mTab isTrue = some () := by kernel_rfl
theorem e9_15  : Vit.runT (tabP 1000000) 60 3 [frV (.ofNat 9) (.ofNat 15)] mTab.next mTab isTrue = some () := by kernel_rfl
theorem g18 (a : Nat) : Vit.runT (tabP 1000000) 60 3 [frV (.ofNat (a + 18)) (.ofNat 18)] mTab.next mTab isTrue = some () := by kernel_rfl
theorem g26 (a : Nat) : Vit.runT (tabP 1000000) 60 3 [frV (.ofNat (a + 26)) (.ofNat 26)] mTab.next mTab isTrue = some () := by kernel_rfl
end Go.Proofs.YtcaoifacidnhcaaDoor.DutyFractions
