/- The runs of the law DutyFractions, reckoned case by case: 5. -/
import Derived.Test.YtcaoifacidnhcaaDoorTabP
set_option maxRecDepth 1000000
namespace Go.Proofs.YtcaoifacidnhcaaDoor.DutyFractions
open Go Go.Vit Go.Proofs
theorem e10_14  : Vit.runT (tabP 1000000) 60 3 [frV (.ofNat 10) (.ofNat 14)] mTab.next mTab isTrue = some () := by kernel_rfl
theorem e10_20  : Vit.runT (tabP 1000000) 60 3 [frV (.ofNat 10) (.ofNat 20)] mTab.next mTab isTrue = some () := by kernel_rfl
theorem e10_29  : Vit.runT (tabP 1000000) 60 3 [frV (.ofNat 10) (.ofNat 29)] mTab.next mTab isTrue = some () := by kernel_rfl
theorem e11_16  : Vit.runT (tabP 1000000) 60 3 [frV (.ofNat 11) (.ofNat 16)] mTab.next mTab isTrue = some () := by kernel_rfl
theorem e11_19  : Vit.runT (tabP 1000000) 60 3 [frV (.ofNat 11) (.ofNat 19)] mTab.next mTab isTrue = some () := by kernel_rfl
theorem e11_26  : Vit.runT (tabP 1000000) 60 3 [frV (.ofNat 11) (.ofNat 26)] mTab.next mTab isTrue = some () := by kernel_rfl
theorem e11_29  : Vit.runT (tabP 1000000) 60 3 [frV (.ofNat 11) (.ofNat 29)] mTab.next mTab isTrue = some () := by kernel_rfl
theorem e13_15  : Vit.runT (tabP 1000000) 60 3 [frV (.ofNat 13) (.ofNat 15)] mTab.next mTab isTrue = some () := by kernel_rfl
theorem e13_19  : Vit.runT (tabP 1000000) 60 3 [frV (.ofNat 13) (.ofNat 19)] mTab.next mTab isTrue = some () := by kernel_rfl
theorem e13_21  : Vit.runT (tabP 1000000) 60 3 [frV (.ofNat 13) (.ofNat 21)] mTab.next mTab isTrue = some () := by kernel_rfl
theorem e13_25  : Vit.runT (tabP 1000000) 60 3 [frV (.ofNat 13) (.ofNat 25)] mTab.next mTab isTrue = some () := by kernel_rfl
theorem e13_28  : Vit.runT (tabP 1000000) 60 3 [frV (.ofNat 13) (.ofNat 28)] mTab.next mTab isTrue = some () := by kernel_rfl
theorem e13_30  : Vit.runT (tabP 1000000) 60 3 [frV (.ofNat 13) (.ofNat 30)] mTab.next mTab isTrue = some () := by kernel_rfl
theorem e14_26  : Vit.runT (tabP 1000000) 60 3 [frV (.ofNat 14) (.ofNat 26)] mTab.next mTab isTrue = some () := by kernel_rfl
theorem e15_23  : Vit.runT (tabP 1000000) 60 3 [frV (.ofNat 15) (.ofNat 23)] mTab.next mTab isTrue = some () := by kernel_rfl
theorem e16_18  : Vit.runT (tabP 1000000) 60 3 [frV (.ofNat 16) (.ofNat 18)] mTab.next mTab isTrue = some () := by kernel_rfl
theorem e16_29  : Vit.runT (tabP 1000000) 60 3 [frV (.ofNat 16) (.ofNat 29)] mTab.next mTab isTrue = some () := by kernel_rfl
theorem e17_26  : Vit.runT (tabP 1000000) 60 3 [frV (.ofNat 17) (.ofNat 26)] mTab.next mTab isTrue = some () := by kernel_rfl
theorem e17_29  : Vit.runT (tabP 1000000) 60 3 [frV (.ofNat 17) (.ofNat 29)] mTab.next mTab isTrue = some () := by kernel_rfl
theorem e1_20  : Vit.runT (tabP 1000000) 60 3 [frV (.ofNat 1) (.ofNat 20)] mTab.next mTab isTrue = some () := by kernel_rfl
theorem e1_25  : Vit.runT (tabP 1000000) 60 3 [frV (.ofNat 1) (.ofNat 25)] mTab.next mTab isTrue = some () := by kernel_rfl
theorem e1_5  : Vit.runT (tabP 1000000) 60 3 [frV (.ofNat 1) (.ofNat 5)] mTab.next mTab isTrue = some () := by kernel_rfl
theorem e1_7  : Vit.runT (tabP 1000000) 60 3 [frV (.ofNat 1) (.ofNat 7)] mTab.next mTab isTrue = some () := by kernel_rfl
theorem e1_8  : Vit.runT (tabP 1000000) 60 3 [frV (.ofNat 1) (.ofNat 8)] mTab.next mTab isTrue = some () := by kernel_rfl
theorem e22_28  : Vit.runT (tabP 1000000) 60 3 [frV (.ofNat 22) (.ofNat 28)] mTab.next mTab isTrue = some () := by kernel_rfl
theorem e22_29  : Vit.runT (tabP 1000000) 60 3 [frV (.ofNat 22) (.ofNat 29)] mTab.next mTab isTrue = some () := by kernel_rfl
theorem e23_27  : Vit.runT (tabP 1000000) 60 3 [frV (.ofNat 23) (.ofNat 27)] mTab.next mTab isTrue = some () := by kernel_rfl
theorem e23_28  : Vit.runT (tabP 1000000) 60 3 [frV (.ofNat 23) (.ofNat 28)] mTab.next mTab isTrue = some () := by kernel_rfl
theorem e23_29  : Vit.runT (tabP 1000000) 60 3 [frV (.ofNat 23) (.ofNat 29)] mTab.next mTab isTrue = some () := by kernel_rfl
theorem e24_26  : Vit.runT (tabP 1000000) 60 3 [frV (.ofNat 24) (.ofNat 26)] mTab.next mTab isTrue = some () := by kernel_rfl
theorem e24_29  : Vit.runT (tabP 1000000) 60 3 [frV (.ofNat 24) (.ofNat 29)] mTab.next mTab isTrue = some () := by kernel_rfl
theorem e25_26  : Vit.runT (tabP 1000000) 60 3 [frV (.ofNat 25) (.ofNat 26)] mTab.next mTab isTrue = some () := by kernel_rfl
theorem e26_29  : Vit.runT (tabP 1000000) 60 3 [frV (.ofNat 26) (.ofNat 29)] mTab.next mTab isTrue = some () := by kernel_rfl
theorem e28_29  : Vit.runT (tabP 1000000) 60 3 [frV (.ofNat 28) (.ofNat 29)] mTab.next mTab isTrue = some () := by kernel_rfl
theorem e28_30  : Vit.runT (tabP 1000000) 60 3 [frV (.ofNat 28) (.ofNat 30)] mTab.next mTab isTrue = some () := by kernel_rfl
theorem e2_23  : Vit.runT (tabP 1000000) 60 3 [frV (.ofNat 2) (.ofNat 23)] mTab.next mTab isTrue = some () := by kernel_rfl
theorem e2_26  : Vit.runT (tabP 1000000) 60 3 [frV (.ofNat 2) (.ofNat 26)] mTab.next mTab isTrue = some () := by kernel_rfl
theorem e3_19  : Vit.runT (tabP 1000000) 60 3 [frV (.ofNat 3) (.ofNat 19)] mTab.next mTab isTrue = some () := by kernel_rfl
theorem e3_28  : Vit.runT (tabP 1000000) 60 3 [frV (.ofNat 3) (.ofNat 28)] mTab.next mTab isTrue = some () := by kernel_rfl
theorem e3_9  : Vit.runT (tabP 1000000) 60 3 [frV (.ofNat 3) (.ofNat 9)] mTab.next mTab isTrue = some () := by kernel_rfl
theorem e4_22  : Vit.runT (tabP 1000000) 60 3 [frV (.ofNat 4) (.ofNat 22)] mTab.next mTab isTrue = some () := by kernel_rfl
theorem e4_8  : Vit.runT (tabP 1000000) 60 3 [frV (.ofNat 4) (.ofNat 8)] mTab.next mTab isTrue = some () := by kernel_rfl
theorem e5_21  : Vit.runT (tabP 1000000) 60 3 [frV (.ofNat 5) (.ofNat 21)] mTab.next mTab isTrue = some () := by kernel_rfl
theorem e6_13  : Vit.runT (tabP 1000000) 60 3 [frV (.ofNat 6) (.ofNat 13)] mTab.next mTab isTrue = some () := by kernel_rfl
theorem e6_16  : Vit.runT (tabP 1000000) 60 3 [frV (.ofNat 6) (.ofNat 16)] mTab.next mTab isTrue = some () := by kernel_rfl
theorem e6_20  : Vit.runT (tabP 1000000) 60 3 [frV (.ofNat 6) (.ofNat 20)] mTab.next mTab isTrue = some () := by kernel_rfl
theorem e6_30  : Vit.runT (tabP 1000000) 60 3 [frV (.ofNat 6) (.ofNat 30)] mTab.next mTab isTrue = some () := by kernel_rfl
theorem e6_8  : Vit.runT (tabP 1000000) 60 3 [frV (.ofNat 6) (.ofNat 8)] mTab.next mTab isTrue = some () := by kernel_rfl
theorem e7_26  : Vit.runT (tabP 1000000) 60 3 [frV (.ofNat 7) (.ofNat 26)] mTab.next mTab isTrue = some () := by kernel_rfl
theorem e7_29  : Vit.runT (tabP 1000000) 60 3 [frV (.ofNat 7) (.ofNat 29)] mTab.next mTab isTrue = some () := by kernel_rfl
theorem e8_11  : Vit.runT (tabP 1000000) 60 3 [frV (.ofNat 8) (.ofNat 11)] mTab.next mTab isTrue = some () := by kernel_rfl
theorem e8_13  : Vit.runT (tabP 1000000) 60 3 [frV (.ofNat 8) (.ofNat 13)] mTab.next mTab isTrue = some () := by kernel_rfl
theorem e8_20  : Vit.runT (tabP 1000000) 60 3 [frV (.ofNat 8) (.ofNat 20)] mTab.next mTab isTrue = some () := by kernel_rfl
theorem e8_29  : Vit.runT (tabP 1000000) 60 3 [frV (.ofNat 8) (.ofNat 29)] mTab.next mTab isTrue = some () := by kernel_rfl
theorem e9_28  : Vit.runT (tabP 1000000) 60 3 [frV (.ofNat 9) (.ofNat 28)] mTab.next mTab isTrue = some () := by kernel_rfl
theorem g17 (a : Nat) : Vit.runT (tabP 1000000) 60 3 [frV (.ofNat (a + 17)) (.ofNat 17)] mTab.next mTab isTrue = some () := by kernel_rfl
theorem g25 (a : Nat) : Vit.runT (tabP 1000000) 60 3 [frV (.ofNat (a + 25)) (.ofNat 25)] mTab.next mTab isTrue = some () := by kernel_rfl
end Go.Proofs.YtcaoifacidnhcaaDoor.DutyFractions
