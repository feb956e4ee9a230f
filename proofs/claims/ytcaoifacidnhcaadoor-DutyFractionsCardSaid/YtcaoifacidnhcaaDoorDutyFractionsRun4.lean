/- The runs of the law DutyFractions, reckoned case by case: 4. -/
import Derived.Test.YtcaoifacidnhcaaDoorTabP
set_option maxRecDepth 1000000
namespace Go.Proofs.YtcaoifacidnhcaaDoor.DutyFractions
open Go Go.Vit Go.Proofs
theorem e11_22  : Vit.runT (tabP 1000000) 60 3 [frV (.ofNat 11) (.ofNat 22)] mTab.next mTab isTrue = some () := by kernel_rfl
theorem e11_28  : Vit.runT (tabP 1000000) 60 3 [frV (.ofNat 11) (.ofNat 28)] mTab.next mTab isTrue = some () := by kernel_rfl
theorem e12_16  : Vit.runT (tabP 1000000) 60 3 [frV (.ofNat 12) (.ofNat 16)] mTab.next mTab isTrue = some () := by kernel_rfl
theorem e12_20  : Vit.runT (tabP 1000000) 60 3 [frV (.ofNat 12) (.ofNat 20)] mTab.next mTab isTrue = some () := by kernel_rfl
theorem e12_23  : Vit.runT (tabP 1000000) 60 3 [frV (.ofNat 12) (.ofNat 23)] mTab.next mTab isTrue = some () := by kernel_rfl
theorem e13_18  : Vit.runT (tabP 1000000) 60 3 [frV (.ofNat 13) (.ofNat 18)] mTab.next mTab isTrue = some () := by kernel_rfl
theorem e14_18  : Vit.runT (tabP 1000000) 60 3 [frV (.ofNat 14) (.ofNat 18)] mTab.next mTab isTrue = some () := by kernel_rfl
theorem e15_16  : Vit.runT (tabP 1000000) 60 3 [frV (.ofNat 15) (.ofNat 16)] mTab.next mTab isTrue = some () := by kernel_rfl
theorem e15_18  : Vit.runT (tabP 1000000) 60 3 [frV (.ofNat 15) (.ofNat 18)] mTab.next mTab isTrue = some () := by kernel_rfl
theorem e16_20  : Vit.runT (tabP 1000000) 60 3 [frV (.ofNat 16) (.ofNat 20)] mTab.next mTab isTrue = some () := by kernel_rfl
theorem e16_21  : Vit.runT (tabP 1000000) 60 3 [frV (.ofNat 16) (.ofNat 21)] mTab.next mTab isTrue = some () := by kernel_rfl
theorem e16_25  : Vit.runT (tabP 1000000) 60 3 [frV (.ofNat 16) (.ofNat 25)] mTab.next mTab isTrue = some () := by kernel_rfl
theorem e16_30  : Vit.runT (tabP 1000000) 60 3 [frV (.ofNat 16) (.ofNat 30)] mTab.next mTab isTrue = some () := by kernel_rfl
theorem e17_20  : Vit.runT (tabP 1000000) 60 3 [frV (.ofNat 17) (.ofNat 20)] mTab.next mTab isTrue = some () := by kernel_rfl
theorem e17_27  : Vit.runT (tabP 1000000) 60 3 [frV (.ofNat 17) (.ofNat 27)] mTab.next mTab isTrue = some () := by kernel_rfl
theorem e17_30  : Vit.runT (tabP 1000000) 60 3 [frV (.ofNat 17) (.ofNat 30)] mTab.next mTab isTrue = some () := by kernel_rfl
theorem e18_25  : Vit.runT (tabP 1000000) 60 3 [frV (.ofNat 18) (.ofNat 25)] mTab.next mTab isTrue = some () := by kernel_rfl
theorem e1_10  : Vit.runT (tabP 1000000) 60 3 [frV (.ofNat 1) (.ofNat 10)] mTab.next mTab isTrue = some () := by kernel_rfl
theorem e1_19  : Vit.runT (tabP 1000000) 60 3 [frV (.ofNat 1) (.ofNat 19)] mTab.next mTab isTrue = some () := by kernel_rfl
theorem e1_26  : Vit.runT (tabP 1000000) 60 3 [frV (.ofNat 1) (.ofNat 26)] mTab.next mTab isTrue = some () := by kernel_rfl
theorem e20_30  : Vit.runT (tabP 1000000) 60 3 [frV (.ofNat 20) (.ofNat 30)] mTab.next mTab isTrue = some () := by kernel_rfl
theorem e21_30  : Vit.runT (tabP 1000000) 60 3 [frV (.ofNat 21) (.ofNat 30)] mTab.next mTab isTrue = some () := by kernel_rfl
theorem e22_23  : Vit.runT (tabP 1000000) 60 3 [frV (.ofNat 22) (.ofNat 23)] mTab.next mTab isTrue = some () := by kernel_rfl
theorem e22_27  : Vit.runT (tabP 1000000) 60 3 [frV (.ofNat 22) (.ofNat 27)] mTab.next mTab isTrue = some () := by kernel_rfl
theorem e23_25  : Vit.runT (tabP 1000000) 60 3 [frV (.ofNat 23) (.ofNat 25)] mTab.next mTab isTrue = some () := by kernel_rfl
theorem e24_27  : Vit.runT (tabP 1000000) 60 3 [frV (.ofNat 24) (.ofNat 27)] mTab.next mTab isTrue = some () := by kernel_rfl
theorem e26_30  : Vit.runT (tabP 1000000) 60 3 [frV (.ofNat 26) (.ofNat 30)] mTab.next mTab isTrue = some () := by kernel_rfl
theorem e2_19  : Vit.runT (tabP 1000000) 60 3 [frV (.ofNat 2) (.ofNat 19)] mTab.next mTab isTrue = some () := by kernel_rfl
theorem e2_29  : Vit.runT (tabP 1000000) 60 3 [frV (.ofNat 2) (.ofNat 29)] mTab.next mTab isTrue = some () := by kernel_rfl
theorem e2_5  : Vit.runT (tabP 1000000) 60 3 [frV (.ofNat 2) (.ofNat 5)] mTab.next mTab isTrue = some () := by kernel_rfl
theorem e2_8  : Vit.runT (tabP 1000000) 60 3 [frV (.ofNat 2) (.ofNat 8)] mTab.next mTab isTrue = some () := by kernel_rfl
theorem e3_13  : Vit.runT (tabP 1000000) 60 3 [frV (.ofNat 3) (.ofNat 13)] mTab.next mTab isTrue = some () := by kernel_rfl
theorem e3_15  : Vit.runT (tabP 1000000) 60 3 [frV (.ofNat 3) (.ofNat 15)] mTab.next mTab isTrue = some () := by kernel_rfl
theorem e3_23  : Vit.runT (tabP 1000000) 60 3 [frV (.ofNat 3) (.ofNat 23)] mTab.next mTab isTrue = some () := by kernel_rfl
theorem e3_5  : Vit.runT (tabP 1000000) 60 3 [frV (.ofNat 3) (.ofNat 5)] mTab.next mTab isTrue = some () := by kernel_rfl
theorem e4_25  : Vit.runT (tabP 1000000) 60 3 [frV (.ofNat 4) (.ofNat 25)] mTab.next mTab isTrue = some () := by kernel_rfl
theorem e4_29  : Vit.runT (tabP 1000000) 60 3 [frV (.ofNat 4) (.ofNat 29)] mTab.next mTab isTrue = some () := by kernel_rfl
theorem e5_10  : Vit.runT (tabP 1000000) 60 3 [frV (.ofNat 5) (.ofNat 10)] mTab.next mTab isTrue = some () := by kernel_rfl
theorem e5_11  : Vit.runT (tabP 1000000) 60 3 [frV (.ofNat 5) (.ofNat 11)] mTab.next mTab isTrue = some () := by kernel_rfl
theorem e5_12  : Vit.runT (tabP 1000000) 60 3 [frV (.ofNat 5) (.ofNat 12)] mTab.next mTab isTrue = some () := by kernel_rfl
theorem e5_14  : Vit.runT (tabP 1000000) 60 3 [frV (.ofNat 5) (.ofNat 14)] mTab.next mTab isTrue = some () := by kernel_rfl
theorem e5_24  : Vit.runT (tabP 1000000) 60 3 [frV (.ofNat 5) (.ofNat 24)] mTab.next mTab isTrue = some () := by kernel_rfl
theorem e5_28  : Vit.runT (tabP 1000000) 60 3 [frV (.ofNat 5) (.ofNat 28)] mTab.next mTab isTrue = some () := by kernel_rfl
theorem e6_21  : Vit.runT (tabP 1000000) 60 3 [frV (.ofNat 6) (.ofNat 21)] mTab.next mTab isTrue = some () := by kernel_rfl
theorem e7_16  : Vit.runT (tabP 1000000) 60 3 [frV (.ofNat 7) (.ofNat 16)] mTab.next mTab isTrue = some () := by kernel_rfl
theorem e7_27  : Vit.runT (tabP 1000000) 60 3 [frV (.ofNat 7) (.ofNat 27)] mTab.next mTab isTrue = some () := by kernel_rfl
theorem e8_12  : Vit.runT (tabP 1000000) 60 3 [frV (.ofNat 8) (.ofNat 12)] mTab.next mTab isTrue = some () := by kernel_rfl
theorem e8_17  : Vit.runT (tabP 1000000) 60 3 [frV (.ofNat 8) (.ofNat 17)] mTab.next mTab isTrue = some () := by kernel_rfl
theorem e8_24  : Vit.runT (tabP 1000000) 60 3 [frV (.ofNat 8) (.ofNat 24)] mTab.next mTab isTrue = some () := by kernel_rfl
theorem e8_27  : Vit.runT (tabP 1000000) 60 3 [frV (.ofNat 8) (.ofNat 27)] mTab.next mTab isTrue = some () := by kernel_rfl
theorem e9_10  : Vit.runT (tabP 1000000) 60 3 [frV (.ofNat 9) (.ofNat 10)] mTab.next mTab isTrue = some () := by kernel_rfl
theorem e9_16  : Vit.runT (tabP 1000000) 60 3 [frV (.ofNat 9) (.ofNat 16)] mTab.next mTab isTrue = some () := by kernel_rfl
theorem e9_25  : Vit.runT (tabP 1000000) 60 3 [frV (.ofNat 9) (.ofNat 25)] mTab.next mTab isTrue = some () := by kernel_rfl
theorem e9_29  : Vit.runT (tabP 1000000) 60 3 [frV (.ofNat 9) (.ofNat 29)] mTab.next mTab isTrue = some () := by kernel_rfl
theorem g12 (a : Nat) : Vit.runT (tabP 1000000) 60 3 [frV (.ofNat (a + 12)) (.ofNat 12)] mTab.next mTab isTrue = some () := by kernel_rfl
theorem g2 (a : Nat) : Vit.runT (tabP 1000000) 60 3 [frV (.ofNat (a + 2)) (.ofNat 2)] mTab.next mTab isTrue = some () := by kernel_rfl
theorem g20 (a : Nat) : Vit.runT (tabP 1000000) 60 3 [frV (.ofNat (a + 20)) (.ofNat 20)] mTab.next mTab isTrue = some () := by kernel_rfl
theorem g28 (a : Nat) : Vit.runT (tabP 1000000) 60 3 [frV (.ofNat (a + 28)) (.ofNat 28)] mTab.next mTab isTrue = some () := by kernel_rfl
theorem g7 (a : Nat) : Vit.runT (tabP 1000000) 60 3 [frV (.ofNat (a + 7)) (.ofNat 7)] mTab.next mTab isTrue = some () := by kernel_rfl
theorem x0 (b : Int) : Vit.runT (tabP 1000000) 60 3 [frV (.ofNat 0) b] mTab.next mTab isTrue = some () := by kernel_rfl
end Go.Proofs.YtcaoifacidnhcaaDoor.DutyFractions
