/- The runs of the law DutyFractions, reckoned case by case: 3. -/
import Derived.Test.YtcaoifacidnhcaaDoorTabP
set_option maxRecDepth 1000000
namespace Go.Proofs.YtcaoifacidnhcaaDoor.DutyFractions
open Go Go.Vit Go.Proofs
theorem e10_13  : Vit.runT (tabP 1000000) 60 3 [frV (.ofNat 10) (.ofNat 13)] mTab.next mTab isTrue = some () := by kernel_rfl
theorem e10_19  : Vit.runT (tabP 1000000) 60 3 [frV (.ofNat 10) (.ofNat 19)] mTab.next mTab isTrue = some () := by kernel_rfl
theorem e11_13  : Vit.runT (tabP 1000000) 60 3 [frV (.ofNat 11) (.ofNat 13)] mTab.next mTab isTrue = some () := by kernel_rfl
theorem e11_15  : Vit.runT (tabP 1000000) 60 3 [frV (.ofNat 11) (.ofNat 15)] mTab.next mTab isTrue = some () := by kernel_rfl
theorem e11_18  : Vit.runT (tabP 1000000) 60 3 [frV (.ofNat 11) (.ofNat 18)] mTab.next mTab isTrue = some () := by kernel_rfl
theorem e11_23  : Vit.runT (tabP 1000000) 60 3 [frV (.ofNat 11) (.ofNat 23)] mTab.next mTab isTrue = some () := by kernel_rfl
theorem e11_25  : Vit.runT (tabP 1000000) 60 3 [frV (.ofNat 11) (.ofNat 25)] mTab.next mTab isTrue = some () := by kernel_rfl
theorem e12_29  : Vit.runT (tabP 1000000) 60 3 [frV (.ofNat 12) (.ofNat 29)] mTab.next mTab isTrue = some () := by kernel_rfl
theorem e13_26  : Vit.runT (tabP 1000000) 60 3 [frV (.ofNat 13) (.ofNat 26)] mTab.next mTab isTrue = some () := by kernel_rfl
theorem e14_29  : Vit.runT (tabP 1000000) 60 3 [frV (.ofNat 14) (.ofNat 29)] mTab.next mTab isTrue = some () := by kernel_rfl
theorem e15_17  : Vit.runT (tabP 1000000) 60 3 [frV (.ofNat 15) (.ofNat 17)] mTab.next mTab isTrue = some () := by kernel_rfl
theorem e16_24  : Vit.runT (tabP 1000000) 60 3 [frV (.ofNat 16) (.ofNat 24)] mTab.next mTab isTrue = some () := by kernel_rfl
theorem e16_27  : Vit.runT (tabP 1000000) 60 3 [frV (.ofNat 16) (.ofNat 27)] mTab.next mTab isTrue = some () := by kernel_rfl
theorem e17_18  : Vit.runT (tabP 1000000) 60 3 [frV (.ofNat 17) (.ofNat 18)] mTab.next mTab isTrue = some () := by kernel_rfl
theorem e17_24  : Vit.runT (tabP 1000000) 60 3 [frV (.ofNat 17) (.ofNat 24)] mTab.next mTab isTrue = some () := by kernel_rfl
theorem e19_21  : Vit.runT (tabP 1000000) 60 3 [frV (.ofNat 19) (.ofNat 21)] mTab.next mTab isTrue = some () := by kernel_rfl
theorem e1_13  : Vit.runT (tabP 1000000) 60 3 [frV (.ofNat 1) (.ofNat 13)] mTab.next mTab isTrue = some () := by kernel_rfl
theorem e1_18  : Vit.runT (tabP 1000000) 60 3 [frV (.ofNat 1) (.ofNat 18)] mTab.next mTab isTrue = some () := by kernel_rfl
theorem e1_27  : Vit.runT (tabP 1000000) 60 3 [frV (.ofNat 1) (.ofNat 27)] mTab.next mTab isTrue = some () := by kernel_rfl
theorem e20_21  : Vit.runT (tabP 1000000) 60 3 [frV (.ofNat 20) (.ofNat 21)] mTab.next mTab isTrue = some () := by kernel_rfl
theorem e20_23  : Vit.runT (tabP 1000000) 60 3 [frV (.ofNat 20) (.ofNat 23)] mTab.next mTab isTrue = some () := by kernel_rfl
theorem e20_25  : Vit.runT (tabP 1000000) 60 3 [frV (.ofNat 20) (.ofNat 25)] mTab.next mTab isTrue = some () := by kernel_rfl
theorem e20_27  : Vit.runT (tabP 1000000) 60 3 [frV (.ofNat 20) (.ofNat 27)] mTab.next mTab isTrue = some () := by kernel_rfl
theorem e21_27  : Vit.runT (tabP 1000000) 60 3 [frV (.ofNat 21) (.ofNat 27)] mTab.next mTab isTrue = some () := by kernel_rfl
theorem e22_24  : Vit.runT (tabP 1000000) 60 3 [frV (.ofNat 22) (.ofNat 24)] mTab.next mTab isTrue = some () := by kernel_rfl
theorem e2_10  : Vit.runT (tabP 1000000) 60 3 [frV (.ofNat 2) (.ofNat 10)] mTab.next mTab isTrue = some () := by kernel_rfl
theorem e2_24  : Vit.runT (tabP 1000000) 60 3 [frV (.ofNat 2) (.ofNat 24)] mTab.next mTab isTrue = some () := by kernel_rfl
theorem e3_10  : Vit.runT (tabP 1000000) 60 3 [frV (.ofNat 3) (.ofNat 10)] mTab.next mTab isTrue = some () := by kernel_rfl
theorem e3_12  : Vit.runT (tabP 1000000) 60 3 [frV (.ofNat 3) (.ofNat 12)] mTab.next mTab isTrue = some () := by kernel_rfl
theorem e3_18  : Vit.runT (tabP 1000000) 60 3 [frV (.ofNat 3) (.ofNat 18)] mTab.next mTab isTrue = some () := by kernel_rfl
theorem e3_21  : Vit.runT (tabP 1000000) 60 3 [frV (.ofNat 3) (.ofNat 21)] mTab.next mTab isTrue = some () := by kernel_rfl
theorem e3_24  : Vit.runT (tabP 1000000) 60 3 [frV (.ofNat 3) (.ofNat 24)] mTab.next mTab isTrue = some () := by kernel_rfl
theorem e3_27  : Vit.runT (tabP 1000000) 60 3 [frV (.ofNat 3) (.ofNat 27)] mTab.next mTab isTrue = some () := by kernel_rfl
theorem e3_8  : Vit.runT (tabP 1000000) 60 3 [frV (.ofNat 3) (.ofNat 8)] mTab.next mTab isTrue = some () := by kernel_rfl
theorem e4_12  : Vit.runT (tabP 1000000) 60 3 [frV (.ofNat 4) (.ofNat 12)] mTab.next mTab isTrue = some () := by kernel_rfl
theorem e4_23  : Vit.runT (tabP 1000000) 60 3 [frV (.ofNat 4) (.ofNat 23)] mTab.next mTab isTrue = some () := by kernel_rfl
theorem e4_6  : Vit.runT (tabP 1000000) 60 3 [frV (.ofNat 4) (.ofNat 6)] mTab.next mTab isTrue = some () := by kernel_rfl
theorem e5_6  : Vit.runT (tabP 1000000) 60 3 [frV (.ofNat 5) (.ofNat 6)] mTab.next mTab isTrue = some () := by kernel_rfl
theorem e5_8  : Vit.runT (tabP 1000000) 60 3 [frV (.ofNat 5) (.ofNat 8)] mTab.next mTab isTrue = some () := by kernel_rfl
theorem e5_9  : Vit.runT (tabP 1000000) 60 3 [frV (.ofNat 5) (.ofNat 9)] mTab.next mTab isTrue = some () := by kernel_rfl
theorem e6_11  : Vit.runT (tabP 1000000) 60 3 [frV (.ofNat 6) (.ofNat 11)] mTab.next mTab isTrue = some () := by kernel_rfl
theorem e6_23  : Vit.runT (tabP 1000000) 60 3 [frV (.ofNat 6) (.ofNat 23)] mTab.next mTab isTrue = some () := by kernel_rfl
theorem e6_26  : Vit.runT (tabP 1000000) 60 3 [frV (.ofNat 6) (.ofNat 26)] mTab.next mTab isTrue = some () := by kernel_rfl
theorem e6_29  : Vit.runT (tabP 1000000) 60 3 [frV (.ofNat 6) (.ofNat 29)] mTab.next mTab isTrue = some () := by kernel_rfl
theorem e7_10  : Vit.runT (tabP 1000000) 60 3 [frV (.ofNat 7) (.ofNat 10)] mTab.next mTab isTrue = some () := by kernel_rfl
theorem e7_22  : Vit.runT (tabP 1000000) 60 3 [frV (.ofNat 7) (.ofNat 22)] mTab.next mTab isTrue = some () := by kernel_rfl
theorem e7_25  : Vit.runT (tabP 1000000) 60 3 [frV (.ofNat 7) (.ofNat 25)] mTab.next mTab isTrue = some () := by kernel_rfl
theorem e8_14  : Vit.runT (tabP 1000000) 60 3 [frV (.ofNat 8) (.ofNat 14)] mTab.next mTab isTrue = some () := by kernel_rfl
theorem e9_11  : Vit.runT (tabP 1000000) 60 3 [frV (.ofNat 9) (.ofNat 11)] mTab.next mTab isTrue = some () := by kernel_rfl
theorem e9_14  : Vit.runT (tabP 1000000) 60 3 [frV (.ofNat 9) (.ofNat 14)] mTab.next mTab isTrue = some () := by kernel_rfl
theorem e9_20  : Vit.runT (tabP 1000000) 60 3 [frV (.ofNat 9) (.ofNat 20)] mTab.next mTab isTrue = some () := by kernel_rfl
theorem e9_22  : Vit.runT (tabP 1000000) 60 3 [frV (.ofNat 9) (.ofNat 22)] mTab.next mTab isTrue = some () := by kernel_rfl
theorem e9_24  : Vit.runT (tabP 1000000) 60 3 [frV (.ofNat 9) (.ofNat 24)] mTab.next mTab isTrue = some () := by kernel_rfl
theorem e9_26  : Vit.runT (tabP 1000000) 60 3 [frV (.ofNat 9) (.ofNat 26)] mTab.next mTab isTrue = some () := by kernel_rfl
theorem g14 (a : Nat) : Vit.runT (tabP 1000000) 60 3 [frV (.ofNat (a + 14)) (.ofNat 14)] mTab.next mTab isTrue = some () := by kernel_rfl
theorem g22 (a : Nat) : Vit.runT (tabP 1000000) 60 3 [frV (.ofNat (a + 22)) (.ofNat 22)] mTab.next mTab isTrue = some () := by kernel_rfl
theorem g30 (a : Nat) : Vit.runT (tabP 1000000) 60 3 [frV (.ofNat (a + 30)) (.ofNat 30)] mTab.next mTab isTrue = some () := by kernel_rfl
theorem g4 (a : Nat) : Vit.runT (tabP 1000000) 60 3 [frV (.ofNat (a + 4)) (.ofNat 4)] mTab.next mTab isTrue = some () := by kernel_rfl
theorem g9 (a : Nat) : Vit.runT (tabP 1000000) 60 3 [frV (.ofNat (a + 9)) (.ofNat 9)] mTab.next mTab isTrue = some () := by kernel_rfl
theorem y0 (a : Nat) : Vit.runT (tabP 1000000) 60 3 [frV (.ofNat (a + 1)) (.ofNat 0)] mTab.next mTab isTrue = some () := by kernel_rfl
end Go.Proofs.YtcaoifacidnhcaaDoor.DutyFractions
