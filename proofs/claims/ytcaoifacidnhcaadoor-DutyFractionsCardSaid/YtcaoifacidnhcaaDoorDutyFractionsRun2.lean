/- The runs of the law DutyFractions, reckoned case by case: 2. -/
import Derived.Test.YtcaoifacidnhcaaDoorTabP
set_option maxRecDepth 1000000
namespace Go.Proofs.YtcaoifacidnhcaaDoor.DutyFractions
open Go Go.Vit Go.Proofs
theorem e10_16  : Vit.runT (tabP 1000000) 60 3 [frV (.ofNat 10) (.ofNat 16)] mTab.next mTab isTrue = some () := by kernel_rfl
theorem e10_17  : Vit.runT (tabP 1000000) 60 3 [frV (.ofNat 10) (.ofNat 17)] mTab.next mTab isTrue = some () := by kernel_rfl
theorem e10_22  : Vit.runT (tabP 1000000) 60 3 [frV (.ofNat 10) (.ofNat 22)] mTab.next mTab isTrue = some () := by kernel_rfl
theorem e10_25  : Vit.runT (tabP 1000000) 60 3 [frV (.ofNat 10) (.ofNat 25)] mTab.next mTab isTrue = some () := by kernel_rfl
theorem e10_30  : Vit.runT (tabP 1000000) 60 3 [frV (.ofNat 10) (.ofNat 30)] mTab.next mTab isTrue = some () := by kernel_rfl
theorem e11_17  : Vit.runT (tabP 1000000) 60 3 [frV (.ofNat 11) (.ofNat 17)] mTab.next mTab isTrue = some () := by kernel_rfl
theorem e12_13  : Vit.runT (tabP 1000000) 60 3 [frV (.ofNat 12) (.ofNat 13)] mTab.next mTab isTrue = some () := by kernel_rfl
theorem e13_17  : Vit.runT (tabP 1000000) 60 3 [frV (.ofNat 13) (.ofNat 17)] mTab.next mTab isTrue = some () := by kernel_rfl
theorem e14_17  : Vit.runT (tabP 1000000) 60 3 [frV (.ofNat 14) (.ofNat 17)] mTab.next mTab isTrue = some () := by kernel_rfl
theorem e14_21  : Vit.runT (tabP 1000000) 60 3 [frV (.ofNat 14) (.ofNat 21)] mTab.next mTab isTrue = some () := by kernel_rfl
theorem e14_23  : Vit.runT (tabP 1000000) 60 3 [frV (.ofNat 14) (.ofNat 23)] mTab.next mTab isTrue = some () := by kernel_rfl
theorem e15_20  : Vit.runT (tabP 1000000) 60 3 [frV (.ofNat 15) (.ofNat 20)] mTab.next mTab isTrue = some () := by kernel_rfl
theorem e15_21  : Vit.runT (tabP 1000000) 60 3 [frV (.ofNat 15) (.ofNat 21)] mTab.next mTab isTrue = some () := by kernel_rfl
theorem e15_26  : Vit.runT (tabP 1000000) 60 3 [frV (.ofNat 15) (.ofNat 26)] mTab.next mTab isTrue = some () := by kernel_rfl
theorem e15_27  : Vit.runT (tabP 1000000) 60 3 [frV (.ofNat 15) (.ofNat 27)] mTab.next mTab isTrue = some () := by kernel_rfl
theorem e15_28  : Vit.runT (tabP 1000000) 60 3 [frV (.ofNat 15) (.ofNat 28)] mTab.next mTab isTrue = some () := by kernel_rfl
theorem e15_29  : Vit.runT (tabP 1000000) 60 3 [frV (.ofNat 15) (.ofNat 29)] mTab.next mTab isTrue = some () := by kernel_rfl
theorem e16_22  : Vit.runT (tabP 1000000) 60 3 [frV (.ofNat 16) (.ofNat 22)] mTab.next mTab isTrue = some () := by kernel_rfl
theorem e16_23  : Vit.runT (tabP 1000000) 60 3 [frV (.ofNat 16) (.ofNat 23)] mTab.next mTab isTrue = some () := by kernel_rfl
theorem e17_22  : Vit.runT (tabP 1000000) 60 3 [frV (.ofNat 17) (.ofNat 22)] mTab.next mTab isTrue = some () := by kernel_rfl
theorem e18_20  : Vit.runT (tabP 1000000) 60 3 [frV (.ofNat 18) (.ofNat 20)] mTab.next mTab isTrue = some () := by kernel_rfl
theorem e19_23  : Vit.runT (tabP 1000000) 60 3 [frV (.ofNat 19) (.ofNat 23)] mTab.next mTab isTrue = some () := by kernel_rfl
theorem e1_11  : Vit.runT (tabP 1000000) 60 3 [frV (.ofNat 1) (.ofNat 11)] mTab.next mTab isTrue = some () := by kernel_rfl
theorem e1_17  : Vit.runT (tabP 1000000) 60 3 [frV (.ofNat 1) (.ofNat 17)] mTab.next mTab isTrue = some () := by kernel_rfl
theorem e1_28  : Vit.runT (tabP 1000000) 60 3 [frV (.ofNat 1) (.ofNat 28)] mTab.next mTab isTrue = some () := by kernel_rfl
theorem e1_3  : Vit.runT (tabP 1000000) 60 3 [frV (.ofNat 1) (.ofNat 3)] mTab.next mTab isTrue = some () := by kernel_rfl
theorem e24_25  : Vit.runT (tabP 1000000) 60 3 [frV (.ofNat 24) (.ofNat 25)] mTab.next mTab isTrue = some () := by kernel_rfl
theorem e24_28  : Vit.runT (tabP 1000000) 60 3 [frV (.ofNat 24) (.ofNat 28)] mTab.next mTab isTrue = some () := by kernel_rfl
theorem e24_30  : Vit.runT (tabP 1000000) 60 3 [frV (.ofNat 24) (.ofNat 30)] mTab.next mTab isTrue = some () := by kernel_rfl
theorem e25_28  : Vit.runT (tabP 1000000) 60 3 [frV (.ofNat 25) (.ofNat 28)] mTab.next mTab isTrue = some () := by kernel_rfl
theorem e27_29  : Vit.runT (tabP 1000000) 60 3 [frV (.ofNat 27) (.ofNat 29)] mTab.next mTab isTrue = some () := by kernel_rfl
theorem e2_12  : Vit.runT (tabP 1000000) 60 3 [frV (.ofNat 2) (.ofNat 12)] mTab.next mTab isTrue = some () := by kernel_rfl
theorem e2_15  : Vit.runT (tabP 1000000) 60 3 [frV (.ofNat 2) (.ofNat 15)] mTab.next mTab isTrue = some () := by kernel_rfl
theorem e2_27  : Vit.runT (tabP 1000000) 60 3 [frV (.ofNat 2) (.ofNat 27)] mTab.next mTab isTrue = some () := by kernel_rfl
theorem e2_3  : Vit.runT (tabP 1000000) 60 3 [frV (.ofNat 2) (.ofNat 3)] mTab.next mTab isTrue = some () := by kernel_rfl
theorem e2_4  : Vit.runT (tabP 1000000) 60 3 [frV (.ofNat 2) (.ofNat 4)] mTab.next mTab isTrue = some () := by kernel_rfl
theorem e2_6  : Vit.runT (tabP 1000000) 60 3 [frV (.ofNat 2) (.ofNat 6)] mTab.next mTab isTrue = some () := by kernel_rfl
theorem e3_22  : Vit.runT (tabP 1000000) 60 3 [frV (.ofNat 3) (.ofNat 22)] mTab.next mTab isTrue = some () := by kernel_rfl
theorem e3_29  : Vit.runT (tabP 1000000) 60 3 [frV (.ofNat 3) (.ofNat 29)] mTab.next mTab isTrue = some () := by kernel_rfl
theorem e3_7  : Vit.runT (tabP 1000000) 60 3 [frV (.ofNat 3) (.ofNat 7)] mTab.next mTab isTrue = some () := by kernel_rfl
theorem e4_16  : Vit.runT (tabP 1000000) 60 3 [frV (.ofNat 4) (.ofNat 16)] mTab.next mTab isTrue = some () := by kernel_rfl
theorem e4_19  : Vit.runT (tabP 1000000) 60 3 [frV (.ofNat 4) (.ofNat 19)] mTab.next mTab isTrue = some () := by kernel_rfl
theorem e4_20  : Vit.runT (tabP 1000000) 60 3 [frV (.ofNat 4) (.ofNat 20)] mTab.next mTab isTrue = some () := by kernel_rfl
theorem e5_13  : Vit.runT (tabP 1000000) 60 3 [frV (.ofNat 5) (.ofNat 13)] mTab.next mTab isTrue = some () := by kernel_rfl
theorem e5_18  : Vit.runT (tabP 1000000) 60 3 [frV (.ofNat 5) (.ofNat 18)] mTab.next mTab isTrue = some () := by kernel_rfl
theorem e5_19  : Vit.runT (tabP 1000000) 60 3 [frV (.ofNat 5) (.ofNat 19)] mTab.next mTab isTrue = some () := by kernel_rfl
theorem e5_22  : Vit.runT (tabP 1000000) 60 3 [frV (.ofNat 5) (.ofNat 22)] mTab.next mTab isTrue = some () := by kernel_rfl
theorem e5_29  : Vit.runT (tabP 1000000) 60 3 [frV (.ofNat 5) (.ofNat 29)] mTab.next mTab isTrue = some () := by kernel_rfl
theorem e6_7  : Vit.runT (tabP 1000000) 60 3 [frV (.ofNat 6) (.ofNat 7)] mTab.next mTab isTrue = some () := by kernel_rfl
theorem e7_19  : Vit.runT (tabP 1000000) 60 3 [frV (.ofNat 7) (.ofNat 19)] mTab.next mTab isTrue = some () := by kernel_rfl
theorem e8_16  : Vit.runT (tabP 1000000) 60 3 [frV (.ofNat 8) (.ofNat 16)] mTab.next mTab isTrue = some () := by kernel_rfl
theorem e9_19  : Vit.runT (tabP 1000000) 60 3 [frV (.ofNat 9) (.ofNat 19)] mTab.next mTab isTrue = some () := by kernel_rfl
theorem e9_21  : Vit.runT (tabP 1000000) 60 3 [frV (.ofNat 9) (.ofNat 21)] mTab.next mTab isTrue = some () := by kernel_rfl
theorem e9_30  : Vit.runT (tabP 1000000) 60 3 [frV (.ofNat 9) (.ofNat 30)] mTab.next mTab isTrue = some () := by kernel_rfl
theorem g13 (a : Nat) : Vit.runT (tabP 1000000) 60 3 [frV (.ofNat (a + 13)) (.ofNat 13)] mTab.next mTab isTrue = some () := by kernel_rfl
theorem g21 (a : Nat) : Vit.runT (tabP 1000000) 60 3 [frV (.ofNat (a + 21)) (.ofNat 21)] mTab.next mTab isTrue = some () := by kernel_rfl
theorem g29 (a : Nat) : Vit.runT (tabP 1000000) 60 3 [frV (.ofNat (a + 29)) (.ofNat 29)] mTab.next mTab isTrue = some () := by kernel_rfl
theorem g3 (a : Nat) : Vit.runT (tabP 1000000) 60 3 [frV (.ofNat (a + 3)) (.ofNat 3)] mTab.next mTab isTrue = some () := by kernel_rfl
theorem g8 (a : Nat) : Vit.runT (tabP 1000000) 60 3 [frV (.ofNat (a + 8)) (.ofNat 8)] mTab.next mTab isTrue = some () := by kernel_rfl
theorem yn (a b : Nat) : Vit.runT (tabP 1000000) 60 3 [frV (.ofNat (a + 1)) (.negSucc b)] mTab.next mTab isTrue = some () := by kernel_rfl
end Go.Proofs.YtcaoifacidnhcaaDoor.DutyFractions
