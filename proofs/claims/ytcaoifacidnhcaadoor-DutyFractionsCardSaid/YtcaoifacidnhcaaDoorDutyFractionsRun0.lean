/- The runs of the law DutyFractions, reckoned case by case: 0. -/
import Derived.Test.YtcaoifacidnhcaaDoorTabP
set_option maxRecDepth 1000000
namespace Go.Proofs.YtcaoifacidnhcaaDoor.DutyFractions
open Go Go.Vit Go.Proofs
theorem e10_18  : Vit.runT (tabP 1000000) 60 3 [frV (.ofNat 10) (.ofNat 18)] mTab.next mTab isTrue = some () := by kernel_rfl
theorem e10_23  : Vit.runT (tabP 1000000) 60 3 [frV (.ofNat 10) (.ofNat 23)] mTab.next mTab isTrue = some () := by kernel_rfl
theorem e10_28  : Vit.runT (tabP 1000000) 60 3 [frV (.ofNat 10) (.ofNat 28)] mTab.next mTab isTrue = some () := by kernel_rfl
theorem e11_21  : Vit.runT (tabP 1000000) 60 3 [frV (.ofNat 11) (.ofNat 21)] mTab.next mTab isTrue = some () := by kernel_rfl
theorem e11_24  : Vit.runT (tabP 1000000) 60 3 [frV (.ofNat 11) (.ofNat 24)] mTab.next mTab isTrue = some () := by kernel_rfl
theorem e12_14  : Vit.runT (tabP 1000000) 60 3 [frV (.ofNat 12) (.ofNat 14)] mTab.next mTab isTrue = some () := by kernel_rfl
theorem e12_15  : Vit.runT (tabP 1000000) 60 3 [frV (.ofNat 12) (.ofNat 15)] mTab.next mTab isTrue = some () := by kernel_rfl
theorem e12_18  : Vit.runT (tabP 1000000) 60 3 [frV (.ofNat 12) (.ofNat 18)] mTab.next mTab isTrue = some () := by kernel_rfl
theorem e12_19  : Vit.runT (tabP 1000000) 60 3 [frV (.ofNat 12) (.ofNat 19)] mTab.next mTab isTrue = some () := by kernel_rfl
theorem e12_21  : Vit.runT (tabP 1000000) 60 3 [frV (.ofNat 12) (.ofNat 21)] mTab.next mTab isTrue = some () := by kernel_rfl
theorem e12_24  : Vit.runT (tabP 1000000) 60 3 [frV (.ofNat 12) (.ofNat 24)] mTab.next mTab isTrue = some () := by kernel_rfl
theorem e13_16  : Vit.runT (tabP 1000000) 60 3 [frV (.ofNat 13) (.ofNat 16)] mTab.next mTab isTrue = some () := by kernel_rfl
theorem e14_15  : Vit.runT (tabP 1000000) 60 3 [frV (.ofNat 14) (.ofNat 15)] mTab.next mTab isTrue = some () := by kernel_rfl
theorem e14_19  : Vit.runT (tabP 1000000) 60 3 [frV (.ofNat 14) (.ofNat 19)] mTab.next mTab isTrue = some () := by kernel_rfl
theorem e14_22  : Vit.runT (tabP 1000000) 60 3 [frV (.ofNat 14) (.ofNat 22)] mTab.next mTab isTrue = some () := by kernel_rfl
theorem e14_30  : Vit.runT (tabP 1000000) 60 3 [frV (.ofNat 14) (.ofNat 30)] mTab.next mTab isTrue = some () := by kernel_rfl
theorem e15_19  : Vit.runT (tabP 1000000) 60 3 [frV (.ofNat 15) (.ofNat 19)] mTab.next mTab isTrue = some () := by kernel_rfl
theorem e15_25  : Vit.runT (tabP 1000000) 60 3 [frV (.ofNat 15) (.ofNat 25)] mTab.next mTab isTrue = some () := by kernel_rfl
theorem e17_25  : Vit.runT (tabP 1000000) 60 3 [frV (.ofNat 17) (.ofNat 25)] mTab.next mTab isTrue = some () := by kernel_rfl
theorem e19_27  : Vit.runT (tabP 1000000) 60 3 [frV (.ofNat 19) (.ofNat 27)] mTab.next mTab isTrue = some () := by kernel_rfl
theorem e1_15  : Vit.runT (tabP 1000000) 60 3 [frV (.ofNat 1) (.ofNat 15)] mTab.next mTab isTrue = some () := by kernel_rfl
theorem e1_30  : Vit.runT (tabP 1000000) 60 3 [frV (.ofNat 1) (.ofNat 30)] mTab.next mTab isTrue = some () := by kernel_rfl
theorem e1_4  : Vit.runT (tabP 1000000) 60 3 [frV (.ofNat 1) (.ofNat 4)] mTab.next mTab isTrue = some () := by kernel_rfl
theorem e20_24  : Vit.runT (tabP 1000000) 60 3 [frV (.ofNat 20) (.ofNat 24)] mTab.next mTab isTrue = some () := by kernel_rfl
theorem e21_28  : Vit.runT (tabP 1000000) 60 3 [frV (.ofNat 21) (.ofNat 28)] mTab.next mTab isTrue = some () := by kernel_rfl
theorem e23_24  : Vit.runT (tabP 1000000) 60 3 [frV (.ofNat 23) (.ofNat 24)] mTab.next mTab isTrue = some () := by kernel_rfl
theorem e23_26  : Vit.runT (tabP 1000000) 60 3 [frV (.ofNat 23) (.ofNat 26)] mTab.next mTab isTrue = some () := by kernel_rfl
theorem e25_27  : Vit.runT (tabP 1000000) 60 3 [frV (.ofNat 25) (.ofNat 27)] mTab.next mTab isTrue = some () := by kernel_rfl
theorem e25_29  : Vit.runT (tabP 1000000) 60 3 [frV (.ofNat 25) (.ofNat 29)] mTab.next mTab isTrue = some () := by kernel_rfl
theorem e27_30  : Vit.runT (tabP 1000000) 60 3 [frV (.ofNat 27) (.ofNat 30)] mTab.next mTab isTrue = some () := by kernel_rfl
theorem e2_21  : Vit.runT (tabP 1000000) 60 3 [frV (.ofNat 2) (.ofNat 21)] mTab.next mTab isTrue = some () := by kernel_rfl
theorem e2_28  : Vit.runT (tabP 1000000) 60 3 [frV (.ofNat 2) (.ofNat 28)] mTab.next mTab isTrue = some () := by kernel_rfl
theorem e3_17  : Vit.runT (tabP 1000000) 60 3 [frV (.ofNat 3) (.ofNat 17)] mTab.next mTab isTrue = some () := by kernel_rfl
theorem e3_30  : Vit.runT (tabP 1000000) 60 3 [frV (.ofNat 3) (.ofNat 30)] mTab.next mTab isTrue = some () := by kernel_rfl
theorem e3_4  : Vit.runT (tabP 1000000) 60 3 [frV (.ofNat 3) (.ofNat 4)] mTab.next mTab isTrue = some () := by kernel_rfl
theorem e4_11  : Vit.runT (tabP 1000000) 60 3 [frV (.ofNat 4) (.ofNat 11)] mTab.next mTab isTrue = some () := by kernel_rfl
theorem e4_13  : Vit.runT (tabP 1000000) 60 3 [frV (.ofNat 4) (.ofNat 13)] mTab.next mTab isTrue = some () := by kernel_rfl
theorem e4_21  : Vit.runT (tabP 1000000) 60 3 [frV (.ofNat 4) (.ofNat 21)] mTab.next mTab isTrue = some () := by kernel_rfl
theorem e4_24  : Vit.runT (tabP 1000000) 60 3 [frV (.ofNat 4) (.ofNat 24)] mTab.next mTab isTrue = some () := by kernel_rfl
theorem e4_28  : Vit.runT (tabP 1000000) 60 3 [frV (.ofNat 4) (.ofNat 28)] mTab.next mTab isTrue = some () := by kernel_rfl
theorem e4_30  : Vit.runT (tabP 1000000) 60 3 [frV (.ofNat 4) (.ofNat 30)] mTab.next mTab isTrue = some () := by kernel_rfl
theorem e6_10  : Vit.runT (tabP 1000000) 60 3 [frV (.ofNat 6) (.ofNat 10)] mTab.next mTab isTrue = some () := by kernel_rfl
theorem e6_12  : Vit.runT (tabP 1000000) 60 3 [frV (.ofNat 6) (.ofNat 12)] mTab.next mTab isTrue = some () := by kernel_rfl
theorem e6_15  : Vit.runT (tabP 1000000) 60 3 [frV (.ofNat 6) (.ofNat 15)] mTab.next mTab isTrue = some () := by kernel_rfl
theorem e6_28  : Vit.runT (tabP 1000000) 60 3 [frV (.ofNat 6) (.ofNat 28)] mTab.next mTab isTrue = some () := by kernel_rfl
theorem e7_18  : Vit.runT (tabP 1000000) 60 3 [frV (.ofNat 7) (.ofNat 18)] mTab.next mTab isTrue = some () := by kernel_rfl
theorem e7_28  : Vit.runT (tabP 1000000) 60 3 [frV (.ofNat 7) (.ofNat 28)] mTab.next mTab isTrue = some () := by kernel_rfl
theorem e7_30  : Vit.runT (tabP 1000000) 60 3 [frV (.ofNat 7) (.ofNat 30)] mTab.next mTab isTrue = some () := by kernel_rfl
theorem e8_15  : Vit.runT (tabP 1000000) 60 3 [frV (.ofNat 8) (.ofNat 15)] mTab.next mTab isTrue = some () := by kernel_rfl
theorem e8_19  : Vit.runT (tabP 1000000) 60 3 [frV (.ofNat 8) (.ofNat 19)] mTab.next mTab isTrue = some () := by kernel_rfl
theorem e8_26  : Vit.runT (tabP 1000000) 60 3 [frV (.ofNat 8) (.ofNat 26)] mTab.next mTab isTrue = some () := by kernel_rfl
theorem e8_28  : Vit.runT (tabP 1000000) 60 3 [frV (.ofNat 8) (.ofNat 28)] mTab.next mTab isTrue = some () := by kernel_rfl
theorem e9_13  : Vit.runT (tabP 1000000) 60 3 [frV (.ofNat 9) (.ofNat 13)] mTab.next mTab isTrue = some () := by kernel_rfl
theorem e9_27  : Vit.runT (tabP 1000000) 60 3 [frV (.ofNat 9) (.ofNat 27)] mTab.next mTab isTrue = some () := by kernel_rfl
theorem g1 (a : Nat) : Vit.runT (tabP 1000000) 60 3 [frV (.ofNat (a + 1)) (.ofNat 1)] mTab.next mTab isTrue = some () := by kernel_rfl
theorem g11 (a : Nat) : Vit.runT (tabP 1000000) 60 3 [frV (.ofNat (a + 11)) (.ofNat 11)] mTab.next mTab isTrue = some () := by kernel_rfl
theorem g19 (a : Nat) : Vit.runT (tabP 1000000) 60 3 [frV (.ofNat (a + 19)) (.ofNat 19)] mTab.next mTab isTrue = some () := by kernel_rfl
theorem g27 (a : Nat) : Vit.runT (tabP 1000000) 60 3 [frV (.ofNat (a + 27)) (.ofNat 27)] mTab.next mTab isTrue = some () := by kernel_rfl
theorem g6 (a : Nat) : Vit.runT (tabP 1000000) 60 3 [frV (.ofNat (a + 6)) (.ofNat 6)] mTab.next mTab isTrue = some () := by kernel_rfl
theorem xn (a : Nat) (b : Int) : Vit.runT (tabP 1000000) 60 3 [frV (.negSucc a) b] mTab.next mTab isTrue = some () := by kernel_rfl
end Go.Proofs.YtcaoifacidnhcaaDoor.DutyFractions
