/- The runs of the law BondAny, reckoned case by case. -/
import Derived.Test.YticlkfhmmcepjaaDoorStart
import Derived.Test.YticlkfhmmcepjaaDoorTab
set_option maxRecDepth 1000000
namespace Go.Proofs.YticlkfhmmcepjaaDoor.BondAny
open Go Go.Vit Go.Proofs

theorem neg (a : Nat) (k : Int) : Vit.runT (tab 1000000) 60 4 [.int .i64 (.negSucc a), .int .i64 k] mTab.next mTab isTrue = some () := by kernel_rfl
theorem zero (k : Int) : Vit.runT (tab 1000000) 60 4 [.int .i64 (.ofNat 0), .int .i64 k] mTab.next mTab isTrue = some () := by kernel_rfl
theorem big (a : Nat) (k : Int) : Vit.runT (tab 1000000) 60 4 [.int .i64 (.ofNat (a + 7)), .int .i64 k] mTab.next mTab isTrue = some () := by kernel_rfl
theorem n1 (b : Nat) : Vit.runT (tab 1000000) 60 4 [.int .i64 (.ofNat 1), .int .i64 (.negSucc b)] mTab.next mTab isTrue = some () := by kernel_rfl
theorem b1 (b : Nat) : Vit.runT (tab 1000000) 60 4 [.int .i64 (.ofNat 1), .int .i64 (.ofNat (b + 2))] mTab.next mTab isTrue = some () := by kernel_rfl
theorem e1_0  : Vit.runT (tab 1000000) 60 4 [.int .i64 (.ofNat 1), .int .i64 (.ofNat 0)] mTab.next mTab isTrue = some () := by kernel_rfl
theorem e1_1  : Vit.runT (tab 1000000) 60 4 [.int .i64 (.ofNat 1), .int .i64 (.ofNat 1)] mTab.next mTab isTrue = some () := by kernel_rfl
theorem n2 (b : Nat) : Vit.runT (tab 1000000) 60 4 [.int .i64 (.ofNat 2), .int .i64 (.negSucc b)] mTab.next mTab isTrue = some () := by kernel_rfl
theorem b2 (b : Nat) : Vit.runT (tab 1000000) 60 4 [.int .i64 (.ofNat 2), .int .i64 (.ofNat (b + 3))] mTab.next mTab isTrue = some () := by kernel_rfl
theorem e2_0  : Vit.runT (tab 1000000) 60 4 [.int .i64 (.ofNat 2), .int .i64 (.ofNat 0)] mTab.next mTab isTrue = some () := by kernel_rfl
theorem e2_1  : Vit.runT (tab 1000000) 60 4 [.int .i64 (.ofNat 2), .int .i64 (.ofNat 1)] mTab.next mTab isTrue = some () := by kernel_rfl
theorem e2_2  : Vit.runT (tab 1000000) 60 4 [.int .i64 (.ofNat 2), .int .i64 (.ofNat 2)] mTab.next mTab isTrue = some () := by kernel_rfl
theorem n3 (b : Nat) : Vit.runT (tab 1000000) 60 4 [.int .i64 (.ofNat 3), .int .i64 (.negSucc b)] mTab.next mTab isTrue = some () := by kernel_rfl
theorem b3 (b : Nat) : Vit.runT (tab 1000000) 60 4 [.int .i64 (.ofNat 3), .int .i64 (.ofNat (b + 4))] mTab.next mTab isTrue = some () := by kernel_rfl
theorem e3_0  : Vit.runT (tab 1000000) 60 4 [.int .i64 (.ofNat 3), .int .i64 (.ofNat 0)] mTab.next mTab isTrue = some () := by kernel_rfl
theorem e3_1  : Vit.runT (tab 1000000) 60 4 [.int .i64 (.ofNat 3), .int .i64 (.ofNat 1)] mTab.next mTab isTrue = some () := by kernel_rfl
theorem e3_2  : Vit.runT (tab 1000000) 60 4 [.int .i64 (.ofNat 3), .int .i64 (.ofNat 2)] mTab.next mTab isTrue = some () := by kernel_rfl
theorem e3_3  : Vit.runT (tab 1000000) 60 4 [.int .i64 (.ofNat 3), .int .i64 (.ofNat 3)] mTab.next mTab isTrue = some () := by kernel_rfl
theorem n4 (b : Nat) : Vit.runT (tab 1000000) 60 4 [.int .i64 (.ofNat 4), .int .i64 (.negSucc b)] mTab.next mTab isTrue = some () := by kernel_rfl
theorem b4 (b : Nat) : Vit.runT (tab 1000000) 60 4 [.int .i64 (.ofNat 4), .int .i64 (.ofNat (b + 5))] mTab.next mTab isTrue = some () := by kernel_rfl
theorem e4_0  : Vit.runT (tab 1000000) 60 4 [.int .i64 (.ofNat 4), .int .i64 (.ofNat 0)] mTab.next mTab isTrue = some () := by kernel_rfl
theorem e4_1  : Vit.runT (tab 1000000) 60 4 [.int .i64 (.ofNat 4), .int .i64 (.ofNat 1)] mTab.next mTab isTrue = some () := by kernel_rfl
theorem e4_2  : Vit.runT (tab 1000000) 60 4 [.int .i64 (.ofNat 4), .int .i64 (.ofNat 2)] mTab.next mTab isTrue = some () := by kernel_rfl
theorem e4_3  : Vit.runT (tab 1000000) 60 4 [.int .i64 (.ofNat 4), .int .i64 (.ofNat 3)] mTab.next mTab isTrue = some () := by kernel_rfl
theorem e4_4  : Vit.runT (tab 1000000) 60 4 [.int .i64 (.ofNat 4), .int .i64 (.ofNat 4)] mTab.next mTab isTrue = some () := by kernel_rfl
theorem n5 (b : Nat) : Vit.runT (tab 1000000) 60 4 [.int .i64 (.ofNat 5), .int .i64 (.negSucc b)] mTab.next mTab isTrue = some () := by kernel_rfl
theorem b5 (b : Nat) : Vit.runT (tab 1000000) 60 4 [.int .i64 (.ofNat 5), .int .i64 (.ofNat (b + 6))] mTab.next mTab isTrue = some () := by kernel_rfl
theorem e5_0  : Vit.runT (tab 1000000) 60 4 [.int .i64 (.ofNat 5), .int .i64 (.ofNat 0)] mTab.next mTab isTrue = some () := by kernel_rfl
theorem e5_1  : Vit.runT (tab 1000000) 60 4 [.int .i64 (.ofNat 5), .int .i64 (.ofNat 1)] mTab.next mTab isTrue = some () := by kernel_rfl
theorem e5_2  : Vit.runT (tab 1000000) 60 4 [.int .i64 (.ofNat 5), .int .i64 (.ofNat 2)] mTab.next mTab isTrue = some () := by kernel_rfl
theorem e5_3  : Vit.runT (tab 1000000) 60 4 [.int .i64 (.ofNat 5), .int .i64 (.ofNat 3)] mTab.next mTab isTrue = some () := by kernel_rfl
theorem e5_4  : Vit.runT (tab 1000000) 60 4 [.int .i64 (.ofNat 5), .int .i64 (.ofNat 4)] mTab.next mTab isTrue = some () := by kernel_rfl
theorem e5_5  : Vit.runT (tab 1000000) 60 4 [.int .i64 (.ofNat 5), .int .i64 (.ofNat 5)] mTab.next mTab isTrue = some () := by kernel_rfl
theorem n6 (b : Nat) : Vit.runT (tab 1000000) 60 4 [.int .i64 (.ofNat 6), .int .i64 (.negSucc b)] mTab.next mTab isTrue = some () := by kernel_rfl
theorem b6 (b : Nat) : Vit.runT (tab 1000000) 60 4 [.int .i64 (.ofNat 6), .int .i64 (.ofNat (b + 7))] mTab.next mTab isTrue = some () := by kernel_rfl
theorem e6_0  : Vit.runT (tab 1000000) 60 4 [.int .i64 (.ofNat 6), .int .i64 (.ofNat 0)] mTab.next mTab isTrue = some () := by kernel_rfl
theorem e6_1  : Vit.runT (tab 1000000) 60 4 [.int .i64 (.ofNat 6), .int .i64 (.ofNat 1)] mTab.next mTab isTrue = some () := by kernel_rfl
theorem e6_2  : Vit.runT (tab 1000000) 60 4 [.int .i64 (.ofNat 6), .int .i64 (.ofNat 2)] mTab.next mTab isTrue = some () := by kernel_rfl
theorem e6_3  : Vit.runT (tab 1000000) 60 4 [.int .i64 (.ofNat 6), .int .i64 (.ofNat 3)] mTab.next mTab isTrue = some () := by kernel_rfl
theorem e6_4  : Vit.runT (tab 1000000) 60 4 [.int .i64 (.ofNat 6), .int .i64 (.ofNat 4)] mTab.next mTab isTrue = some () := by kernel_rfl
theorem e6_5  : Vit.runT (tab 1000000) 60 4 [.int .i64 (.ofNat 6), .int .i64 (.ofNat 5)] mTab.next mTab isTrue = some () := by kernel_rfl
theorem e6_6  : Vit.runT (tab 1000000) 60 4 [.int .i64 (.ofNat 6), .int .i64 (.ofNat 6)] mTab.next mTab isTrue = some () := by kernel_rfl
end Go.Proofs.YticlkfhmmcepjaaDoor.BondAny
