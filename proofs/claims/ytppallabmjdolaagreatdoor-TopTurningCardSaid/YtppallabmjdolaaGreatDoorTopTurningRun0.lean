/- The runs of the law TopTurning, reckoned: 0. -/
import Derived.Test.YtppallabmjdolaaGreatDoorWorks
import Derived.Test.YtppallabmjdolaaGreatDoorCoreD
set_option maxRecDepth 1000000
namespace Go.Proofs.YtppallabmjdolaaGreatDoor.TopTurning
open Go Go.Vit Go.Proofs
theorem r0_0 : ((List.range 1).all fun t => okU (Vit.runT (tabR 1000000) 200 8 [.int .u8 (.ofNat 0), .int .u16 (.ofNat (Nat.add 0 t))] mTab.next mTab isTrue)) = true := by kernel_rfl
theorem r1_0 : ((List.range 1).all fun t => okU (Vit.runT (tabR 1000000) 200 8 [.int .u8 (.ofNat 1), .int .u16 (.ofNat (Nat.add 0 t))] mTab.next mTab isTrue)) = true := by kernel_rfl
theorem r2_0 : ((List.range 2).all fun t => okU (Vit.runT (tabR 1000000) 200 8 [.int .u8 (.ofNat 2), .int .u16 (.ofNat (Nat.add 0 t))] mTab.next mTab isTrue)) = true := by kernel_rfl
theorem r3_0 : ((List.range 5).all fun t => okU (Vit.runT (tabR 1000000) 200 8 [.int .u8 (.ofNat 3), .int .u16 (.ofNat (Nat.add 0 t))] mTab.next mTab isTrue)) = true := by kernel_rfl
theorem r4_0 : ((List.range 16).all fun t => okU (Vit.runT (tabR 1000000) 200 8 [.int .u8 (.ofNat 4), .int .u16 (.ofNat (Nat.add 0 t))] mTab.next mTab isTrue)) = true := by kernel_rfl
end Go.Proofs.YtppallabmjdolaaGreatDoor.TopTurning
