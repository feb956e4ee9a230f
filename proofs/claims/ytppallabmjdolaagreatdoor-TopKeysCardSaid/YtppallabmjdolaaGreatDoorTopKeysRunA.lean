/- Joined: TopKeysRun0x0 TopKeysRun1x0 TopKeysRun1x1 TopKeysRun2x0 TopKeysRun2x1 TopKeysRun2x2 TopKeysRun3x0 TopKeysRun3x1 TopKeysRun3x2 TopKeysRun3x3. -/
import Derived.Test.YtppallabmjdolaaGreatDoorWorksB
import Derived.Test.YtppallabmjdolaaGreatDoorCoreD
set_option linter.unusedSimpArgs false
set_option linter.unusedVariables false
set_option maxRecDepth 20000
/- A run of the law TopKeys, reckoned: 0, 0. -/
namespace Go.Proofs.YtppallabmjdolaaGreatDoor.TopKeys
open Go Go.Vit Go.Proofs
theorem t0_0 : okU (Vit.runT (tabM 1000000) 200 3 [.int .u8 (.ofNat 0), .int .u8 (.ofNat 0)] mTab.next mTab isTrue) = true := by kernel_rfl
end Go.Proofs.YtppallabmjdolaaGreatDoor.TopKeys

/- A run of the law TopKeys, reckoned: 1, 0. -/
namespace Go.Proofs.YtppallabmjdolaaGreatDoor.TopKeys
open Go Go.Vit Go.Proofs
theorem t1_0 : okU (Vit.runT (tabM 1000000) 200 3 [.int .u8 (.ofNat 1), .int .u8 (.ofNat 0)] mTab.next mTab isTrue) = true := by kernel_rfl
end Go.Proofs.YtppallabmjdolaaGreatDoor.TopKeys

/- A run of the law TopKeys, reckoned: 1, 1. -/
namespace Go.Proofs.YtppallabmjdolaaGreatDoor.TopKeys
open Go Go.Vit Go.Proofs
theorem t1_1 : okU (Vit.runT (tabM 1000000) 200 3 [.int .u8 (.ofNat 1), .int .u8 (.ofNat 1)] mTab.next mTab isTrue) = true := by kernel_rfl
end Go.Proofs.YtppallabmjdolaaGreatDoor.TopKeys

/- A run of the law TopKeys, reckoned: 2, 0. -/
namespace Go.Proofs.YtppallabmjdolaaGreatDoor.TopKeys
open Go Go.Vit Go.Proofs
theorem t2_0 : okU (Vit.runT (tabM 1000000) 200 3 [.int .u8 (.ofNat 2), .int .u8 (.ofNat 0)] mTab.next mTab isTrue) = true := by kernel_rfl
end Go.Proofs.YtppallabmjdolaaGreatDoor.TopKeys

/- A run of the law TopKeys, reckoned: 2, 1. -/
namespace Go.Proofs.YtppallabmjdolaaGreatDoor.TopKeys
open Go Go.Vit Go.Proofs
theorem t2_1 : okU (Vit.runT (tabM 1000000) 200 3 [.int .u8 (.ofNat 2), .int .u8 (.ofNat 1)] mTab.next mTab isTrue) = true := by kernel_rfl
end Go.Proofs.YtppallabmjdolaaGreatDoor.TopKeys

/- A run of the law TopKeys, reckoned: 2, 2. -/
namespace Go.Proofs.YtppallabmjdolaaGreatDoor.TopKeys
open Go Go.Vit Go.Proofs
theorem t2_2 : okU (Vit.runT (tabM 1000000) 200 3 [.int .u8 (.ofNat 2), .int .u8 (.ofNat 2)] mTab.next mTab isTrue) = true := by kernel_rfl
end Go.Proofs.YtppallabmjdolaaGreatDoor.TopKeys

/- A run of the law TopKeys, reckoned: 3, 0. -/
namespace Go.Proofs.YtppallabmjdolaaGreatDoor.TopKeys
open Go Go.Vit Go.Proofs
theorem t3_0 : okU (Vit.runT (tabM 1000000) 200 3 [.int .u8 (.ofNat 3), .int .u8 (.ofNat 0)] mTab.next mTab isTrue) = true := by kernel_rfl
end Go.Proofs.YtppallabmjdolaaGreatDoor.TopKeys

/- A run of the law TopKeys, reckoned: 3, 1. -/
namespace Go.Proofs.YtppallabmjdolaaGreatDoor.TopKeys
open Go Go.Vit Go.Proofs
theorem t3_1 : okU (Vit.runT (tabM 1000000) 200 3 [.int .u8 (.ofNat 3), .int .u8 (.ofNat 1)] mTab.next mTab isTrue) = true := by kernel_rfl
end Go.Proofs.YtppallabmjdolaaGreatDoor.TopKeys

/- A run of the law TopKeys, reckoned: 3, 2. -/
namespace Go.Proofs.YtppallabmjdolaaGreatDoor.TopKeys
open Go Go.Vit Go.Proofs
theorem t3_2 : okU (Vit.runT (tabM 1000000) 200 3 [.int .u8 (.ofNat 3), .int .u8 (.ofNat 2)] mTab.next mTab isTrue) = true := by kernel_rfl
end Go.Proofs.YtppallabmjdolaaGreatDoor.TopKeys

/- A run of the law TopKeys, reckoned: 3, 3. -/
namespace Go.Proofs.YtppallabmjdolaaGreatDoor.TopKeys
open Go Go.Vit Go.Proofs
theorem t3_3 : okU (Vit.runT (tabM 1000000) 200 3 [.int .u8 (.ofNat 3), .int .u8 (.ofNat 3)] mTab.next mTab isTrue) = true := by kernel_rfl
end Go.Proofs.YtppallabmjdolaaGreatDoor.TopKeys

