/- Joined: TopReachedRun0x0 TopReachedRun0x1 TopReachedRun0x2 TopReachedRun1x0 TopReachedRun1x1 TopReachedRun2x0. -/
import Derived.Test.YtppallabmjdolaaGreatDoorWorksB
import Derived.Test.YtppallabmjdolaaGreatDoorCoreD
set_option linter.unusedSimpArgs false
set_option linter.unusedVariables false
set_option maxRecDepth 20000
/- A run of the law TopReached, reckoned: 0, 0. -/
namespace Go.Proofs.YtppallabmjdolaaGreatDoor.TopReached
open Go Go.Vit Go.Proofs
theorem t0_0 : okU (Vit.runT (tabM 1000000) 200 6 [.int .u8 (.ofNat 0), .int .u8 (.ofNat 0)] mTab.next mTab isTrue) = true := by kernel_rfl
end Go.Proofs.YtppallabmjdolaaGreatDoor.TopReached

/- A run of the law TopReached, reckoned: 0, 1. -/
namespace Go.Proofs.YtppallabmjdolaaGreatDoor.TopReached
open Go Go.Vit Go.Proofs
theorem t0_1 : okU (Vit.runT (tabM 1000000) 200 6 [.int .u8 (.ofNat 0), .int .u8 (.ofNat 1)] mTab.next mTab isTrue) = true := by kernel_rfl
end Go.Proofs.YtppallabmjdolaaGreatDoor.TopReached

/- A run of the law TopReached, reckoned: 0, 2. -/
namespace Go.Proofs.YtppallabmjdolaaGreatDoor.TopReached
open Go Go.Vit Go.Proofs
theorem t0_2 : okU (Vit.runT (tabM 1000000) 200 6 [.int .u8 (.ofNat 0), .int .u8 (.ofNat 2)] mTab.next mTab isTrue) = true := by kernel_rfl
end Go.Proofs.YtppallabmjdolaaGreatDoor.TopReached

/- A run of the law TopReached, reckoned: 1, 0. -/
namespace Go.Proofs.YtppallabmjdolaaGreatDoor.TopReached
open Go Go.Vit Go.Proofs
theorem t1_0 : okU (Vit.runT (tabM 1000000) 200 6 [.int .u8 (.ofNat 1), .int .u8 (.ofNat 0)] mTab.next mTab isTrue) = true := by kernel_rfl
end Go.Proofs.YtppallabmjdolaaGreatDoor.TopReached

/- A run of the law TopReached, reckoned: 1, 1. -/
namespace Go.Proofs.YtppallabmjdolaaGreatDoor.TopReached
open Go Go.Vit Go.Proofs
theorem t1_1 : okU (Vit.runT (tabM 1000000) 200 6 [.int .u8 (.ofNat 1), .int .u8 (.ofNat 1)] mTab.next mTab isTrue) = true := by kernel_rfl
end Go.Proofs.YtppallabmjdolaaGreatDoor.TopReached

/- A run of the law TopReached, reckoned: 2, 0. -/
namespace Go.Proofs.YtppallabmjdolaaGreatDoor.TopReached
open Go Go.Vit Go.Proofs
theorem t2_0 : okU (Vit.runT (tabM 1000000) 200 6 [.int .u8 (.ofNat 2), .int .u8 (.ofNat 0)] mTab.next mTab isTrue) = true := by kernel_rfl
end Go.Proofs.YtppallabmjdolaaGreatDoor.TopReached

