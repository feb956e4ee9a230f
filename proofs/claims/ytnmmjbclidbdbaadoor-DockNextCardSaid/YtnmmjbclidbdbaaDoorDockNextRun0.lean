/- The runs of the law DockNext, reckoned: 0. -/
import Derived.Test.YtnmmjbclidbdbaaDoorWorks
import Derived.Test.YtnmmjbclidbdbaaDoorCoreD
set_option maxRecDepth 1000000
namespace Go.Proofs.YtnmmjbclidbdbaaDoor.DockNext
open Go Go.Vit Go.Proofs
theorem r3_0 : ((List.range 256).all fun t => (List.range 4).all fun w => okU (Vit.runT (tabR 1000000) 60 7 [.int .u8 (.ofNat 3), .int .u8 (.ofNat (Nat.add 0 t)), .int .u8 (.ofNat w)] mTab.next mTab isTrue)) = true := by kernel_rfl
theorem r0_0 : ((List.range 256).all fun t => (List.range 1).all fun w => okU (Vit.runT (tabR 1000000) 60 7 [.int .u8 (.ofNat 0), .int .u8 (.ofNat (Nat.add 0 t)), .int .u8 (.ofNat w)] mTab.next mTab isTrue)) = true := by kernel_rfl
end Go.Proofs.YtnmmjbclidbdbaaDoor.DockNext
