/- The runs of the law DockNext, reckoned: 7. -/
import Derived.Test.YtnmmjbclidbdbaaDoorWorks
import Derived.Test.YtnmmjbclidbdbaaDoorCoreD
set_option maxRecDepth 1000000
namespace Go.Proofs.YtnmmjbclidbdbaaDoor.DockNext
open Go Go.Vit Go.Proofs
theorem r4_0 : ((List.range 128).all fun t => (List.range 5).all fun w => okU (Vit.runT (tabR 1000000) 60 7 [.int .u8 (.ofNat 4), .int .u8 (.ofNat (Nat.add 0 t)), .int .u8 (.ofNat w)] mTab.next mTab isTrue)) = true := by kernel_rfl
theorem r4_128 : ((List.range 128).all fun t => (List.range 5).all fun w => okU (Vit.runT (tabR 1000000) 60 7 [.int .u8 (.ofNat 4), .int .u8 (.ofNat (Nat.add 128 t)), .int .u8 (.ofNat w)] mTab.next mTab isTrue)) = true := by kernel_rfl
end Go.Proofs.YtnmmjbclidbdbaaDoor.DockNext
