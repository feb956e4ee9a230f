/- The runs of the law DockNext, reckoned: 6. -/
import Derived.Test.YtnmmjbclidbdbaaDoorWorks
import Derived.Test.YtnmmjbclidbdbaaDoorCoreD
set_option maxRecDepth 1000000
namespace Go.Proofs.YtnmmjbclidbdbaaDoor.DockNext
open Go Go.Vit Go.Proofs
theorem r7_192 : ((List.range 64).all fun t => (List.range 8).all fun w => okU (Vit.runT (tabR 1000000) 60 7 [.int .u8 (.ofNat 7), .int .u8 (.ofNat (Nat.add 192 t)), .int .u8 (.ofNat w)] mTab.next mTab isTrue)) = true := by kernel_rfl
theorem r6_128 : ((List.range 64).all fun t => (List.range 7).all fun w => okU (Vit.runT (tabR 1000000) 60 7 [.int .u8 (.ofNat 6), .int .u8 (.ofNat (Nat.add 128 t)), .int .u8 (.ofNat w)] mTab.next mTab isTrue)) = true := by kernel_rfl
end Go.Proofs.YtnmmjbclidbdbaaDoor.DockNext
