/- The runs of the law DockNext, reckoned: 2. -/
import Derived.Test.YtnmmjbclidbdbaaDoorWorks
import Derived.Test.YtnmmjbclidbdbaaDoorCoreD
set_option maxRecDepth 1000000
namespace Go.Proofs.YtnmmjbclidbdbaaDoor.DockNext
open Go Go.Vit Go.Proofs
theorem r5_128 : ((List.range 128).all fun t => (List.range 6).all fun w => okU (Vit.runT (tabR 1000000) 60 7 [.int .u8 (.ofNat 5), .int .u8 (.ofNat (Nat.add 128 t)), .int .u8 (.ofNat w)] mTab.next mTab isTrue)) = true := by kernel_rfl
theorem r1_0 : ((List.range 256).all fun t => (List.range 2).all fun w => okU (Vit.runT (tabR 1000000) 60 7 [.int .u8 (.ofNat 1), .int .u8 (.ofNat (Nat.add 0 t)), .int .u8 (.ofNat w)] mTab.next mTab isTrue)) = true := by kernel_rfl
end Go.Proofs.YtnmmjbclidbdbaaDoor.DockNext
