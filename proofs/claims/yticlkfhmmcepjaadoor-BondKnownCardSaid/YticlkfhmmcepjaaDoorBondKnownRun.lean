/- The run of the law BondKnown, reckoned. -/
import Derived.Test.YticlkfhmmcepjaaDoorStart
set_option maxRecDepth 1000000
namespace Go.Proofs.YticlkfhmmcepjaaDoor.BondKnown
open Go Go.Vit Go.Proofs

theorem run : says (callN Tryd.prog 2 KK 10000 60 11 [] mTab.next mTab) = true := by kernel_rfl

end Go.Proofs.YticlkfhmmcepjaaDoor.BondKnown
