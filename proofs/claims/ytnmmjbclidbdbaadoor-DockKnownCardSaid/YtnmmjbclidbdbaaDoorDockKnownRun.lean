/- The run of the law DockKnown. -/
import Derived.Test.YtnmmjbclidbdbaaDoorWorks
set_option maxRecDepth 1000000
namespace Go.Vit
open Go Go.Proofs
theorem dockKnown_run : runT (tabR 1000000) 200 8 [] mTab.next mTab isTrue = some () := by kernel_rfl
end Go.Vit
