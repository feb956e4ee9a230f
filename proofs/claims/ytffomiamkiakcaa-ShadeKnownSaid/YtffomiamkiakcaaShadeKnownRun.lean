/- The run of the law ShadeKnown. -/
import Derived.Test.YtffomiamkiakcaaWorks
set_option maxRecDepth 1000000
namespace Go.Vit
open Go Go.Proofs
theorem shadeKnown_run : runT (tabR 1000000) 200 9 [] mTab.next mTab isTrue = some () := by kernel_rfl
end Go.Vit
