/- The chapter's examples, reckoned; what holds of the table's calls. -/
import Derived.Test.YtcaoifacidnhcaaDoorTab
import Derived.Test.YtcaoifacidnhcaaDoorSortHere
set_option maxRecDepth 1000000
namespace Go.Vit
open Go Go.Proofs
theorem works_run : runT (tabW (β := Unit) 1000000) 60 27 [] mTab.next mTab isTrue = some () := by kernel_rfl
theorem calls_ok {R : Nat} {B : World} : CallOk Tryd.prog 1 R B (closedC mTab 27 (sortC 71)) :=
  closed_ok (tabW_ok 1000000) prog_ok (fun B => sortC_ok sort_ok) (sortC_ok sort_ok) rfl (by kernel_rfl) ⟨_, Tryd.func27, by kernel_rfl⟩ works_run
end Go.Vit
