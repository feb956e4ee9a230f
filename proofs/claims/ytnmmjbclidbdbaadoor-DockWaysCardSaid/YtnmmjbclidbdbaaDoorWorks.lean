/- The chapter's examples, reckoned; what holds of the table's calls. -/
import Derived.Test.YtnmmjbclidbdbaaDoorTab
import Derived.Test.YtnmmjbclidbdbaaDoorSortHere
set_option maxRecDepth 1000000
namespace Go.Vit
open Go Go.Proofs
theorem works_run : runT (tabW (β := Unit) 1000000) 60 15 [] mTab.next mTab isTrue = some () := by kernel_rfl
theorem calls_ok {R : Nat} {B : Base} (hB : B.lt = ltab Tryd.prog fsT) : FOk Tryd.prog 2 R B (closedC mTab 15 (sortC 75)) :=
  closed_ok hB (tabW_ok 1000000) prog_ok (fun B => sortC_ok sort_ok) (sortC_ok sort_ok) rfl (by kernel_rfl) ⟨_, Tryd.func15, by kernel_rfl⟩ works_run
end Go.Vit
