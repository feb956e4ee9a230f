/- The examples of chapter 10, reckoned; what holds of the table's calls. -/
import Derived.Test.YtppallabmjdolaaGreatDoorTabB
import Derived.Test.YtppallabmjdolaaGreatDoorSortHere
set_option maxRecDepth 1000000
namespace Go.Vit
open Go Go.Proofs
theorem worksB_run : runT (tabWB (β := Unit) 1000000) 200 14 [] mTab.next mTab isTrue = some () := by kernel_rfl
theorem callsB_ok {R : Nat} {B : Base} (hB : B.lt = ltab Tryz.prog fsT) : FOk Tryz.prog 2 R B (pureLC pL (closedC mTab 14 (sortC 59))) :=
  worldL_ok (closed_ok hB (tabWB_ok 1000000) prog_ok (fun B => worldL_ok (sortC_ok sort_ok) pL_ok) (sortC_ok sort_ok) rfl (by kernel_rfl) ⟨_, Tryz.func14, by kernel_rfl⟩ worksB_run) pL_ok
end Go.Vit
