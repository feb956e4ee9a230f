/- The examples of chapters 10 and 12, reckoned; what holds of the table's calls. -/
import Derived.Test.YtppallabmjdolaaGreatDoorTabC
import Derived.Test.YtppallabmjdolaaGreatDoorWorksB
set_option maxRecDepth 1000000
namespace Go.Vit
open Go Go.Proofs
theorem callsB0_ok {R : Nat} {B : Base} (hB : B.lt = ltab Tryz.prog fsT) : FOk Tryz.prog 2 R B (closedC mTab 14 (sortC 59)) :=
  closed_ok hB (tabWB_ok 1000000) prog_ok (fun B => worldL_ok (sortC_ok sort_ok) pL_ok) (sortC_ok sort_ok) rfl (by kernel_rfl) ⟨_, Tryz.func14, by kernel_rfl⟩ worksB_run
theorem worksC_run : runT (tabM (β := Unit) 1000000) 200 46 [] mTab.next mTab isTrue = some () := by kernel_rfl
theorem callsC_ok {R : Nat} {B : Base} (hB : B.lt = ltab Tryz.prog fsT) : FOk Tryz.prog 2 R B (pureLC pL (closedC mTab 46 (closedC mTab 14 (sortC 59)))) :=
  worldL_ok (closed_ok2 hB (tabM_ok 1000000) prog_ok (fun B' hB' => callsB_ok (hB'.trans hB)) (callsB0_ok hB) rfl (by kernel_rfl) ⟨_, Tryz.func46, by kernel_rfl⟩ worksC_run) pL_ok
end Go.Vit
