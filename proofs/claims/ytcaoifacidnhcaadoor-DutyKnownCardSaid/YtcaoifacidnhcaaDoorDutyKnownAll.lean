/- The run of the law DutyKnown. -/
import Derived.Test.YtcaoifacidnhcaaDoorStart
import Derived.Test.YtcaoifacidnhcaaDoorTab
set_option maxRecDepth 1000000
set_option linter.unusedVariables false
set_option linter.unusedSimpArgs false
namespace Go.Vit
open Go Go.Proofs
def K15 : Kat := [(3067, (1, [67])), (3067, (3, [71])), (3067, (5, [75])), (3067, (7, [79])), (3067, (9, [83])), (3067, (11, [87])), (393213, (1, [133])), (393213, (3, [137])), (393213, (5, [141])), (393213, (7, [145])), (393213, (9, [149])), (393213, (11, [153])), (393213, (13, [157])), (393213, (15, [161])), (393213, (17, [165])), (393213, (19, [169])), (393213, (21, [173])), (393213, (23, [177])), (393213, (25, [183])), (393213, (27, [192])), (393213, (29, [198])), (393213, (31, [204])), (393213, (33, [209])), (393213, (35, [213])), (393213, (37, [217])), (393213, (39, [221])), (393213, (41, [227])), (393213, (43, [233])), (393213, (45, [237])), (393213, (47, [242])), (393213, (49, [247])), (393213, (51, [250]))]
/-- The table, and this law as the evaluator's own form has it (a shallow text of it is too great). -/
noncomputable def tabK {β : Type} (lf : Nat) : Bt β := .n 15 (fun cK args L m k => denF Tryd.prog 1 K15 lf cK 15 args L m k) .e (tabR lf)
theorem tabK_ok {β : Type} (lf : Nat) : (tabK (β := β) lf).All (Good Tryd.prog 1 lf (fun f => Nat.beq f 71 || Nat.beq f 27) (closedC mTab 27 (sortC 71))) := ⟨.inr ⟨rfl, K15, fun cK args L m k => rfl⟩, trivial, tabR_ok lf⟩
end Go.Vit
namespace Go.Proofs.YtcaoifacidnhcaaDoor.DutyKnown
open Go Go.Vit Go.Proofs
theorem runs : Vit.runT (tabK 1000000) 60 15 [] mTab.next mTab isTrue = some () := by kernel_rfl
end Go.Proofs.YtcaoifacidnhcaaDoor.DutyKnown
