/- All wrappers of at most 60 marks and 7 turns. -/
import Derived.Test.YtppallabmjdolaaGreatDoorG5R0
import Derived.Test.YtppallabmjdolaaGreatDoorG5R1
import Derived.Test.YtppallabmjdolaaGreatDoorG5R2
import Derived.Test.YtppallabmjdolaaGreatDoorG5R3
import Derived.Test.YtppallabmjdolaaGreatDoorG5R4
import Derived.Test.YtppallabmjdolaaGreatDoorG5R5
set_option linter.unusedSimpArgs false
set_option linter.unusedVariables false
set_option maxRecDepth 100000
namespace Go.Vit
open Go
theorem law_all {M : Nat} (h : M < 61) : lawAll M = true := by
  by_cases h0 : M < 24
  · exact lawPart_at part0 (by omega) (by omega)
  by_cases h1 : M < 34
  · exact lawPart_at part1 (by omega) (by omega)
  by_cases h2 : M < 42
  · exact lawPart_at part2 (by omega) (by omega)
  by_cases h3 : M < 49
  · exact lawPart_at part3 (by omega) (by omega)
  by_cases h4 : M < 55
  · exact lawPart_at part4 (by omega) (by omega)
  by_cases h5 : M < 61
  · exact lawPart_at part5 (by omega) (by omega)
  · omega
theorem law_at {M S T : Nat} (hM : M < 61) (hS : S < M) (h1 : 1 ≤ T) (h7 : T ≤ 7) (hf : free M S T = true) :
    T ≤ M / Nat.gcd M S ∧ okAll M S T = true ∧ leX (ci (plc M S T)) false = (oneS (gapsN M S T) (T - 1) : Int) ∧ leX (ci (plc M S T)) true = ((if T = 2 then oneS (gapsN M S T) (T - 1) else twoS (gapsN M S T) (T - 1) : Nat) : Int) := by
  have h2 := List.all_eq_true.1 (List.all_eq_true.1 (law_all hM) S (List.mem_range.2 hS)) T (List.mem_range.2 (by omega))
  have hT0 : Nat.beq T 0 = false := by
    cases h : Nat.beq T 0 with
    | false => rfl
    | true => have := Nat.eq_of_beq_eq_true h; omega
  have h2 : (Nat.beq T 0 || lawOk M S T) = true := h2
  rw [hT0, Bool.false_or] at h2
  unfold lawOk at h2
  rw [hf, Bool.not_true, Bool.false_or, Bool.and_eq_true, Bool.and_eq_true, Bool.and_eq_true, decide_eq_true_eq, decide_eq_true_eq] at h2
  exact ⟨Nat.le_of_ble_eq_true h2.1, h2.2.1, h2.2.2.1, h2.2.2.2⟩
end Go.Vit
