/- A rule or a plan in a cell of its own. -/
import Derived.Test.YticlkfhmmcepjaaDoorW11
set_option linter.unusedSimpArgs false
set_option linter.unusedVariables false
set_option maxRecDepth 20000
namespace Go.Vit
open Go Go.Proofs
attribute [local irreducible] runT loopS
def boxed (m : Mem) (h : Int) (s : Value) : Mem := (m.push ⟨1, [.int .i64 0, .slice none 0 0], none⟩).put m.next (some ⟨1, [.int .i64 h, s], none⟩)
theorem boxed_gt (m : Mem) (h : Int) (s : Value) : Gt m (boxed m h s) := Mem.put_gt (Mem.gt_push _ _) _ (Nat.le_refl _)
theorem boxed_at (m : Mem) (h : Int) (s : Value) : At (boxed m h s) m.next [.int .i64 h, s] := Mem.rd_put_eq _ _ (by rw [Mem.push_next]; omega)
theorem boxed_next (m : Mem) (h : Int) (s : Value) : (boxed m h s).next = m.next + 1 := rfl
theorem boxed_fold (m : Mem) (h : Int) (s : Value) : (m.push ⟨1, [.int .i64 0, .slice none 0 0], none⟩).put m.next (some ⟨1, [.int .i64 h, s], none⟩) = boxed m h s := rfl
end Go.Vit
