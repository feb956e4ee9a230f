/-
  No cell of these rows narrows 'for every input' (looked for: loops, veiled, ifaces, maps, wideKeys, modest, calm, conditions, laid).
  DERIVED. THE GIVEN ROWS OF THIS SEAT. 12 by the template 'for every input the law returns true; each argument reads behind the call as it read before'; 0 by the template 'total and deterministic' (their statements: YtffomiamkiakcaaTotals.lean).
  GIVEN WITH THE SEED: the statements are not yours to turn. If you find one false, say at which input.
  Laid BY PROGRAM, IN A SANDBOX (cutbox-rows.mjs): the forced cells as the released guide's own fill.sh prints them over the translation 2e95aea49a19f626… (all of the seat's roots in one cut). By AI agents, Wed Nov 11 2026. No macro, syntax, notation, axiom, sorry.
-/
import Derived.Test.YtffomiamkiakcaaChecked
import GoSem.Claim
import GoSem.ClaimJoined
import GoSem.ClaimMapViews
import Derived.JoinedTies
import Derived.KernelRfl
namespace Go.Proofs.Ytffomiamkiakcaa
/- THE CELL 'sum', in the pinned program and in every row, IS THE sha256 OF THE DUMP (.gsa) THAT YtffomiamkiakcaaProg.lean LOADS. Nothing in Lean hashes anything: it is a label: what it is worth is what the hold of that sum in a sandbox is worth. -/
noncomputable def Try.pinned : Pinned := { name := "ytffomiamkiakcaa", sum := "2e95aea49a19f6261767caee094c87484f69e8d6d82d910db66d9aed21291ced", checked := Try.checked }
namespace Rows
def none {H : Type} : Left H := { results := [], args := [] }

/-- 'vitolalaw07.ShadeSteps': WHATEVER THE INPUT: true; the input reads as it did. -/
def shadeStepsSpec : ChangeSpec := { name := "shadeSteps", fn := fun _ => fun
  | [d1, d2, d3, d4] => { results := [.lit (.bool true)], args := [d1, d2, d3, d4] }
  | _ => none }
def shadeStepsRow : OpenClaim := { program := "ytffomiamkiakcaa", sum := "2e95aea49a19f6261767caee094c87484f69e8d6d82d910db66d9aed21291ced", func := "vitola/vitolalaw07.ShadeSteps", spec := "shadeSteps", unfollowed := true, recurses := true, plainKeys := false, apart := false }
def ShadeStepsSaid : Prop := shadeStepsRow.holds Try.pinned (OpenSpec.ofChange shadeStepsSpec)

/-- ITS FALSE NEIGHBOUR: 'it returns false'. Refute it at one input. -/
def shadeStepsWrong : ChangeSpec := { name := "shadeSteps", fn := fun _ => fun
  | [d1, d2, d3, d4] => { results := [.lit (.bool false)], args := [d1, d2, d3, d4] }
  | _ => none }
def ShadeStepsWrongFalsely : Prop := shadeStepsRow.holds Try.pinned (OpenSpec.ofChange shadeStepsWrong)

/-- 'vitolalaw07.ShadeBoxes': WHATEVER THE INPUT: true; the input reads as it did. -/
def shadeBoxesSpec : ChangeSpec := { name := "shadeBoxes", fn := fun _ => fun
  | [d1, d2] => { results := [.lit (.bool true)], args := [d1, d2] }
  | _ => none }
def shadeBoxesRow : OpenClaim := { program := "ytffomiamkiakcaa", sum := "2e95aea49a19f6261767caee094c87484f69e8d6d82d910db66d9aed21291ced", func := "vitola/vitolalaw07.ShadeBoxes", spec := "shadeBoxes", unfollowed := true, recurses := true, plainKeys := false, apart := false }
def ShadeBoxesSaid : Prop := shadeBoxesRow.holds Try.pinned (OpenSpec.ofChange shadeBoxesSpec)

/-- ITS FALSE NEIGHBOUR: 'it returns false'. Refute it at one input. -/
def shadeBoxesWrong : ChangeSpec := { name := "shadeBoxes", fn := fun _ => fun
  | [d1, d2] => { results := [.lit (.bool false)], args := [d1, d2] }
  | _ => none }
def ShadeBoxesWrongFalsely : Prop := shadeBoxesRow.holds Try.pinned (OpenSpec.ofChange shadeBoxesWrong)

/-- 'vitolalaw07.ShadeWides': WHATEVER THE INPUT: true; the input reads as it did. -/
def shadeWidesSpec : ChangeSpec := { name := "shadeWides", fn := fun _ => fun
  | [d1, d2] => { results := [.lit (.bool true)], args := [d1, d2] }
  | _ => none }
def shadeWidesRow : OpenClaim := { program := "ytffomiamkiakcaa", sum := "2e95aea49a19f6261767caee094c87484f69e8d6d82d910db66d9aed21291ced", func := "vitola/vitolalaw07.ShadeWides", spec := "shadeWides", unfollowed := true, recurses := true, plainKeys := false, apart := false }
def ShadeWidesSaid : Prop := shadeWidesRow.holds Try.pinned (OpenSpec.ofChange shadeWidesSpec)

/-- ITS FALSE NEIGHBOUR: 'it returns false'. Refute it at one input. -/
def shadeWidesWrong : ChangeSpec := { name := "shadeWides", fn := fun _ => fun
  | [d1, d2] => { results := [.lit (.bool false)], args := [d1, d2] }
  | _ => none }
def ShadeWidesWrongFalsely : Prop := shadeWidesRow.holds Try.pinned (OpenSpec.ofChange shadeWidesWrong)

/-- 'vitolalaw07.ShadeOrders': WHATEVER THE INPUT: true; the input reads as it did. -/
def shadeOrdersSpec : ChangeSpec := { name := "shadeOrders", fn := fun _ => fun
  | [d1, d2, d3, d4] => { results := [.lit (.bool true)], args := [d1, d2, d3, d4] }
  | _ => none }
def shadeOrdersRow : OpenClaim := { program := "ytffomiamkiakcaa", sum := "2e95aea49a19f6261767caee094c87484f69e8d6d82d910db66d9aed21291ced", func := "vitola/vitolalaw07.ShadeOrders", spec := "shadeOrders", unfollowed := true, recurses := true, plainKeys := false, apart := false }
def ShadeOrdersSaid : Prop := shadeOrdersRow.holds Try.pinned (OpenSpec.ofChange shadeOrdersSpec)

/-- ITS FALSE NEIGHBOUR: 'it returns false'. Refute it at one input. -/
def shadeOrdersWrong : ChangeSpec := { name := "shadeOrders", fn := fun _ => fun
  | [d1, d2, d3, d4] => { results := [.lit (.bool false)], args := [d1, d2, d3, d4] }
  | _ => none }
def ShadeOrdersWrongFalsely : Prop := shadeOrdersRow.holds Try.pinned (OpenSpec.ofChange shadeOrdersWrong)

/-- 'vitolalaw07.ShadeTriangle': WHATEVER THE INPUT: true; the input reads as it did. -/
def shadeTriangleSpec : ChangeSpec := { name := "shadeTriangle", fn := fun _ => fun
  | [d1, d2] => { results := [.lit (.bool true)], args := [d1, d2] }
  | _ => none }
def shadeTriangleRow : OpenClaim := { program := "ytffomiamkiakcaa", sum := "2e95aea49a19f6261767caee094c87484f69e8d6d82d910db66d9aed21291ced", func := "vitola/vitolalaw07.ShadeTriangle", spec := "shadeTriangle", unfollowed := true, recurses := true, plainKeys := false, apart := false }
def ShadeTriangleSaid : Prop := shadeTriangleRow.holds Try.pinned (OpenSpec.ofChange shadeTriangleSpec)

/-- ITS FALSE NEIGHBOUR: 'it returns false'. Refute it at one input. -/
def shadeTriangleWrong : ChangeSpec := { name := "shadeTriangle", fn := fun _ => fun
  | [d1, d2] => { results := [.lit (.bool false)], args := [d1, d2] }
  | _ => none }
def ShadeTriangleWrongFalsely : Prop := shadeTriangleRow.holds Try.pinned (OpenSpec.ofChange shadeTriangleWrong)

/-- 'vitolalaw07.ShadeMore': WHATEVER THE INPUT: true; the input reads as it did. -/
def shadeMoreSpec : ChangeSpec := { name := "shadeMore", fn := fun _ => fun
  | [d1, d2, d3, d4] => { results := [.lit (.bool true)], args := [d1, d2, d3, d4] }
  | _ => none }
def shadeMoreRow : OpenClaim := { program := "ytffomiamkiakcaa", sum := "2e95aea49a19f6261767caee094c87484f69e8d6d82d910db66d9aed21291ced", func := "vitola/vitolalaw07.ShadeMore", spec := "shadeMore", unfollowed := true, recurses := true, plainKeys := false, apart := false }
def ShadeMoreSaid : Prop := shadeMoreRow.holds Try.pinned (OpenSpec.ofChange shadeMoreSpec)

/-- ITS FALSE NEIGHBOUR: 'it returns false'. Refute it at one input. -/
def shadeMoreWrong : ChangeSpec := { name := "shadeMore", fn := fun _ => fun
  | [d1, d2, d3, d4] => { results := [.lit (.bool false)], args := [d1, d2, d3, d4] }
  | _ => none }
def ShadeMoreWrongFalsely : Prop := shadeMoreRow.holds Try.pinned (OpenSpec.ofChange shadeMoreWrong)

/-- 'vitolalaw07.ShadeKnown': WHATEVER THE INPUT: true; the input reads as it did. -/
def shadeKnownSpec : ChangeSpec := { name := "shadeKnown", fn := fun _ => fun
  | [] => { results := [.lit (.bool true)], args := [] }
  | _ => none }
def shadeKnownRow : OpenClaim := { program := "ytffomiamkiakcaa", sum := "2e95aea49a19f6261767caee094c87484f69e8d6d82d910db66d9aed21291ced", func := "vitola/vitolalaw07.ShadeKnown", spec := "shadeKnown", unfollowed := true, recurses := true, plainKeys := false, apart := false }
def ShadeKnownSaid : Prop := shadeKnownRow.holds Try.pinned (OpenSpec.ofChange shadeKnownSpec)

/-- ITS FALSE NEIGHBOUR: 'it returns false'. Refute it at one input. -/
def shadeKnownWrong : ChangeSpec := { name := "shadeKnown", fn := fun _ => fun
  | [] => { results := [.lit (.bool false)], args := [] }
  | _ => none }
def ShadeKnownWrongFalsely : Prop := shadeKnownRow.holds Try.pinned (OpenSpec.ofChange shadeKnownWrong)

/-- 'vitolalaw07.ShadeWidest': WHATEVER THE INPUT: true; the input reads as it did. -/
def shadeWidestSpec : ChangeSpec := { name := "shadeWidest", fn := fun _ => fun
  | [d] => { results := [.lit (.bool true)], args := [d] }
  | _ => none }
def shadeWidestRow : OpenClaim := { program := "ytffomiamkiakcaa", sum := "2e95aea49a19f6261767caee094c87484f69e8d6d82d910db66d9aed21291ced", func := "vitola/vitolalaw07.ShadeWidest", spec := "shadeWidest", unfollowed := true, recurses := true, plainKeys := false, apart := false }
def ShadeWidestSaid : Prop := shadeWidestRow.holds Try.pinned (OpenSpec.ofChange shadeWidestSpec)

/-- ITS FALSE NEIGHBOUR: 'it returns false'. Refute it at one input. -/
def shadeWidestWrong : ChangeSpec := { name := "shadeWidest", fn := fun _ => fun
  | [d] => { results := [.lit (.bool false)], args := [d] }
  | _ => none }
def ShadeWidestWrongFalsely : Prop := shadeWidestRow.holds Try.pinned (OpenSpec.ofChange shadeWidestWrong)

/-- 'vitolalaw07.ShadeTurns': WHATEVER THE INPUT: true; the input reads as it did. -/
def shadeTurnsSpec : ChangeSpec := { name := "shadeTurns", fn := fun _ => fun
  | [d] => { results := [.lit (.bool true)], args := [d] }
  | _ => none }
def shadeTurnsRow : OpenClaim := { program := "ytffomiamkiakcaa", sum := "2e95aea49a19f6261767caee094c87484f69e8d6d82d910db66d9aed21291ced", func := "vitola/vitolalaw07.ShadeTurns", spec := "shadeTurns", unfollowed := true, recurses := true, plainKeys := false, apart := false }
def ShadeTurnsSaid : Prop := shadeTurnsRow.holds Try.pinned (OpenSpec.ofChange shadeTurnsSpec)

/-- ITS FALSE NEIGHBOUR: 'it returns false'. Refute it at one input. -/
def shadeTurnsWrong : ChangeSpec := { name := "shadeTurns", fn := fun _ => fun
  | [d] => { results := [.lit (.bool false)], args := [d] }
  | _ => none }
def ShadeTurnsWrongFalsely : Prop := shadeTurnsRow.holds Try.pinned (OpenSpec.ofChange shadeTurnsWrong)

/-- 'vitolalaw07.ShadeTurned': WHATEVER THE INPUT: true; the input reads as it did. -/
def shadeTurnedSpec : ChangeSpec := { name := "shadeTurned", fn := fun _ => fun
  | [d1, d2, d3] => { results := [.lit (.bool true)], args := [d1, d2, d3] }
  | _ => none }
def shadeTurnedRow : OpenClaim := { program := "ytffomiamkiakcaa", sum := "2e95aea49a19f6261767caee094c87484f69e8d6d82d910db66d9aed21291ced", func := "vitola/vitolalaw07.ShadeTurned", spec := "shadeTurned", unfollowed := true, recurses := true, plainKeys := false, apart := false }
def ShadeTurnedSaid : Prop := shadeTurnedRow.holds Try.pinned (OpenSpec.ofChange shadeTurnedSpec)

/-- ITS FALSE NEIGHBOUR: 'it returns false'. Refute it at one input. -/
def shadeTurnedWrong : ChangeSpec := { name := "shadeTurned", fn := fun _ => fun
  | [d1, d2, d3] => { results := [.lit (.bool false)], args := [d1, d2, d3] }
  | _ => none }
def ShadeTurnedWrongFalsely : Prop := shadeTurnedRow.holds Try.pinned (OpenSpec.ofChange shadeTurnedWrong)

/-- 'vitolalaw07.ShadeProved': WHATEVER THE INPUT: true; the input reads as it did. -/
def shadeProvedSpec : ChangeSpec := { name := "shadeProved", fn := fun _ => fun
  | [d1, d2, d3, d4] => { results := [.lit (.bool true)], args := [d1, d2, d3, d4] }
  | _ => none }
def shadeProvedRow : OpenClaim := { program := "ytffomiamkiakcaa", sum := "2e95aea49a19f6261767caee094c87484f69e8d6d82d910db66d9aed21291ced", func := "vitola/vitolalaw07.ShadeProved", spec := "shadeProved", unfollowed := true, recurses := true, plainKeys := false, apart := false }
def ShadeProvedSaid : Prop := shadeProvedRow.holds Try.pinned (OpenSpec.ofChange shadeProvedSpec)

/-- ITS FALSE NEIGHBOUR: 'it returns false'. Refute it at one input. -/
def shadeProvedWrong : ChangeSpec := { name := "shadeProved", fn := fun _ => fun
  | [d1, d2, d3, d4] => { results := [.lit (.bool false)], args := [d1, d2, d3, d4] }
  | _ => none }
def ShadeProvedWrongFalsely : Prop := shadeProvedRow.holds Try.pinned (OpenSpec.ofChange shadeProvedWrong)

/-- 'vitolalaw07.ShadeLeast': WHATEVER THE INPUT: true; the input reads as it did. -/
def shadeLeastSpec : ChangeSpec := { name := "shadeLeast", fn := fun _ => fun
  | [d1, d2] => { results := [.lit (.bool true)], args := [d1, d2] }
  | _ => none }
def shadeLeastRow : OpenClaim := { program := "ytffomiamkiakcaa", sum := "2e95aea49a19f6261767caee094c87484f69e8d6d82d910db66d9aed21291ced", func := "vitola/vitolalaw07.ShadeLeast", spec := "shadeLeast", unfollowed := true, recurses := true, plainKeys := false, apart := false }
def ShadeLeastSaid : Prop := shadeLeastRow.holds Try.pinned (OpenSpec.ofChange shadeLeastSpec)

/-- ITS FALSE NEIGHBOUR: 'it returns false'. Refute it at one input. -/
def shadeLeastWrong : ChangeSpec := { name := "shadeLeast", fn := fun _ => fun
  | [d1, d2] => { results := [.lit (.bool false)], args := [d1, d2] }
  | _ => none }
def ShadeLeastWrongFalsely : Prop := shadeLeastRow.holds Try.pinned (OpenSpec.ofChange shadeLeastWrong)

/- THE SECOND FORM. 'bulk': how many values and letters a reading holds, each counted each time it is reached (what is shared counts as often as it is met; a slice's spare places count too). A statement '..UptoSaid' is the law's where the arguments, and the package variables that the reading takes, are together of bulk at most 1048576: NARROWER than '..Said'. Prove '..Said' where nothing that the law and all that it calls make is longer than what came in: it says more and counts as full. Else prove '..UptoSaid'. A law counts once. -/
mutual
def uptoBulk {H : Type} : DataW H → Nat
  | .lit (.string bytes) => bytes.length + 1
  | .lit _ => 1
  | .nil => 1
  | .ptr d => uptoBulk d + 1
  | .slice elems spare => uptoBulkAll elems + uptoBulkAll spare + 1
  | .agg parts => uptoBulkAll parts + 1
  | .iface _ d => uptoBulk d + 1
  | .map entries => uptoBulkEntries entries + 1
  | .held _ => 1
def uptoBulkAll {H : Type} : List (DataW H) → Nat
  | [] => 0
  | d :: r => uptoBulk d + uptoBulkAll r
def uptoBulkEntries {H : Type} : List (Lit × DataW H) → Nat
  | [] => 0
  | x :: r => uptoBulkEntry x + uptoBulkEntries r
def uptoBulkEntry {H : Type} : Lit × DataW H → Nat
  | (.string bytes, d) => bytes.length + uptoBulk d + 1
  | (_, d) => uptoBulk d + 1
 end
def uptoSmall : (H : Type) → List (DataW H) → Bool := fun _ ds => decide (uptoBulkAll ds ≤ 1048576)
def OpenSpec.upto (s : _root_.Go.ChangeSpec) : _root_.Go.OpenSpec := { _root_.Go.OpenSpec.ofChange s with cond := some uptoSmall }

/-- 'vitolalaw07.ShadeSteps', WHERE WHAT IT READS IS OF BULK AT MOST 1048576: true; the input reads as it did. -/
def shadeStepsUptoRow : OpenClaim := { program := "ytffomiamkiakcaa", sum := "2e95aea49a19f6261767caee094c87484f69e8d6d82d910db66d9aed21291ced", func := "vitola/vitolalaw07.ShadeSteps", spec := "shadeSteps", unfollowed := true, recurses := true, plainKeys := false, apart := false, narrowed := true }
def ShadeStepsUptoSaid : Prop := shadeStepsUptoRow.holds Try.pinned (OpenSpec.upto shadeStepsSpec)

/-- 'vitolalaw07.ShadeBoxes', WHERE WHAT IT READS IS OF BULK AT MOST 1048576: true; the input reads as it did. -/
def shadeBoxesUptoRow : OpenClaim := { program := "ytffomiamkiakcaa", sum := "2e95aea49a19f6261767caee094c87484f69e8d6d82d910db66d9aed21291ced", func := "vitola/vitolalaw07.ShadeBoxes", spec := "shadeBoxes", unfollowed := true, recurses := true, plainKeys := false, apart := false, narrowed := true }
def ShadeBoxesUptoSaid : Prop := shadeBoxesUptoRow.holds Try.pinned (OpenSpec.upto shadeBoxesSpec)

/-- 'vitolalaw07.ShadeWides', WHERE WHAT IT READS IS OF BULK AT MOST 1048576: true; the input reads as it did. -/
def shadeWidesUptoRow : OpenClaim := { program := "ytffomiamkiakcaa", sum := "2e95aea49a19f6261767caee094c87484f69e8d6d82d910db66d9aed21291ced", func := "vitola/vitolalaw07.ShadeWides", spec := "shadeWides", unfollowed := true, recurses := true, plainKeys := false, apart := false, narrowed := true }
def ShadeWidesUptoSaid : Prop := shadeWidesUptoRow.holds Try.pinned (OpenSpec.upto shadeWidesSpec)

/-- 'vitolalaw07.ShadeOrders', WHERE WHAT IT READS IS OF BULK AT MOST 1048576: true; the input reads as it did. -/
def shadeOrdersUptoRow : OpenClaim := { program := "ytffomiamkiakcaa", sum := "2e95aea49a19f6261767caee094c87484f69e8d6d82d910db66d9aed21291ced", func := "vitola/vitolalaw07.ShadeOrders", spec := "shadeOrders", unfollowed := true, recurses := true, plainKeys := false, apart := false, narrowed := true }
def ShadeOrdersUptoSaid : Prop := shadeOrdersUptoRow.holds Try.pinned (OpenSpec.upto shadeOrdersSpec)

/-- 'vitolalaw07.ShadeTriangle', WHERE WHAT IT READS IS OF BULK AT MOST 1048576: true; the input reads as it did. -/
def shadeTriangleUptoRow : OpenClaim := { program := "ytffomiamkiakcaa", sum := "2e95aea49a19f6261767caee094c87484f69e8d6d82d910db66d9aed21291ced", func := "vitola/vitolalaw07.ShadeTriangle", spec := "shadeTriangle", unfollowed := true, recurses := true, plainKeys := false, apart := false, narrowed := true }
def ShadeTriangleUptoSaid : Prop := shadeTriangleUptoRow.holds Try.pinned (OpenSpec.upto shadeTriangleSpec)

/-- 'vitolalaw07.ShadeMore', WHERE WHAT IT READS IS OF BULK AT MOST 1048576: true; the input reads as it did. -/
def shadeMoreUptoRow : OpenClaim := { program := "ytffomiamkiakcaa", sum := "2e95aea49a19f6261767caee094c87484f69e8d6d82d910db66d9aed21291ced", func := "vitola/vitolalaw07.ShadeMore", spec := "shadeMore", unfollowed := true, recurses := true, plainKeys := false, apart := false, narrowed := true }
def ShadeMoreUptoSaid : Prop := shadeMoreUptoRow.holds Try.pinned (OpenSpec.upto shadeMoreSpec)

/-- 'vitolalaw07.ShadeKnown', WHERE WHAT IT READS IS OF BULK AT MOST 1048576: true; the input reads as it did. -/
def shadeKnownUptoRow : OpenClaim := { program := "ytffomiamkiakcaa", sum := "2e95aea49a19f6261767caee094c87484f69e8d6d82d910db66d9aed21291ced", func := "vitola/vitolalaw07.ShadeKnown", spec := "shadeKnown", unfollowed := true, recurses := true, plainKeys := false, apart := false, narrowed := true }
def ShadeKnownUptoSaid : Prop := shadeKnownUptoRow.holds Try.pinned (OpenSpec.upto shadeKnownSpec)

/-- 'vitolalaw07.ShadeWidest', WHERE WHAT IT READS IS OF BULK AT MOST 1048576: true; the input reads as it did. -/
def shadeWidestUptoRow : OpenClaim := { program := "ytffomiamkiakcaa", sum := "2e95aea49a19f6261767caee094c87484f69e8d6d82d910db66d9aed21291ced", func := "vitola/vitolalaw07.ShadeWidest", spec := "shadeWidest", unfollowed := true, recurses := true, plainKeys := false, apart := false, narrowed := true }
def ShadeWidestUptoSaid : Prop := shadeWidestUptoRow.holds Try.pinned (OpenSpec.upto shadeWidestSpec)

/-- 'vitolalaw07.ShadeTurns', WHERE WHAT IT READS IS OF BULK AT MOST 1048576: true; the input reads as it did. -/
def shadeTurnsUptoRow : OpenClaim := { program := "ytffomiamkiakcaa", sum := "2e95aea49a19f6261767caee094c87484f69e8d6d82d910db66d9aed21291ced", func := "vitola/vitolalaw07.ShadeTurns", spec := "shadeTurns", unfollowed := true, recurses := true, plainKeys := false, apart := false, narrowed := true }
def ShadeTurnsUptoSaid : Prop := shadeTurnsUptoRow.holds Try.pinned (OpenSpec.upto shadeTurnsSpec)

/-- 'vitolalaw07.ShadeTurned', WHERE WHAT IT READS IS OF BULK AT MOST 1048576: true; the input reads as it did. -/
def shadeTurnedUptoRow : OpenClaim := { program := "ytffomiamkiakcaa", sum := "2e95aea49a19f6261767caee094c87484f69e8d6d82d910db66d9aed21291ced", func := "vitola/vitolalaw07.ShadeTurned", spec := "shadeTurned", unfollowed := true, recurses := true, plainKeys := false, apart := false, narrowed := true }
def ShadeTurnedUptoSaid : Prop := shadeTurnedUptoRow.holds Try.pinned (OpenSpec.upto shadeTurnedSpec)

/-- 'vitolalaw07.ShadeProved', WHERE WHAT IT READS IS OF BULK AT MOST 1048576: true; the input reads as it did. -/
def shadeProvedUptoRow : OpenClaim := { program := "ytffomiamkiakcaa", sum := "2e95aea49a19f6261767caee094c87484f69e8d6d82d910db66d9aed21291ced", func := "vitola/vitolalaw07.ShadeProved", spec := "shadeProved", unfollowed := true, recurses := true, plainKeys := false, apart := false, narrowed := true }
def ShadeProvedUptoSaid : Prop := shadeProvedUptoRow.holds Try.pinned (OpenSpec.upto shadeProvedSpec)

/-- 'vitolalaw07.ShadeLeast', WHERE WHAT IT READS IS OF BULK AT MOST 1048576: true; the input reads as it did. -/
def shadeLeastUptoRow : OpenClaim := { program := "ytffomiamkiakcaa", sum := "2e95aea49a19f6261767caee094c87484f69e8d6d82d910db66d9aed21291ced", func := "vitola/vitolalaw07.ShadeLeast", spec := "shadeLeast", unfollowed := true, recurses := true, plainKeys := false, apart := false, narrowed := true }
def ShadeLeastUptoSaid : Prop := shadeLeastUptoRow.holds Try.pinned (OpenSpec.upto shadeLeastSpec)

end Rows
end Go.Proofs.Ytffomiamkiakcaa
