/-
  No cell of these rows narrows 'for every input' (looked for: loops, veiled, ifaces, maps, wideKeys, modest, calm, conditions, laid).
  DERIVED. THE GIVEN ROWS OF THIS SEAT. 11 by the template 'for every input the law returns true; each argument reads behind the call as it read before'; 0 by the template 'total and deterministic' (their statements: YtgimcgdehgbljaaTotals.lean).
  GIVEN WITH THE SEED: the statements are not yours to turn. If you find one false, say at which input.
  Laid BY PROGRAM, IN A SANDBOX (cutbox-rows.mjs): the forced cells as the released guide's own fill.sh prints them over the translation bf0d5c67a90171c6… (all of the seat's roots in one cut). By AI agents, Wed Nov 11 2026. No macro, syntax, notation, axiom, sorry.
-/
import Derived.Test.YtgimcgdehgbljaaChecked
import GoSem.Claim
import GoSem.ClaimJoined
import GoSem.ClaimMapViews
import Derived.JoinedTies
import Derived.KernelRfl
namespace Go.Proofs.Ytgimcgdehgbljaa
/- THE CELL 'sum', in the pinned program and in every row, IS THE sha256 OF THE DUMP (.gsa) THAT YtgimcgdehgbljaaProg.lean LOADS. Nothing in Lean hashes anything: it is a label: what it is worth is what the hold of that sum in a sandbox is worth. -/
noncomputable def Try.pinned : Pinned := { name := "ytgimcgdehgbljaa", sum := "bf0d5c67a90171c62b6d9b94ce2c56233a9973acfda2835d98bf35e564bc5987", checked := Try.checked }
namespace Rows
def none {H : Type} : Left H := { results := [], args := [] }

/-- 'vitolalaw04.BlendRounds': WHATEVER THE INPUT: true; the input reads as it did. -/
def blendRoundsSpec : ChangeSpec := { name := "blendRounds", fn := fun _ => fun
  | [d1, d2, d3, d4] => { results := [.lit (.bool true)], args := [d1, d2, d3, d4] }
  | _ => none }
def blendRoundsRow : OpenClaim := { program := "ytgimcgdehgbljaa", sum := "bf0d5c67a90171c62b6d9b94ce2c56233a9973acfda2835d98bf35e564bc5987", func := "vitola/vitolalaw04.BlendRounds", spec := "blendRounds", unfollowed := true, recurses := true, apart := false }
def BlendRoundsSaid : Prop := blendRoundsRow.holds Try.pinned (OpenSpec.ofChange blendRoundsSpec)

/-- ITS FALSE NEIGHBOUR: 'it returns false'. Refute it at one input. -/
def blendRoundsWrong : ChangeSpec := { name := "blendRounds", fn := fun _ => fun
  | [d1, d2, d3, d4] => { results := [.lit (.bool false)], args := [d1, d2, d3, d4] }
  | _ => none }
def BlendRoundsWrongFalsely : Prop := blendRoundsRow.holds Try.pinned (OpenSpec.ofChange blendRoundsWrong)

/-- 'vitolalaw04.BlendWays': WHATEVER THE INPUT: true; the input reads as it did. -/
def blendWaysSpec : ChangeSpec := { name := "blendWays", fn := fun _ => fun
  | [d1, d2, d3] => { results := [.lit (.bool true)], args := [d1, d2, d3] }
  | _ => none }
def blendWaysRow : OpenClaim := { program := "ytgimcgdehgbljaa", sum := "bf0d5c67a90171c62b6d9b94ce2c56233a9973acfda2835d98bf35e564bc5987", func := "vitola/vitolalaw04.BlendWays", spec := "blendWays", unfollowed := true, recurses := true, apart := false }
def BlendWaysSaid : Prop := blendWaysRow.holds Try.pinned (OpenSpec.ofChange blendWaysSpec)

/-- ITS FALSE NEIGHBOUR: 'it returns false'. Refute it at one input. -/
def blendWaysWrong : ChangeSpec := { name := "blendWays", fn := fun _ => fun
  | [d1, d2, d3] => { results := [.lit (.bool false)], args := [d1, d2, d3] }
  | _ => none }
def BlendWaysWrongFalsely : Prop := blendWaysRow.holds Try.pinned (OpenSpec.ofChange blendWaysWrong)

/-- 'vitolalaw04.BlendRecipes': WHATEVER THE INPUT: true; the input reads as it did. -/
def blendRecipesSpec : ChangeSpec := { name := "blendRecipes", fn := fun _ => fun
  | [d1, d2, d3] => { results := [.lit (.bool true)], args := [d1, d2, d3] }
  | _ => none }
def blendRecipesRow : OpenClaim := { program := "ytgimcgdehgbljaa", sum := "bf0d5c67a90171c62b6d9b94ce2c56233a9973acfda2835d98bf35e564bc5987", func := "vitola/vitolalaw04.BlendRecipes", spec := "blendRecipes", unfollowed := true, recurses := true, apart := false }
def BlendRecipesSaid : Prop := blendRecipesRow.holds Try.pinned (OpenSpec.ofChange blendRecipesSpec)

/-- ITS FALSE NEIGHBOUR: 'it returns false'. Refute it at one input. -/
def blendRecipesWrong : ChangeSpec := { name := "blendRecipes", fn := fun _ => fun
  | [d1, d2, d3] => { results := [.lit (.bool false)], args := [d1, d2, d3] }
  | _ => none }
def BlendRecipesWrongFalsely : Prop := blendRecipesRow.holds Try.pinned (OpenSpec.ofChange blendRecipesWrong)

/-- 'vitolalaw04.BlendNearest': WHATEVER THE INPUT: true; the input reads as it did. -/
def blendNearestSpec : ChangeSpec := { name := "blendNearest", fn := fun _ => fun
  | [d1, d2, d3] => { results := [.lit (.bool true)], args := [d1, d2, d3] }
  | _ => none }
def blendNearestRow : OpenClaim := { program := "ytgimcgdehgbljaa", sum := "bf0d5c67a90171c62b6d9b94ce2c56233a9973acfda2835d98bf35e564bc5987", func := "vitola/vitolalaw04.BlendNearest", spec := "blendNearest", unfollowed := true, recurses := true, apart := false }
def BlendNearestSaid : Prop := blendNearestRow.holds Try.pinned (OpenSpec.ofChange blendNearestSpec)

/-- ITS FALSE NEIGHBOUR: 'it returns false'. Refute it at one input. -/
def blendNearestWrong : ChangeSpec := { name := "blendNearest", fn := fun _ => fun
  | [d1, d2, d3] => { results := [.lit (.bool false)], args := [d1, d2, d3] }
  | _ => none }
def BlendNearestWrongFalsely : Prop := blendNearestRow.holds Try.pinned (OpenSpec.ofChange blendNearestWrong)

/-- 'vitolalaw04.BlendKnown': WHATEVER THE INPUT: true; the input reads as it did. -/
def blendKnownSpec : ChangeSpec := { name := "blendKnown", fn := fun _ => fun
  | [] => { results := [.lit (.bool true)], args := [] }
  | _ => none }
def blendKnownRow : OpenClaim := { program := "ytgimcgdehgbljaa", sum := "bf0d5c67a90171c62b6d9b94ce2c56233a9973acfda2835d98bf35e564bc5987", func := "vitola/vitolalaw04.BlendKnown", spec := "blendKnown", unfollowed := true, recurses := true, apart := false }
def BlendKnownSaid : Prop := blendKnownRow.holds Try.pinned (OpenSpec.ofChange blendKnownSpec)

/-- ITS FALSE NEIGHBOUR: 'it returns false'. Refute it at one input. -/
def blendKnownWrong : ChangeSpec := { name := "blendKnown", fn := fun _ => fun
  | [] => { results := [.lit (.bool false)], args := [] }
  | _ => none }
def BlendKnownWrongFalsely : Prop := blendKnownRow.holds Try.pinned (OpenSpec.ofChange blendKnownWrong)

/-- 'vitolalaw04.BlendDoor': WHATEVER THE INPUT: true; the input reads as it did. -/
def blendDoorSpec : ChangeSpec := { name := "blendDoor", fn := fun _ => fun
  | [d1, d2] => { results := [.lit (.bool true)], args := [d1, d2] }
  | _ => none }
def blendDoorRow : OpenClaim := { program := "ytgimcgdehgbljaa", sum := "bf0d5c67a90171c62b6d9b94ce2c56233a9973acfda2835d98bf35e564bc5987", func := "vitola/vitolalaw04.BlendDoor", spec := "blendDoor", unfollowed := true, recurses := true, apart := false }
def BlendDoorSaid : Prop := blendDoorRow.holds Try.pinned (OpenSpec.ofChange blendDoorSpec)

/-- ITS FALSE NEIGHBOUR: 'it returns false'. Refute it at one input. -/
def blendDoorWrong : ChangeSpec := { name := "blendDoor", fn := fun _ => fun
  | [d1, d2] => { results := [.lit (.bool false)], args := [d1, d2] }
  | _ => none }
def BlendDoorWrongFalsely : Prop := blendDoorRow.holds Try.pinned (OpenSpec.ofChange blendDoorWrong)

/-- 'vitolalaw04.BlendWalked': WHATEVER THE INPUT: true; the input reads as it did. -/
def blendWalkedSpec : ChangeSpec := { name := "blendWalked", fn := fun _ => fun
  | [d1, d2, d3, d4] => { results := [.lit (.bool true)], args := [d1, d2, d3, d4] }
  | _ => none }
def blendWalkedRow : OpenClaim := { program := "ytgimcgdehgbljaa", sum := "bf0d5c67a90171c62b6d9b94ce2c56233a9973acfda2835d98bf35e564bc5987", func := "vitola/vitolalaw04.BlendWalked", spec := "blendWalked", unfollowed := true, recurses := true, apart := false }
def BlendWalkedSaid : Prop := blendWalkedRow.holds Try.pinned (OpenSpec.ofChange blendWalkedSpec)

/-- ITS FALSE NEIGHBOUR: 'it returns false'. Refute it at one input. -/
def blendWalkedWrong : ChangeSpec := { name := "blendWalked", fn := fun _ => fun
  | [d1, d2, d3, d4] => { results := [.lit (.bool false)], args := [d1, d2, d3, d4] }
  | _ => none }
def BlendWalkedWrongFalsely : Prop := blendWalkedRow.holds Try.pinned (OpenSpec.ofChange blendWalkedWrong)

/-- 'vitolalaw04.BlendMetric': WHATEVER THE INPUT: true; the input reads as it did. -/
def blendMetricSpec : ChangeSpec := { name := "blendMetric", fn := fun _ => fun
  | [d1, d2, d3, d4, d5] => { results := [.lit (.bool true)], args := [d1, d2, d3, d4, d5] }
  | _ => none }
def blendMetricRow : OpenClaim := { program := "ytgimcgdehgbljaa", sum := "bf0d5c67a90171c62b6d9b94ce2c56233a9973acfda2835d98bf35e564bc5987", func := "vitola/vitolalaw04.BlendMetric", spec := "blendMetric", unfollowed := true, recurses := true, apart := false }
def BlendMetricSaid : Prop := blendMetricRow.holds Try.pinned (OpenSpec.ofChange blendMetricSpec)

/-- ITS FALSE NEIGHBOUR: 'it returns false'. Refute it at one input. -/
def blendMetricWrong : ChangeSpec := { name := "blendMetric", fn := fun _ => fun
  | [d1, d2, d3, d4, d5] => { results := [.lit (.bool false)], args := [d1, d2, d3, d4, d5] }
  | _ => none }
def BlendMetricWrongFalsely : Prop := blendMetricRow.holds Try.pinned (OpenSpec.ofChange blendMetricWrong)

/-- 'vitolalaw04.BlendMore': WHATEVER THE INPUT: true; the input reads as it did. -/
def blendMoreSpec : ChangeSpec := { name := "blendMore", fn := fun _ => fun
  | [d1, d2, d3, d4, d5] => { results := [.lit (.bool true)], args := [d1, d2, d3, d4, d5] }
  | _ => none }
def blendMoreRow : OpenClaim := { program := "ytgimcgdehgbljaa", sum := "bf0d5c67a90171c62b6d9b94ce2c56233a9973acfda2835d98bf35e564bc5987", func := "vitola/vitolalaw04.BlendMore", spec := "blendMore", unfollowed := true, recurses := true, apart := false }
def BlendMoreSaid : Prop := blendMoreRow.holds Try.pinned (OpenSpec.ofChange blendMoreSpec)

/-- ITS FALSE NEIGHBOUR: 'it returns false'. Refute it at one input. -/
def blendMoreWrong : ChangeSpec := { name := "blendMore", fn := fun _ => fun
  | [d1, d2, d3, d4, d5] => { results := [.lit (.bool false)], args := [d1, d2, d3, d4, d5] }
  | _ => none }
def BlendMoreWrongFalsely : Prop := blendMoreRow.holds Try.pinned (OpenSpec.ofChange blendMoreWrong)

/-- 'vitolalaw04.BlendNamed': WHATEVER THE INPUT: true; the input reads as it did. -/
def blendNamedSpec : ChangeSpec := { name := "blendNamed", fn := fun _ => fun
  | [d1, d2, d3, d4, d5, d6] => { results := [.lit (.bool true)], args := [d1, d2, d3, d4, d5, d6] }
  | _ => none }
def blendNamedRow : OpenClaim := { program := "ytgimcgdehgbljaa", sum := "bf0d5c67a90171c62b6d9b94ce2c56233a9973acfda2835d98bf35e564bc5987", func := "vitola/vitolalaw04.BlendNamed", spec := "blendNamed", unfollowed := true, recurses := true, apart := false }
def BlendNamedSaid : Prop := blendNamedRow.holds Try.pinned (OpenSpec.ofChange blendNamedSpec)

/-- ITS FALSE NEIGHBOUR: 'it returns false'. Refute it at one input. -/
def blendNamedWrong : ChangeSpec := { name := "blendNamed", fn := fun _ => fun
  | [d1, d2, d3, d4, d5, d6] => { results := [.lit (.bool false)], args := [d1, d2, d3, d4, d5, d6] }
  | _ => none }
def BlendNamedWrongFalsely : Prop := blendNamedRow.holds Try.pinned (OpenSpec.ofChange blendNamedWrong)

/-- 'vitolalaw04.BlendFound': WHATEVER THE INPUT: true; the input reads as it did. -/
def blendFoundSpec : ChangeSpec := { name := "blendFound", fn := fun _ => fun
  | [d1, d2, d3, d4] => { results := [.lit (.bool true)], args := [d1, d2, d3, d4] }
  | _ => none }
def blendFoundRow : OpenClaim := { program := "ytgimcgdehgbljaa", sum := "bf0d5c67a90171c62b6d9b94ce2c56233a9973acfda2835d98bf35e564bc5987", func := "vitola/vitolalaw04.BlendFound", spec := "blendFound", unfollowed := true, recurses := true, apart := false }
def BlendFoundSaid : Prop := blendFoundRow.holds Try.pinned (OpenSpec.ofChange blendFoundSpec)

/-- ITS FALSE NEIGHBOUR: 'it returns false'. Refute it at one input. -/
def blendFoundWrong : ChangeSpec := { name := "blendFound", fn := fun _ => fun
  | [d1, d2, d3, d4] => { results := [.lit (.bool false)], args := [d1, d2, d3, d4] }
  | _ => none }
def BlendFoundWrongFalsely : Prop := blendFoundRow.holds Try.pinned (OpenSpec.ofChange blendFoundWrong)

/- THE SECOND FORM. 'bulk': how many values and letters a reading holds, each counted each time it is reached (what is shared counts as often as it is met; a slice's spare places count too). A statement '..UptoSaid' is the law's where the arguments, and the package variables that the reading takes, are together of bulk at most 1048576: NARROWER than '..Said'. Prove '..Said' where nothing that the law and all that it calls make is longer than what came in: it says more and counts as full. Else prove '..UptoSaid'. A law counts once. -/
mutual
def uptoBulk {H : Type} : DataW H → Nat
  | .lit (.string bytes) => bytes.length + 1
  | .lit _ => 1
  | .nil => 1
  | .ptr d => uptoBulk d + 1
  | .slice elems spare => uptoBulkAll elems + uptoBulkAll spare + 1
  | .agg parts => uptoBulkAll parts + 1
  | .iface _ d => uptoBulk d + 1
  | .map entries => uptoBulkEntries entries + 1
  | .held _ => 1
def uptoBulkAll {H : Type} : List (DataW H) → Nat
  | [] => 0
  | d :: r => uptoBulk d + uptoBulkAll r
def uptoBulkEntries {H : Type} : List (Lit × DataW H) → Nat
  | [] => 0
  | x :: r => uptoBulkEntry x + uptoBulkEntries r
def uptoBulkEntry {H : Type} : Lit × DataW H → Nat
  | (.string bytes, d) => bytes.length + uptoBulk d + 1
  | (_, d) => uptoBulk d + 1
 end
def uptoSmall : (H : Type) → List (DataW H) → Bool := fun _ ds => decide (uptoBulkAll ds ≤ 1048576)
def OpenSpec.upto (s : _root_.Go.ChangeSpec) : _root_.Go.OpenSpec := { _root_.Go.OpenSpec.ofChange s with cond := some uptoSmall }

/-- 'vitolalaw04.BlendRounds', WHERE WHAT IT READS IS OF BULK AT MOST 1048576: true; the input reads as it did. -/
def blendRoundsUptoRow : OpenClaim := { program := "ytgimcgdehgbljaa", sum := "bf0d5c67a90171c62b6d9b94ce2c56233a9973acfda2835d98bf35e564bc5987", func := "vitola/vitolalaw04.BlendRounds", spec := "blendRounds", unfollowed := true, recurses := true, apart := false, narrowed := true }
def BlendRoundsUptoSaid : Prop := blendRoundsUptoRow.holds Try.pinned (OpenSpec.upto blendRoundsSpec)

/-- 'vitolalaw04.BlendWays', WHERE WHAT IT READS IS OF BULK AT MOST 1048576: true; the input reads as it did. -/
def blendWaysUptoRow : OpenClaim := { program := "ytgimcgdehgbljaa", sum := "bf0d5c67a90171c62b6d9b94ce2c56233a9973acfda2835d98bf35e564bc5987", func := "vitola/vitolalaw04.BlendWays", spec := "blendWays", unfollowed := true, recurses := true, apart := false, narrowed := true }
def BlendWaysUptoSaid : Prop := blendWaysUptoRow.holds Try.pinned (OpenSpec.upto blendWaysSpec)

/-- 'vitolalaw04.BlendRecipes', WHERE WHAT IT READS IS OF BULK AT MOST 1048576: true; the input reads as it did. -/
def blendRecipesUptoRow : OpenClaim := { program := "ytgimcgdehgbljaa", sum := "bf0d5c67a90171c62b6d9b94ce2c56233a9973acfda2835d98bf35e564bc5987", func := "vitola/vitolalaw04.BlendRecipes", spec := "blendRecipes", unfollowed := true, recurses := true, apart := false, narrowed := true }
def BlendRecipesUptoSaid : Prop := blendRecipesUptoRow.holds Try.pinned (OpenSpec.upto blendRecipesSpec)

/-- 'vitolalaw04.BlendNearest', WHERE WHAT IT READS IS OF BULK AT MOST 1048576: true; the input reads as it did. -/
def blendNearestUptoRow : OpenClaim := { program := "ytgimcgdehgbljaa", sum := "bf0d5c67a90171c62b6d9b94ce2c56233a9973acfda2835d98bf35e564bc5987", func := "vitola/vitolalaw04.BlendNearest", spec := "blendNearest", unfollowed := true, recurses := true, apart := false, narrowed := true }
def BlendNearestUptoSaid : Prop := blendNearestUptoRow.holds Try.pinned (OpenSpec.upto blendNearestSpec)

/-- 'vitolalaw04.BlendKnown', WHERE WHAT IT READS IS OF BULK AT MOST 1048576: true; the input reads as it did. -/
def blendKnownUptoRow : OpenClaim := { program := "ytgimcgdehgbljaa", sum := "bf0d5c67a90171c62b6d9b94ce2c56233a9973acfda2835d98bf35e564bc5987", func := "vitola/vitolalaw04.BlendKnown", spec := "blendKnown", unfollowed := true, recurses := true, apart := false, narrowed := true }
def BlendKnownUptoSaid : Prop := blendKnownUptoRow.holds Try.pinned (OpenSpec.upto blendKnownSpec)

/-- 'vitolalaw04.BlendDoor', WHERE WHAT IT READS IS OF BULK AT MOST 1048576: true; the input reads as it did. -/
def blendDoorUptoRow : OpenClaim := { program := "ytgimcgdehgbljaa", sum := "bf0d5c67a90171c62b6d9b94ce2c56233a9973acfda2835d98bf35e564bc5987", func := "vitola/vitolalaw04.BlendDoor", spec := "blendDoor", unfollowed := true, recurses := true, apart := false, narrowed := true }
def BlendDoorUptoSaid : Prop := blendDoorUptoRow.holds Try.pinned (OpenSpec.upto blendDoorSpec)

/-- 'vitolalaw04.BlendWalked', WHERE WHAT IT READS IS OF BULK AT MOST 1048576: true; the input reads as it did. -/
def blendWalkedUptoRow : OpenClaim := { program := "ytgimcgdehgbljaa", sum := "bf0d5c67a90171c62b6d9b94ce2c56233a9973acfda2835d98bf35e564bc5987", func := "vitola/vitolalaw04.BlendWalked", spec := "blendWalked", unfollowed := true, recurses := true, apart := false, narrowed := true }
def BlendWalkedUptoSaid : Prop := blendWalkedUptoRow.holds Try.pinned (OpenSpec.upto blendWalkedSpec)

/-- 'vitolalaw04.BlendMetric', WHERE WHAT IT READS IS OF BULK AT MOST 1048576: true; the input reads as it did. -/
def blendMetricUptoRow : OpenClaim := { program := "ytgimcgdehgbljaa", sum := "bf0d5c67a90171c62b6d9b94ce2c56233a9973acfda2835d98bf35e564bc5987", func := "vitola/vitolalaw04.BlendMetric", spec := "blendMetric", unfollowed := true, recurses := true, apart := false, narrowed := true }
def BlendMetricUptoSaid : Prop := blendMetricUptoRow.holds Try.pinned (OpenSpec.upto blendMetricSpec)

/-- 'vitolalaw04.BlendMore', WHERE WHAT IT READS IS OF BULK AT MOST 1048576: true; the input reads as it did. -/
def blendMoreUptoRow : OpenClaim := { program := "ytgimcgdehgbljaa", sum := "bf0d5c67a90171c62b6d9b94ce2c56233a9973acfda2835d98bf35e564bc5987", func := "vitola/vitolalaw04.BlendMore", spec := "blendMore", unfollowed := true, recurses := true, apart := false, narrowed := true }
def BlendMoreUptoSaid : Prop := blendMoreUptoRow.holds Try.pinned (OpenSpec.upto blendMoreSpec)

/-- 'vitolalaw04.BlendNamed', WHERE WHAT IT READS IS OF BULK AT MOST 1048576: true; the input reads as it did. -/
def blendNamedUptoRow : OpenClaim := { program := "ytgimcgdehgbljaa", sum := "bf0d5c67a90171c62b6d9b94ce2c56233a9973acfda2835d98bf35e564bc5987", func := "vitola/vitolalaw04.BlendNamed", spec := "blendNamed", unfollowed := true, recurses := true, apart := false, narrowed := true }
def BlendNamedUptoSaid : Prop := blendNamedUptoRow.holds Try.pinned (OpenSpec.upto blendNamedSpec)

/-- 'vitolalaw04.BlendFound', WHERE WHAT IT READS IS OF BULK AT MOST 1048576: true; the input reads as it did. -/
def blendFoundUptoRow : OpenClaim := { program := "ytgimcgdehgbljaa", sum := "bf0d5c67a90171c62b6d9b94ce2c56233a9973acfda2835d98bf35e564bc5987", func := "vitola/vitolalaw04.BlendFound", spec := "blendFound", unfollowed := true, recurses := true, apart := false, narrowed := true }
def BlendFoundUptoSaid : Prop := blendFoundUptoRow.holds Try.pinned (OpenSpec.upto blendFoundSpec)

end Rows
end Go.Proofs.Ytgimcgdehgbljaa
