/-
  NARROWER THAN 'FOR EVERY INPUT', by the rows' own cells (each row's printed sentence says how): DutyFractions: laid · DutyFewests: laid · DutyParts: laid · DutyPairs: laid · DutySides: laid · DutyFalls: laid · DutyPaired: laid · DutyFew: laid · DutySummed: laid · DutyDivided: laid · DutyPaid: laid · DutyEqual: laid · DutyKnown: laid.
  DERIVED. THE GIVEN ROWS OF THIS SEAT. 13 by the template 'for every input the law returns true; each argument reads behind the call as it read before'; 0 by the template 'total and deterministic' (their statements: YtcaoifacidnhcaaDoorTotals.lean).
  GIVEN WITH THE SEED: the statements are not yours to turn. If you find one false, say at which input.
  Laid BY PROGRAM, IN A SANDBOX (cutbox-rows.mjs): the forced cells as the released guide's own fill.sh prints them over the translation 8d246e4c1cb9e923… (all of the seat's roots in one cut). By AI agents, Wed Nov 11 2026. No macro, syntax, notation, axiom, sorry.
-/
import Derived.Test.YtcaoifacidnhcaaDoorChecked
import GoSem.Claim
import GoSem.ClaimJoined
import GoSem.ClaimMapViews
import Derived.JoinedTies
import Derived.KernelRfl
namespace Go.Proofs.YtcaoifacidnhcaaDoor
/- THE CELL 'sum', in the pinned program and in every row, IS THE sha256 OF THE DUMP (.gsa) THAT YtcaoifacidnhcaaDoorProg.lean LOADS. Nothing in Lean hashes anything: it is a label: what it is worth is what the hold of that sum in a sandbox is worth. -/
noncomputable def Tryd.pinned : Pinned := { name := "ytcaoifacidnhcaadoor", sum := "8d246e4c1cb9e923aa4fabc31e3aed1a62e3f87ae207bd877947879f77ae1c00", checked := Tryd.checked }
namespace Rows
def none {H : Type} : Left H := { results := [], args := [] }

/- WHAT THE LISTED PACKAGE-LEVEL VARIABLES READ AS WHEN THE CALL BEGINS. Each datum BY PROGRAM (the guide's laid-datum.mjs) off the statement by which the dump's own 'gosem.cut.vars' lays the variable. In a bare row this is a premise. The card (YtcaoifacidnhcaaDoorCards.lean) ties it to the program's text. -/
def laid_vitola_duty_primes {H : Type} : DataW H := .agg [.lit (.int .i64 2), .lit (.int .i64 3), .lit (.int .i64 5), .lit (.int .i64 7), .lit (.int .i64 11), .lit (.int .i64 13), .lit (.int .i64 17), .lit (.int .i64 19), .lit (.int .i64 23), .lit (.int .i64 29), .lit (.int .i64 31), .lit (.int .i64 37)]

/-- 'vitolalaw13.DutyFractions': WHATEVER THE INPUT: true; the input reads as it did. -/
def dutyFractionsSpec : ChangeSpec := { name := "dutyFractions", fn := fun _ => fun
  | [d] => { results := [.lit (.bool true)], args := [d] }
  | _ => none }
def dutyFractionsRow : OpenClaim := { program := "ytcaoifacidnhcaadoor", sum := "8d246e4c1cb9e923aa4fabc31e3aed1a62e3f87ae207bd877947879f77ae1c00", func := "vitola/vitolalaw13.DutyFractions", spec := "dutyFractions", unfollowed := true, recurses := true, named := ["vitola/duty.primes"], apart := false, laid := [("vitola/duty.primes", laid_vitola_duty_primes)] }
def DutyFractionsSaid : Prop := dutyFractionsRow.holds Tryd.pinned (OpenSpec.ofChange dutyFractionsSpec)

/-- ITS FALSE NEIGHBOUR: 'it returns false'. Refute it at one input. -/
def dutyFractionsWrong : ChangeSpec := { name := "dutyFractions", fn := fun _ => fun
  | [d] => { results := [.lit (.bool false)], args := [d] }
  | _ => none }
def DutyFractionsWrongFalsely : Prop := dutyFractionsRow.holds Tryd.pinned (OpenSpec.ofChange dutyFractionsWrong)

/-- 'vitolalaw13.DutyFewests': WHATEVER THE INPUT: true; the input reads as it did. -/
def dutyFewestsSpec : ChangeSpec := { name := "dutyFewests", fn := fun _ => fun
  | [d1, d2] => { results := [.lit (.bool true)], args := [d1, d2] }
  | _ => none }
def dutyFewestsRow : OpenClaim := { program := "ytcaoifacidnhcaadoor", sum := "8d246e4c1cb9e923aa4fabc31e3aed1a62e3f87ae207bd877947879f77ae1c00", func := "vitola/vitolalaw13.DutyFewests", spec := "dutyFewests", unfollowed := true, recurses := true, named := ["vitola/duty.primes"], apart := false, laid := [("vitola/duty.primes", laid_vitola_duty_primes)] }
def DutyFewestsSaid : Prop := dutyFewestsRow.holds Tryd.pinned (OpenSpec.ofChange dutyFewestsSpec)

/-- ITS FALSE NEIGHBOUR: 'it returns false'. Refute it at one input. -/
def dutyFewestsWrong : ChangeSpec := { name := "dutyFewests", fn := fun _ => fun
  | [d1, d2] => { results := [.lit (.bool false)], args := [d1, d2] }
  | _ => none }
def DutyFewestsWrongFalsely : Prop := dutyFewestsRow.holds Tryd.pinned (OpenSpec.ofChange dutyFewestsWrong)

/-- 'vitolalaw13.DutyParts': WHATEVER THE INPUT: true; the input reads as it did. -/
def dutyPartsSpec : ChangeSpec := { name := "dutyParts", fn := fun _ => fun
  | [d1, d2, d3] => { results := [.lit (.bool true)], args := [d1, d2, d3] }
  | _ => none }
def dutyPartsRow : OpenClaim := { program := "ytcaoifacidnhcaadoor", sum := "8d246e4c1cb9e923aa4fabc31e3aed1a62e3f87ae207bd877947879f77ae1c00", func := "vitola/vitolalaw13.DutyParts", spec := "dutyParts", unfollowed := true, recurses := true, named := ["vitola/duty.primes"], apart := false, laid := [("vitola/duty.primes", laid_vitola_duty_primes)] }
def DutyPartsSaid : Prop := dutyPartsRow.holds Tryd.pinned (OpenSpec.ofChange dutyPartsSpec)

/-- ITS FALSE NEIGHBOUR: 'it returns false'. Refute it at one input. -/
def dutyPartsWrong : ChangeSpec := { name := "dutyParts", fn := fun _ => fun
  | [d1, d2, d3] => { results := [.lit (.bool false)], args := [d1, d2, d3] }
  | _ => none }
def DutyPartsWrongFalsely : Prop := dutyPartsRow.holds Tryd.pinned (OpenSpec.ofChange dutyPartsWrong)

/-- 'vitolalaw13.DutyPairs': WHATEVER THE INPUT: true; the input reads as it did. -/
def dutyPairsSpec : ChangeSpec := { name := "dutyPairs", fn := fun _ => fun
  | [d] => { results := [.lit (.bool true)], args := [d] }
  | _ => none }
def dutyPairsRow : OpenClaim := { program := "ytcaoifacidnhcaadoor", sum := "8d246e4c1cb9e923aa4fabc31e3aed1a62e3f87ae207bd877947879f77ae1c00", func := "vitola/vitolalaw13.DutyPairs", spec := "dutyPairs", unfollowed := true, recurses := true, named := ["vitola/duty.primes"], apart := false, laid := [("vitola/duty.primes", laid_vitola_duty_primes)] }
def DutyPairsSaid : Prop := dutyPairsRow.holds Tryd.pinned (OpenSpec.ofChange dutyPairsSpec)

/-- ITS FALSE NEIGHBOUR: 'it returns false'. Refute it at one input. -/
def dutyPairsWrong : ChangeSpec := { name := "dutyPairs", fn := fun _ => fun
  | [d] => { results := [.lit (.bool false)], args := [d] }
  | _ => none }
def DutyPairsWrongFalsely : Prop := dutyPairsRow.holds Tryd.pinned (OpenSpec.ofChange dutyPairsWrong)

/-- 'vitolalaw13.DutySides': WHATEVER THE INPUT: true; the input reads as it did. -/
def dutySidesSpec : ChangeSpec := { name := "dutySides", fn := fun _ => fun
  | [d] => { results := [.lit (.bool true)], args := [d] }
  | _ => none }
def dutySidesRow : OpenClaim := { program := "ytcaoifacidnhcaadoor", sum := "8d246e4c1cb9e923aa4fabc31e3aed1a62e3f87ae207bd877947879f77ae1c00", func := "vitola/vitolalaw13.DutySides", spec := "dutySides", unfollowed := true, recurses := true, named := ["vitola/duty.primes"], apart := false, laid := [("vitola/duty.primes", laid_vitola_duty_primes)] }
def DutySidesSaid : Prop := dutySidesRow.holds Tryd.pinned (OpenSpec.ofChange dutySidesSpec)

/-- ITS FALSE NEIGHBOUR: 'it returns false'. Refute it at one input. -/
def dutySidesWrong : ChangeSpec := { name := "dutySides", fn := fun _ => fun
  | [d] => { results := [.lit (.bool false)], args := [d] }
  | _ => none }
def DutySidesWrongFalsely : Prop := dutySidesRow.holds Tryd.pinned (OpenSpec.ofChange dutySidesWrong)

/-- 'vitolalaw13.DutyFalls': WHATEVER THE INPUT: true; the input reads as it did. -/
def dutyFallsSpec : ChangeSpec := { name := "dutyFalls", fn := fun _ => fun
  | [d] => { results := [.lit (.bool true)], args := [d] }
  | _ => none }
def dutyFallsRow : OpenClaim := { program := "ytcaoifacidnhcaadoor", sum := "8d246e4c1cb9e923aa4fabc31e3aed1a62e3f87ae207bd877947879f77ae1c00", func := "vitola/vitolalaw13.DutyFalls", spec := "dutyFalls", unfollowed := true, recurses := true, named := ["vitola/duty.primes"], apart := false, laid := [("vitola/duty.primes", laid_vitola_duty_primes)] }
def DutyFallsSaid : Prop := dutyFallsRow.holds Tryd.pinned (OpenSpec.ofChange dutyFallsSpec)

/-- ITS FALSE NEIGHBOUR: 'it returns false'. Refute it at one input. -/
def dutyFallsWrong : ChangeSpec := { name := "dutyFalls", fn := fun _ => fun
  | [d] => { results := [.lit (.bool false)], args := [d] }
  | _ => none }
def DutyFallsWrongFalsely : Prop := dutyFallsRow.holds Tryd.pinned (OpenSpec.ofChange dutyFallsWrong)

/-- 'vitolalaw13.DutyPaired': WHATEVER THE INPUT: true; the input reads as it did. -/
def dutyPairedSpec : ChangeSpec := { name := "dutyPaired", fn := fun _ => fun
  | [d] => { results := [.lit (.bool true)], args := [d] }
  | _ => none }
def dutyPairedRow : OpenClaim := { program := "ytcaoifacidnhcaadoor", sum := "8d246e4c1cb9e923aa4fabc31e3aed1a62e3f87ae207bd877947879f77ae1c00", func := "vitola/vitolalaw13.DutyPaired", spec := "dutyPaired", unfollowed := true, recurses := true, named := ["vitola/duty.primes"], apart := false, laid := [("vitola/duty.primes", laid_vitola_duty_primes)] }
def DutyPairedSaid : Prop := dutyPairedRow.holds Tryd.pinned (OpenSpec.ofChange dutyPairedSpec)

/-- ITS FALSE NEIGHBOUR: 'it returns false'. Refute it at one input. -/
def dutyPairedWrong : ChangeSpec := { name := "dutyPaired", fn := fun _ => fun
  | [d] => { results := [.lit (.bool false)], args := [d] }
  | _ => none }
def DutyPairedWrongFalsely : Prop := dutyPairedRow.holds Tryd.pinned (OpenSpec.ofChange dutyPairedWrong)

/-- 'vitolalaw13.DutyFew': WHATEVER THE INPUT: true; the input reads as it did. -/
def dutyFewSpec : ChangeSpec := { name := "dutyFew", fn := fun _ => fun
  | [d] => { results := [.lit (.bool true)], args := [d] }
  | _ => none }
def dutyFewRow : OpenClaim := { program := "ytcaoifacidnhcaadoor", sum := "8d246e4c1cb9e923aa4fabc31e3aed1a62e3f87ae207bd877947879f77ae1c00", func := "vitola/vitolalaw13.DutyFew", spec := "dutyFew", unfollowed := true, recurses := true, named := ["vitola/duty.primes"], apart := false, laid := [("vitola/duty.primes", laid_vitola_duty_primes)] }
def DutyFewSaid : Prop := dutyFewRow.holds Tryd.pinned (OpenSpec.ofChange dutyFewSpec)

/-- ITS FALSE NEIGHBOUR: 'it returns false'. Refute it at one input. -/
def dutyFewWrong : ChangeSpec := { name := "dutyFew", fn := fun _ => fun
  | [d] => { results := [.lit (.bool false)], args := [d] }
  | _ => none }
def DutyFewWrongFalsely : Prop := dutyFewRow.holds Tryd.pinned (OpenSpec.ofChange dutyFewWrong)

/-- 'vitolalaw13.DutySummed': WHATEVER THE INPUT: true; the input reads as it did. -/
def dutySummedSpec : ChangeSpec := { name := "dutySummed", fn := fun _ => fun
  | [d1, d2] => { results := [.lit (.bool true)], args := [d1, d2] }
  | _ => none }
def dutySummedRow : OpenClaim := { program := "ytcaoifacidnhcaadoor", sum := "8d246e4c1cb9e923aa4fabc31e3aed1a62e3f87ae207bd877947879f77ae1c00", func := "vitola/vitolalaw13.DutySummed", spec := "dutySummed", unfollowed := true, recurses := true, named := ["vitola/duty.primes"], apart := false, laid := [("vitola/duty.primes", laid_vitola_duty_primes)] }
def DutySummedSaid : Prop := dutySummedRow.holds Tryd.pinned (OpenSpec.ofChange dutySummedSpec)

/-- ITS FALSE NEIGHBOUR: 'it returns false'. Refute it at one input. -/
def dutySummedWrong : ChangeSpec := { name := "dutySummed", fn := fun _ => fun
  | [d1, d2] => { results := [.lit (.bool false)], args := [d1, d2] }
  | _ => none }
def DutySummedWrongFalsely : Prop := dutySummedRow.holds Tryd.pinned (OpenSpec.ofChange dutySummedWrong)

/-- 'vitolalaw13.DutyDivided': WHATEVER THE INPUT: true; the input reads as it did. -/
def dutyDividedSpec : ChangeSpec := { name := "dutyDivided", fn := fun _ => fun
  | [d1, d2, d3] => { results := [.lit (.bool true)], args := [d1, d2, d3] }
  | _ => none }
def dutyDividedRow : OpenClaim := { program := "ytcaoifacidnhcaadoor", sum := "8d246e4c1cb9e923aa4fabc31e3aed1a62e3f87ae207bd877947879f77ae1c00", func := "vitola/vitolalaw13.DutyDivided", spec := "dutyDivided", unfollowed := true, recurses := true, named := ["vitola/duty.primes"], apart := false, laid := [("vitola/duty.primes", laid_vitola_duty_primes)] }
def DutyDividedSaid : Prop := dutyDividedRow.holds Tryd.pinned (OpenSpec.ofChange dutyDividedSpec)

/-- ITS FALSE NEIGHBOUR: 'it returns false'. Refute it at one input. -/
def dutyDividedWrong : ChangeSpec := { name := "dutyDivided", fn := fun _ => fun
  | [d1, d2, d3] => { results := [.lit (.bool false)], args := [d1, d2, d3] }
  | _ => none }
def DutyDividedWrongFalsely : Prop := dutyDividedRow.holds Tryd.pinned (OpenSpec.ofChange dutyDividedWrong)

/-- 'vitolalaw13.DutyPaid': WHATEVER THE INPUT: true; the input reads as it did. -/
def dutyPaidSpec : ChangeSpec := { name := "dutyPaid", fn := fun _ => fun
  | [d1, d2, d3] => { results := [.lit (.bool true)], args := [d1, d2, d3] }
  | _ => none }
def dutyPaidRow : OpenClaim := { program := "ytcaoifacidnhcaadoor", sum := "8d246e4c1cb9e923aa4fabc31e3aed1a62e3f87ae207bd877947879f77ae1c00", func := "vitola/vitolalaw13.DutyPaid", spec := "dutyPaid", unfollowed := true, recurses := true, named := ["vitola/duty.primes"], apart := false, laid := [("vitola/duty.primes", laid_vitola_duty_primes)] }
def DutyPaidSaid : Prop := dutyPaidRow.holds Tryd.pinned (OpenSpec.ofChange dutyPaidSpec)

/-- ITS FALSE NEIGHBOUR: 'it returns false'. Refute it at one input. -/
def dutyPaidWrong : ChangeSpec := { name := "dutyPaid", fn := fun _ => fun
  | [d1, d2, d3] => { results := [.lit (.bool false)], args := [d1, d2, d3] }
  | _ => none }
def DutyPaidWrongFalsely : Prop := dutyPaidRow.holds Tryd.pinned (OpenSpec.ofChange dutyPaidWrong)

/-- 'vitolalaw13.DutyEqual': WHATEVER THE INPUT: true; the input reads as it did. -/
def dutyEqualSpec : ChangeSpec := { name := "dutyEqual", fn := fun _ => fun
  | [d1, d2] => { results := [.lit (.bool true)], args := [d1, d2] }
  | _ => none }
def dutyEqualRow : OpenClaim := { program := "ytcaoifacidnhcaadoor", sum := "8d246e4c1cb9e923aa4fabc31e3aed1a62e3f87ae207bd877947879f77ae1c00", func := "vitola/vitolalaw13.DutyEqual", spec := "dutyEqual", unfollowed := true, recurses := true, named := ["vitola/duty.primes"], apart := false, laid := [("vitola/duty.primes", laid_vitola_duty_primes)] }
def DutyEqualSaid : Prop := dutyEqualRow.holds Tryd.pinned (OpenSpec.ofChange dutyEqualSpec)

/-- ITS FALSE NEIGHBOUR: 'it returns false'. Refute it at one input. -/
def dutyEqualWrong : ChangeSpec := { name := "dutyEqual", fn := fun _ => fun
  | [d1, d2] => { results := [.lit (.bool false)], args := [d1, d2] }
  | _ => none }
def DutyEqualWrongFalsely : Prop := dutyEqualRow.holds Tryd.pinned (OpenSpec.ofChange dutyEqualWrong)

/-- 'vitolalaw13.DutyKnown': WHATEVER THE INPUT: true; the input reads as it did. -/
def dutyKnownSpec : ChangeSpec := { name := "dutyKnown", fn := fun _ => fun
  | [] => { results := [.lit (.bool true)], args := [] }
  | _ => none }
def dutyKnownRow : OpenClaim := { program := "ytcaoifacidnhcaadoor", sum := "8d246e4c1cb9e923aa4fabc31e3aed1a62e3f87ae207bd877947879f77ae1c00", func := "vitola/vitolalaw13.DutyKnown", spec := "dutyKnown", unfollowed := true, recurses := true, named := ["vitola/duty.primes"], apart := false, laid := [("vitola/duty.primes", laid_vitola_duty_primes)] }
def DutyKnownSaid : Prop := dutyKnownRow.holds Tryd.pinned (OpenSpec.ofChange dutyKnownSpec)

/-- ITS FALSE NEIGHBOUR: 'it returns false'. Refute it at one input. -/
def dutyKnownWrong : ChangeSpec := { name := "dutyKnown", fn := fun _ => fun
  | [] => { results := [.lit (.bool false)], args := [] }
  | _ => none }
def DutyKnownWrongFalsely : Prop := dutyKnownRow.holds Tryd.pinned (OpenSpec.ofChange dutyKnownWrong)

/- THE SECOND FORM. 'bulk': how many values and letters a reading holds, each counted each time it is reached (what is shared counts as often as it is met; a slice's spare places count too). A statement '..UptoSaid' is the law's where the arguments, and the package variables that the reading takes, are together of bulk at most 1048576: NARROWER than '..Said'. Prove '..Said' where nothing that the law and all that it calls make is longer than what came in: it says more and counts as full. Else prove '..UptoSaid'. A law counts once. -/
mutual
def uptoBulk {H : Type} : DataW H → Nat
  | .lit (.string bytes) => bytes.length + 1
  | .lit _ => 1
  | .nil => 1
  | .ptr d => uptoBulk d + 1
  | .slice elems spare => uptoBulkAll elems + uptoBulkAll spare + 1
  | .agg parts => uptoBulkAll parts + 1
  | .iface _ d => uptoBulk d + 1
  | .map entries => uptoBulkEntries entries + 1
  | .held _ => 1
def uptoBulkAll {H : Type} : List (DataW H) → Nat
  | [] => 0
  | d :: r => uptoBulk d + uptoBulkAll r
def uptoBulkEntries {H : Type} : List (Lit × DataW H) → Nat
  | [] => 0
  | x :: r => uptoBulkEntry x + uptoBulkEntries r
def uptoBulkEntry {H : Type} : Lit × DataW H → Nat
  | (.string bytes, d) => bytes.length + uptoBulk d + 1
  | (_, d) => uptoBulk d + 1
 end
def uptoSmall : (H : Type) → List (DataW H) → Bool := fun _ ds => decide (uptoBulkAll ds ≤ 1048576)
def OpenSpec.upto (s : _root_.Go.ChangeSpec) : _root_.Go.OpenSpec := { _root_.Go.OpenSpec.ofChange s with cond := some uptoSmall }

/-- 'vitolalaw13.DutyFractions', WHERE WHAT IT READS IS OF BULK AT MOST 1048576: true; the input reads as it did. -/
def dutyFractionsUptoRow : OpenClaim := { program := "ytcaoifacidnhcaadoor", sum := "8d246e4c1cb9e923aa4fabc31e3aed1a62e3f87ae207bd877947879f77ae1c00", func := "vitola/vitolalaw13.DutyFractions", spec := "dutyFractions", unfollowed := true, recurses := true, named := ["vitola/duty.primes"], apart := false, laid := [("vitola/duty.primes", laid_vitola_duty_primes)], narrowed := true }
def DutyFractionsUptoSaid : Prop := dutyFractionsUptoRow.holds Tryd.pinned (OpenSpec.upto dutyFractionsSpec)

/-- 'vitolalaw13.DutyFewests', WHERE WHAT IT READS IS OF BULK AT MOST 1048576: true; the input reads as it did. -/
def dutyFewestsUptoRow : OpenClaim := { program := "ytcaoifacidnhcaadoor", sum := "8d246e4c1cb9e923aa4fabc31e3aed1a62e3f87ae207bd877947879f77ae1c00", func := "vitola/vitolalaw13.DutyFewests", spec := "dutyFewests", unfollowed := true, recurses := true, named := ["vitola/duty.primes"], apart := false, laid := [("vitola/duty.primes", laid_vitola_duty_primes)], narrowed := true }
def DutyFewestsUptoSaid : Prop := dutyFewestsUptoRow.holds Tryd.pinned (OpenSpec.upto dutyFewestsSpec)

/-- 'vitolalaw13.DutyParts', WHERE WHAT IT READS IS OF BULK AT MOST 1048576: true; the input reads as it did. -/
def dutyPartsUptoRow : OpenClaim := { program := "ytcaoifacidnhcaadoor", sum := "8d246e4c1cb9e923aa4fabc31e3aed1a62e3f87ae207bd877947879f77ae1c00", func := "vitola/vitolalaw13.DutyParts", spec := "dutyParts", unfollowed := true, recurses := true, named := ["vitola/duty.primes"], apart := false, laid := [("vitola/duty.primes", laid_vitola_duty_primes)], narrowed := true }
def DutyPartsUptoSaid : Prop := dutyPartsUptoRow.holds Tryd.pinned (OpenSpec.upto dutyPartsSpec)

/-- 'vitolalaw13.DutyPairs', WHERE WHAT IT READS IS OF BULK AT MOST 1048576: true; the input reads as it did. -/
def dutyPairsUptoRow : OpenClaim := { program := "ytcaoifacidnhcaadoor", sum := "8d246e4c1cb9e923aa4fabc31e3aed1a62e3f87ae207bd877947879f77ae1c00", func := "vitola/vitolalaw13.DutyPairs", spec := "dutyPairs", unfollowed := true, recurses := true, named := ["vitola/duty.primes"], apart := false, laid := [("vitola/duty.primes", laid_vitola_duty_primes)], narrowed := true }
def DutyPairsUptoSaid : Prop := dutyPairsUptoRow.holds Tryd.pinned (OpenSpec.upto dutyPairsSpec)

/-- 'vitolalaw13.DutySides', WHERE WHAT IT READS IS OF BULK AT MOST 1048576: true; the input reads as it did. -/
def dutySidesUptoRow : OpenClaim := { program := "ytcaoifacidnhcaadoor", sum := "8d246e4c1cb9e923aa4fabc31e3aed1a62e3f87ae207bd877947879f77ae1c00", func := "vitola/vitolalaw13.DutySides", spec := "dutySides", unfollowed := true, recurses := true, named := ["vitola/duty.primes"], apart := false, laid := [("vitola/duty.primes", laid_vitola_duty_primes)], narrowed := true }
def DutySidesUptoSaid : Prop := dutySidesUptoRow.holds Tryd.pinned (OpenSpec.upto dutySidesSpec)

/-- 'vitolalaw13.DutyFalls', WHERE WHAT IT READS IS OF BULK AT MOST 1048576: true; the input reads as it did. -/
def dutyFallsUptoRow : OpenClaim := { program := "ytcaoifacidnhcaadoor", sum := "8d246e4c1cb9e923aa4fabc31e3aed1a62e3f87ae207bd877947879f77ae1c00", func := "vitola/vitolalaw13.DutyFalls", spec := "dutyFalls", unfollowed := true, recurses := true, named := ["vitola/duty.primes"], apart := false, laid := [("vitola/duty.primes", laid_vitola_duty_primes)], narrowed := true }
def DutyFallsUptoSaid : Prop := dutyFallsUptoRow.holds Tryd.pinned (OpenSpec.upto dutyFallsSpec)

/-- 'vitolalaw13.DutyPaired', WHERE WHAT IT READS IS OF BULK AT MOST 1048576: true; the input reads as it did. -/
def dutyPairedUptoRow : OpenClaim := { program := "ytcaoifacidnhcaadoor", sum := "8d246e4c1cb9e923aa4fabc31e3aed1a62e3f87ae207bd877947879f77ae1c00", func := "vitola/vitolalaw13.DutyPaired", spec := "dutyPaired", unfollowed := true, recurses := true, named := ["vitola/duty.primes"], apart := false, laid := [("vitola/duty.primes", laid_vitola_duty_primes)], narrowed := true }
def DutyPairedUptoSaid : Prop := dutyPairedUptoRow.holds Tryd.pinned (OpenSpec.upto dutyPairedSpec)

/-- 'vitolalaw13.DutyFew', WHERE WHAT IT READS IS OF BULK AT MOST 1048576: true; the input reads as it did. -/
def dutyFewUptoRow : OpenClaim := { program := "ytcaoifacidnhcaadoor", sum := "8d246e4c1cb9e923aa4fabc31e3aed1a62e3f87ae207bd877947879f77ae1c00", func := "vitola/vitolalaw13.DutyFew", spec := "dutyFew", unfollowed := true, recurses := true, named := ["vitola/duty.primes"], apart := false, laid := [("vitola/duty.primes", laid_vitola_duty_primes)], narrowed := true }
def DutyFewUptoSaid : Prop := dutyFewUptoRow.holds Tryd.pinned (OpenSpec.upto dutyFewSpec)

/-- 'vitolalaw13.DutySummed', WHERE WHAT IT READS IS OF BULK AT MOST 1048576: true; the input reads as it did. -/
def dutySummedUptoRow : OpenClaim := { program := "ytcaoifacidnhcaadoor", sum := "8d246e4c1cb9e923aa4fabc31e3aed1a62e3f87ae207bd877947879f77ae1c00", func := "vitola/vitolalaw13.DutySummed", spec := "dutySummed", unfollowed := true, recurses := true, named := ["vitola/duty.primes"], apart := false, laid := [("vitola/duty.primes", laid_vitola_duty_primes)], narrowed := true }
def DutySummedUptoSaid : Prop := dutySummedUptoRow.holds Tryd.pinned (OpenSpec.upto dutySummedSpec)

/-- 'vitolalaw13.DutyDivided', WHERE WHAT IT READS IS OF BULK AT MOST 1048576: true; the input reads as it did. -/
def dutyDividedUptoRow : OpenClaim := { program := "ytcaoifacidnhcaadoor", sum := "8d246e4c1cb9e923aa4fabc31e3aed1a62e3f87ae207bd877947879f77ae1c00", func := "vitola/vitolalaw13.DutyDivided", spec := "dutyDivided", unfollowed := true, recurses := true, named := ["vitola/duty.primes"], apart := false, laid := [("vitola/duty.primes", laid_vitola_duty_primes)], narrowed := true }
def DutyDividedUptoSaid : Prop := dutyDividedUptoRow.holds Tryd.pinned (OpenSpec.upto dutyDividedSpec)

/-- 'vitolalaw13.DutyPaid', WHERE WHAT IT READS IS OF BULK AT MOST 1048576: true; the input reads as it did. -/
def dutyPaidUptoRow : OpenClaim := { program := "ytcaoifacidnhcaadoor", sum := "8d246e4c1cb9e923aa4fabc31e3aed1a62e3f87ae207bd877947879f77ae1c00", func := "vitola/vitolalaw13.DutyPaid", spec := "dutyPaid", unfollowed := true, recurses := true, named := ["vitola/duty.primes"], apart := false, laid := [("vitola/duty.primes", laid_vitola_duty_primes)], narrowed := true }
def DutyPaidUptoSaid : Prop := dutyPaidUptoRow.holds Tryd.pinned (OpenSpec.upto dutyPaidSpec)

/-- 'vitolalaw13.DutyEqual', WHERE WHAT IT READS IS OF BULK AT MOST 1048576: true; the input reads as it did. -/
def dutyEqualUptoRow : OpenClaim := { program := "ytcaoifacidnhcaadoor", sum := "8d246e4c1cb9e923aa4fabc31e3aed1a62e3f87ae207bd877947879f77ae1c00", func := "vitola/vitolalaw13.DutyEqual", spec := "dutyEqual", unfollowed := true, recurses := true, named := ["vitola/duty.primes"], apart := false, laid := [("vitola/duty.primes", laid_vitola_duty_primes)], narrowed := true }
def DutyEqualUptoSaid : Prop := dutyEqualUptoRow.holds Tryd.pinned (OpenSpec.upto dutyEqualSpec)

/-- 'vitolalaw13.DutyKnown', WHERE WHAT IT READS IS OF BULK AT MOST 1048576: true; the input reads as it did. -/
def dutyKnownUptoRow : OpenClaim := { program := "ytcaoifacidnhcaadoor", sum := "8d246e4c1cb9e923aa4fabc31e3aed1a62e3f87ae207bd877947879f77ae1c00", func := "vitola/vitolalaw13.DutyKnown", spec := "dutyKnown", unfollowed := true, recurses := true, named := ["vitola/duty.primes"], apart := false, laid := [("vitola/duty.primes", laid_vitola_duty_primes)], narrowed := true }
def DutyKnownUptoSaid : Prop := dutyKnownUptoRow.holds Tryd.pinned (OpenSpec.upto dutyKnownSpec)

end Rows
end Go.Proofs.YtcaoifacidnhcaaDoor
