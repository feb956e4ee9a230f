/-
  NARROWER THAN 'FOR EVERY INPUT', by the rows' own cells (each row's printed sentence says how): BondMade: laid · BondAny: laid · BondSteinhaus: laid · BondEdges: laid · BondCounted: laid · BondDual: laid · BondRules: laid · BondPlans: laid · BondKnown: laid · BondMore: laid · BondNamed: laid.
  DERIVED. THE GIVEN ROWS OF THIS SEAT. 11 by the template 'for every input the law returns true; each argument reads behind the call as it read before'; 0 by the template 'total and deterministic' (their statements: YticlkfhmmcepjaaDoorTotals.lean).
  GIVEN WITH THE SEED: the statements are not yours to turn. If you find one false, say at which input.
  Laid BY PROGRAM, IN A SANDBOX (cutbox-rows.mjs): the forced cells as the released guide's own fill.sh prints them over the translation 06c36885ad21770b… (all of the seat's roots in one cut). By AI agents, Wed Nov 11 2026. No macro, syntax, notation, axiom, sorry.
-/
import Derived.Test.YticlkfhmmcepjaaDoorChecked
import GoSem.Claim
import GoSem.ClaimJoined
import GoSem.ClaimMapViews
import Derived.JoinedTies
import Derived.KernelRfl
namespace Go.Proofs.YticlkfhmmcepjaaDoor
/- THE CELL 'sum', in the pinned program and in every row, IS THE sha256 OF THE DUMP (.gsa) THAT YticlkfhmmcepjaaDoorProg.lean LOADS. Nothing in Lean hashes anything: it is a label: what it is worth is what the hold of that sum in a sandbox is worth. -/
noncomputable def Tryd.pinned : Pinned := { name := "yticlkfhmmcepjaadoor", sum := "06c36885ad21770b1df37fbf95463ffa96284a291f5e869651362b566c9c6800", checked := Tryd.checked }
namespace Rows
def none {H : Type} : Left H := { results := [], args := [] }

/- WHAT THE LISTED PACKAGE-LEVEL VARIABLES READ AS WHEN THE CALL BEGINS. Each datum BY PROGRAM (the guide's laid-datum.mjs) off the statement by which the dump's own 'gosem.cut.vars' lays the variable. In a bare row this is a premise. The card (YticlkfhmmcepjaaDoorCards.lean) ties it to the program's text. -/
def laid_math_bits_deBruijn32tab {H : Type} : DataW H := .agg [.lit (.int .u8 0), .lit (.int .u8 1), .lit (.int .u8 28), .lit (.int .u8 2), .lit (.int .u8 29), .lit (.int .u8 14), .lit (.int .u8 24), .lit (.int .u8 3), .lit (.int .u8 30), .lit (.int .u8 22), .lit (.int .u8 20), .lit (.int .u8 15), .lit (.int .u8 25), .lit (.int .u8 17), .lit (.int .u8 4), .lit (.int .u8 8), .lit (.int .u8 31), .lit (.int .u8 27), .lit (.int .u8 13), .lit (.int .u8 23), .lit (.int .u8 21), .lit (.int .u8 19), .lit (.int .u8 16), .lit (.int .u8 7), .lit (.int .u8 26), .lit (.int .u8 12), .lit (.int .u8 18), .lit (.int .u8 6), .lit (.int .u8 11), .lit (.int .u8 5), .lit (.int .u8 10), .lit (.int .u8 9)]
def laid_math_bits_deBruijn64tab {H : Type} : DataW H := .agg [.lit (.int .u8 0), .lit (.int .u8 1), .lit (.int .u8 56), .lit (.int .u8 2), .lit (.int .u8 57), .lit (.int .u8 49), .lit (.int .u8 28), .lit (.int .u8 3), .lit (.int .u8 61), .lit (.int .u8 58), .lit (.int .u8 42), .lit (.int .u8 50), .lit (.int .u8 38), .lit (.int .u8 29), .lit (.int .u8 17), .lit (.int .u8 4), .lit (.int .u8 62), .lit (.int .u8 47), .lit (.int .u8 59), .lit (.int .u8 36), .lit (.int .u8 45), .lit (.int .u8 43), .lit (.int .u8 51), .lit (.int .u8 22), .lit (.int .u8 53), .lit (.int .u8 39), .lit (.int .u8 33), .lit (.int .u8 30), .lit (.int .u8 24), .lit (.int .u8 18), .lit (.int .u8 12), .lit (.int .u8 5), .lit (.int .u8 63), .lit (.int .u8 55), .lit (.int .u8 48), .lit (.int .u8 27), .lit (.int .u8 60), .lit (.int .u8 41), .lit (.int .u8 37), .lit (.int .u8 16), .lit (.int .u8 46), .lit (.int .u8 35), .lit (.int .u8 44), .lit (.int .u8 21), .lit (.int .u8 52), .lit (.int .u8 32), .lit (.int .u8 23), .lit (.int .u8 11), .lit (.int .u8 54), .lit (.int .u8 26), .lit (.int .u8 40), .lit (.int .u8 15), .lit (.int .u8 34), .lit (.int .u8 20), .lit (.int .u8 31), .lit (.int .u8 10), .lit (.int .u8 25), .lit (.int .u8 14), .lit (.int .u8 19), .lit (.int .u8 9), .lit (.int .u8 13), .lit (.int .u8 8), .lit (.int .u8 7), .lit (.int .u8 6)]

/-- 'vitolalaw10.BondMade': WHATEVER THE INPUT: true; the input reads as it did. -/
def bondMadeSpec : ChangeSpec := { name := "bondMade", fn := fun _ => fun
  | [d1, d2] => { results := [.lit (.bool true)], args := [d1, d2] }
  | _ => none }
def bondMadeRow : OpenClaim := { program := "yticlkfhmmcepjaadoor", sum := "06c36885ad21770b1df37fbf95463ffa96284a291f5e869651362b566c9c6800", func := "vitola/vitolalaw10.BondMade", spec := "bondMade", unfollowed := true, recurses := true, named := ["math/bits.deBruijn32tab", "math/bits.deBruijn64tab"], apart := false, laid := [("math/bits.deBruijn32tab", laid_math_bits_deBruijn32tab), ("math/bits.deBruijn64tab", laid_math_bits_deBruijn64tab)] }
def BondMadeSaid : Prop := bondMadeRow.holds Tryd.pinned (OpenSpec.ofChange bondMadeSpec)

/-- ITS FALSE NEIGHBOUR: 'it returns false'. Refute it at one input. -/
def bondMadeWrong : ChangeSpec := { name := "bondMade", fn := fun _ => fun
  | [d1, d2] => { results := [.lit (.bool false)], args := [d1, d2] }
  | _ => none }
def BondMadeWrongFalsely : Prop := bondMadeRow.holds Tryd.pinned (OpenSpec.ofChange bondMadeWrong)

/-- 'vitolalaw10.BondAny': WHATEVER THE INPUT: true; the input reads as it did. -/
def bondAnySpec : ChangeSpec := { name := "bondAny", fn := fun _ => fun
  | [d1, d2] => { results := [.lit (.bool true)], args := [d1, d2] }
  | _ => none }
def bondAnyRow : OpenClaim := { program := "yticlkfhmmcepjaadoor", sum := "06c36885ad21770b1df37fbf95463ffa96284a291f5e869651362b566c9c6800", func := "vitola/vitolalaw10.BondAny", spec := "bondAny", unfollowed := true, recurses := true, named := ["math/bits.deBruijn32tab", "math/bits.deBruijn64tab"], apart := false, laid := [("math/bits.deBruijn32tab", laid_math_bits_deBruijn32tab), ("math/bits.deBruijn64tab", laid_math_bits_deBruijn64tab)] }
def BondAnySaid : Prop := bondAnyRow.holds Tryd.pinned (OpenSpec.ofChange bondAnySpec)

/-- ITS FALSE NEIGHBOUR: 'it returns false'. Refute it at one input. -/
def bondAnyWrong : ChangeSpec := { name := "bondAny", fn := fun _ => fun
  | [d1, d2] => { results := [.lit (.bool false)], args := [d1, d2] }
  | _ => none }
def BondAnyWrongFalsely : Prop := bondAnyRow.holds Tryd.pinned (OpenSpec.ofChange bondAnyWrong)

/-- 'vitolalaw10.BondSteinhaus': WHATEVER THE INPUT: true; the input reads as it did. -/
def bondSteinhausSpec : ChangeSpec := { name := "bondSteinhaus", fn := fun _ => fun
  | [d] => { results := [.lit (.bool true)], args := [d] }
  | _ => none }
def bondSteinhausRow : OpenClaim := { program := "yticlkfhmmcepjaadoor", sum := "06c36885ad21770b1df37fbf95463ffa96284a291f5e869651362b566c9c6800", func := "vitola/vitolalaw10.BondSteinhaus", spec := "bondSteinhaus", unfollowed := true, recurses := true, named := ["math/bits.deBruijn32tab", "math/bits.deBruijn64tab"], apart := false, laid := [("math/bits.deBruijn32tab", laid_math_bits_deBruijn32tab), ("math/bits.deBruijn64tab", laid_math_bits_deBruijn64tab)] }
def BondSteinhausSaid : Prop := bondSteinhausRow.holds Tryd.pinned (OpenSpec.ofChange bondSteinhausSpec)

/-- ITS FALSE NEIGHBOUR: 'it returns false'. Refute it at one input. -/
def bondSteinhausWrong : ChangeSpec := { name := "bondSteinhaus", fn := fun _ => fun
  | [d] => { results := [.lit (.bool false)], args := [d] }
  | _ => none }
def BondSteinhausWrongFalsely : Prop := bondSteinhausRow.holds Tryd.pinned (OpenSpec.ofChange bondSteinhausWrong)

/-- 'vitolalaw10.BondEdges': WHATEVER THE INPUT: true; the input reads as it did. -/
def bondEdgesSpec : ChangeSpec := { name := "bondEdges", fn := fun _ => fun
  | [d] => { results := [.lit (.bool true)], args := [d] }
  | _ => none }
def bondEdgesRow : OpenClaim := { program := "yticlkfhmmcepjaadoor", sum := "06c36885ad21770b1df37fbf95463ffa96284a291f5e869651362b566c9c6800", func := "vitola/vitolalaw10.BondEdges", spec := "bondEdges", unfollowed := true, recurses := true, named := ["math/bits.deBruijn32tab", "math/bits.deBruijn64tab"], apart := false, laid := [("math/bits.deBruijn32tab", laid_math_bits_deBruijn32tab), ("math/bits.deBruijn64tab", laid_math_bits_deBruijn64tab)] }
def BondEdgesSaid : Prop := bondEdgesRow.holds Tryd.pinned (OpenSpec.ofChange bondEdgesSpec)

/-- ITS FALSE NEIGHBOUR: 'it returns false'. Refute it at one input. -/
def bondEdgesWrong : ChangeSpec := { name := "bondEdges", fn := fun _ => fun
  | [d] => { results := [.lit (.bool false)], args := [d] }
  | _ => none }
def BondEdgesWrongFalsely : Prop := bondEdgesRow.holds Tryd.pinned (OpenSpec.ofChange bondEdgesWrong)

/-- 'vitolalaw10.BondCounted': WHATEVER THE INPUT: true; the input reads as it did. -/
def bondCountedSpec : ChangeSpec := { name := "bondCounted", fn := fun _ => fun
  | [d1, d2] => { results := [.lit (.bool true)], args := [d1, d2] }
  | _ => none }
def bondCountedRow : OpenClaim := { program := "yticlkfhmmcepjaadoor", sum := "06c36885ad21770b1df37fbf95463ffa96284a291f5e869651362b566c9c6800", func := "vitola/vitolalaw10.BondCounted", spec := "bondCounted", unfollowed := true, recurses := true, named := ["math/bits.deBruijn32tab", "math/bits.deBruijn64tab"], apart := false, laid := [("math/bits.deBruijn32tab", laid_math_bits_deBruijn32tab), ("math/bits.deBruijn64tab", laid_math_bits_deBruijn64tab)] }
def BondCountedSaid : Prop := bondCountedRow.holds Tryd.pinned (OpenSpec.ofChange bondCountedSpec)

/-- ITS FALSE NEIGHBOUR: 'it returns false'. Refute it at one input. -/
def bondCountedWrong : ChangeSpec := { name := "bondCounted", fn := fun _ => fun
  | [d1, d2] => { results := [.lit (.bool false)], args := [d1, d2] }
  | _ => none }
def BondCountedWrongFalsely : Prop := bondCountedRow.holds Tryd.pinned (OpenSpec.ofChange bondCountedWrong)

/-- 'vitolalaw10.BondDual': WHATEVER THE INPUT: true; the input reads as it did. -/
def bondDualSpec : ChangeSpec := { name := "bondDual", fn := fun _ => fun
  | [d] => { results := [.lit (.bool true)], args := [d] }
  | _ => none }
def bondDualRow : OpenClaim := { program := "yticlkfhmmcepjaadoor", sum := "06c36885ad21770b1df37fbf95463ffa96284a291f5e869651362b566c9c6800", func := "vitola/vitolalaw10.BondDual", spec := "bondDual", unfollowed := true, recurses := true, named := ["math/bits.deBruijn32tab", "math/bits.deBruijn64tab"], apart := false, laid := [("math/bits.deBruijn32tab", laid_math_bits_deBruijn32tab), ("math/bits.deBruijn64tab", laid_math_bits_deBruijn64tab)] }
def BondDualSaid : Prop := bondDualRow.holds Tryd.pinned (OpenSpec.ofChange bondDualSpec)

/-- ITS FALSE NEIGHBOUR: 'it returns false'. Refute it at one input. -/
def bondDualWrong : ChangeSpec := { name := "bondDual", fn := fun _ => fun
  | [d] => { results := [.lit (.bool false)], args := [d] }
  | _ => none }
def BondDualWrongFalsely : Prop := bondDualRow.holds Tryd.pinned (OpenSpec.ofChange bondDualWrong)

/-- 'vitolalaw10.BondRules': WHATEVER THE INPUT: true; the input reads as it did. -/
def bondRulesSpec : ChangeSpec := { name := "bondRules", fn := fun _ => fun
  | [d1, d2] => { results := [.lit (.bool true)], args := [d1, d2] }
  | _ => none }
def bondRulesRow : OpenClaim := { program := "yticlkfhmmcepjaadoor", sum := "06c36885ad21770b1df37fbf95463ffa96284a291f5e869651362b566c9c6800", func := "vitola/vitolalaw10.BondRules", spec := "bondRules", unfollowed := true, recurses := true, named := ["math/bits.deBruijn32tab", "math/bits.deBruijn64tab"], apart := false, laid := [("math/bits.deBruijn32tab", laid_math_bits_deBruijn32tab), ("math/bits.deBruijn64tab", laid_math_bits_deBruijn64tab)] }
def BondRulesSaid : Prop := bondRulesRow.holds Tryd.pinned (OpenSpec.ofChange bondRulesSpec)

/-- ITS FALSE NEIGHBOUR: 'it returns false'. Refute it at one input. -/
def bondRulesWrong : ChangeSpec := { name := "bondRules", fn := fun _ => fun
  | [d1, d2] => { results := [.lit (.bool false)], args := [d1, d2] }
  | _ => none }
def BondRulesWrongFalsely : Prop := bondRulesRow.holds Tryd.pinned (OpenSpec.ofChange bondRulesWrong)

/-- 'vitolalaw10.BondPlans': WHATEVER THE INPUT: true; the input reads as it did. -/
def bondPlansSpec : ChangeSpec := { name := "bondPlans", fn := fun _ => fun
  | [d1, d2] => { results := [.lit (.bool true)], args := [d1, d2] }
  | _ => none }
def bondPlansRow : OpenClaim := { program := "yticlkfhmmcepjaadoor", sum := "06c36885ad21770b1df37fbf95463ffa96284a291f5e869651362b566c9c6800", func := "vitola/vitolalaw10.BondPlans", spec := "bondPlans", unfollowed := true, recurses := true, named := ["math/bits.deBruijn32tab", "math/bits.deBruijn64tab"], apart := false, laid := [("math/bits.deBruijn32tab", laid_math_bits_deBruijn32tab), ("math/bits.deBruijn64tab", laid_math_bits_deBruijn64tab)] }
def BondPlansSaid : Prop := bondPlansRow.holds Tryd.pinned (OpenSpec.ofChange bondPlansSpec)

/-- ITS FALSE NEIGHBOUR: 'it returns false'. Refute it at one input. -/
def bondPlansWrong : ChangeSpec := { name := "bondPlans", fn := fun _ => fun
  | [d1, d2] => { results := [.lit (.bool false)], args := [d1, d2] }
  | _ => none }
def BondPlansWrongFalsely : Prop := bondPlansRow.holds Tryd.pinned (OpenSpec.ofChange bondPlansWrong)

/-- 'vitolalaw10.BondKnown': WHATEVER THE INPUT: true; the input reads as it did. -/
def bondKnownSpec : ChangeSpec := { name := "bondKnown", fn := fun _ => fun
  | [] => { results := [.lit (.bool true)], args := [] }
  | _ => none }
def bondKnownRow : OpenClaim := { program := "yticlkfhmmcepjaadoor", sum := "06c36885ad21770b1df37fbf95463ffa96284a291f5e869651362b566c9c6800", func := "vitola/vitolalaw10.BondKnown", spec := "bondKnown", unfollowed := true, recurses := true, named := ["math/bits.deBruijn32tab", "math/bits.deBruijn64tab"], apart := false, laid := [("math/bits.deBruijn32tab", laid_math_bits_deBruijn32tab), ("math/bits.deBruijn64tab", laid_math_bits_deBruijn64tab)] }
def BondKnownSaid : Prop := bondKnownRow.holds Tryd.pinned (OpenSpec.ofChange bondKnownSpec)

/-- ITS FALSE NEIGHBOUR: 'it returns false'. Refute it at one input. -/
def bondKnownWrong : ChangeSpec := { name := "bondKnown", fn := fun _ => fun
  | [] => { results := [.lit (.bool false)], args := [] }
  | _ => none }
def BondKnownWrongFalsely : Prop := bondKnownRow.holds Tryd.pinned (OpenSpec.ofChange bondKnownWrong)

/-- 'vitolalaw10.BondMore': WHATEVER THE INPUT: true; the input reads as it did. -/
def bondMoreSpec : ChangeSpec := { name := "bondMore", fn := fun _ => fun
  | [d1, d2, d3, d4] => { results := [.lit (.bool true)], args := [d1, d2, d3, d4] }
  | _ => none }
def bondMoreRow : OpenClaim := { program := "yticlkfhmmcepjaadoor", sum := "06c36885ad21770b1df37fbf95463ffa96284a291f5e869651362b566c9c6800", func := "vitola/vitolalaw10.BondMore", spec := "bondMore", unfollowed := true, recurses := true, named := ["math/bits.deBruijn32tab", "math/bits.deBruijn64tab"], apart := false, laid := [("math/bits.deBruijn32tab", laid_math_bits_deBruijn32tab), ("math/bits.deBruijn64tab", laid_math_bits_deBruijn64tab)] }
def BondMoreSaid : Prop := bondMoreRow.holds Tryd.pinned (OpenSpec.ofChange bondMoreSpec)

/-- ITS FALSE NEIGHBOUR: 'it returns false'. Refute it at one input. -/
def bondMoreWrong : ChangeSpec := { name := "bondMore", fn := fun _ => fun
  | [d1, d2, d3, d4] => { results := [.lit (.bool false)], args := [d1, d2, d3, d4] }
  | _ => none }
def BondMoreWrongFalsely : Prop := bondMoreRow.holds Tryd.pinned (OpenSpec.ofChange bondMoreWrong)

/-- 'vitolalaw10.BondNamed': WHATEVER THE INPUT: true; the input reads as it did. -/
def bondNamedSpec : ChangeSpec := { name := "bondNamed", fn := fun _ => fun
  | [d1, d2] => { results := [.lit (.bool true)], args := [d1, d2] }
  | _ => none }
def bondNamedRow : OpenClaim := { program := "yticlkfhmmcepjaadoor", sum := "06c36885ad21770b1df37fbf95463ffa96284a291f5e869651362b566c9c6800", func := "vitola/vitolalaw10.BondNamed", spec := "bondNamed", unfollowed := true, recurses := true, named := ["math/bits.deBruijn32tab", "math/bits.deBruijn64tab"], apart := false, laid := [("math/bits.deBruijn32tab", laid_math_bits_deBruijn32tab), ("math/bits.deBruijn64tab", laid_math_bits_deBruijn64tab)] }
def BondNamedSaid : Prop := bondNamedRow.holds Tryd.pinned (OpenSpec.ofChange bondNamedSpec)

/-- ITS FALSE NEIGHBOUR: 'it returns false'. Refute it at one input. -/
def bondNamedWrong : ChangeSpec := { name := "bondNamed", fn := fun _ => fun
  | [d1, d2] => { results := [.lit (.bool false)], args := [d1, d2] }
  | _ => none }
def BondNamedWrongFalsely : Prop := bondNamedRow.holds Tryd.pinned (OpenSpec.ofChange bondNamedWrong)

/- THE SECOND FORM. 'bulk': how many values and letters a reading holds, each counted each time it is reached (what is shared counts as often as it is met; a slice's spare places count too). A statement '..UptoSaid' is the law's where the arguments, and the package variables that the reading takes, are together of bulk at most 1048576: NARROWER than '..Said'. Prove '..Said' where nothing that the law and all that it calls make is longer than what came in: it says more and counts as full. Else prove '..UptoSaid'. A law counts once. -/
mutual
def uptoBulk {H : Type} : DataW H → Nat
  | .lit (.string bytes) => bytes.length + 1
  | .lit _ => 1
  | .nil => 1
  | .ptr d => uptoBulk d + 1
  | .slice elems spare => uptoBulkAll elems + uptoBulkAll spare + 1
  | .agg parts => uptoBulkAll parts + 1
  | .iface _ d => uptoBulk d + 1
  | .map entries => uptoBulkEntries entries + 1
  | .held _ => 1
def uptoBulkAll {H : Type} : List (DataW H) → Nat
  | [] => 0
  | d :: r => uptoBulk d + uptoBulkAll r
def uptoBulkEntries {H : Type} : List (Lit × DataW H) → Nat
  | [] => 0
  | x :: r => uptoBulkEntry x + uptoBulkEntries r
def uptoBulkEntry {H : Type} : Lit × DataW H → Nat
  | (.string bytes, d) => bytes.length + uptoBulk d + 1
  | (_, d) => uptoBulk d + 1
 end
def uptoSmall : (H : Type) → List (DataW H) → Bool := fun _ ds => decide (uptoBulkAll ds ≤ 1048576)
def OpenSpec.upto (s : _root_.Go.ChangeSpec) : _root_.Go.OpenSpec := { _root_.Go.OpenSpec.ofChange s with cond := some uptoSmall }

/-- 'vitolalaw10.BondMade', WHERE WHAT IT READS IS OF BULK AT MOST 1048576: true; the input reads as it did. -/
def bondMadeUptoRow : OpenClaim := { program := "yticlkfhmmcepjaadoor", sum := "06c36885ad21770b1df37fbf95463ffa96284a291f5e869651362b566c9c6800", func := "vitola/vitolalaw10.BondMade", spec := "bondMade", unfollowed := true, recurses := true, named := ["math/bits.deBruijn32tab", "math/bits.deBruijn64tab"], apart := false, laid := [("math/bits.deBruijn32tab", laid_math_bits_deBruijn32tab), ("math/bits.deBruijn64tab", laid_math_bits_deBruijn64tab)], narrowed := true }
def BondMadeUptoSaid : Prop := bondMadeUptoRow.holds Tryd.pinned (OpenSpec.upto bondMadeSpec)

/-- 'vitolalaw10.BondAny', WHERE WHAT IT READS IS OF BULK AT MOST 1048576: true; the input reads as it did. -/
def bondAnyUptoRow : OpenClaim := { program := "yticlkfhmmcepjaadoor", sum := "06c36885ad21770b1df37fbf95463ffa96284a291f5e869651362b566c9c6800", func := "vitola/vitolalaw10.BondAny", spec := "bondAny", unfollowed := true, recurses := true, named := ["math/bits.deBruijn32tab", "math/bits.deBruijn64tab"], apart := false, laid := [("math/bits.deBruijn32tab", laid_math_bits_deBruijn32tab), ("math/bits.deBruijn64tab", laid_math_bits_deBruijn64tab)], narrowed := true }
def BondAnyUptoSaid : Prop := bondAnyUptoRow.holds Tryd.pinned (OpenSpec.upto bondAnySpec)

/-- 'vitolalaw10.BondSteinhaus', WHERE WHAT IT READS IS OF BULK AT MOST 1048576: true; the input reads as it did. -/
def bondSteinhausUptoRow : OpenClaim := { program := "yticlkfhmmcepjaadoor", sum := "06c36885ad21770b1df37fbf95463ffa96284a291f5e869651362b566c9c6800", func := "vitola/vitolalaw10.BondSteinhaus", spec := "bondSteinhaus", unfollowed := true, recurses := true, named := ["math/bits.deBruijn32tab", "math/bits.deBruijn64tab"], apart := false, laid := [("math/bits.deBruijn32tab", laid_math_bits_deBruijn32tab), ("math/bits.deBruijn64tab", laid_math_bits_deBruijn64tab)], narrowed := true }
def BondSteinhausUptoSaid : Prop := bondSteinhausUptoRow.holds Tryd.pinned (OpenSpec.upto bondSteinhausSpec)

/-- 'vitolalaw10.BondEdges', WHERE WHAT IT READS IS OF BULK AT MOST 1048576: true; the input reads as it did. -/
def bondEdgesUptoRow : OpenClaim := { program := "yticlkfhmmcepjaadoor", sum := "06c36885ad21770b1df37fbf95463ffa96284a291f5e869651362b566c9c6800", func := "vitola/vitolalaw10.BondEdges", spec := "bondEdges", unfollowed := true, recurses := true, named := ["math/bits.deBruijn32tab", "math/bits.deBruijn64tab"], apart := false, laid := [("math/bits.deBruijn32tab", laid_math_bits_deBruijn32tab), ("math/bits.deBruijn64tab", laid_math_bits_deBruijn64tab)], narrowed := true }
def BondEdgesUptoSaid : Prop := bondEdgesUptoRow.holds Tryd.pinned (OpenSpec.upto bondEdgesSpec)

/-- 'vitolalaw10.BondCounted', WHERE WHAT IT READS IS OF BULK AT MOST 1048576: true; the input reads as it did. -/
def bondCountedUptoRow : OpenClaim := { program := "yticlkfhmmcepjaadoor", sum := "06c36885ad21770b1df37fbf95463ffa96284a291f5e869651362b566c9c6800", func := "vitola/vitolalaw10.BondCounted", spec := "bondCounted", unfollowed := true, recurses := true, named := ["math/bits.deBruijn32tab", "math/bits.deBruijn64tab"], apart := false, laid := [("math/bits.deBruijn32tab", laid_math_bits_deBruijn32tab), ("math/bits.deBruijn64tab", laid_math_bits_deBruijn64tab)], narrowed := true }
def BondCountedUptoSaid : Prop := bondCountedUptoRow.holds Tryd.pinned (OpenSpec.upto bondCountedSpec)

/-- 'vitolalaw10.BondDual', WHERE WHAT IT READS IS OF BULK AT MOST 1048576: true; the input reads as it did. -/
def bondDualUptoRow : OpenClaim := { program := "yticlkfhmmcepjaadoor", sum := "06c36885ad21770b1df37fbf95463ffa96284a291f5e869651362b566c9c6800", func := "vitola/vitolalaw10.BondDual", spec := "bondDual", unfollowed := true, recurses := true, named := ["math/bits.deBruijn32tab", "math/bits.deBruijn64tab"], apart := false, laid := [("math/bits.deBruijn32tab", laid_math_bits_deBruijn32tab), ("math/bits.deBruijn64tab", laid_math_bits_deBruijn64tab)], narrowed := true }
def BondDualUptoSaid : Prop := bondDualUptoRow.holds Tryd.pinned (OpenSpec.upto bondDualSpec)

/-- 'vitolalaw10.BondRules', WHERE WHAT IT READS IS OF BULK AT MOST 1048576: true; the input reads as it did. -/
def bondRulesUptoRow : OpenClaim := { program := "yticlkfhmmcepjaadoor", sum := "06c36885ad21770b1df37fbf95463ffa96284a291f5e869651362b566c9c6800", func := "vitola/vitolalaw10.BondRules", spec := "bondRules", unfollowed := true, recurses := true, named := ["math/bits.deBruijn32tab", "math/bits.deBruijn64tab"], apart := false, laid := [("math/bits.deBruijn32tab", laid_math_bits_deBruijn32tab), ("math/bits.deBruijn64tab", laid_math_bits_deBruijn64tab)], narrowed := true }
def BondRulesUptoSaid : Prop := bondRulesUptoRow.holds Tryd.pinned (OpenSpec.upto bondRulesSpec)

/-- 'vitolalaw10.BondPlans', WHERE WHAT IT READS IS OF BULK AT MOST 1048576: true; the input reads as it did. -/
def bondPlansUptoRow : OpenClaim := { program := "yticlkfhmmcepjaadoor", sum := "06c36885ad21770b1df37fbf95463ffa96284a291f5e869651362b566c9c6800", func := "vitola/vitolalaw10.BondPlans", spec := "bondPlans", unfollowed := true, recurses := true, named := ["math/bits.deBruijn32tab", "math/bits.deBruijn64tab"], apart := false, laid := [("math/bits.deBruijn32tab", laid_math_bits_deBruijn32tab), ("math/bits.deBruijn64tab", laid_math_bits_deBruijn64tab)], narrowed := true }
def BondPlansUptoSaid : Prop := bondPlansUptoRow.holds Tryd.pinned (OpenSpec.upto bondPlansSpec)

/-- 'vitolalaw10.BondKnown', WHERE WHAT IT READS IS OF BULK AT MOST 1048576: true; the input reads as it did. -/
def bondKnownUptoRow : OpenClaim := { program := "yticlkfhmmcepjaadoor", sum := "06c36885ad21770b1df37fbf95463ffa96284a291f5e869651362b566c9c6800", func := "vitola/vitolalaw10.BondKnown", spec := "bondKnown", unfollowed := true, recurses := true, named := ["math/bits.deBruijn32tab", "math/bits.deBruijn64tab"], apart := false, laid := [("math/bits.deBruijn32tab", laid_math_bits_deBruijn32tab), ("math/bits.deBruijn64tab", laid_math_bits_deBruijn64tab)], narrowed := true }
def BondKnownUptoSaid : Prop := bondKnownUptoRow.holds Tryd.pinned (OpenSpec.upto bondKnownSpec)

/-- 'vitolalaw10.BondMore', WHERE WHAT IT READS IS OF BULK AT MOST 1048576: true; the input reads as it did. -/
def bondMoreUptoRow : OpenClaim := { program := "yticlkfhmmcepjaadoor", sum := "06c36885ad21770b1df37fbf95463ffa96284a291f5e869651362b566c9c6800", func := "vitola/vitolalaw10.BondMore", spec := "bondMore", unfollowed := true, recurses := true, named := ["math/bits.deBruijn32tab", "math/bits.deBruijn64tab"], apart := false, laid := [("math/bits.deBruijn32tab", laid_math_bits_deBruijn32tab), ("math/bits.deBruijn64tab", laid_math_bits_deBruijn64tab)], narrowed := true }
def BondMoreUptoSaid : Prop := bondMoreUptoRow.holds Tryd.pinned (OpenSpec.upto bondMoreSpec)

/-- 'vitolalaw10.BondNamed', WHERE WHAT IT READS IS OF BULK AT MOST 1048576: true; the input reads as it did. -/
def bondNamedUptoRow : OpenClaim := { program := "yticlkfhmmcepjaadoor", sum := "06c36885ad21770b1df37fbf95463ffa96284a291f5e869651362b566c9c6800", func := "vitola/vitolalaw10.BondNamed", spec := "bondNamed", unfollowed := true, recurses := true, named := ["math/bits.deBruijn32tab", "math/bits.deBruijn64tab"], apart := false, laid := [("math/bits.deBruijn32tab", laid_math_bits_deBruijn32tab), ("math/bits.deBruijn64tab", laid_math_bits_deBruijn64tab)], narrowed := true }
def BondNamedUptoSaid : Prop := bondNamedUptoRow.holds Tryd.pinned (OpenSpec.upto bondNamedSpec)

end Rows
end Go.Proofs.YticlkfhmmcepjaaDoor
