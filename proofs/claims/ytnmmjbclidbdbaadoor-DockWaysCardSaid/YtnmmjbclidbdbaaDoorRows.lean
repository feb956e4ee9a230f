/-
  NARROWER THAN 'FOR EVERY INPUT', by the rows' own cells (each row's printed sentence says how): DockParks: laid · DockProves: laid · DockCounts: laid · DockTurns: laid · DockNext: laid · DockKnown: laid · DockWeiss: laid · DockPollak: laid · DockProved: laid · DockOrders: laid · DockWays: laid · DockLess: laid.
  DERIVED. THE GIVEN ROWS OF THIS SEAT. 12 by the template 'for every input the law returns true; each argument reads behind the call as it read before'; 0 by the template 'total and deterministic' (their statements: YtnmmjbclidbdbaaDoorTotals.lean).
  GIVEN WITH THE SEED: the statements are not yours to turn. If you find one false, say at which input.
  Laid BY PROGRAM, IN A SANDBOX (cutbox-rows.mjs): the forced cells as the released guide's own fill.sh prints them over the translation ab5dc89d0ea3062b… (all of the seat's roots in one cut). By AI agents, Wed Nov 11 2026. No macro, syntax, notation, axiom, sorry.
-/
import Derived.Test.YtnmmjbclidbdbaaDoorChecked
import GoSem.Claim
import GoSem.ClaimJoined
import GoSem.ClaimMapViews
import Derived.JoinedTies
import Derived.KernelRfl
namespace Go.Proofs.YtnmmjbclidbdbaaDoor
/- THE CELL 'sum', in the pinned program and in every row, IS THE sha256 OF THE DUMP (.gsa) THAT YtnmmjbclidbdbaaDoorProg.lean LOADS. Nothing in Lean hashes anything: it is a label: what it is worth is what the hold of that sum in a sandbox is worth. -/
noncomputable def Tryd.pinned : Pinned := { name := "ytnmmjbclidbdbaadoor", sum := "ab5dc89d0ea3062b40274a5b4fee8faa46ab005a0fca46bfac10c655b361826f", checked := Tryd.checked }
namespace Rows
def none {H : Type} : Left H := { results := [], args := [] }

/- WHAT THE LISTED PACKAGE-LEVEL VARIABLES READ AS WHEN THE CALL BEGINS. Each datum BY PROGRAM (the guide's laid-datum.mjs) off the statement by which the dump's own 'gosem.cut.vars' lays the variable. In a bare row this is a premise. The card (YtnmmjbclidbdbaaDoorCards.lean) ties it to the program's text. -/
def laid_math_bits_deBruijn32tab {H : Type} : DataW H := .agg [.lit (.int .u8 0), .lit (.int .u8 1), .lit (.int .u8 28), .lit (.int .u8 2), .lit (.int .u8 29), .lit (.int .u8 14), .lit (.int .u8 24), .lit (.int .u8 3), .lit (.int .u8 30), .lit (.int .u8 22), .lit (.int .u8 20), .lit (.int .u8 15), .lit (.int .u8 25), .lit (.int .u8 17), .lit (.int .u8 4), .lit (.int .u8 8), .lit (.int .u8 31), .lit (.int .u8 27), .lit (.int .u8 13), .lit (.int .u8 23), .lit (.int .u8 21), .lit (.int .u8 19), .lit (.int .u8 16), .lit (.int .u8 7), .lit (.int .u8 26), .lit (.int .u8 12), .lit (.int .u8 18), .lit (.int .u8 6), .lit (.int .u8 11), .lit (.int .u8 5), .lit (.int .u8 10), .lit (.int .u8 9)]
def laid_math_bits_deBruijn64tab {H : Type} : DataW H := .agg [.lit (.int .u8 0), .lit (.int .u8 1), .lit (.int .u8 56), .lit (.int .u8 2), .lit (.int .u8 57), .lit (.int .u8 49), .lit (.int .u8 28), .lit (.int .u8 3), .lit (.int .u8 61), .lit (.int .u8 58), .lit (.int .u8 42), .lit (.int .u8 50), .lit (.int .u8 38), .lit (.int .u8 29), .lit (.int .u8 17), .lit (.int .u8 4), .lit (.int .u8 62), .lit (.int .u8 47), .lit (.int .u8 59), .lit (.int .u8 36), .lit (.int .u8 45), .lit (.int .u8 43), .lit (.int .u8 51), .lit (.int .u8 22), .lit (.int .u8 53), .lit (.int .u8 39), .lit (.int .u8 33), .lit (.int .u8 30), .lit (.int .u8 24), .lit (.int .u8 18), .lit (.int .u8 12), .lit (.int .u8 5), .lit (.int .u8 63), .lit (.int .u8 55), .lit (.int .u8 48), .lit (.int .u8 27), .lit (.int .u8 60), .lit (.int .u8 41), .lit (.int .u8 37), .lit (.int .u8 16), .lit (.int .u8 46), .lit (.int .u8 35), .lit (.int .u8 44), .lit (.int .u8 21), .lit (.int .u8 52), .lit (.int .u8 32), .lit (.int .u8 23), .lit (.int .u8 11), .lit (.int .u8 54), .lit (.int .u8 26), .lit (.int .u8 40), .lit (.int .u8 15), .lit (.int .u8 34), .lit (.int .u8 20), .lit (.int .u8 31), .lit (.int .u8 10), .lit (.int .u8 25), .lit (.int .u8 14), .lit (.int .u8 19), .lit (.int .u8 9), .lit (.int .u8 13), .lit (.int .u8 8), .lit (.int .u8 7), .lit (.int .u8 6)]

/-- 'vitolalaw01.DockParks': WHATEVER THE INPUT: true; the input reads as it did. -/
def dockParksSpec : ChangeSpec := { name := "dockParks", fn := fun _ => fun
  | [d1, d2, d3] => { results := [.lit (.bool true)], args := [d1, d2, d3] }
  | _ => none }
def dockParksRow : OpenClaim := { program := "ytnmmjbclidbdbaadoor", sum := "ab5dc89d0ea3062b40274a5b4fee8faa46ab005a0fca46bfac10c655b361826f", func := "vitola/vitolalaw01.DockParks", spec := "dockParks", unfollowed := true, recurses := true, named := ["math/bits.deBruijn32tab", "math/bits.deBruijn64tab"], plainKeys := false, apart := false, laid := [("math/bits.deBruijn32tab", laid_math_bits_deBruijn32tab), ("math/bits.deBruijn64tab", laid_math_bits_deBruijn64tab)] }
def DockParksSaid : Prop := dockParksRow.holds Tryd.pinned (OpenSpec.ofChange dockParksSpec)

/-- ITS FALSE NEIGHBOUR: 'it returns false'. Refute it at one input. -/
def dockParksWrong : ChangeSpec := { name := "dockParks", fn := fun _ => fun
  | [d1, d2, d3] => { results := [.lit (.bool false)], args := [d1, d2, d3] }
  | _ => none }
def DockParksWrongFalsely : Prop := dockParksRow.holds Tryd.pinned (OpenSpec.ofChange dockParksWrong)

/-- 'vitolalaw01.DockProves': WHATEVER THE INPUT: true; the input reads as it did. -/
def dockProvesSpec : ChangeSpec := { name := "dockProves", fn := fun _ => fun
  | [d1, d2, d3] => { results := [.lit (.bool true)], args := [d1, d2, d3] }
  | _ => none }
def dockProvesRow : OpenClaim := { program := "ytnmmjbclidbdbaadoor", sum := "ab5dc89d0ea3062b40274a5b4fee8faa46ab005a0fca46bfac10c655b361826f", func := "vitola/vitolalaw01.DockProves", spec := "dockProves", unfollowed := true, recurses := true, named := ["math/bits.deBruijn32tab", "math/bits.deBruijn64tab"], plainKeys := false, apart := false, laid := [("math/bits.deBruijn32tab", laid_math_bits_deBruijn32tab), ("math/bits.deBruijn64tab", laid_math_bits_deBruijn64tab)] }
def DockProvesSaid : Prop := dockProvesRow.holds Tryd.pinned (OpenSpec.ofChange dockProvesSpec)

/-- ITS FALSE NEIGHBOUR: 'it returns false'. Refute it at one input. -/
def dockProvesWrong : ChangeSpec := { name := "dockProves", fn := fun _ => fun
  | [d1, d2, d3] => { results := [.lit (.bool false)], args := [d1, d2, d3] }
  | _ => none }
def DockProvesWrongFalsely : Prop := dockProvesRow.holds Tryd.pinned (OpenSpec.ofChange dockProvesWrong)

/-- 'vitolalaw01.DockCounts': WHATEVER THE INPUT: true; the input reads as it did. -/
def dockCountsSpec : ChangeSpec := { name := "dockCounts", fn := fun _ => fun
  | [d1, d2, d3, d4] => { results := [.lit (.bool true)], args := [d1, d2, d3, d4] }
  | _ => none }
def dockCountsRow : OpenClaim := { program := "ytnmmjbclidbdbaadoor", sum := "ab5dc89d0ea3062b40274a5b4fee8faa46ab005a0fca46bfac10c655b361826f", func := "vitola/vitolalaw01.DockCounts", spec := "dockCounts", unfollowed := true, recurses := true, named := ["math/bits.deBruijn32tab", "math/bits.deBruijn64tab"], plainKeys := false, apart := false, laid := [("math/bits.deBruijn32tab", laid_math_bits_deBruijn32tab), ("math/bits.deBruijn64tab", laid_math_bits_deBruijn64tab)] }
def DockCountsSaid : Prop := dockCountsRow.holds Tryd.pinned (OpenSpec.ofChange dockCountsSpec)

/-- ITS FALSE NEIGHBOUR: 'it returns false'. Refute it at one input. -/
def dockCountsWrong : ChangeSpec := { name := "dockCounts", fn := fun _ => fun
  | [d1, d2, d3, d4] => { results := [.lit (.bool false)], args := [d1, d2, d3, d4] }
  | _ => none }
def DockCountsWrongFalsely : Prop := dockCountsRow.holds Tryd.pinned (OpenSpec.ofChange dockCountsWrong)

/-- 'vitolalaw01.DockTurns': WHATEVER THE INPUT: true; the input reads as it did. -/
def dockTurnsSpec : ChangeSpec := { name := "dockTurns", fn := fun _ => fun
  | [d1, d2] => { results := [.lit (.bool true)], args := [d1, d2] }
  | _ => none }
def dockTurnsRow : OpenClaim := { program := "ytnmmjbclidbdbaadoor", sum := "ab5dc89d0ea3062b40274a5b4fee8faa46ab005a0fca46bfac10c655b361826f", func := "vitola/vitolalaw01.DockTurns", spec := "dockTurns", unfollowed := true, recurses := true, named := ["math/bits.deBruijn32tab", "math/bits.deBruijn64tab"], plainKeys := false, apart := false, laid := [("math/bits.deBruijn32tab", laid_math_bits_deBruijn32tab), ("math/bits.deBruijn64tab", laid_math_bits_deBruijn64tab)] }
def DockTurnsSaid : Prop := dockTurnsRow.holds Tryd.pinned (OpenSpec.ofChange dockTurnsSpec)

/-- ITS FALSE NEIGHBOUR: 'it returns false'. Refute it at one input. -/
def dockTurnsWrong : ChangeSpec := { name := "dockTurns", fn := fun _ => fun
  | [d1, d2] => { results := [.lit (.bool false)], args := [d1, d2] }
  | _ => none }
def DockTurnsWrongFalsely : Prop := dockTurnsRow.holds Tryd.pinned (OpenSpec.ofChange dockTurnsWrong)

/-- 'vitolalaw01.DockNext': WHATEVER THE INPUT: true; the input reads as it did. -/
def dockNextSpec : ChangeSpec := { name := "dockNext", fn := fun _ => fun
  | [d1, d2, d3] => { results := [.lit (.bool true)], args := [d1, d2, d3] }
  | _ => none }
def dockNextRow : OpenClaim := { program := "ytnmmjbclidbdbaadoor", sum := "ab5dc89d0ea3062b40274a5b4fee8faa46ab005a0fca46bfac10c655b361826f", func := "vitola/vitolalaw01.DockNext", spec := "dockNext", unfollowed := true, recurses := true, named := ["math/bits.deBruijn32tab", "math/bits.deBruijn64tab"], plainKeys := false, apart := false, laid := [("math/bits.deBruijn32tab", laid_math_bits_deBruijn32tab), ("math/bits.deBruijn64tab", laid_math_bits_deBruijn64tab)] }
def DockNextSaid : Prop := dockNextRow.holds Tryd.pinned (OpenSpec.ofChange dockNextSpec)

/-- ITS FALSE NEIGHBOUR: 'it returns false'. Refute it at one input. -/
def dockNextWrong : ChangeSpec := { name := "dockNext", fn := fun _ => fun
  | [d1, d2, d3] => { results := [.lit (.bool false)], args := [d1, d2, d3] }
  | _ => none }
def DockNextWrongFalsely : Prop := dockNextRow.holds Tryd.pinned (OpenSpec.ofChange dockNextWrong)

/-- 'vitolalaw01.DockKnown': WHATEVER THE INPUT: true; the input reads as it did. -/
def dockKnownSpec : ChangeSpec := { name := "dockKnown", fn := fun _ => fun
  | [] => { results := [.lit (.bool true)], args := [] }
  | _ => none }
def dockKnownRow : OpenClaim := { program := "ytnmmjbclidbdbaadoor", sum := "ab5dc89d0ea3062b40274a5b4fee8faa46ab005a0fca46bfac10c655b361826f", func := "vitola/vitolalaw01.DockKnown", spec := "dockKnown", unfollowed := true, recurses := true, named := ["math/bits.deBruijn32tab", "math/bits.deBruijn64tab"], plainKeys := false, apart := false, laid := [("math/bits.deBruijn32tab", laid_math_bits_deBruijn32tab), ("math/bits.deBruijn64tab", laid_math_bits_deBruijn64tab)] }
def DockKnownSaid : Prop := dockKnownRow.holds Tryd.pinned (OpenSpec.ofChange dockKnownSpec)

/-- ITS FALSE NEIGHBOUR: 'it returns false'. Refute it at one input. -/
def dockKnownWrong : ChangeSpec := { name := "dockKnown", fn := fun _ => fun
  | [] => { results := [.lit (.bool false)], args := [] }
  | _ => none }
def DockKnownWrongFalsely : Prop := dockKnownRow.holds Tryd.pinned (OpenSpec.ofChange dockKnownWrong)

/-- 'vitolalaw01.DockWeiss': WHATEVER THE INPUT: true; the input reads as it did. -/
def dockWeissSpec : ChangeSpec := { name := "dockWeiss", fn := fun _ => fun
  | [d1, d2] => { results := [.lit (.bool true)], args := [d1, d2] }
  | _ => none }
def dockWeissRow : OpenClaim := { program := "ytnmmjbclidbdbaadoor", sum := "ab5dc89d0ea3062b40274a5b4fee8faa46ab005a0fca46bfac10c655b361826f", func := "vitola/vitolalaw01.DockWeiss", spec := "dockWeiss", unfollowed := true, recurses := true, named := ["math/bits.deBruijn32tab", "math/bits.deBruijn64tab"], plainKeys := false, apart := false, laid := [("math/bits.deBruijn32tab", laid_math_bits_deBruijn32tab), ("math/bits.deBruijn64tab", laid_math_bits_deBruijn64tab)] }
def DockWeissSaid : Prop := dockWeissRow.holds Tryd.pinned (OpenSpec.ofChange dockWeissSpec)

/-- ITS FALSE NEIGHBOUR: 'it returns false'. Refute it at one input. -/
def dockWeissWrong : ChangeSpec := { name := "dockWeiss", fn := fun _ => fun
  | [d1, d2] => { results := [.lit (.bool false)], args := [d1, d2] }
  | _ => none }
def DockWeissWrongFalsely : Prop := dockWeissRow.holds Tryd.pinned (OpenSpec.ofChange dockWeissWrong)

/-- 'vitolalaw01.DockPollak': WHATEVER THE INPUT: true; the input reads as it did. -/
def dockPollakSpec : ChangeSpec := { name := "dockPollak", fn := fun _ => fun
  | [d] => { results := [.lit (.bool true)], args := [d] }
  | _ => none }
def dockPollakRow : OpenClaim := { program := "ytnmmjbclidbdbaadoor", sum := "ab5dc89d0ea3062b40274a5b4fee8faa46ab005a0fca46bfac10c655b361826f", func := "vitola/vitolalaw01.DockPollak", spec := "dockPollak", unfollowed := true, recurses := true, named := ["math/bits.deBruijn32tab", "math/bits.deBruijn64tab"], plainKeys := false, apart := false, laid := [("math/bits.deBruijn32tab", laid_math_bits_deBruijn32tab), ("math/bits.deBruijn64tab", laid_math_bits_deBruijn64tab)] }
def DockPollakSaid : Prop := dockPollakRow.holds Tryd.pinned (OpenSpec.ofChange dockPollakSpec)

/-- ITS FALSE NEIGHBOUR: 'it returns false'. Refute it at one input. -/
def dockPollakWrong : ChangeSpec := { name := "dockPollak", fn := fun _ => fun
  | [d] => { results := [.lit (.bool false)], args := [d] }
  | _ => none }
def DockPollakWrongFalsely : Prop := dockPollakRow.holds Tryd.pinned (OpenSpec.ofChange dockPollakWrong)

/-- 'vitolalaw01.DockProved': WHATEVER THE INPUT: true; the input reads as it did. -/
def dockProvedSpec : ChangeSpec := { name := "dockProved", fn := fun _ => fun
  | [d] => { results := [.lit (.bool true)], args := [d] }
  | _ => none }
def dockProvedRow : OpenClaim := { program := "ytnmmjbclidbdbaadoor", sum := "ab5dc89d0ea3062b40274a5b4fee8faa46ab005a0fca46bfac10c655b361826f", func := "vitola/vitolalaw01.DockProved", spec := "dockProved", unfollowed := true, recurses := true, named := ["math/bits.deBruijn32tab", "math/bits.deBruijn64tab"], plainKeys := false, apart := false, laid := [("math/bits.deBruijn32tab", laid_math_bits_deBruijn32tab), ("math/bits.deBruijn64tab", laid_math_bits_deBruijn64tab)] }
def DockProvedSaid : Prop := dockProvedRow.holds Tryd.pinned (OpenSpec.ofChange dockProvedSpec)

/-- ITS FALSE NEIGHBOUR: 'it returns false'. Refute it at one input. -/
def dockProvedWrong : ChangeSpec := { name := "dockProved", fn := fun _ => fun
  | [d] => { results := [.lit (.bool false)], args := [d] }
  | _ => none }
def DockProvedWrongFalsely : Prop := dockProvedRow.holds Tryd.pinned (OpenSpec.ofChange dockProvedWrong)

/-- 'vitolalaw01.DockOrders': WHATEVER THE INPUT: true; the input reads as it did. -/
def dockOrdersSpec : ChangeSpec := { name := "dockOrders", fn := fun _ => fun
  | [d1, d2] => { results := [.lit (.bool true)], args := [d1, d2] }
  | _ => none }
def dockOrdersRow : OpenClaim := { program := "ytnmmjbclidbdbaadoor", sum := "ab5dc89d0ea3062b40274a5b4fee8faa46ab005a0fca46bfac10c655b361826f", func := "vitola/vitolalaw01.DockOrders", spec := "dockOrders", unfollowed := true, recurses := true, named := ["math/bits.deBruijn32tab", "math/bits.deBruijn64tab"], plainKeys := false, apart := false, laid := [("math/bits.deBruijn32tab", laid_math_bits_deBruijn32tab), ("math/bits.deBruijn64tab", laid_math_bits_deBruijn64tab)] }
def DockOrdersSaid : Prop := dockOrdersRow.holds Tryd.pinned (OpenSpec.ofChange dockOrdersSpec)

/-- ITS FALSE NEIGHBOUR: 'it returns false'. Refute it at one input. -/
def dockOrdersWrong : ChangeSpec := { name := "dockOrders", fn := fun _ => fun
  | [d1, d2] => { results := [.lit (.bool false)], args := [d1, d2] }
  | _ => none }
def DockOrdersWrongFalsely : Prop := dockOrdersRow.holds Tryd.pinned (OpenSpec.ofChange dockOrdersWrong)

/-- 'vitolalaw01.DockWays': WHATEVER THE INPUT: true; the input reads as it did. -/
def dockWaysSpec : ChangeSpec := { name := "dockWays", fn := fun _ => fun
  | [d] => { results := [.lit (.bool true)], args := [d] }
  | _ => none }
def dockWaysRow : OpenClaim := { program := "ytnmmjbclidbdbaadoor", sum := "ab5dc89d0ea3062b40274a5b4fee8faa46ab005a0fca46bfac10c655b361826f", func := "vitola/vitolalaw01.DockWays", spec := "dockWays", unfollowed := true, recurses := true, named := ["math/bits.deBruijn32tab", "math/bits.deBruijn64tab"], plainKeys := false, apart := false, laid := [("math/bits.deBruijn32tab", laid_math_bits_deBruijn32tab), ("math/bits.deBruijn64tab", laid_math_bits_deBruijn64tab)] }
def DockWaysSaid : Prop := dockWaysRow.holds Tryd.pinned (OpenSpec.ofChange dockWaysSpec)

/-- ITS FALSE NEIGHBOUR: 'it returns false'. Refute it at one input. -/
def dockWaysWrong : ChangeSpec := { name := "dockWays", fn := fun _ => fun
  | [d] => { results := [.lit (.bool false)], args := [d] }
  | _ => none }
def DockWaysWrongFalsely : Prop := dockWaysRow.holds Tryd.pinned (OpenSpec.ofChange dockWaysWrong)

/-- 'vitolalaw01.DockLess': WHATEVER THE INPUT: true; the input reads as it did. -/
def dockLessSpec : ChangeSpec := { name := "dockLess", fn := fun _ => fun
  | [d1, d2, d3] => { results := [.lit (.bool true)], args := [d1, d2, d3] }
  | _ => none }
def dockLessRow : OpenClaim := { program := "ytnmmjbclidbdbaadoor", sum := "ab5dc89d0ea3062b40274a5b4fee8faa46ab005a0fca46bfac10c655b361826f", func := "vitola/vitolalaw01.DockLess", spec := "dockLess", unfollowed := true, recurses := true, named := ["math/bits.deBruijn32tab", "math/bits.deBruijn64tab"], plainKeys := false, apart := false, laid := [("math/bits.deBruijn32tab", laid_math_bits_deBruijn32tab), ("math/bits.deBruijn64tab", laid_math_bits_deBruijn64tab)] }
def DockLessSaid : Prop := dockLessRow.holds Tryd.pinned (OpenSpec.ofChange dockLessSpec)

/-- ITS FALSE NEIGHBOUR: 'it returns false'. Refute it at one input. -/
def dockLessWrong : ChangeSpec := { name := "dockLess", fn := fun _ => fun
  | [d1, d2, d3] => { results := [.lit (.bool false)], args := [d1, d2, d3] }
  | _ => none }
def DockLessWrongFalsely : Prop := dockLessRow.holds Tryd.pinned (OpenSpec.ofChange dockLessWrong)

/- THE SECOND FORM. 'bulk': how many values and letters a reading holds, each counted each time it is reached (what is shared counts as often as it is met; a slice's spare places count too). A statement '..UptoSaid' is the law's where the arguments, and the package variables that the reading takes, are together of bulk at most 1048576: NARROWER than '..Said'. Prove '..Said' where nothing that the law and all that it calls make is longer than what came in: it says more and counts as full. Else prove '..UptoSaid'. A law counts once. -/
mutual
def uptoBulk {H : Type} : DataW H → Nat
  | .lit (.string bytes) => bytes.length + 1
  | .lit _ => 1
  | .nil => 1
  | .ptr d => uptoBulk d + 1
  | .slice elems spare => uptoBulkAll elems + uptoBulkAll spare + 1
  | .agg parts => uptoBulkAll parts + 1
  | .iface _ d => uptoBulk d + 1
  | .map entries => uptoBulkEntries entries + 1
  | .held _ => 1
def uptoBulkAll {H : Type} : List (DataW H) → Nat
  | [] => 0
  | d :: r => uptoBulk d + uptoBulkAll r
def uptoBulkEntries {H : Type} : List (Lit × DataW H) → Nat
  | [] => 0
  | x :: r => uptoBulkEntry x + uptoBulkEntries r
def uptoBulkEntry {H : Type} : Lit × DataW H → Nat
  | (.string bytes, d) => bytes.length + uptoBulk d + 1
  | (_, d) => uptoBulk d + 1
 end
def uptoSmall : (H : Type) → List (DataW H) → Bool := fun _ ds => decide (uptoBulkAll ds ≤ 1048576)
def OpenSpec.upto (s : _root_.Go.ChangeSpec) : _root_.Go.OpenSpec := { _root_.Go.OpenSpec.ofChange s with cond := some uptoSmall }

/-- 'vitolalaw01.DockParks', WHERE WHAT IT READS IS OF BULK AT MOST 1048576: true; the input reads as it did. -/
def dockParksUptoRow : OpenClaim := { program := "ytnmmjbclidbdbaadoor", sum := "ab5dc89d0ea3062b40274a5b4fee8faa46ab005a0fca46bfac10c655b361826f", func := "vitola/vitolalaw01.DockParks", spec := "dockParks", unfollowed := true, recurses := true, named := ["math/bits.deBruijn32tab", "math/bits.deBruijn64tab"], plainKeys := false, apart := false, laid := [("math/bits.deBruijn32tab", laid_math_bits_deBruijn32tab), ("math/bits.deBruijn64tab", laid_math_bits_deBruijn64tab)], narrowed := true }
def DockParksUptoSaid : Prop := dockParksUptoRow.holds Tryd.pinned (OpenSpec.upto dockParksSpec)

/-- 'vitolalaw01.DockProves', WHERE WHAT IT READS IS OF BULK AT MOST 1048576: true; the input reads as it did. -/
def dockProvesUptoRow : OpenClaim := { program := "ytnmmjbclidbdbaadoor", sum := "ab5dc89d0ea3062b40274a5b4fee8faa46ab005a0fca46bfac10c655b361826f", func := "vitola/vitolalaw01.DockProves", spec := "dockProves", unfollowed := true, recurses := true, named := ["math/bits.deBruijn32tab", "math/bits.deBruijn64tab"], plainKeys := false, apart := false, laid := [("math/bits.deBruijn32tab", laid_math_bits_deBruijn32tab), ("math/bits.deBruijn64tab", laid_math_bits_deBruijn64tab)], narrowed := true }
def DockProvesUptoSaid : Prop := dockProvesUptoRow.holds Tryd.pinned (OpenSpec.upto dockProvesSpec)

/-- 'vitolalaw01.DockCounts', WHERE WHAT IT READS IS OF BULK AT MOST 1048576: true; the input reads as it did. -/
def dockCountsUptoRow : OpenClaim := { program := "ytnmmjbclidbdbaadoor", sum := "ab5dc89d0ea3062b40274a5b4fee8faa46ab005a0fca46bfac10c655b361826f", func := "vitola/vitolalaw01.DockCounts", spec := "dockCounts", unfollowed := true, recurses := true, named := ["math/bits.deBruijn32tab", "math/bits.deBruijn64tab"], plainKeys := false, apart := false, laid := [("math/bits.deBruijn32tab", laid_math_bits_deBruijn32tab), ("math/bits.deBruijn64tab", laid_math_bits_deBruijn64tab)], narrowed := true }
def DockCountsUptoSaid : Prop := dockCountsUptoRow.holds Tryd.pinned (OpenSpec.upto dockCountsSpec)

/-- 'vitolalaw01.DockTurns', WHERE WHAT IT READS IS OF BULK AT MOST 1048576: true; the input reads as it did. -/
def dockTurnsUptoRow : OpenClaim := { program := "ytnmmjbclidbdbaadoor", sum := "ab5dc89d0ea3062b40274a5b4fee8faa46ab005a0fca46bfac10c655b361826f", func := "vitola/vitolalaw01.DockTurns", spec := "dockTurns", unfollowed := true, recurses := true, named := ["math/bits.deBruijn32tab", "math/bits.deBruijn64tab"], plainKeys := false, apart := false, laid := [("math/bits.deBruijn32tab", laid_math_bits_deBruijn32tab), ("math/bits.deBruijn64tab", laid_math_bits_deBruijn64tab)], narrowed := true }
def DockTurnsUptoSaid : Prop := dockTurnsUptoRow.holds Tryd.pinned (OpenSpec.upto dockTurnsSpec)

/-- 'vitolalaw01.DockNext', WHERE WHAT IT READS IS OF BULK AT MOST 1048576: true; the input reads as it did. -/
def dockNextUptoRow : OpenClaim := { program := "ytnmmjbclidbdbaadoor", sum := "ab5dc89d0ea3062b40274a5b4fee8faa46ab005a0fca46bfac10c655b361826f", func := "vitola/vitolalaw01.DockNext", spec := "dockNext", unfollowed := true, recurses := true, named := ["math/bits.deBruijn32tab", "math/bits.deBruijn64tab"], plainKeys := false, apart := false, laid := [("math/bits.deBruijn32tab", laid_math_bits_deBruijn32tab), ("math/bits.deBruijn64tab", laid_math_bits_deBruijn64tab)], narrowed := true }
def DockNextUptoSaid : Prop := dockNextUptoRow.holds Tryd.pinned (OpenSpec.upto dockNextSpec)

/-- 'vitolalaw01.DockKnown', WHERE WHAT IT READS IS OF BULK AT MOST 1048576: true; the input reads as it did. -/
def dockKnownUptoRow : OpenClaim := { program := "ytnmmjbclidbdbaadoor", sum := "ab5dc89d0ea3062b40274a5b4fee8faa46ab005a0fca46bfac10c655b361826f", func := "vitola/vitolalaw01.DockKnown", spec := "dockKnown", unfollowed := true, recurses := true, named := ["math/bits.deBruijn32tab", "math/bits.deBruijn64tab"], plainKeys := false, apart := false, laid := [("math/bits.deBruijn32tab", laid_math_bits_deBruijn32tab), ("math/bits.deBruijn64tab", laid_math_bits_deBruijn64tab)], narrowed := true }
def DockKnownUptoSaid : Prop := dockKnownUptoRow.holds Tryd.pinned (OpenSpec.upto dockKnownSpec)

/-- 'vitolalaw01.DockWeiss', WHERE WHAT IT READS IS OF BULK AT MOST 1048576: true; the input reads as it did. -/
def dockWeissUptoRow : OpenClaim := { program := "ytnmmjbclidbdbaadoor", sum := "ab5dc89d0ea3062b40274a5b4fee8faa46ab005a0fca46bfac10c655b361826f", func := "vitola/vitolalaw01.DockWeiss", spec := "dockWeiss", unfollowed := true, recurses := true, named := ["math/bits.deBruijn32tab", "math/bits.deBruijn64tab"], plainKeys := false, apart := false, laid := [("math/bits.deBruijn32tab", laid_math_bits_deBruijn32tab), ("math/bits.deBruijn64tab", laid_math_bits_deBruijn64tab)], narrowed := true }
def DockWeissUptoSaid : Prop := dockWeissUptoRow.holds Tryd.pinned (OpenSpec.upto dockWeissSpec)

/-- 'vitolalaw01.DockPollak', WHERE WHAT IT READS IS OF BULK AT MOST 1048576: true; the input reads as it did. -/
def dockPollakUptoRow : OpenClaim := { program := "ytnmmjbclidbdbaadoor", sum := "ab5dc89d0ea3062b40274a5b4fee8faa46ab005a0fca46bfac10c655b361826f", func := "vitola/vitolalaw01.DockPollak", spec := "dockPollak", unfollowed := true, recurses := true, named := ["math/bits.deBruijn32tab", "math/bits.deBruijn64tab"], plainKeys := false, apart := false, laid := [("math/bits.deBruijn32tab", laid_math_bits_deBruijn32tab), ("math/bits.deBruijn64tab", laid_math_bits_deBruijn64tab)], narrowed := true }
def DockPollakUptoSaid : Prop := dockPollakUptoRow.holds Tryd.pinned (OpenSpec.upto dockPollakSpec)

/-- 'vitolalaw01.DockProved', WHERE WHAT IT READS IS OF BULK AT MOST 1048576: true; the input reads as it did. -/
def dockProvedUptoRow : OpenClaim := { program := "ytnmmjbclidbdbaadoor", sum := "ab5dc89d0ea3062b40274a5b4fee8faa46ab005a0fca46bfac10c655b361826f", func := "vitola/vitolalaw01.DockProved", spec := "dockProved", unfollowed := true, recurses := true, named := ["math/bits.deBruijn32tab", "math/bits.deBruijn64tab"], plainKeys := false, apart := false, laid := [("math/bits.deBruijn32tab", laid_math_bits_deBruijn32tab), ("math/bits.deBruijn64tab", laid_math_bits_deBruijn64tab)], narrowed := true }
def DockProvedUptoSaid : Prop := dockProvedUptoRow.holds Tryd.pinned (OpenSpec.upto dockProvedSpec)

/-- 'vitolalaw01.DockOrders', WHERE WHAT IT READS IS OF BULK AT MOST 1048576: true; the input reads as it did. -/
def dockOrdersUptoRow : OpenClaim := { program := "ytnmmjbclidbdbaadoor", sum := "ab5dc89d0ea3062b40274a5b4fee8faa46ab005a0fca46bfac10c655b361826f", func := "vitola/vitolalaw01.DockOrders", spec := "dockOrders", unfollowed := true, recurses := true, named := ["math/bits.deBruijn32tab", "math/bits.deBruijn64tab"], plainKeys := false, apart := false, laid := [("math/bits.deBruijn32tab", laid_math_bits_deBruijn32tab), ("math/bits.deBruijn64tab", laid_math_bits_deBruijn64tab)], narrowed := true }
def DockOrdersUptoSaid : Prop := dockOrdersUptoRow.holds Tryd.pinned (OpenSpec.upto dockOrdersSpec)

/-- 'vitolalaw01.DockWays', WHERE WHAT IT READS IS OF BULK AT MOST 1048576: true; the input reads as it did. -/
def dockWaysUptoRow : OpenClaim := { program := "ytnmmjbclidbdbaadoor", sum := "ab5dc89d0ea3062b40274a5b4fee8faa46ab005a0fca46bfac10c655b361826f", func := "vitola/vitolalaw01.DockWays", spec := "dockWays", unfollowed := true, recurses := true, named := ["math/bits.deBruijn32tab", "math/bits.deBruijn64tab"], plainKeys := false, apart := false, laid := [("math/bits.deBruijn32tab", laid_math_bits_deBruijn32tab), ("math/bits.deBruijn64tab", laid_math_bits_deBruijn64tab)], narrowed := true }
def DockWaysUptoSaid : Prop := dockWaysUptoRow.holds Tryd.pinned (OpenSpec.upto dockWaysSpec)

/-- 'vitolalaw01.DockLess', WHERE WHAT IT READS IS OF BULK AT MOST 1048576: true; the input reads as it did. -/
def dockLessUptoRow : OpenClaim := { program := "ytnmmjbclidbdbaadoor", sum := "ab5dc89d0ea3062b40274a5b4fee8faa46ab005a0fca46bfac10c655b361826f", func := "vitola/vitolalaw01.DockLess", spec := "dockLess", unfollowed := true, recurses := true, named := ["math/bits.deBruijn32tab", "math/bits.deBruijn64tab"], plainKeys := false, apart := false, laid := [("math/bits.deBruijn32tab", laid_math_bits_deBruijn32tab), ("math/bits.deBruijn64tab", laid_math_bits_deBruijn64tab)], narrowed := true }
def DockLessUptoSaid : Prop := dockLessUptoRow.holds Tryd.pinned (OpenSpec.upto dockLessSpec)

end Rows
end Go.Proofs.YtnmmjbclidbdbaaDoor
