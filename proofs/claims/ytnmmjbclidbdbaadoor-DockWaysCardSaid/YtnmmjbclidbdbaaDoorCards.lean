/-
  DERIVED. GIVEN WITH THE SEED: THE CARDS: each row of YtnmmjbclidbdbaaDoorRows.lean that lists a variable, with what it lists TIED to the program's text (the seventh form; the later family's looks); each row that meets fmt, with fmt's text TOLD by the authors' own Lean function (tested against real Go, not proved from fmt's source: count such statements apart). THE CARD IS WHAT COUNTS. Prove the row's statement (the work); the ties are given (YtnmmjbclidbdbaaDoorTie.lean); close each card by the builder's one call (the guide's Derived/Test/ToyasCard.lean, 'card_holds'). Laid BY PROGRAM, IN A SANDBOX (cutbox-door.mjs). By AI agents, Wed Nov 11 2026. No macro, syntax, notation, axiom, sorry.
-/
import Derived.Test.YtnmmjbclidbdbaaDoorRows
import GoSem.ClaimSeven
namespace Go.Proofs.YtnmmjbclidbdbaaDoor
namespace Rows

/-- THE TIED CARD OF 'vitolalaw01.DockParks'. -/
def dockParksCard : Claim7 := { stood := { row := dockParksRow, standIns := [], harness := (true, "cf371d7a40af0a578b7b9b2b789fa0bc30c568cbc2d3b889e1454ae46ade37d2"), looks := true }, kinds := [], alts := [], laidByText := true, laidKinds := [.data, .data], laidTests := true, laidLooks := .later }
def DockParksCardSaid : Prop := Claim7.holds Tryd.pinned (.plain (OpenSpec.ofChange dockParksSpec)) dockParksCard

/-- THE TIED CARD OF 'vitolalaw01.DockProves'. -/
def dockProvesCard : Claim7 := { stood := { row := dockProvesRow, standIns := [], harness := (true, "cf371d7a40af0a578b7b9b2b789fa0bc30c568cbc2d3b889e1454ae46ade37d2"), looks := true }, kinds := [], alts := [], laidByText := true, laidKinds := [.data, .data], laidTests := true, laidLooks := .later }
def DockProvesCardSaid : Prop := Claim7.holds Tryd.pinned (.plain (OpenSpec.ofChange dockProvesSpec)) dockProvesCard

/-- THE TIED CARD OF 'vitolalaw01.DockCounts'. -/
def dockCountsCard : Claim7 := { stood := { row := dockCountsRow, standIns := [], harness := (true, "cf371d7a40af0a578b7b9b2b789fa0bc30c568cbc2d3b889e1454ae46ade37d2"), looks := true }, kinds := [], alts := [], laidByText := true, laidKinds := [.data, .data], laidTests := true, laidLooks := .later }
def DockCountsCardSaid : Prop := Claim7.holds Tryd.pinned (.plain (OpenSpec.ofChange dockCountsSpec)) dockCountsCard

/-- THE TIED CARD OF 'vitolalaw01.DockTurns'. -/
def dockTurnsCard : Claim7 := { stood := { row := dockTurnsRow, standIns := [], harness := (true, "cf371d7a40af0a578b7b9b2b789fa0bc30c568cbc2d3b889e1454ae46ade37d2"), looks := true }, kinds := [], alts := [], laidByText := true, laidKinds := [.data, .data], laidTests := true, laidLooks := .later }
def DockTurnsCardSaid : Prop := Claim7.holds Tryd.pinned (.plain (OpenSpec.ofChange dockTurnsSpec)) dockTurnsCard

/-- THE TIED CARD OF 'vitolalaw01.DockNext'. -/
def dockNextCard : Claim7 := { stood := { row := dockNextRow, standIns := [], harness := (true, "cf371d7a40af0a578b7b9b2b789fa0bc30c568cbc2d3b889e1454ae46ade37d2"), looks := true }, kinds := [], alts := [], laidByText := true, laidKinds := [.data, .data], laidTests := true, laidLooks := .later }
def DockNextCardSaid : Prop := Claim7.holds Tryd.pinned (.plain (OpenSpec.ofChange dockNextSpec)) dockNextCard

/-- THE TIED CARD OF 'vitolalaw01.DockKnown'. -/
def dockKnownCard : Claim7 := { stood := { row := dockKnownRow, standIns := [], harness := (true, "cf371d7a40af0a578b7b9b2b789fa0bc30c568cbc2d3b889e1454ae46ade37d2"), looks := true }, kinds := [], alts := [], laidByText := true, laidKinds := [.data, .data], laidTests := true, laidLooks := .later }
def DockKnownCardSaid : Prop := Claim7.holds Tryd.pinned (.plain (OpenSpec.ofChange dockKnownSpec)) dockKnownCard

/-- THE TIED CARD OF 'vitolalaw01.DockWeiss'. -/
def dockWeissCard : Claim7 := { stood := { row := dockWeissRow, standIns := [], harness := (true, "cf371d7a40af0a578b7b9b2b789fa0bc30c568cbc2d3b889e1454ae46ade37d2"), looks := true }, kinds := [], alts := [], laidByText := true, laidKinds := [.data, .data], laidTests := true, laidLooks := .later }
def DockWeissCardSaid : Prop := Claim7.holds Tryd.pinned (.plain (OpenSpec.ofChange dockWeissSpec)) dockWeissCard

/-- THE TIED CARD OF 'vitolalaw01.DockPollak'. -/
def dockPollakCard : Claim7 := { stood := { row := dockPollakRow, standIns := [], harness := (true, "cf371d7a40af0a578b7b9b2b789fa0bc30c568cbc2d3b889e1454ae46ade37d2"), looks := true }, kinds := [], alts := [], laidByText := true, laidKinds := [.data, .data], laidTests := true, laidLooks := .later }
def DockPollakCardSaid : Prop := Claim7.holds Tryd.pinned (.plain (OpenSpec.ofChange dockPollakSpec)) dockPollakCard

/-- THE TIED CARD OF 'vitolalaw01.DockProved'. -/
def dockProvedCard : Claim7 := { stood := { row := dockProvedRow, standIns := [], harness := (true, "cf371d7a40af0a578b7b9b2b789fa0bc30c568cbc2d3b889e1454ae46ade37d2"), looks := true }, kinds := [], alts := [], laidByText := true, laidKinds := [.data, .data], laidTests := true, laidLooks := .later }
def DockProvedCardSaid : Prop := Claim7.holds Tryd.pinned (.plain (OpenSpec.ofChange dockProvedSpec)) dockProvedCard

/-- THE TIED CARD OF 'vitolalaw01.DockOrders'. -/
def dockOrdersCard : Claim7 := { stood := { row := dockOrdersRow, standIns := [], harness := (true, "cf371d7a40af0a578b7b9b2b789fa0bc30c568cbc2d3b889e1454ae46ade37d2"), looks := true }, kinds := [], alts := [], laidByText := true, laidKinds := [.data, .data], laidTests := true, laidLooks := .later }
def DockOrdersCardSaid : Prop := Claim7.holds Tryd.pinned (.plain (OpenSpec.ofChange dockOrdersSpec)) dockOrdersCard

/-- THE TIED CARD OF 'vitolalaw01.DockWays'. -/
def dockWaysCard : Claim7 := { stood := { row := dockWaysRow, standIns := [], harness := (true, "cf371d7a40af0a578b7b9b2b789fa0bc30c568cbc2d3b889e1454ae46ade37d2"), looks := true }, kinds := [], alts := [], laidByText := true, laidKinds := [.data, .data], laidTests := true, laidLooks := .later }
def DockWaysCardSaid : Prop := Claim7.holds Tryd.pinned (.plain (OpenSpec.ofChange dockWaysSpec)) dockWaysCard

/-- THE TIED CARD OF 'vitolalaw01.DockLess'. -/
def dockLessCard : Claim7 := { stood := { row := dockLessRow, standIns := [], harness := (true, "cf371d7a40af0a578b7b9b2b789fa0bc30c568cbc2d3b889e1454ae46ade37d2"), looks := true }, kinds := [], alts := [], laidByText := true, laidKinds := [.data, .data], laidTests := true, laidLooks := .later }
def DockLessCardSaid : Prop := Claim7.holds Tryd.pinned (.plain (OpenSpec.ofChange dockLessSpec)) dockLessCard

/-- THE SECOND FORM's CARD OF 'vitolalaw01.DockParks'. -/
def dockParksUptoCard : Claim7 := { stood := { row := dockParksUptoRow, standIns := [], harness := (true, "cf371d7a40af0a578b7b9b2b789fa0bc30c568cbc2d3b889e1454ae46ade37d2"), looks := true }, kinds := [], alts := [], laidByText := true, laidKinds := [.data, .data], laidTests := true, laidLooks := .later }
def DockParksUptoCardSaid : Prop := Claim7.holds Tryd.pinned (.plain (OpenSpec.upto dockParksSpec)) dockParksUptoCard

/-- THE SECOND FORM's CARD OF 'vitolalaw01.DockProves'. -/
def dockProvesUptoCard : Claim7 := { stood := { row := dockProvesUptoRow, standIns := [], harness := (true, "cf371d7a40af0a578b7b9b2b789fa0bc30c568cbc2d3b889e1454ae46ade37d2"), looks := true }, kinds := [], alts := [], laidByText := true, laidKinds := [.data, .data], laidTests := true, laidLooks := .later }
def DockProvesUptoCardSaid : Prop := Claim7.holds Tryd.pinned (.plain (OpenSpec.upto dockProvesSpec)) dockProvesUptoCard

/-- THE SECOND FORM's CARD OF 'vitolalaw01.DockCounts'. -/
def dockCountsUptoCard : Claim7 := { stood := { row := dockCountsUptoRow, standIns := [], harness := (true, "cf371d7a40af0a578b7b9b2b789fa0bc30c568cbc2d3b889e1454ae46ade37d2"), looks := true }, kinds := [], alts := [], laidByText := true, laidKinds := [.data, .data], laidTests := true, laidLooks := .later }
def DockCountsUptoCardSaid : Prop := Claim7.holds Tryd.pinned (.plain (OpenSpec.upto dockCountsSpec)) dockCountsUptoCard

/-- THE SECOND FORM's CARD OF 'vitolalaw01.DockTurns'. -/
def dockTurnsUptoCard : Claim7 := { stood := { row := dockTurnsUptoRow, standIns := [], harness := (true, "cf371d7a40af0a578b7b9b2b789fa0bc30c568cbc2d3b889e1454ae46ade37d2"), looks := true }, kinds := [], alts := [], laidByText := true, laidKinds := [.data, .data], laidTests := true, laidLooks := .later }
def DockTurnsUptoCardSaid : Prop := Claim7.holds Tryd.pinned (.plain (OpenSpec.upto dockTurnsSpec)) dockTurnsUptoCard

/-- THE SECOND FORM's CARD OF 'vitolalaw01.DockNext'. -/
def dockNextUptoCard : Claim7 := { stood := { row := dockNextUptoRow, standIns := [], harness := (true, "cf371d7a40af0a578b7b9b2b789fa0bc30c568cbc2d3b889e1454ae46ade37d2"), looks := true }, kinds := [], alts := [], laidByText := true, laidKinds := [.data, .data], laidTests := true, laidLooks := .later }
def DockNextUptoCardSaid : Prop := Claim7.holds Tryd.pinned (.plain (OpenSpec.upto dockNextSpec)) dockNextUptoCard

/-- THE SECOND FORM's CARD OF 'vitolalaw01.DockKnown'. -/
def dockKnownUptoCard : Claim7 := { stood := { row := dockKnownUptoRow, standIns := [], harness := (true, "cf371d7a40af0a578b7b9b2b789fa0bc30c568cbc2d3b889e1454ae46ade37d2"), looks := true }, kinds := [], alts := [], laidByText := true, laidKinds := [.data, .data], laidTests := true, laidLooks := .later }
def DockKnownUptoCardSaid : Prop := Claim7.holds Tryd.pinned (.plain (OpenSpec.upto dockKnownSpec)) dockKnownUptoCard

/-- THE SECOND FORM's CARD OF 'vitolalaw01.DockWeiss'. -/
def dockWeissUptoCard : Claim7 := { stood := { row := dockWeissUptoRow, standIns := [], harness := (true, "cf371d7a40af0a578b7b9b2b789fa0bc30c568cbc2d3b889e1454ae46ade37d2"), looks := true }, kinds := [], alts := [], laidByText := true, laidKinds := [.data, .data], laidTests := true, laidLooks := .later }
def DockWeissUptoCardSaid : Prop := Claim7.holds Tryd.pinned (.plain (OpenSpec.upto dockWeissSpec)) dockWeissUptoCard

/-- THE SECOND FORM's CARD OF 'vitolalaw01.DockPollak'. -/
def dockPollakUptoCard : Claim7 := { stood := { row := dockPollakUptoRow, standIns := [], harness := (true, "cf371d7a40af0a578b7b9b2b789fa0bc30c568cbc2d3b889e1454ae46ade37d2"), looks := true }, kinds := [], alts := [], laidByText := true, laidKinds := [.data, .data], laidTests := true, laidLooks := .later }
def DockPollakUptoCardSaid : Prop := Claim7.holds Tryd.pinned (.plain (OpenSpec.upto dockPollakSpec)) dockPollakUptoCard

/-- THE SECOND FORM's CARD OF 'vitolalaw01.DockProved'. -/
def dockProvedUptoCard : Claim7 := { stood := { row := dockProvedUptoRow, standIns := [], harness := (true, "cf371d7a40af0a578b7b9b2b789fa0bc30c568cbc2d3b889e1454ae46ade37d2"), looks := true }, kinds := [], alts := [], laidByText := true, laidKinds := [.data, .data], laidTests := true, laidLooks := .later }
def DockProvedUptoCardSaid : Prop := Claim7.holds Tryd.pinned (.plain (OpenSpec.upto dockProvedSpec)) dockProvedUptoCard

/-- THE SECOND FORM's CARD OF 'vitolalaw01.DockOrders'. -/
def dockOrdersUptoCard : Claim7 := { stood := { row := dockOrdersUptoRow, standIns := [], harness := (true, "cf371d7a40af0a578b7b9b2b789fa0bc30c568cbc2d3b889e1454ae46ade37d2"), looks := true }, kinds := [], alts := [], laidByText := true, laidKinds := [.data, .data], laidTests := true, laidLooks := .later }
def DockOrdersUptoCardSaid : Prop := Claim7.holds Tryd.pinned (.plain (OpenSpec.upto dockOrdersSpec)) dockOrdersUptoCard

/-- THE SECOND FORM's CARD OF 'vitolalaw01.DockWays'. -/
def dockWaysUptoCard : Claim7 := { stood := { row := dockWaysUptoRow, standIns := [], harness := (true, "cf371d7a40af0a578b7b9b2b789fa0bc30c568cbc2d3b889e1454ae46ade37d2"), looks := true }, kinds := [], alts := [], laidByText := true, laidKinds := [.data, .data], laidTests := true, laidLooks := .later }
def DockWaysUptoCardSaid : Prop := Claim7.holds Tryd.pinned (.plain (OpenSpec.upto dockWaysSpec)) dockWaysUptoCard

/-- THE SECOND FORM's CARD OF 'vitolalaw01.DockLess'. -/
def dockLessUptoCard : Claim7 := { stood := { row := dockLessUptoRow, standIns := [], harness := (true, "cf371d7a40af0a578b7b9b2b789fa0bc30c568cbc2d3b889e1454ae46ade37d2"), looks := true }, kinds := [], alts := [], laidByText := true, laidKinds := [.data, .data], laidTests := true, laidLooks := .later }
def DockLessUptoCardSaid : Prop := Claim7.holds Tryd.pinned (.plain (OpenSpec.upto dockLessSpec)) dockLessUptoCard
end Rows
end Go.Proofs.YtnmmjbclidbdbaaDoor
