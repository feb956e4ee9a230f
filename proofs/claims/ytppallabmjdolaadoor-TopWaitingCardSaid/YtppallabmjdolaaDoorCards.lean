/-
  DERIVED. GIVEN WITH THE SEED: THE CARDS: each row of YtppallabmjdolaaDoorRows.lean that lists a variable, with what it lists TIED to the program's text (the seventh form; the later family's looks); each row that meets fmt, with fmt's text TOLD by the authors' own Lean function (tested against real Go, not proved from fmt's source: count such statements apart). THE CARD IS WHAT COUNTS. Prove the row's statement (the work); the ties are given (YtppallabmjdolaaDoorTie.lean); close each card by the builder's one call (the guide's Derived/Test/ToyasCard.lean, 'card_holds'). Laid BY PROGRAM, IN A SANDBOX (cutbox-door.mjs). By AI agents, Wed Nov 11 2026. No macro, syntax, notation, axiom, sorry.
-/
import Derived.Test.YtppallabmjdolaaDoorRows
import GoSem.ClaimSeven
namespace Go.Proofs.YtppallabmjdolaaDoor
namespace Rows

/-- THE TIED CARD OF 'vitolatop.TopSpread'. -/
def topSpreadCard : Claim7 := { stood := { row := topSpreadRow, standIns := [], harness := (true, "15537184d35f5880933622ae4492e345b2cc18a3716ad42b27ee4cff44d8e9c4"), looks := true }, kinds := [], alts := [], laidByText := true, laidKinds := [.data, .data], laidTests := true, laidLooks := .later }
def TopSpreadCardSaid : Prop := Claim7.holds Tryd.pinned (.plain (OpenSpec.ofChange topSpreadSpec)) topSpreadCard

/-- THE TIED CARD OF 'vitolatop.TopWound'. -/
def topWoundCard : Claim7 := { stood := { row := topWoundRow, standIns := [], harness := (true, "15537184d35f5880933622ae4492e345b2cc18a3716ad42b27ee4cff44d8e9c4"), looks := true }, kinds := [], alts := [], laidByText := true, laidKinds := [.data, .data], laidTests := true, laidLooks := .later }
def TopWoundCardSaid : Prop := Claim7.holds Tryd.pinned (.plain (OpenSpec.ofChange topWoundSpec)) topWoundCard

/-- THE TIED CARD OF 'vitolatop.TopWaiting'. -/
def topWaitingCard : Claim7 := { stood := { row := topWaitingRow, standIns := [], harness := (true, "15537184d35f5880933622ae4492e345b2cc18a3716ad42b27ee4cff44d8e9c4"), looks := true }, kinds := [], alts := [], laidByText := true, laidKinds := [.data, .data], laidTests := true, laidLooks := .later }
def TopWaitingCardSaid : Prop := Claim7.holds Tryd.pinned (.plain (OpenSpec.ofChange topWaitingSpec)) topWaitingCard

/-- THE SECOND FORM's CARD OF 'vitolatop.TopSpread'. -/
def topSpreadUptoCard : Claim7 := { stood := { row := topSpreadUptoRow, standIns := [], harness := (true, "15537184d35f5880933622ae4492e345b2cc18a3716ad42b27ee4cff44d8e9c4"), looks := true }, kinds := [], alts := [], laidByText := true, laidKinds := [.data, .data], laidTests := true, laidLooks := .later }
def TopSpreadUptoCardSaid : Prop := Claim7.holds Tryd.pinned (.plain (OpenSpec.upto topSpreadSpec)) topSpreadUptoCard

/-- THE SECOND FORM's CARD OF 'vitolatop.TopWound'. -/
def topWoundUptoCard : Claim7 := { stood := { row := topWoundUptoRow, standIns := [], harness := (true, "15537184d35f5880933622ae4492e345b2cc18a3716ad42b27ee4cff44d8e9c4"), looks := true }, kinds := [], alts := [], laidByText := true, laidKinds := [.data, .data], laidTests := true, laidLooks := .later }
def TopWoundUptoCardSaid : Prop := Claim7.holds Tryd.pinned (.plain (OpenSpec.upto topWoundSpec)) topWoundUptoCard

/-- THE SECOND FORM's CARD OF 'vitolatop.TopWaiting'. -/
def topWaitingUptoCard : Claim7 := { stood := { row := topWaitingUptoRow, standIns := [], harness := (true, "15537184d35f5880933622ae4492e345b2cc18a3716ad42b27ee4cff44d8e9c4"), looks := true }, kinds := [], alts := [], laidByText := true, laidKinds := [.data, .data], laidTests := true, laidLooks := .later }
def TopWaitingUptoCardSaid : Prop := Claim7.holds Tryd.pinned (.plain (OpenSpec.upto topWaitingSpec)) topWaitingUptoCard
end Rows
end Go.Proofs.YtppallabmjdolaaDoor
