/-
  DERIVED. GIVEN WITH THE SEED: THE CARDS: each row of YtppallabmjdolaaGreatDoorRows.lean that lists a variable, with what it lists TIED to the program's text (the seventh form; the later family's looks); each row that meets fmt, with fmt's text TOLD by the authors' own Lean function (tested against real Go, not proved from fmt's source: count such statements apart). THE CARD IS WHAT COUNTS. Prove the row's statement (the work); the ties are given (YtppallabmjdolaaGreatDoorTie.lean); close each card by the builder's one call (the guide's Derived/Test/ToyasCard.lean, 'card_holds'). Laid BY PROGRAM, IN A SANDBOX (cutbox-door.mjs). By AI agents, Wed Nov 11 2026. No macro, syntax, notation, axiom, sorry.
-/
import Derived.Test.YtppallabmjdolaaGreatDoorRows
import GoSem.ClaimSeven
namespace Go.Proofs.YtppallabmjdolaaGreatDoor
namespace Rows

/-- THE TIED CARD OF 'vitolatop.TopKeys'. -/
def topKeysCard : Claim7 := { stood := { row := topKeysRow, standIns := [], harness := (true, "9e4a188dbceced5cc57d27d7a2d3fa6b12a24c5d23f2b90a927c51c4ca907013"), looks := true }, kinds := [], alts := [], laidByText := true, laidKinds := [.data, .data], laidTests := true, laidLooks := .later }
def TopKeysCardSaid : Prop := Claim7.holds Tryz.pinned (.plain (OpenSpec.ofChange topKeysSpec)) topKeysCard

/-- THE TIED CARD OF 'vitolatop.TopHitting'. -/
def topHittingCard : Claim7 := { stood := { row := topHittingRow, standIns := [], harness := (true, "9e4a188dbceced5cc57d27d7a2d3fa6b12a24c5d23f2b90a927c51c4ca907013"), looks := true }, kinds := [], alts := [], laidByText := true, laidKinds := [.data, .data], laidTests := true, laidLooks := .later }
def TopHittingCardSaid : Prop := Claim7.holds Tryz.pinned (.plain (OpenSpec.ofChange topHittingSpec)) topHittingCard

/-- THE TIED CARD OF 'vitolatop.TopGapped'. -/
def topGappedCard : Claim7 := { stood := { row := topGappedRow, standIns := [], harness := (true, "9e4a188dbceced5cc57d27d7a2d3fa6b12a24c5d23f2b90a927c51c4ca907013"), looks := true }, kinds := [], alts := [], laidByText := true, laidKinds := [.data, .data], laidTests := true, laidLooks := .later }
def TopGappedCardSaid : Prop := Claim7.holds Tryz.pinned (.plain (OpenSpec.ofChange topGappedSpec)) topGappedCard

/-- THE TIED CARD OF 'vitolatop.TopReached'. -/
def topReachedCard : Claim7 := { stood := { row := topReachedRow, standIns := [], harness := (true, "9e4a188dbceced5cc57d27d7a2d3fa6b12a24c5d23f2b90a927c51c4ca907013"), looks := true }, kinds := [], alts := [], laidByText := true, laidKinds := [.data, .data], laidTests := true, laidLooks := .later }
def TopReachedCardSaid : Prop := Claim7.holds Tryz.pinned (.plain (OpenSpec.ofChange topReachedSpec)) topReachedCard

/-- THE TIED CARD OF 'vitolatop.TopCovered'. -/
def topCoveredCard : Claim7 := { stood := { row := topCoveredRow, standIns := [], harness := (true, "9e4a188dbceced5cc57d27d7a2d3fa6b12a24c5d23f2b90a927c51c4ca907013"), looks := true }, kinds := [], alts := [], laidByText := true, laidKinds := [.data, .data], laidTests := true, laidLooks := .later }
def TopCoveredCardSaid : Prop := Claim7.holds Tryz.pinned (.plain (OpenSpec.ofChange topCoveredSpec)) topCoveredCard

/-- THE TIED CARD OF 'vitolatop.TopTurning'. -/
def topTurningCard : Claim7 := { stood := { row := topTurningRow, standIns := [], harness := (true, "9e4a188dbceced5cc57d27d7a2d3fa6b12a24c5d23f2b90a927c51c4ca907013"), looks := true }, kinds := [], alts := [], laidByText := true, laidKinds := [.data, .data], laidTests := true, laidLooks := .later }
def TopTurningCardSaid : Prop := Claim7.holds Tryz.pinned (.plain (OpenSpec.ofChange topTurningSpec)) topTurningCard

/-- THE SECOND FORM's CARD OF 'vitolatop.TopKeys'. -/
def topKeysUptoCard : Claim7 := { stood := { row := topKeysUptoRow, standIns := [], harness := (true, "9e4a188dbceced5cc57d27d7a2d3fa6b12a24c5d23f2b90a927c51c4ca907013"), looks := true }, kinds := [], alts := [], laidByText := true, laidKinds := [.data, .data], laidTests := true, laidLooks := .later }
def TopKeysUptoCardSaid : Prop := Claim7.holds Tryz.pinned (.plain (OpenSpec.upto topKeysSpec)) topKeysUptoCard

/-- THE SECOND FORM's CARD OF 'vitolatop.TopHitting'. -/
def topHittingUptoCard : Claim7 := { stood := { row := topHittingUptoRow, standIns := [], harness := (true, "9e4a188dbceced5cc57d27d7a2d3fa6b12a24c5d23f2b90a927c51c4ca907013"), looks := true }, kinds := [], alts := [], laidByText := true, laidKinds := [.data, .data], laidTests := true, laidLooks := .later }
def TopHittingUptoCardSaid : Prop := Claim7.holds Tryz.pinned (.plain (OpenSpec.upto topHittingSpec)) topHittingUptoCard

/-- THE SECOND FORM's CARD OF 'vitolatop.TopGapped'. -/
def topGappedUptoCard : Claim7 := { stood := { row := topGappedUptoRow, standIns := [], harness := (true, "9e4a188dbceced5cc57d27d7a2d3fa6b12a24c5d23f2b90a927c51c4ca907013"), looks := true }, kinds := [], alts := [], laidByText := true, laidKinds := [.data, .data], laidTests := true, laidLooks := .later }
def TopGappedUptoCardSaid : Prop := Claim7.holds Tryz.pinned (.plain (OpenSpec.upto topGappedSpec)) topGappedUptoCard

/-- THE SECOND FORM's CARD OF 'vitolatop.TopReached'. -/
def topReachedUptoCard : Claim7 := { stood := { row := topReachedUptoRow, standIns := [], harness := (true, "9e4a188dbceced5cc57d27d7a2d3fa6b12a24c5d23f2b90a927c51c4ca907013"), looks := true }, kinds := [], alts := [], laidByText := true, laidKinds := [.data, .data], laidTests := true, laidLooks := .later }
def TopReachedUptoCardSaid : Prop := Claim7.holds Tryz.pinned (.plain (OpenSpec.upto topReachedSpec)) topReachedUptoCard

/-- THE SECOND FORM's CARD OF 'vitolatop.TopCovered'. -/
def topCoveredUptoCard : Claim7 := { stood := { row := topCoveredUptoRow, standIns := [], harness := (true, "9e4a188dbceced5cc57d27d7a2d3fa6b12a24c5d23f2b90a927c51c4ca907013"), looks := true }, kinds := [], alts := [], laidByText := true, laidKinds := [.data, .data], laidTests := true, laidLooks := .later }
def TopCoveredUptoCardSaid : Prop := Claim7.holds Tryz.pinned (.plain (OpenSpec.upto topCoveredSpec)) topCoveredUptoCard

/-- THE SECOND FORM's CARD OF 'vitolatop.TopTurning'. -/
def topTurningUptoCard : Claim7 := { stood := { row := topTurningUptoRow, standIns := [], harness := (true, "9e4a188dbceced5cc57d27d7a2d3fa6b12a24c5d23f2b90a927c51c4ca907013"), looks := true }, kinds := [], alts := [], laidByText := true, laidKinds := [.data, .data], laidTests := true, laidLooks := .later }
def TopTurningUptoCardSaid : Prop := Claim7.holds Tryz.pinned (.plain (OpenSpec.upto topTurningSpec)) topTurningUptoCard
end Rows
end Go.Proofs.YtppallabmjdolaaGreatDoor
