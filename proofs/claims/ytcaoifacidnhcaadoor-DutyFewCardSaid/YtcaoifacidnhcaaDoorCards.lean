/-
  DERIVED. GIVEN WITH THE SEED: THE CARDS: each row of YtcaoifacidnhcaaDoorRows.lean that lists a variable, with what it lists TIED to the program's text (the seventh form; the later family's looks); each row that meets fmt, with fmt's text TOLD by the authors' own Lean function (tested against real Go, not proved from fmt's source: count such statements apart). THE CARD IS WHAT COUNTS. Prove the row's statement (the work); the ties are given (YtcaoifacidnhcaaDoorTie.lean); close each card by the builder's one call (the guide's Derived/Test/ToyasCard.lean, 'card_holds'). Laid BY PROGRAM, IN A SANDBOX (cutbox-door.mjs). By AI agents, Wed Nov 11 2026. No macro, syntax, notation, axiom, sorry.
-/
import Derived.Test.YtcaoifacidnhcaaDoorRows
import GoSem.ClaimSeven
namespace Go.Proofs.YtcaoifacidnhcaaDoor
namespace Rows

/-- THE TIED CARD OF 'vitolalaw13.DutyFractions'. -/
def dutyFractionsCard : Claim7 := { stood := { row := dutyFractionsRow, standIns := [], harness := (true, "ddbd7cec930acc25e519595c08fcc09bf2df058c69f29ba5dd28f9ad9cfa78a8"), looks := false }, kinds := [], alts := [], laidByText := true, laidKinds := [.data], laidTests := true, laidLooks := .later }
def DutyFractionsCardSaid : Prop := Claim7.holds Tryd.pinned (.plain (OpenSpec.ofChange dutyFractionsSpec)) dutyFractionsCard

/-- THE TIED CARD OF 'vitolalaw13.DutyFewests'. -/
def dutyFewestsCard : Claim7 := { stood := { row := dutyFewestsRow, standIns := [], harness := (true, "ddbd7cec930acc25e519595c08fcc09bf2df058c69f29ba5dd28f9ad9cfa78a8"), looks := false }, kinds := [], alts := [], laidByText := true, laidKinds := [.data], laidTests := true, laidLooks := .later }
def DutyFewestsCardSaid : Prop := Claim7.holds Tryd.pinned (.plain (OpenSpec.ofChange dutyFewestsSpec)) dutyFewestsCard

/-- THE TIED CARD OF 'vitolalaw13.DutyParts'. -/
def dutyPartsCard : Claim7 := { stood := { row := dutyPartsRow, standIns := [], harness := (true, "ddbd7cec930acc25e519595c08fcc09bf2df058c69f29ba5dd28f9ad9cfa78a8"), looks := false }, kinds := [], alts := [], laidByText := true, laidKinds := [.data], laidTests := true, laidLooks := .later }
def DutyPartsCardSaid : Prop := Claim7.holds Tryd.pinned (.plain (OpenSpec.ofChange dutyPartsSpec)) dutyPartsCard

/-- THE TIED CARD OF 'vitolalaw13.DutyPairs'. -/
def dutyPairsCard : Claim7 := { stood := { row := dutyPairsRow, standIns := [], harness := (true, "ddbd7cec930acc25e519595c08fcc09bf2df058c69f29ba5dd28f9ad9cfa78a8"), looks := false }, kinds := [], alts := [], laidByText := true, laidKinds := [.data], laidTests := true, laidLooks := .later }
def DutyPairsCardSaid : Prop := Claim7.holds Tryd.pinned (.plain (OpenSpec.ofChange dutyPairsSpec)) dutyPairsCard

/-- THE TIED CARD OF 'vitolalaw13.DutySides'. -/
def dutySidesCard : Claim7 := { stood := { row := dutySidesRow, standIns := [], harness := (true, "ddbd7cec930acc25e519595c08fcc09bf2df058c69f29ba5dd28f9ad9cfa78a8"), looks := false }, kinds := [], alts := [], laidByText := true, laidKinds := [.data], laidTests := true, laidLooks := .later }
def DutySidesCardSaid : Prop := Claim7.holds Tryd.pinned (.plain (OpenSpec.ofChange dutySidesSpec)) dutySidesCard

/-- THE TIED CARD OF 'vitolalaw13.DutyFalls'. -/
def dutyFallsCard : Claim7 := { stood := { row := dutyFallsRow, standIns := [], harness := (true, "ddbd7cec930acc25e519595c08fcc09bf2df058c69f29ba5dd28f9ad9cfa78a8"), looks := false }, kinds := [], alts := [], laidByText := true, laidKinds := [.data], laidTests := true, laidLooks := .later }
def DutyFallsCardSaid : Prop := Claim7.holds Tryd.pinned (.plain (OpenSpec.ofChange dutyFallsSpec)) dutyFallsCard

/-- THE TIED CARD OF 'vitolalaw13.DutyPaired'. -/
def dutyPairedCard : Claim7 := { stood := { row := dutyPairedRow, standIns := [], harness := (true, "ddbd7cec930acc25e519595c08fcc09bf2df058c69f29ba5dd28f9ad9cfa78a8"), looks := false }, kinds := [], alts := [], laidByText := true, laidKinds := [.data], laidTests := true, laidLooks := .later }
def DutyPairedCardSaid : Prop := Claim7.holds Tryd.pinned (.plain (OpenSpec.ofChange dutyPairedSpec)) dutyPairedCard

/-- THE TIED CARD OF 'vitolalaw13.DutyFew'. -/
def dutyFewCard : Claim7 := { stood := { row := dutyFewRow, standIns := [], harness := (true, "ddbd7cec930acc25e519595c08fcc09bf2df058c69f29ba5dd28f9ad9cfa78a8"), looks := false }, kinds := [], alts := [], laidByText := true, laidKinds := [.data], laidTests := true, laidLooks := .later }
def DutyFewCardSaid : Prop := Claim7.holds Tryd.pinned (.plain (OpenSpec.ofChange dutyFewSpec)) dutyFewCard

/-- THE TIED CARD OF 'vitolalaw13.DutySummed'. -/
def dutySummedCard : Claim7 := { stood := { row := dutySummedRow, standIns := [], harness := (true, "ddbd7cec930acc25e519595c08fcc09bf2df058c69f29ba5dd28f9ad9cfa78a8"), looks := false }, kinds := [], alts := [], laidByText := true, laidKinds := [.data], laidTests := true, laidLooks := .later }
def DutySummedCardSaid : Prop := Claim7.holds Tryd.pinned (.plain (OpenSpec.ofChange dutySummedSpec)) dutySummedCard

/-- THE TIED CARD OF 'vitolalaw13.DutyDivided'. -/
def dutyDividedCard : Claim7 := { stood := { row := dutyDividedRow, standIns := [], harness := (true, "ddbd7cec930acc25e519595c08fcc09bf2df058c69f29ba5dd28f9ad9cfa78a8"), looks := false }, kinds := [], alts := [], laidByText := true, laidKinds := [.data], laidTests := true, laidLooks := .later }
def DutyDividedCardSaid : Prop := Claim7.holds Tryd.pinned (.plain (OpenSpec.ofChange dutyDividedSpec)) dutyDividedCard

/-- THE TIED CARD OF 'vitolalaw13.DutyPaid'. -/
def dutyPaidCard : Claim7 := { stood := { row := dutyPaidRow, standIns := [], harness := (true, "ddbd7cec930acc25e519595c08fcc09bf2df058c69f29ba5dd28f9ad9cfa78a8"), looks := false }, kinds := [], alts := [], laidByText := true, laidKinds := [.data], laidTests := true, laidLooks := .later }
def DutyPaidCardSaid : Prop := Claim7.holds Tryd.pinned (.plain (OpenSpec.ofChange dutyPaidSpec)) dutyPaidCard

/-- THE TIED CARD OF 'vitolalaw13.DutyEqual'. -/
def dutyEqualCard : Claim7 := { stood := { row := dutyEqualRow, standIns := [], harness := (true, "ddbd7cec930acc25e519595c08fcc09bf2df058c69f29ba5dd28f9ad9cfa78a8"), looks := false }, kinds := [], alts := [], laidByText := true, laidKinds := [.data], laidTests := true, laidLooks := .later }
def DutyEqualCardSaid : Prop := Claim7.holds Tryd.pinned (.plain (OpenSpec.ofChange dutyEqualSpec)) dutyEqualCard

/-- THE TIED CARD OF 'vitolalaw13.DutyKnown'. -/
def dutyKnownCard : Claim7 := { stood := { row := dutyKnownRow, standIns := [], harness := (true, "ddbd7cec930acc25e519595c08fcc09bf2df058c69f29ba5dd28f9ad9cfa78a8"), looks := false }, kinds := [], alts := [], laidByText := true, laidKinds := [.data], laidTests := true, laidLooks := .later }
def DutyKnownCardSaid : Prop := Claim7.holds Tryd.pinned (.plain (OpenSpec.ofChange dutyKnownSpec)) dutyKnownCard

/-- THE SECOND FORM's CARD OF 'vitolalaw13.DutyFractions'. -/
def dutyFractionsUptoCard : Claim7 := { stood := { row := dutyFractionsUptoRow, standIns := [], harness := (true, "ddbd7cec930acc25e519595c08fcc09bf2df058c69f29ba5dd28f9ad9cfa78a8"), looks := false }, kinds := [], alts := [], laidByText := true, laidKinds := [.data], laidTests := true, laidLooks := .later }
def DutyFractionsUptoCardSaid : Prop := Claim7.holds Tryd.pinned (.plain (OpenSpec.upto dutyFractionsSpec)) dutyFractionsUptoCard

/-- THE SECOND FORM's CARD OF 'vitolalaw13.DutyFewests'. -/
def dutyFewestsUptoCard : Claim7 := { stood := { row := dutyFewestsUptoRow, standIns := [], harness := (true, "ddbd7cec930acc25e519595c08fcc09bf2df058c69f29ba5dd28f9ad9cfa78a8"), looks := false }, kinds := [], alts := [], laidByText := true, laidKinds := [.data], laidTests := true, laidLooks := .later }
def DutyFewestsUptoCardSaid : Prop := Claim7.holds Tryd.pinned (.plain (OpenSpec.upto dutyFewestsSpec)) dutyFewestsUptoCard

/-- THE SECOND FORM's CARD OF 'vitolalaw13.DutyParts'. -/
def dutyPartsUptoCard : Claim7 := { stood := { row := dutyPartsUptoRow, standIns := [], harness := (true, "ddbd7cec930acc25e519595c08fcc09bf2df058c69f29ba5dd28f9ad9cfa78a8"), looks := false }, kinds := [], alts := [], laidByText := true, laidKinds := [.data], laidTests := true, laidLooks := .later }
def DutyPartsUptoCardSaid : Prop := Claim7.holds Tryd.pinned (.plain (OpenSpec.upto dutyPartsSpec)) dutyPartsUptoCard

/-- THE SECOND FORM's CARD OF 'vitolalaw13.DutyPairs'. -/
def dutyPairsUptoCard : Claim7 := { stood := { row := dutyPairsUptoRow, standIns := [], harness := (true, "ddbd7cec930acc25e519595c08fcc09bf2df058c69f29ba5dd28f9ad9cfa78a8"), looks := false }, kinds := [], alts := [], laidByText := true, laidKinds := [.data], laidTests := true, laidLooks := .later }
def DutyPairsUptoCardSaid : Prop := Claim7.holds Tryd.pinned (.plain (OpenSpec.upto dutyPairsSpec)) dutyPairsUptoCard

/-- THE SECOND FORM's CARD OF 'vitolalaw13.DutySides'. -/
def dutySidesUptoCard : Claim7 := { stood := { row := dutySidesUptoRow, standIns := [], harness := (true, "ddbd7cec930acc25e519595c08fcc09bf2df058c69f29ba5dd28f9ad9cfa78a8"), looks := false }, kinds := [], alts := [], laidByText := true, laidKinds := [.data], laidTests := true, laidLooks := .later }
def DutySidesUptoCardSaid : Prop := Claim7.holds Tryd.pinned (.plain (OpenSpec.upto dutySidesSpec)) dutySidesUptoCard

/-- THE SECOND FORM's CARD OF 'vitolalaw13.DutyFalls'. -/
def dutyFallsUptoCard : Claim7 := { stood := { row := dutyFallsUptoRow, standIns := [], harness := (true, "ddbd7cec930acc25e519595c08fcc09bf2df058c69f29ba5dd28f9ad9cfa78a8"), looks := false }, kinds := [], alts := [], laidByText := true, laidKinds := [.data], laidTests := true, laidLooks := .later }
def DutyFallsUptoCardSaid : Prop := Claim7.holds Tryd.pinned (.plain (OpenSpec.upto dutyFallsSpec)) dutyFallsUptoCard

/-- THE SECOND FORM's CARD OF 'vitolalaw13.DutyPaired'. -/
def dutyPairedUptoCard : Claim7 := { stood := { row := dutyPairedUptoRow, standIns := [], harness := (true, "ddbd7cec930acc25e519595c08fcc09bf2df058c69f29ba5dd28f9ad9cfa78a8"), looks := false }, kinds := [], alts := [], laidByText := true, laidKinds := [.data], laidTests := true, laidLooks := .later }
def DutyPairedUptoCardSaid : Prop := Claim7.holds Tryd.pinned (.plain (OpenSpec.upto dutyPairedSpec)) dutyPairedUptoCard

/-- THE SECOND FORM's CARD OF 'vitolalaw13.DutyFew'. -/
def dutyFewUptoCard : Claim7 := { stood := { row := dutyFewUptoRow, standIns := [], harness := (true, "ddbd7cec930acc25e519595c08fcc09bf2df058c69f29ba5dd28f9ad9cfa78a8"), looks := false }, kinds := [], alts := [], laidByText := true, laidKinds := [.data], laidTests := true, laidLooks := .later }
def DutyFewUptoCardSaid : Prop := Claim7.holds Tryd.pinned (.plain (OpenSpec.upto dutyFewSpec)) dutyFewUptoCard

/-- THE SECOND FORM's CARD OF 'vitolalaw13.DutySummed'. -/
def dutySummedUptoCard : Claim7 := { stood := { row := dutySummedUptoRow, standIns := [], harness := (true, "ddbd7cec930acc25e519595c08fcc09bf2df058c69f29ba5dd28f9ad9cfa78a8"), looks := false }, kinds := [], alts := [], laidByText := true, laidKinds := [.data], laidTests := true, laidLooks := .later }
def DutySummedUptoCardSaid : Prop := Claim7.holds Tryd.pinned (.plain (OpenSpec.upto dutySummedSpec)) dutySummedUptoCard

/-- THE SECOND FORM's CARD OF 'vitolalaw13.DutyDivided'. -/
def dutyDividedUptoCard : Claim7 := { stood := { row := dutyDividedUptoRow, standIns := [], harness := (true, "ddbd7cec930acc25e519595c08fcc09bf2df058c69f29ba5dd28f9ad9cfa78a8"), looks := false }, kinds := [], alts := [], laidByText := true, laidKinds := [.data], laidTests := true, laidLooks := .later }
def DutyDividedUptoCardSaid : Prop := Claim7.holds Tryd.pinned (.plain (OpenSpec.upto dutyDividedSpec)) dutyDividedUptoCard

/-- THE SECOND FORM's CARD OF 'vitolalaw13.DutyPaid'. -/
def dutyPaidUptoCard : Claim7 := { stood := { row := dutyPaidUptoRow, standIns := [], harness := (true, "ddbd7cec930acc25e519595c08fcc09bf2df058c69f29ba5dd28f9ad9cfa78a8"), looks := false }, kinds := [], alts := [], laidByText := true, laidKinds := [.data], laidTests := true, laidLooks := .later }
def DutyPaidUptoCardSaid : Prop := Claim7.holds Tryd.pinned (.plain (OpenSpec.upto dutyPaidSpec)) dutyPaidUptoCard

/-- THE SECOND FORM's CARD OF 'vitolalaw13.DutyEqual'. -/
def dutyEqualUptoCard : Claim7 := { stood := { row := dutyEqualUptoRow, standIns := [], harness := (true, "ddbd7cec930acc25e519595c08fcc09bf2df058c69f29ba5dd28f9ad9cfa78a8"), looks := false }, kinds := [], alts := [], laidByText := true, laidKinds := [.data], laidTests := true, laidLooks := .later }
def DutyEqualUptoCardSaid : Prop := Claim7.holds Tryd.pinned (.plain (OpenSpec.upto dutyEqualSpec)) dutyEqualUptoCard

/-- THE SECOND FORM's CARD OF 'vitolalaw13.DutyKnown'. -/
def dutyKnownUptoCard : Claim7 := { stood := { row := dutyKnownUptoRow, standIns := [], harness := (true, "ddbd7cec930acc25e519595c08fcc09bf2df058c69f29ba5dd28f9ad9cfa78a8"), looks := false }, kinds := [], alts := [], laidByText := true, laidKinds := [.data], laidTests := true, laidLooks := .later }
def DutyKnownUptoCardSaid : Prop := Claim7.holds Tryd.pinned (.plain (OpenSpec.upto dutyKnownSpec)) dutyKnownUptoCard
end Rows
end Go.Proofs.YtcaoifacidnhcaaDoor
