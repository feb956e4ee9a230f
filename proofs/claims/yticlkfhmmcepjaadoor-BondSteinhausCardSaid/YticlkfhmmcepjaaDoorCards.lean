/-
  DERIVED. GIVEN WITH THE SEED: THE CARDS: each row of YticlkfhmmcepjaaDoorRows.lean that lists a variable, with what it lists TIED to the program's text (the seventh form; the later family's looks); each row that meets fmt, with fmt's text TOLD by the authors' own Lean function (tested against real Go, not proved from fmt's source: count such statements apart). THE CARD IS WHAT COUNTS. Prove the row's statement (the work); the ties are given (YticlkfhmmcepjaaDoorTie.lean); close each card by the builder's one call (the guide's Derived/Test/ToyasCard.lean, 'card_holds'). Laid BY PROGRAM, IN A SANDBOX (cutbox-door.mjs). By AI agents, Wed Nov 11 2026. No macro, syntax, notation, axiom, sorry.
-/
import Derived.Test.YticlkfhmmcepjaaDoorRows
import GoSem.ClaimSeven
namespace Go.Proofs.YticlkfhmmcepjaaDoor
namespace Rows

/-- THE TIED CARD OF 'vitolalaw10.BondMade'. -/
def bondMadeCard : Claim7 := { stood := { row := bondMadeRow, standIns := [], harness := (true, "1a03ee8a23a7b983e6ef3a69663a5c20ef404063df81b12ef69afec6822f9ede"), looks := false }, kinds := [], alts := [], laidByText := true, laidKinds := [.data, .data], laidTests := true, laidLooks := .later }
def BondMadeCardSaid : Prop := Claim7.holds Tryd.pinned (.plain (OpenSpec.ofChange bondMadeSpec)) bondMadeCard

/-- THE TIED CARD OF 'vitolalaw10.BondAny'. -/
def bondAnyCard : Claim7 := { stood := { row := bondAnyRow, standIns := [], harness := (true, "1a03ee8a23a7b983e6ef3a69663a5c20ef404063df81b12ef69afec6822f9ede"), looks := false }, kinds := [], alts := [], laidByText := true, laidKinds := [.data, .data], laidTests := true, laidLooks := .later }
def BondAnyCardSaid : Prop := Claim7.holds Tryd.pinned (.plain (OpenSpec.ofChange bondAnySpec)) bondAnyCard

/-- THE TIED CARD OF 'vitolalaw10.BondSteinhaus'. -/
def bondSteinhausCard : Claim7 := { stood := { row := bondSteinhausRow, standIns := [], harness := (true, "1a03ee8a23a7b983e6ef3a69663a5c20ef404063df81b12ef69afec6822f9ede"), looks := false }, kinds := [], alts := [], laidByText := true, laidKinds := [.data, .data], laidTests := true, laidLooks := .later }
def BondSteinhausCardSaid : Prop := Claim7.holds Tryd.pinned (.plain (OpenSpec.ofChange bondSteinhausSpec)) bondSteinhausCard

/-- THE TIED CARD OF 'vitolalaw10.BondEdges'. -/
def bondEdgesCard : Claim7 := { stood := { row := bondEdgesRow, standIns := [], harness := (true, "1a03ee8a23a7b983e6ef3a69663a5c20ef404063df81b12ef69afec6822f9ede"), looks := false }, kinds := [], alts := [], laidByText := true, laidKinds := [.data, .data], laidTests := true, laidLooks := .later }
def BondEdgesCardSaid : Prop := Claim7.holds Tryd.pinned (.plain (OpenSpec.ofChange bondEdgesSpec)) bondEdgesCard

/-- THE TIED CARD OF 'vitolalaw10.BondCounted'. -/
def bondCountedCard : Claim7 := { stood := { row := bondCountedRow, standIns := [], harness := (true, "1a03ee8a23a7b983e6ef3a69663a5c20ef404063df81b12ef69afec6822f9ede"), looks := false }, kinds := [], alts := [], laidByText := true, laidKinds := [.data, .data], laidTests := true, laidLooks := .later }
def BondCountedCardSaid : Prop := Claim7.holds Tryd.pinned (.plain (OpenSpec.ofChange bondCountedSpec)) bondCountedCard

/-- THE TIED CARD OF 'vitolalaw10.BondDual'. -/
def bondDualCard : Claim7 := { stood := { row := bondDualRow, standIns := [], harness := (true, "1a03ee8a23a7b983e6ef3a69663a5c20ef404063df81b12ef69afec6822f9ede"), looks := false }, kinds := [], alts := [], laidByText := true, laidKinds := [.data, .data], laidTests := true, laidLooks := .later }
def BondDualCardSaid : Prop := Claim7.holds Tryd.pinned (.plain (OpenSpec.ofChange bondDualSpec)) bondDualCard

/-- THE TIED CARD OF 'vitolalaw10.BondRules'. -/
def bondRulesCard : Claim7 := { stood := { row := bondRulesRow, standIns := [], harness := (true, "1a03ee8a23a7b983e6ef3a69663a5c20ef404063df81b12ef69afec6822f9ede"), looks := false }, kinds := [], alts := [], laidByText := true, laidKinds := [.data, .data], laidTests := true, laidLooks := .later }
def BondRulesCardSaid : Prop := Claim7.holds Tryd.pinned (.plain (OpenSpec.ofChange bondRulesSpec)) bondRulesCard

/-- THE TIED CARD OF 'vitolalaw10.BondPlans'. -/
def bondPlansCard : Claim7 := { stood := { row := bondPlansRow, standIns := [], harness := (true, "1a03ee8a23a7b983e6ef3a69663a5c20ef404063df81b12ef69afec6822f9ede"), looks := false }, kinds := [], alts := [], laidByText := true, laidKinds := [.data, .data], laidTests := true, laidLooks := .later }
def BondPlansCardSaid : Prop := Claim7.holds Tryd.pinned (.plain (OpenSpec.ofChange bondPlansSpec)) bondPlansCard

/-- THE TIED CARD OF 'vitolalaw10.BondKnown'. -/
def bondKnownCard : Claim7 := { stood := { row := bondKnownRow, standIns := [], harness := (true, "1a03ee8a23a7b983e6ef3a69663a5c20ef404063df81b12ef69afec6822f9ede"), looks := false }, kinds := [], alts := [], laidByText := true, laidKinds := [.data, .data], laidTests := true, laidLooks := .later }
def BondKnownCardSaid : Prop := Claim7.holds Tryd.pinned (.plain (OpenSpec.ofChange bondKnownSpec)) bondKnownCard

/-- THE TIED CARD OF 'vitolalaw10.BondMore'. -/
def bondMoreCard : Claim7 := { stood := { row := bondMoreRow, standIns := [], harness := (true, "1a03ee8a23a7b983e6ef3a69663a5c20ef404063df81b12ef69afec6822f9ede"), looks := false }, kinds := [], alts := [], laidByText := true, laidKinds := [.data, .data], laidTests := true, laidLooks := .later }
def BondMoreCardSaid : Prop := Claim7.holds Tryd.pinned (.plain (OpenSpec.ofChange bondMoreSpec)) bondMoreCard

/-- THE TIED CARD OF 'vitolalaw10.BondNamed'. -/
def bondNamedCard : Claim7 := { stood := { row := bondNamedRow, standIns := [], harness := (true, "1a03ee8a23a7b983e6ef3a69663a5c20ef404063df81b12ef69afec6822f9ede"), looks := false }, kinds := [], alts := [], laidByText := true, laidKinds := [.data, .data], laidTests := true, laidLooks := .later }
def BondNamedCardSaid : Prop := Claim7.holds Tryd.pinned (.plain (OpenSpec.ofChange bondNamedSpec)) bondNamedCard

/-- THE SECOND FORM's CARD OF 'vitolalaw10.BondMade'. -/
def bondMadeUptoCard : Claim7 := { stood := { row := bondMadeUptoRow, standIns := [], harness := (true, "1a03ee8a23a7b983e6ef3a69663a5c20ef404063df81b12ef69afec6822f9ede"), looks := false }, kinds := [], alts := [], laidByText := true, laidKinds := [.data, .data], laidTests := true, laidLooks := .later }
def BondMadeUptoCardSaid : Prop := Claim7.holds Tryd.pinned (.plain (OpenSpec.upto bondMadeSpec)) bondMadeUptoCard

/-- THE SECOND FORM's CARD OF 'vitolalaw10.BondAny'. -/
def bondAnyUptoCard : Claim7 := { stood := { row := bondAnyUptoRow, standIns := [], harness := (true, "1a03ee8a23a7b983e6ef3a69663a5c20ef404063df81b12ef69afec6822f9ede"), looks := false }, kinds := [], alts := [], laidByText := true, laidKinds := [.data, .data], laidTests := true, laidLooks := .later }
def BondAnyUptoCardSaid : Prop := Claim7.holds Tryd.pinned (.plain (OpenSpec.upto bondAnySpec)) bondAnyUptoCard

/-- THE SECOND FORM's CARD OF 'vitolalaw10.BondSteinhaus'. -/
def bondSteinhausUptoCard : Claim7 := { stood := { row := bondSteinhausUptoRow, standIns := [], harness := (true, "1a03ee8a23a7b983e6ef3a69663a5c20ef404063df81b12ef69afec6822f9ede"), looks := false }, kinds := [], alts := [], laidByText := true, laidKinds := [.data, .data], laidTests := true, laidLooks := .later }
def BondSteinhausUptoCardSaid : Prop := Claim7.holds Tryd.pinned (.plain (OpenSpec.upto bondSteinhausSpec)) bondSteinhausUptoCard

/-- THE SECOND FORM's CARD OF 'vitolalaw10.BondEdges'. -/
def bondEdgesUptoCard : Claim7 := { stood := { row := bondEdgesUptoRow, standIns := [], harness := (true, "1a03ee8a23a7b983e6ef3a69663a5c20ef404063df81b12ef69afec6822f9ede"), looks := false }, kinds := [], alts := [], laidByText := true, laidKinds := [.data, .data], laidTests := true, laidLooks := .later }
def BondEdgesUptoCardSaid : Prop := Claim7.holds Tryd.pinned (.plain (OpenSpec.upto bondEdgesSpec)) bondEdgesUptoCard

/-- THE SECOND FORM's CARD OF 'vitolalaw10.BondCounted'. -/
def bondCountedUptoCard : Claim7 := { stood := { row := bondCountedUptoRow, standIns := [], harness := (true, "1a03ee8a23a7b983e6ef3a69663a5c20ef404063df81b12ef69afec6822f9ede"), looks := false }, kinds := [], alts := [], laidByText := true, laidKinds := [.data, .data], laidTests := true, laidLooks := .later }
def BondCountedUptoCardSaid : Prop := Claim7.holds Tryd.pinned (.plain (OpenSpec.upto bondCountedSpec)) bondCountedUptoCard

/-- THE SECOND FORM's CARD OF 'vitolalaw10.BondDual'. -/
def bondDualUptoCard : Claim7 := { stood := { row := bondDualUptoRow, standIns := [], harness := (true, "1a03ee8a23a7b983e6ef3a69663a5c20ef404063df81b12ef69afec6822f9ede"), looks := false }, kinds := [], alts := [], laidByText := true, laidKinds := [.data, .data], laidTests := true, laidLooks := .later }
def BondDualUptoCardSaid : Prop := Claim7.holds Tryd.pinned (.plain (OpenSpec.upto bondDualSpec)) bondDualUptoCard

/-- THE SECOND FORM's CARD OF 'vitolalaw10.BondRules'. -/
def bondRulesUptoCard : Claim7 := { stood := { row := bondRulesUptoRow, standIns := [], harness := (true, "1a03ee8a23a7b983e6ef3a69663a5c20ef404063df81b12ef69afec6822f9ede"), looks := false }, kinds := [], alts := [], laidByText := true, laidKinds := [.data, .data], laidTests := true, laidLooks := .later }
def BondRulesUptoCardSaid : Prop := Claim7.holds Tryd.pinned (.plain (OpenSpec.upto bondRulesSpec)) bondRulesUptoCard

/-- THE SECOND FORM's CARD OF 'vitolalaw10.BondPlans'. -/
def bondPlansUptoCard : Claim7 := { stood := { row := bondPlansUptoRow, standIns := [], harness := (true, "1a03ee8a23a7b983e6ef3a69663a5c20ef404063df81b12ef69afec6822f9ede"), looks := false }, kinds := [], alts := [], laidByText := true, laidKinds := [.data, .data], laidTests := true, laidLooks := .later }
def BondPlansUptoCardSaid : Prop := Claim7.holds Tryd.pinned (.plain (OpenSpec.upto bondPlansSpec)) bondPlansUptoCard

/-- THE SECOND FORM's CARD OF 'vitolalaw10.BondKnown'. -/
def bondKnownUptoCard : Claim7 := { stood := { row := bondKnownUptoRow, standIns := [], harness := (true, "1a03ee8a23a7b983e6ef3a69663a5c20ef404063df81b12ef69afec6822f9ede"), looks := false }, kinds := [], alts := [], laidByText := true, laidKinds := [.data, .data], laidTests := true, laidLooks := .later }
def BondKnownUptoCardSaid : Prop := Claim7.holds Tryd.pinned (.plain (OpenSpec.upto bondKnownSpec)) bondKnownUptoCard

/-- THE SECOND FORM's CARD OF 'vitolalaw10.BondMore'. -/
def bondMoreUptoCard : Claim7 := { stood := { row := bondMoreUptoRow, standIns := [], harness := (true, "1a03ee8a23a7b983e6ef3a69663a5c20ef404063df81b12ef69afec6822f9ede"), looks := false }, kinds := [], alts := [], laidByText := true, laidKinds := [.data, .data], laidTests := true, laidLooks := .later }
def BondMoreUptoCardSaid : Prop := Claim7.holds Tryd.pinned (.plain (OpenSpec.upto bondMoreSpec)) bondMoreUptoCard

/-- THE SECOND FORM's CARD OF 'vitolalaw10.BondNamed'. -/
def bondNamedUptoCard : Claim7 := { stood := { row := bondNamedUptoRow, standIns := [], harness := (true, "1a03ee8a23a7b983e6ef3a69663a5c20ef404063df81b12ef69afec6822f9ede"), looks := false }, kinds := [], alts := [], laidByText := true, laidKinds := [.data, .data], laidTests := true, laidLooks := .later }
def BondNamedUptoCardSaid : Prop := Claim7.holds Tryd.pinned (.plain (OpenSpec.upto bondNamedSpec)) bondNamedUptoCard
end Rows
end Go.Proofs.YticlkfhmmcepjaaDoor
