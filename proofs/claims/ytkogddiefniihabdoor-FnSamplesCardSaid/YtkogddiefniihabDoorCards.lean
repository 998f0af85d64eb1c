/-
  DERIVED. GIVEN WITH THE SEED: THE CARDS: each row of YtkogddiefniihabDoorRows.lean that lists a variable, with what it lists TIED to the program's text (the seventh form; the later family's looks); each row that meets fmt, with fmt's text TOLD by the authors' own Lean function (tested against real Go, not proved from fmt's source: count such statements apart). THE CARD IS WHAT COUNTS. Prove the row's statement (the work); the ties are given (YtkogddiefniihabDoorTie.lean); close each card by the builder's one call (the guide's Derived/Test/ToyasCard.lean, 'card_holds'). Laid BY PROGRAM, IN A SANDBOX (cutbox-door.mjs). By AI agents, Wed Nov 11 2026. No macro, syntax, notation, axiom, sorry.
-/
import Derived.Test.YtkogddiefniihabDoorRows
import GoSem.ClaimSeven
namespace Go.Proofs.YtkogddiefniihabDoor
namespace Rows

/-- THE TIED CARD OF 'laws.FnExactSampleText'. -/
def fnExactSampleTextCard : Claim7 := { stood := { row := fnExactSampleTextRow, standIns := [], harness := (true, "dbbf99b521df06d2eb64e039ae3f234014ee1f72326708d69effa2be9ca146e5"), looks := false }, kinds := [], alts := [], laidByText := true, laidKinds := [.data, .data, .data, .data], laidTests := true, laidLooks := .later }
def FnExactSampleTextCardSaid : Prop := Claim7.holds Tryd.pinned (.plain (OpenSpec.ofChange fnExactSampleTextSpec)) fnExactSampleTextCard

/-- THE TIED CARD OF 'laws.FnShares'. -/
def fnSharesCard : Claim7 := { stood := { row := fnSharesRow, standIns := [], harness := (true, "dbbf99b521df06d2eb64e039ae3f234014ee1f72326708d69effa2be9ca146e5"), looks := false }, kinds := [], alts := [], laidByText := true, laidKinds := [.data, .data, .data], laidTests := true, laidLooks := .later }
def FnSharesCardSaid : Prop := Claim7.holds Tryd.pinned (.plain (OpenSpec.ofChange fnSharesSpec)) fnSharesCard

/-- THE TIED CARD OF 'laws.FnExactParseSupply'. -/
def fnExactParseSupplyCard : Claim7 := { stood := { row := fnExactParseSupplyRow, standIns := [], harness := (true, "dbbf99b521df06d2eb64e039ae3f234014ee1f72326708d69effa2be9ca146e5"), looks := false }, kinds := [], alts := [], laidByText := true, laidKinds := [.data, .data, .data], laidTests := true, laidLooks := .later }
def FnExactParseSupplyCardSaid : Prop := Claim7.holds Tryd.pinned (.plain (OpenSpec.ofChange fnExactParseSupplySpec)) fnExactParseSupplyCard

/-- THE TIED CARD OF 'laws.FnExactParseSample'. -/
def fnExactParseSampleCard : Claim7 := { stood := { row := fnExactParseSampleRow, standIns := [], harness := (true, "dbbf99b521df06d2eb64e039ae3f234014ee1f72326708d69effa2be9ca146e5"), looks := false }, kinds := [], alts := [], laidByText := true, laidKinds := [.data, .data, .data, .data], laidTests := true, laidLooks := .later }
def FnExactParseSampleCardSaid : Prop := Claim7.holds Tryd.pinned (.plain (OpenSpec.ofChange fnExactParseSampleSpec)) fnExactParseSampleCard

/-- THE TIED CARD OF 'laws.FnSamples'. -/
def fnSamplesCard : Claim7 := { stood := { row := fnSamplesRow, standIns := [], harness := (true, "dbbf99b521df06d2eb64e039ae3f234014ee1f72326708d69effa2be9ca146e5"), looks := false }, kinds := [], alts := [], laidByText := true, laidKinds := [.data, .data, .data, .data], laidTests := true, laidLooks := .later }
def FnSamplesCardSaid : Prop := Claim7.holds Tryd.pinned (.plain (OpenSpec.ofChange fnSamplesSpec)) fnSamplesCard

/-- THE TIED CARD OF 'laws.FnExactParseReport'. -/
def fnExactParseReportCard : Claim7 := { stood := { row := fnExactParseReportRow, standIns := [], harness := (true, "dbbf99b521df06d2eb64e039ae3f234014ee1f72326708d69effa2be9ca146e5"), looks := false }, kinds := [], alts := [], laidByText := true, laidKinds := [.data, .data, .data, .data, .pinned], laidTests := true, laidLooks := .later }
def FnExactParseReportCardSaid : Prop := Claim7.holds Tryd.pinned (.plain (OpenSpec.ofChange fnExactParseReportSpec)) fnExactParseReportCard

/-- THE TIED CARD OF 'laws.FnReports'. -/
def fnReportsCard : Claim7 := { stood := { row := fnReportsRow, standIns := [], harness := (true, "dbbf99b521df06d2eb64e039ae3f234014ee1f72326708d69effa2be9ca146e5"), looks := false }, kinds := [], alts := [], laidByText := true, laidKinds := [.data, .data, .data, .data, .pinned], laidTests := true, laidLooks := .later }
def FnReportsCardSaid : Prop := Claim7.holds Tryd.pinned (.plain (OpenSpec.ofChange fnReportsSpec)) fnReportsCard

/-- THE SECOND FORM's CARD OF 'laws.FnExactSampleText'. -/
def fnExactSampleTextUptoCard : Claim7 := { stood := { row := fnExactSampleTextUptoRow, standIns := [], harness := (true, "dbbf99b521df06d2eb64e039ae3f234014ee1f72326708d69effa2be9ca146e5"), looks := false }, kinds := [], alts := [], laidByText := true, laidKinds := [.data, .data, .data, .data], laidTests := true, laidLooks := .later }
def FnExactSampleTextUptoCardSaid : Prop := Claim7.holds Tryd.pinned (.plain (OpenSpec.upto fnExactSampleTextSpec)) fnExactSampleTextUptoCard

/-- THE SECOND FORM's CARD OF 'laws.FnShares'. -/
def fnSharesUptoCard : Claim7 := { stood := { row := fnSharesUptoRow, standIns := [], harness := (true, "dbbf99b521df06d2eb64e039ae3f234014ee1f72326708d69effa2be9ca146e5"), looks := false }, kinds := [], alts := [], laidByText := true, laidKinds := [.data, .data, .data], laidTests := true, laidLooks := .later }
def FnSharesUptoCardSaid : Prop := Claim7.holds Tryd.pinned (.plain (OpenSpec.upto fnSharesSpec)) fnSharesUptoCard

/-- THE SECOND FORM's CARD OF 'laws.FnExactParseSupply'. -/
def fnExactParseSupplyUptoCard : Claim7 := { stood := { row := fnExactParseSupplyUptoRow, standIns := [], harness := (true, "dbbf99b521df06d2eb64e039ae3f234014ee1f72326708d69effa2be9ca146e5"), looks := false }, kinds := [], alts := [], laidByText := true, laidKinds := [.data, .data, .data], laidTests := true, laidLooks := .later }
def FnExactParseSupplyUptoCardSaid : Prop := Claim7.holds Tryd.pinned (.plain (OpenSpec.upto fnExactParseSupplySpec)) fnExactParseSupplyUptoCard

/-- THE SECOND FORM's CARD OF 'laws.FnExactParseSample'. -/
def fnExactParseSampleUptoCard : Claim7 := { stood := { row := fnExactParseSampleUptoRow, standIns := [], harness := (true, "dbbf99b521df06d2eb64e039ae3f234014ee1f72326708d69effa2be9ca146e5"), looks := false }, kinds := [], alts := [], laidByText := true, laidKinds := [.data, .data, .data, .data], laidTests := true, laidLooks := .later }
def FnExactParseSampleUptoCardSaid : Prop := Claim7.holds Tryd.pinned (.plain (OpenSpec.upto fnExactParseSampleSpec)) fnExactParseSampleUptoCard

/-- THE SECOND FORM's CARD OF 'laws.FnSamples'. -/
def fnSamplesUptoCard : Claim7 := { stood := { row := fnSamplesUptoRow, standIns := [], harness := (true, "dbbf99b521df06d2eb64e039ae3f234014ee1f72326708d69effa2be9ca146e5"), looks := false }, kinds := [], alts := [], laidByText := true, laidKinds := [.data, .data, .data, .data], laidTests := true, laidLooks := .later }
def FnSamplesUptoCardSaid : Prop := Claim7.holds Tryd.pinned (.plain (OpenSpec.upto fnSamplesSpec)) fnSamplesUptoCard

/-- THE SECOND FORM's CARD OF 'laws.FnExactParseReport'. -/
def fnExactParseReportUptoCard : Claim7 := { stood := { row := fnExactParseReportUptoRow, standIns := [], harness := (true, "dbbf99b521df06d2eb64e039ae3f234014ee1f72326708d69effa2be9ca146e5"), looks := false }, kinds := [], alts := [], laidByText := true, laidKinds := [.data, .data, .data, .data, .pinned], laidTests := true, laidLooks := .later }
def FnExactParseReportUptoCardSaid : Prop := Claim7.holds Tryd.pinned (.plain (OpenSpec.upto fnExactParseReportSpec)) fnExactParseReportUptoCard

/-- THE SECOND FORM's CARD OF 'laws.FnReports'. -/
def fnReportsUptoCard : Claim7 := { stood := { row := fnReportsUptoRow, standIns := [], harness := (true, "dbbf99b521df06d2eb64e039ae3f234014ee1f72326708d69effa2be9ca146e5"), looks := false }, kinds := [], alts := [], laidByText := true, laidKinds := [.data, .data, .data, .data, .pinned], laidTests := true, laidLooks := .later }
def FnReportsUptoCardSaid : Prop := Claim7.holds Tryd.pinned (.plain (OpenSpec.upto fnReportsSpec)) fnReportsUptoCard
end Rows
end Go.Proofs.YtkogddiefniihabDoor
