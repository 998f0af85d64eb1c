/-
  DERIVED. GIVEN WITH THE SEED: THE CARDS: each row of YtplodidfmdmhdaaDoorRows.lean that lists a variable, with what it lists TIED to the program's text (the seventh form; the later family's looks); each row that meets fmt, with fmt's text TOLD by the authors' own Lean function (tested against real Go, not proved from fmt's source: count such statements apart). THE CARD IS WHAT COUNTS. Prove the row's statement (the work); the ties are given (YtplodidfmdmhdaaDoorTie.lean); close each card by the builder's one call (the guide's Derived/Test/ToyasCard.lean, 'card_holds'). Laid BY PROGRAM, IN A SANDBOX (cutbox-door.mjs). By AI agents, Wed Nov 11 2026. No macro, syntax, notation, axiom, sorry.
-/
import Derived.Test.YtplodidfmdmhdaaDoorRows
import GoSem.ClaimSeven
namespace Go.Proofs.YtplodidfmdmhdaaDoor
namespace Rows

/-- THE TIED CARD OF 'laws.FnExactShortReport'. -/
def fnExactShortReportCard : Claim7 := { stood := { row := fnExactShortReportRow, standIns := [], harness := (true, "3a46195ba5bd667f06d22d924b7de5d1c803d27d98ef64d65aa56a0459eee34d"), looks := false }, kinds := [], alts := [], laidByText := true, laidKinds := [.data, .data, .data], laidTests := true, laidLooks := .later }
def FnExactShortReportCardSaid : Prop := Claim7.holds Tryd.pinned (.plain (OpenSpec.ofChange fnExactShortReportSpec)) fnExactShortReportCard

/-- THE TIED CARD OF 'laws.FnExactNodeList'. -/
def fnExactNodeListCard : Claim7 := { stood := { row := fnExactNodeListRow, standIns := [], harness := (true, "3a46195ba5bd667f06d22d924b7de5d1c803d27d98ef64d65aa56a0459eee34d"), looks := false }, kinds := [], alts := [], laidByText := true, laidKinds := [.data, .data, .data], laidTests := true, laidLooks := .later }
def FnExactNodeListCardSaid : Prop := Claim7.holds Tryd.pinned (.plain (OpenSpec.ofChange fnExactNodeListSpec)) fnExactNodeListCard

/-- THE TIED CARD OF 'laws.FnExactSupplyText'. -/
def fnExactSupplyTextCard : Claim7 := { stood := { row := fnExactSupplyTextRow, standIns := [], harness := (true, "3a46195ba5bd667f06d22d924b7de5d1c803d27d98ef64d65aa56a0459eee34d"), looks := false }, kinds := [], alts := [], laidByText := true, laidKinds := [.data, .data, .data], laidTests := true, laidLooks := .later }
def FnExactSupplyTextCardSaid : Prop := Claim7.holds Tryd.pinned (.plain (OpenSpec.ofChange fnExactSupplyTextSpec)) fnExactSupplyTextCard

/-- THE TIED CARD OF 'laws.FnExactReportText'. -/
def fnExactReportTextCard : Claim7 := { stood := { row := fnExactReportTextRow, standIns := [], harness := (true, "3a46195ba5bd667f06d22d924b7de5d1c803d27d98ef64d65aa56a0459eee34d"), looks := false }, kinds := [], alts := [], laidByText := true, laidKinds := [.data, .data, .data], laidTests := true, laidLooks := .later }
def FnExactReportTextCardSaid : Prop := Claim7.holds Tryd.pinned (.plain (OpenSpec.ofChange fnExactReportTextSpec)) fnExactReportTextCard

/-- THE TIED CARD OF 'laws.FnExactEncodeRecord'. -/
def fnExactEncodeRecordCard : Claim7 := { stood := { row := fnExactEncodeRecordRow, standIns := [], harness := (true, "3a46195ba5bd667f06d22d924b7de5d1c803d27d98ef64d65aa56a0459eee34d"), looks := false }, kinds := [], alts := [], laidByText := true, laidKinds := [.data, .data, .data], laidTests := true, laidLooks := .later }
def FnExactEncodeRecordCardSaid : Prop := Claim7.holds Tryd.pinned (.plain (OpenSpec.ofChange fnExactEncodeRecordSpec)) fnExactEncodeRecordCard

/-- THE TIED CARD OF 'laws.FnExactSampleText'. -/
def fnExactSampleTextCard : Claim7 := { stood := { row := fnExactSampleTextRow, standIns := [], harness := (true, "3a46195ba5bd667f06d22d924b7de5d1c803d27d98ef64d65aa56a0459eee34d"), looks := false }, kinds := [], alts := [], laidByText := true, laidKinds := [.data, .data, .data, .data], laidTests := true, laidLooks := .later }
def FnExactSampleTextCardSaid : Prop := Claim7.holds Tryd.pinned (.plain (OpenSpec.ofChange fnExactSampleTextSpec)) fnExactSampleTextCard

/-- THE TIED CARD OF 'laws.FnShares'. -/
def fnSharesCard : Claim7 := { stood := { row := fnSharesRow, standIns := [], harness := (true, "3a46195ba5bd667f06d22d924b7de5d1c803d27d98ef64d65aa56a0459eee34d"), looks := false }, kinds := [], alts := [], laidByText := true, laidKinds := [.data, .data, .data], laidTests := true, laidLooks := .later }
def FnSharesCardSaid : Prop := Claim7.holds Tryd.pinned (.plain (OpenSpec.ofChange fnSharesSpec)) fnSharesCard

/-- THE SECOND FORM's CARD OF 'laws.FnExactShortReport'. -/
def fnExactShortReportUptoCard : Claim7 := { stood := { row := fnExactShortReportUptoRow, standIns := [], harness := (true, "3a46195ba5bd667f06d22d924b7de5d1c803d27d98ef64d65aa56a0459eee34d"), looks := false }, kinds := [], alts := [], laidByText := true, laidKinds := [.data, .data, .data], laidTests := true, laidLooks := .later }
def FnExactShortReportUptoCardSaid : Prop := Claim7.holds Tryd.pinned (.plain (OpenSpec.upto fnExactShortReportSpec)) fnExactShortReportUptoCard

/-- THE SECOND FORM's CARD OF 'laws.FnExactNodeList'. -/
def fnExactNodeListUptoCard : Claim7 := { stood := { row := fnExactNodeListUptoRow, standIns := [], harness := (true, "3a46195ba5bd667f06d22d924b7de5d1c803d27d98ef64d65aa56a0459eee34d"), looks := false }, kinds := [], alts := [], laidByText := true, laidKinds := [.data, .data, .data], laidTests := true, laidLooks := .later }
def FnExactNodeListUptoCardSaid : Prop := Claim7.holds Tryd.pinned (.plain (OpenSpec.upto fnExactNodeListSpec)) fnExactNodeListUptoCard

/-- THE SECOND FORM's CARD OF 'laws.FnExactSupplyText'. -/
def fnExactSupplyTextUptoCard : Claim7 := { stood := { row := fnExactSupplyTextUptoRow, standIns := [], harness := (true, "3a46195ba5bd667f06d22d924b7de5d1c803d27d98ef64d65aa56a0459eee34d"), looks := false }, kinds := [], alts := [], laidByText := true, laidKinds := [.data, .data, .data], laidTests := true, laidLooks := .later }
def FnExactSupplyTextUptoCardSaid : Prop := Claim7.holds Tryd.pinned (.plain (OpenSpec.upto fnExactSupplyTextSpec)) fnExactSupplyTextUptoCard

/-- THE SECOND FORM's CARD OF 'laws.FnExactReportText'. -/
def fnExactReportTextUptoCard : Claim7 := { stood := { row := fnExactReportTextUptoRow, standIns := [], harness := (true, "3a46195ba5bd667f06d22d924b7de5d1c803d27d98ef64d65aa56a0459eee34d"), looks := false }, kinds := [], alts := [], laidByText := true, laidKinds := [.data, .data, .data], laidTests := true, laidLooks := .later }
def FnExactReportTextUptoCardSaid : Prop := Claim7.holds Tryd.pinned (.plain (OpenSpec.upto fnExactReportTextSpec)) fnExactReportTextUptoCard

/-- THE SECOND FORM's CARD OF 'laws.FnExactEncodeRecord'. -/
def fnExactEncodeRecordUptoCard : Claim7 := { stood := { row := fnExactEncodeRecordUptoRow, standIns := [], harness := (true, "3a46195ba5bd667f06d22d924b7de5d1c803d27d98ef64d65aa56a0459eee34d"), looks := false }, kinds := [], alts := [], laidByText := true, laidKinds := [.data, .data, .data], laidTests := true, laidLooks := .later }
def FnExactEncodeRecordUptoCardSaid : Prop := Claim7.holds Tryd.pinned (.plain (OpenSpec.upto fnExactEncodeRecordSpec)) fnExactEncodeRecordUptoCard

/-- THE SECOND FORM's CARD OF 'laws.FnExactSampleText'. -/
def fnExactSampleTextUptoCard : Claim7 := { stood := { row := fnExactSampleTextUptoRow, standIns := [], harness := (true, "3a46195ba5bd667f06d22d924b7de5d1c803d27d98ef64d65aa56a0459eee34d"), looks := false }, kinds := [], alts := [], laidByText := true, laidKinds := [.data, .data, .data, .data], laidTests := true, laidLooks := .later }
def FnExactSampleTextUptoCardSaid : Prop := Claim7.holds Tryd.pinned (.plain (OpenSpec.upto fnExactSampleTextSpec)) fnExactSampleTextUptoCard

/-- THE SECOND FORM's CARD OF 'laws.FnShares'. -/
def fnSharesUptoCard : Claim7 := { stood := { row := fnSharesUptoRow, standIns := [], harness := (true, "3a46195ba5bd667f06d22d924b7de5d1c803d27d98ef64d65aa56a0459eee34d"), looks := false }, kinds := [], alts := [], laidByText := true, laidKinds := [.data, .data, .data], laidTests := true, laidLooks := .later }
def FnSharesUptoCardSaid : Prop := Claim7.holds Tryd.pinned (.plain (OpenSpec.upto fnSharesSpec)) fnSharesUptoCard
end Rows
end Go.Proofs.YtplodidfmdmhdaaDoor
