/-
  DERIVED. GIVEN WITH THE SEED: THE CARDS: each row of YtlmppfffalaphaaGreatDoorRows.lean that lists a variable, with what it lists TIED to the program's text (the seventh form; the later family's looks); each row that meets fmt, with fmt's text TOLD by the authors' own Lean function (tested against real Go, not proved from fmt's source: count such statements apart). THE CARD IS WHAT COUNTS. Prove the row's statement (the work); the ties are given (YtlmppfffalaphaaGreatDoorTie.lean); close each card by the builder's one call (the guide's Derived/Test/ToyasCard.lean, 'card_holds'). Laid BY PROGRAM, IN A SANDBOX (cutbox-door.mjs). By AI agents, Wed Nov 11 2026. No macro, syntax, notation, axiom, sorry.
-/
import Derived.Test.YtlmppfffalaphaaGreatDoorRows
import GoSem.ClaimSeven
namespace Go.Proofs.YtlmppfffalaphaaGreatDoor
namespace Rows

/-- THE TIED CARD OF 'loftblocklaw54.ReportFindings'. -/
def reportFindingsCard : Claim7 := { stood := { row := reportFindingsRow, standIns := [], harness := (true, "b4c10f9097ac3a931a4bc5ffefbb0cf81e6cba891d5fe9f0342fb15b6b5a546b"), looks := true }, kinds := [], alts := [], laidByText := true, laidKinds := [.data, .data, .data, .sentinel, .sentinel], laidTests := true, laidLooks := .later }
def ReportFindingsCardSaid : Prop := Claim7.holds Tryz.pinned (.plain (OpenSpec.ofChange reportFindingsSpec)) reportFindingsCard

/-- THE TIED CARD OF 'loftblocklaw54.ReportSheets'. -/
def reportSheetsCard : Claim7 := { stood := { row := reportSheetsRow, standIns := [], harness := (true, "b4c10f9097ac3a931a4bc5ffefbb0cf81e6cba891d5fe9f0342fb15b6b5a546b"), looks := true }, kinds := [], alts := [], laidByText := true, laidKinds := [.data, .data, .data], laidTests := true, laidLooks := .later }
def ReportSheetsCardSaid : Prop := Claim7.holds Tryz.pinned (.plain (OpenSpec.ofChange reportSheetsSpec)) reportSheetsCard

/-- THE TIED CARD OF 'loftblocklaw54.ReportOnce'. -/
def reportOnceCard : Claim7 := { stood := { row := reportOnceRow, standIns := [], harness := (true, "b4c10f9097ac3a931a4bc5ffefbb0cf81e6cba891d5fe9f0342fb15b6b5a546b"), looks := true }, kinds := [], alts := [], laidByText := true, laidKinds := [.data, .data, .data, .data, .pinned], laidTests := true, laidLooks := .later }
def ReportOnceCardSaid : Prop := Claim7.holds Tryz.pinned (.plain (OpenSpec.ofChange reportOnceSpec)) reportOnceCard

/-- THE SECOND FORM's CARD OF 'loftblocklaw54.ReportFindings'. -/
def reportFindingsUptoCard : Claim7 := { stood := { row := reportFindingsUptoRow, standIns := [], harness := (true, "b4c10f9097ac3a931a4bc5ffefbb0cf81e6cba891d5fe9f0342fb15b6b5a546b"), looks := true }, kinds := [], alts := [], laidByText := true, laidKinds := [.data, .data, .data, .sentinel, .sentinel], laidTests := true, laidLooks := .later }
def ReportFindingsUptoCardSaid : Prop := Claim7.holds Tryz.pinned (.plain (OpenSpec.upto reportFindingsSpec)) reportFindingsUptoCard

/-- THE SECOND FORM's CARD OF 'loftblocklaw54.ReportSheets'. -/
def reportSheetsUptoCard : Claim7 := { stood := { row := reportSheetsUptoRow, standIns := [], harness := (true, "b4c10f9097ac3a931a4bc5ffefbb0cf81e6cba891d5fe9f0342fb15b6b5a546b"), looks := true }, kinds := [], alts := [], laidByText := true, laidKinds := [.data, .data, .data], laidTests := true, laidLooks := .later }
def ReportSheetsUptoCardSaid : Prop := Claim7.holds Tryz.pinned (.plain (OpenSpec.upto reportSheetsSpec)) reportSheetsUptoCard

/-- THE SECOND FORM's CARD OF 'loftblocklaw54.ReportOnce'. -/
def reportOnceUptoCard : Claim7 := { stood := { row := reportOnceUptoRow, standIns := [], harness := (true, "b4c10f9097ac3a931a4bc5ffefbb0cf81e6cba891d5fe9f0342fb15b6b5a546b"), looks := true }, kinds := [], alts := [], laidByText := true, laidKinds := [.data, .data, .data, .data, .pinned], laidTests := true, laidLooks := .later }
def ReportOnceUptoCardSaid : Prop := Claim7.holds Tryz.pinned (.plain (OpenSpec.upto reportOnceSpec)) reportOnceUptoCard
end Rows
end Go.Proofs.YtlmppfffalaphaaGreatDoor
