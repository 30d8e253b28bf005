/-
  DERIVED. GIVEN WITH THE SEED: THE CARDS: each row of YtkboebgkcjcpfaaGreatDoorRows.lean that lists a variable, with what it lists TIED to the program's text (the seventh form; the later family's looks); each row that meets fmt, with fmt's text TOLD by the authors' own Lean function (tested against real Go, not proved from fmt's source: count such statements apart). THE CARD IS WHAT COUNTS. Prove the row's statement (the work); the ties are given (YtkboebgkcjcpfaaGreatDoorTie.lean); close each card by the builder's one call (the guide's Derived/Test/ToyasCard.lean, 'card_holds'). Laid BY PROGRAM, IN A SANDBOX (cutbox-door.mjs). By AI agents, Wed Nov 11 2026. No macro, syntax, notation, axiom, sorry.
-/
import Derived.Test.YtkboebgkcjcpfaaGreatDoorRows
import GoSem.ClaimSeven
namespace Go.Proofs.YtkboebgkcjcpfaaGreatDoor
namespace Rows

/-- THE TIED CARD OF 'loftblocklaw54.ReportSheets'. -/
def reportSheetsCard : Claim7 := { stood := { row := reportSheetsRow, standIns := [], harness := (true, "201ed9bca7736a4d5aac2215fc4ce1a1910a68a3c49a5d99d217d12a39a50f52"), looks := true }, kinds := [], alts := [], laidByText := true, laidKinds := [.data, .data, .data], laidTests := true, laidLooks := .later }
def ReportSheetsCardSaid : Prop := Claim7.holds Tryz.pinned (.plain (OpenSpec.ofChange reportSheetsSpec)) reportSheetsCard

/-- THE TIED CARD OF 'loftblocklaw54.ReportOnce'. -/
def reportOnceCard : Claim7 := { stood := { row := reportOnceRow, standIns := [], harness := (true, "201ed9bca7736a4d5aac2215fc4ce1a1910a68a3c49a5d99d217d12a39a50f52"), looks := true }, kinds := [], alts := [], laidByText := true, laidKinds := [.data, .data, .data, .data, .pinned], laidTests := true, laidLooks := .later }
def ReportOnceCardSaid : Prop := Claim7.holds Tryz.pinned (.plain (OpenSpec.ofChange reportOnceSpec)) reportOnceCard

/-- THE SECOND FORM's CARD OF 'loftblocklaw54.ReportSheets'. -/
def reportSheetsUptoCard : Claim7 := { stood := { row := reportSheetsUptoRow, standIns := [], harness := (true, "201ed9bca7736a4d5aac2215fc4ce1a1910a68a3c49a5d99d217d12a39a50f52"), looks := true }, kinds := [], alts := [], laidByText := true, laidKinds := [.data, .data, .data], laidTests := true, laidLooks := .later }
def ReportSheetsUptoCardSaid : Prop := Claim7.holds Tryz.pinned (.plain (OpenSpec.upto reportSheetsSpec)) reportSheetsUptoCard

/-- THE SECOND FORM's CARD OF 'loftblocklaw54.ReportOnce'. -/
def reportOnceUptoCard : Claim7 := { stood := { row := reportOnceUptoRow, standIns := [], harness := (true, "201ed9bca7736a4d5aac2215fc4ce1a1910a68a3c49a5d99d217d12a39a50f52"), looks := true }, kinds := [], alts := [], laidByText := true, laidKinds := [.data, .data, .data, .data, .pinned], laidTests := true, laidLooks := .later }
def ReportOnceUptoCardSaid : Prop := Claim7.holds Tryz.pinned (.plain (OpenSpec.upto reportOnceSpec)) reportOnceUptoCard
end Rows
end Go.Proofs.YtkboebgkcjcpfaaGreatDoor
