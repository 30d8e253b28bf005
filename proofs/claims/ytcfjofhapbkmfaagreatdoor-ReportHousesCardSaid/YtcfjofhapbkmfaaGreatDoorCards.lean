/-
  DERIVED. GIVEN WITH THE SEED: THE CARDS: each row of YtcfjofhapbkmfaaGreatDoorRows.lean that lists a variable, with what it lists TIED to the program's text (the seventh form; the later family's looks); each row that meets fmt, with fmt's text TOLD by the authors' own Lean function (tested against real Go, not proved from fmt's source: count such statements apart). THE CARD IS WHAT COUNTS. Prove the row's statement (the work); the ties are given (YtcfjofhapbkmfaaGreatDoorTie.lean); close each card by the builder's one call (the guide's Derived/Test/ToyasCard.lean, 'card_holds'). Laid BY PROGRAM, IN A SANDBOX (cutbox-door.mjs). By AI agents, Wed Nov 11 2026. No macro, syntax, notation, axiom, sorry.
-/
import Derived.Test.YtcfjofhapbkmfaaGreatDoorRows
import GoSem.ClaimSeven
namespace Go.Proofs.YtcfjofhapbkmfaaGreatDoor
namespace Rows

/-- THE TIED CARD OF 'loftblocklaw54.ReportSystems'. -/
def reportSystemsCard : Claim7 := { stood := { row := reportSystemsRow, standIns := [], harness := (true, "bf397df4691163a6ac6b74df8fdb46493b00c4e42bf63b1ccf020fc7ee597342"), looks := true }, kinds := [], alts := [], laidByText := true, laidKinds := [.data, .data, .data], laidTests := true, laidLooks := .later }
def ReportSystemsCardSaid : Prop := Claim7.holds Tryz.pinned (.plain (OpenSpec.ofChange reportSystemsSpec)) reportSystemsCard

/-- THE TIED CARD OF 'loftblocklaw54.ReportSame'. -/
def reportSameCard : Claim7 := { stood := { row := reportSameRow, standIns := [], harness := (true, "bf397df4691163a6ac6b74df8fdb46493b00c4e42bf63b1ccf020fc7ee597342"), looks := true }, kinds := [], alts := [], laidByText := true, laidKinds := [.data, .data, .data, .data, .pinned], laidTests := true, laidLooks := .later }
def ReportSameCardSaid : Prop := Claim7.holds Tryz.pinned (.plain (OpenSpec.ofChange reportSameSpec)) reportSameCard

/-- THE TIED CARD OF 'loftblocklaw54.ReportHouses'. -/
def reportHousesCard : Claim7 := { stood := { row := reportHousesRow, standIns := [], harness := (true, "bf397df4691163a6ac6b74df8fdb46493b00c4e42bf63b1ccf020fc7ee597342"), looks := true }, kinds := [], alts := [], laidByText := true, laidKinds := [.data, .data, .data], laidTests := true, laidLooks := .later }
def ReportHousesCardSaid : Prop := Claim7.holds Tryz.pinned (.plain (OpenSpec.ofChange reportHousesSpec)) reportHousesCard

/-- THE TIED CARD OF 'loftblocklaw54.ReportOrder'. -/
def reportOrderCard : Claim7 := { stood := { row := reportOrderRow, standIns := [], harness := (true, "bf397df4691163a6ac6b74df8fdb46493b00c4e42bf63b1ccf020fc7ee597342"), looks := true }, kinds := [], alts := [], laidByText := true, laidKinds := [.data, .data, .data, .data, .pinned], laidTests := true, laidLooks := .later }
def ReportOrderCardSaid : Prop := Claim7.holds Tryz.pinned (.plain (OpenSpec.ofChange reportOrderSpec)) reportOrderCard

/-- THE SECOND FORM's CARD OF 'loftblocklaw54.ReportSystems'. -/
def reportSystemsUptoCard : Claim7 := { stood := { row := reportSystemsUptoRow, standIns := [], harness := (true, "bf397df4691163a6ac6b74df8fdb46493b00c4e42bf63b1ccf020fc7ee597342"), looks := true }, kinds := [], alts := [], laidByText := true, laidKinds := [.data, .data, .data], laidTests := true, laidLooks := .later }
def ReportSystemsUptoCardSaid : Prop := Claim7.holds Tryz.pinned (.plain (OpenSpec.upto reportSystemsSpec)) reportSystemsUptoCard

/-- THE SECOND FORM's CARD OF 'loftblocklaw54.ReportSame'. -/
def reportSameUptoCard : Claim7 := { stood := { row := reportSameUptoRow, standIns := [], harness := (true, "bf397df4691163a6ac6b74df8fdb46493b00c4e42bf63b1ccf020fc7ee597342"), looks := true }, kinds := [], alts := [], laidByText := true, laidKinds := [.data, .data, .data, .data, .pinned], laidTests := true, laidLooks := .later }
def ReportSameUptoCardSaid : Prop := Claim7.holds Tryz.pinned (.plain (OpenSpec.upto reportSameSpec)) reportSameUptoCard

/-- THE SECOND FORM's CARD OF 'loftblocklaw54.ReportHouses'. -/
def reportHousesUptoCard : Claim7 := { stood := { row := reportHousesUptoRow, standIns := [], harness := (true, "bf397df4691163a6ac6b74df8fdb46493b00c4e42bf63b1ccf020fc7ee597342"), looks := true }, kinds := [], alts := [], laidByText := true, laidKinds := [.data, .data, .data], laidTests := true, laidLooks := .later }
def ReportHousesUptoCardSaid : Prop := Claim7.holds Tryz.pinned (.plain (OpenSpec.upto reportHousesSpec)) reportHousesUptoCard

/-- THE SECOND FORM's CARD OF 'loftblocklaw54.ReportOrder'. -/
def reportOrderUptoCard : Claim7 := { stood := { row := reportOrderUptoRow, standIns := [], harness := (true, "bf397df4691163a6ac6b74df8fdb46493b00c4e42bf63b1ccf020fc7ee597342"), looks := true }, kinds := [], alts := [], laidByText := true, laidKinds := [.data, .data, .data, .data, .pinned], laidTests := true, laidLooks := .later }
def ReportOrderUptoCardSaid : Prop := Claim7.holds Tryz.pinned (.plain (OpenSpec.upto reportOrderSpec)) reportOrderUptoCard
end Rows
end Go.Proofs.YtcfjofhapbkmfaaGreatDoor
