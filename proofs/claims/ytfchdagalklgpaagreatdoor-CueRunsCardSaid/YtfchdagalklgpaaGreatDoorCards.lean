/-
  DERIVED. GIVEN WITH THE SEED: THE CARDS: each row of YtfchdagalklgpaaGreatDoorRows.lean that lists a variable, with what it lists TIED to the program's text (the seventh form; the later family's looks); each row that meets fmt, with fmt's text TOLD by the authors' own Lean function (tested against real Go, not proved from fmt's source: count such statements apart). THE CARD IS WHAT COUNTS. Prove the row's statement (the work); the ties are given (YtfchdagalklgpaaGreatDoorTie.lean); close each card by the builder's one call (the guide's Derived/Test/ToyasCard.lean, 'card_holds'). Laid BY PROGRAM, IN A SANDBOX (cutbox-door.mjs). By AI agents, Wed Nov 11 2026. No macro, syntax, notation, axiom, sorry.
-/
import Derived.Test.YtfchdagalklgpaaGreatDoorRows
import GoSem.ClaimSeven
namespace Go.Proofs.YtfchdagalklgpaaGreatDoor
namespace Rows

/-- THE TIED CARD OF 'loftblocklaw36.CueTrims'. -/
def cueTrimsCard : Claim7 := { stood := { row := cueTrimsRow, standIns := [], harness := (true, "8e07a3b0096c35d000743bbf87d0e6fd730988fa4f18f4977dc5d3e6c67656af"), looks := false }, kinds := [], alts := [], laidByText := true, laidKinds := [.data, .data, .data], laidTests := true, laidLooks := .later }
def CueTrimsCardSaid : Prop := Claim7.holds Tryz.pinned (.plain (OpenSpec.ofChange cueTrimsSpec)) cueTrimsCard

/-- THE TIED CARD OF 'loftblocklaw36.CueRuns'. -/
def cueRunsCard : Claim7 := { stood := { row := cueRunsRow, standIns := [], harness := (true, "8e07a3b0096c35d000743bbf87d0e6fd730988fa4f18f4977dc5d3e6c67656af"), looks := false }, kinds := [], alts := [], laidByText := true, laidKinds := [.data, .data, .data], laidTests := true, laidLooks := .later }
def CueRunsCardSaid : Prop := Claim7.holds Tryz.pinned (.plain (OpenSpec.ofChange cueRunsSpec)) cueRunsCard

/-- THE SECOND FORM's CARD OF 'loftblocklaw36.CueTrims'. -/
def cueTrimsUptoCard : Claim7 := { stood := { row := cueTrimsUptoRow, standIns := [], harness := (true, "8e07a3b0096c35d000743bbf87d0e6fd730988fa4f18f4977dc5d3e6c67656af"), looks := false }, kinds := [], alts := [], laidByText := true, laidKinds := [.data, .data, .data], laidTests := true, laidLooks := .later }
def CueTrimsUptoCardSaid : Prop := Claim7.holds Tryz.pinned (.plain (OpenSpec.upto cueTrimsSpec)) cueTrimsUptoCard

/-- THE SECOND FORM's CARD OF 'loftblocklaw36.CueRuns'. -/
def cueRunsUptoCard : Claim7 := { stood := { row := cueRunsUptoRow, standIns := [], harness := (true, "8e07a3b0096c35d000743bbf87d0e6fd730988fa4f18f4977dc5d3e6c67656af"), looks := false }, kinds := [], alts := [], laidByText := true, laidKinds := [.data, .data, .data], laidTests := true, laidLooks := .later }
def CueRunsUptoCardSaid : Prop := Claim7.holds Tryz.pinned (.plain (OpenSpec.upto cueRunsSpec)) cueRunsUptoCard
end Rows
end Go.Proofs.YtfchdagalklgpaaGreatDoor
