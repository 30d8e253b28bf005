/-
  DERIVED. GIVEN WITH THE SEED: THE CARDS: each row of YtlapbaiejnaeiaaGreatDoorRows.lean that lists a variable, with what it lists TIED to the program's text (the seventh form; the later family's looks); each row that meets fmt, with fmt's text TOLD by the authors' own Lean function (tested against real Go, not proved from fmt's source: count such statements apart). THE CARD IS WHAT COUNTS. Prove the row's statement (the work); the ties are given (YtlapbaiejnaeiaaGreatDoorTie.lean); close each card by the builder's one call (the guide's Derived/Test/ToyasCard.lean, 'card_holds'). Laid BY PROGRAM, IN A SANDBOX (cutbox-door.mjs). By AI agents, Wed Nov 11 2026. No macro, syntax, notation, axiom, sorry.
-/
import Derived.Test.YtlapbaiejnaeiaaGreatDoorRows
import GoSem.ClaimSeven
namespace Go.Proofs.YtlapbaiejnaeiaaGreatDoor
namespace Rows

/-- THE TIED CARD OF 'loftblocklaw52.ContactTexts'. -/
def contactTextsCard : Claim7 := { stood := { row := contactTextsRow, standIns := [], harness := (true, "8f3bf0d60e9b45f2627b8dc1cf2638ae19b28929aaa55c32de26920827b88087"), looks := true }, kinds := [], alts := [], laidByText := true, laidKinds := [.data, .data, .data, .data, .sentinel, .sentinel, .pinned], laidTests := true, laidLooks := .later }
def ContactTextsCardSaid : Prop := Claim7.holds Tryz.pinned (.plain (OpenSpec.ofChange contactTextsSpec)) contactTextsCard

/-- THE TIED CARD OF 'loftblocklaw52.ContactRead'. -/
def contactReadCard : Claim7 := { stood := { row := contactReadRow, standIns := [], harness := (true, "8f3bf0d60e9b45f2627b8dc1cf2638ae19b28929aaa55c32de26920827b88087"), looks := true }, kinds := [], alts := [], laidByText := true, laidKinds := [.data, .data, .data, .data, .sentinel, .sentinel, .pinned], laidTests := true, laidLooks := .later }
def ContactReadCardSaid : Prop := Claim7.holds Tryz.pinned (.plain (OpenSpec.ofChange contactReadSpec)) contactReadCard

/-- THE TIED CARD OF 'loftblocklaw52.ContactSampled'. -/
def contactSampledCard : Claim7 := { stood := { row := contactSampledRow, standIns := [], harness := (true, "8f3bf0d60e9b45f2627b8dc1cf2638ae19b28929aaa55c32de26920827b88087"), looks := true }, kinds := [], alts := [], laidByText := true, laidKinds := [.data, .data, .data, .data, .sentinel, .sentinel, .pinned], laidTests := true, laidLooks := .later }
def ContactSampledCardSaid : Prop := Claim7.holds Tryz.pinned (.plain (OpenSpec.ofChange contactSampledSpec)) contactSampledCard

/-- THE TIED CARD OF 'loftblocklaw52.ContactWitnesses'. -/
def contactWitnessesCard : Claim7 := { stood := { row := contactWitnessesRow, standIns := [], harness := (true, "8f3bf0d60e9b45f2627b8dc1cf2638ae19b28929aaa55c32de26920827b88087"), looks := true }, kinds := [], alts := [], laidByText := true, laidKinds := [.data, .data, .data, .data, .sentinel, .sentinel, .pinned], laidTests := true, laidLooks := .later }
def ContactWitnessesCardSaid : Prop := Claim7.holds Tryz.pinned (.plain (OpenSpec.ofChange contactWitnessesSpec)) contactWitnessesCard

/-- THE SECOND FORM's CARD OF 'loftblocklaw52.ContactTexts'. -/
def contactTextsUptoCard : Claim7 := { stood := { row := contactTextsUptoRow, standIns := [], harness := (true, "8f3bf0d60e9b45f2627b8dc1cf2638ae19b28929aaa55c32de26920827b88087"), looks := true }, kinds := [], alts := [], laidByText := true, laidKinds := [.data, .data, .data, .data, .sentinel, .sentinel, .pinned], laidTests := true, laidLooks := .later }
def ContactTextsUptoCardSaid : Prop := Claim7.holds Tryz.pinned (.plain (OpenSpec.upto contactTextsSpec)) contactTextsUptoCard

/-- THE SECOND FORM's CARD OF 'loftblocklaw52.ContactRead'. -/
def contactReadUptoCard : Claim7 := { stood := { row := contactReadUptoRow, standIns := [], harness := (true, "8f3bf0d60e9b45f2627b8dc1cf2638ae19b28929aaa55c32de26920827b88087"), looks := true }, kinds := [], alts := [], laidByText := true, laidKinds := [.data, .data, .data, .data, .sentinel, .sentinel, .pinned], laidTests := true, laidLooks := .later }
def ContactReadUptoCardSaid : Prop := Claim7.holds Tryz.pinned (.plain (OpenSpec.upto contactReadSpec)) contactReadUptoCard

/-- THE SECOND FORM's CARD OF 'loftblocklaw52.ContactSampled'. -/
def contactSampledUptoCard : Claim7 := { stood := { row := contactSampledUptoRow, standIns := [], harness := (true, "8f3bf0d60e9b45f2627b8dc1cf2638ae19b28929aaa55c32de26920827b88087"), looks := true }, kinds := [], alts := [], laidByText := true, laidKinds := [.data, .data, .data, .data, .sentinel, .sentinel, .pinned], laidTests := true, laidLooks := .later }
def ContactSampledUptoCardSaid : Prop := Claim7.holds Tryz.pinned (.plain (OpenSpec.upto contactSampledSpec)) contactSampledUptoCard

/-- THE SECOND FORM's CARD OF 'loftblocklaw52.ContactWitnesses'. -/
def contactWitnessesUptoCard : Claim7 := { stood := { row := contactWitnessesUptoRow, standIns := [], harness := (true, "8f3bf0d60e9b45f2627b8dc1cf2638ae19b28929aaa55c32de26920827b88087"), looks := true }, kinds := [], alts := [], laidByText := true, laidKinds := [.data, .data, .data, .data, .sentinel, .sentinel, .pinned], laidTests := true, laidLooks := .later }
def ContactWitnessesUptoCardSaid : Prop := Claim7.holds Tryz.pinned (.plain (OpenSpec.upto contactWitnessesSpec)) contactWitnessesUptoCard
end Rows
end Go.Proofs.YtlapbaiejnaeiaaGreatDoor
