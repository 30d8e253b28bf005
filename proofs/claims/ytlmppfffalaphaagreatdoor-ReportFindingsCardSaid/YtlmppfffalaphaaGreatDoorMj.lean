/- Contracts of the functions that say whether a house is valid, continued: bricks, lift lines, line sets, beams, houses (the program's side). No conditions but those of each statement. -/
import Derived.Test.YtlmppfffalaphaaGreatDoorMi
set_option linter.unusedSimpArgs false
set_option linter.unusedVariables false
namespace Go.Proofs.YtlmppfffalaphaaGreatDoor
open Go.RowKit
/-! ### Bricks -/
/-! ### Lift lines -/
/-! ### Beams -/
/-! ### Houses -/
end Go.Proofs.YtlmppfffalaphaaGreatDoor
