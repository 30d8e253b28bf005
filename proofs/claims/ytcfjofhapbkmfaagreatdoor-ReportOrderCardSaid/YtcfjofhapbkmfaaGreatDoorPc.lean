/- Plain: the order and the starts of the cues of a valid sheet. No conditions but those of each statement. -/
import Derived.Test.YtcfjofhapbkmfaaGreatDoorPa
import Derived.Test.YtcfjofhapbkmfaaGreatDoorMn
import Derived.Test.YtcfjofhapbkmfaaGreatDoorMr
set_option linter.unusedSimpArgs false
set_option linter.unusedVariables false
namespace Go.Proofs.YtcfjofhapbkmfaaGreatDoor
open Go Go.RowKit
/-! ### Lengths, starts, ends -/
end Go.Proofs.YtcfjofhapbkmfaaGreatDoor
