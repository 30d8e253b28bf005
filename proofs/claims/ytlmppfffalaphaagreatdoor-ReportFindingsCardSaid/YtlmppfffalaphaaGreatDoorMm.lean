/- Contracts: what is small;cues that are found. No conditions but those of each statement. -/
import Derived.Test.YtlmppfffalaphaaGreatDoorMk
import Derived.Test.YtlmppfffalaphaaGreatDoorMb
set_option linter.unusedSimpArgs false
set_option linter.unusedVariables false
namespace Go.Proofs.YtlmppfffalaphaaGreatDoor
open Go.RowKit
/-! ### What is small -/
/-! ### Cues that are found -/
/-! ### Pairs of cues -/
end Go.Proofs.YtlmppfffalaphaaGreatDoor
