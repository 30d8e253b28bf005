/- Plain facts: the least value by the program is the least value by the reference. No program. No conditions but those of each statement. | Plain facts: the least value by the program is the least value by the reference, the second half. No program. No conditions but those of each statement. -/
import Derived.Test.YtlncmkafjjomgaaGreatNt
import Derived.Test.YtlncmkafjjomgaaGreatNm
set_option linter.unusedSimpArgs false
namespace Go.Proofs.YtlncmkafjjomgaaGreat
set_option linter.unusedVariables false
/-! ### The least of a list, none if there is a none -/
/-! ### What both reckon -/
/-! ### The program's loop -/
end Go.Proofs.YtlncmkafjjomgaaGreat
set_option linter.unusedSimpArgs false
namespace Go.Proofs.YtlncmkafjjomgaaGreat
set_option linter.unusedVariables false
/-! ### Where the times lie -/
section
variable {l : List PcQ} {fr te : Rat} (hs : sortC l) (hle : fr ≤ te)
include hs
end
end Go.Proofs.YtlncmkafjjomgaaGreat
