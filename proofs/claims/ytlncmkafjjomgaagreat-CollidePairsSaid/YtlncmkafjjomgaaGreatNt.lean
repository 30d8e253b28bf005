/- Contract: the reference's Least. No conditions but those of each statement. -/
import Derived.Test.YtlncmkafjjomgaaGreatNs
import Derived.Test.YtlncmkafjjomgaaGreatNl
import Derived.Test.YtlncmkafjjomgaaGreatNk
set_option linter.unusedSimpArgs false
namespace Go.Proofs.YtlncmkafjjomgaaGreat
set_option linter.unusedVariables false
open Go.RowKit
end Go.Proofs.YtlncmkafjjomgaaGreat
