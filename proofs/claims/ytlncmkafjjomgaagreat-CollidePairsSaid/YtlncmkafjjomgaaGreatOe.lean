/- Contract: loftblockref08's Add. No conditions but those of each statement. -/
import Derived.Test.YtlncmkafjjomgaaGreatOd
set_option linter.unusedSimpArgs false
namespace Go.Proofs.YtlncmkafjjomgaaGreat
set_option linter.unusedVariables false
open Go Go.RowKit
end Go.Proofs.YtlncmkafjjomgaaGreat
