/- Contracts: the reference's First. No conditions but those of each statement. | Contract: the reference's First, the search. No conditions but those of each statement. -/
import Derived.Test.YtlncmkafjjomgaaGreatNr
import Derived.Test.YtlncmkafjjomgaaGreatNe
import Derived.Test.YtlncmkafjjomgaaGreatNj
set_option linter.unusedSimpArgs false
namespace Go.Proofs.YtlncmkafjjomgaaGreat
set_option linter.unusedVariables false
open Go.RowKit
end Go.Proofs.YtlncmkafjjomgaaGreat
set_option linter.unusedSimpArgs false
namespace Go.Proofs.YtlncmkafjjomgaaGreat
set_option linter.unusedVariables false
open Go.RowKit
end Go.Proofs.YtlncmkafjjomgaaGreat
