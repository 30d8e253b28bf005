/- Contracts: the error of a distance and a move. No conditions but those of each statement. | Contracts: the top speed of a move (the program's side). No conditions but those of each statement. | Contracts: the top speed of a move (the reference's side). No conditions but those of each statement. -/
import Derived.Test.YtlncmkafjjomgaaGreatMn
set_option linter.unusedSimpArgs false
namespace Go.Proofs.YtlncmkafjjomgaaGreat
set_option linter.unusedVariables false
open Go.RowKit
end Go.Proofs.YtlncmkafjjomgaaGreat
set_option linter.unusedSimpArgs false
namespace Go.Proofs.YtlncmkafjjomgaaGreat
set_option linter.unusedVariables false
open Go.RowKit
end Go.Proofs.YtlncmkafjjomgaaGreat
set_option linter.unusedSimpArgs false
namespace Go.Proofs.YtlncmkafjjomgaaGreat
set_option linter.unusedVariables false
open Go.RowKit
end Go.Proofs.YtlncmkafjjomgaaGreat
