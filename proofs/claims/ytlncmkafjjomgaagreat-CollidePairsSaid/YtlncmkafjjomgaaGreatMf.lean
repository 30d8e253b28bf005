/- Contracts of the leaf functions of the reference of chapter 2. | Contract of the reference's Mul. | Contract of the reference's Div. | Contract of the reference's Div: the loop. | Contracts of the reference's Div, joined, and plain facts for its Gcd. | Contract of the reference's Gcd. -/
import Derived.Test.YtlncmkafjjomgaaGreatMd
import Derived.Deep.RegionWith
import Derived.IntWalk
namespace Go.Proofs.YtlncmkafjjomgaaGreat
set_option linter.unusedVariables false
open Go.RowKit Go.Sort

end Go.Proofs.YtlncmkafjjomgaaGreat
namespace Go.Proofs.YtlncmkafjjomgaaGreat
set_option linter.unusedVariables false
open Go.RowKit Go.Sort

end Go.Proofs.YtlncmkafjjomgaaGreat
namespace Go.Proofs.YtlncmkafjjomgaaGreat
set_option linter.unusedVariables false
open Go.RowKit Go.Sort

end Go.Proofs.YtlncmkafjjomgaaGreat
namespace Go.Proofs.YtlncmkafjjomgaaGreat
set_option linter.unusedVariables false
open Go.RowKit Go.Sort

end Go.Proofs.YtlncmkafjjomgaaGreat
namespace Go.Proofs.YtlncmkafjjomgaaGreat
set_option linter.unusedVariables false
open Go.RowKit Go.Sort

end Go.Proofs.YtlncmkafjjomgaaGreat
namespace Go.Proofs.YtlncmkafjjomgaaGreat
set_option linter.unusedVariables false
open Go.RowKit Go.Sort

end Go.Proofs.YtlncmkafjjomgaaGreat
