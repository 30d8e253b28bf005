/- Contracts: the law's of, example, long, awake. No conditions but those of each statement. | Plain facts: curves that are valid over fractions;the piece at a time;values of the program and of the reference. No conditions but those of each statement. | Contracts: the walk of the law on values. No conditions but those of each statement. -/
import Derived.Test.YtlncmkafjjomgaaGreatNk
import Derived.Test.YtlncmkafjjomgaaGreatNl
set_option linter.unusedSimpArgs false
namespace Go.Proofs.YtlncmkafjjomgaaGreat
set_option linter.unusedVariables false
open Go.RowKit
end Go.Proofs.YtlncmkafjjomgaaGreat
set_option linter.unusedSimpArgs false
namespace Go.Proofs.YtlncmkafjjomgaaGreat
set_option linter.unusedVariables false
open Go.RowKit
def sortC (l : List PcQ) : Prop := ∀ i, i + 1 < l.length → (pcAt l i).f < (pcAt l (i + 1)).f
end Go.Proofs.YtlncmkafjjomgaaGreat
set_option linter.unusedSimpArgs false
namespace Go.Proofs.YtlncmkafjjomgaaGreat
set_option linter.unusedVariables false
open Go.RowKit
end Go.Proofs.YtlncmkafjjomgaaGreat
