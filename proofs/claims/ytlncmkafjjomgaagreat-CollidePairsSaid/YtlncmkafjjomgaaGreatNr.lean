/- Contracts: the reference's integers: Neg, Sum, Int, Product. No conditions but those of each statement. | Contracts: the reference's integers: Product;its exact fractions. No conditions but those of each statement. | Contracts: the reference's exact, fall, enclosed. No conditions but those of each statement. -/
import Derived.Test.YtlncmkafjjomgaaGreatNq
import Derived.Test.YtlncmkafjjomgaaGreatMf
import Derived.Test.YtlncmkafjjomgaaGreatNl
import Derived.Test.YtlncmkafjjomgaaGreatNi
set_option linter.unusedSimpArgs false
namespace Go.Proofs.YtlncmkafjjomgaaGreat
set_option linter.unusedVariables false
open Go.RowKit
/-! ### Int -/
end Go.Proofs.YtlncmkafjjomgaaGreat
set_option linter.unusedSimpArgs false
namespace Go.Proofs.YtlncmkafjjomgaaGreat
set_option linter.unusedVariables false
open Go.RowKit
/-! ### Exact fractions -/
end Go.Proofs.YtlncmkafjjomgaaGreat
set_option linter.unusedSimpArgs false
namespace Go.Proofs.YtlncmkafjjomgaaGreat
set_option linter.unusedVariables false
open Go.RowKit
/-! ### enclosed -/
end Go.Proofs.YtlncmkafjjomgaaGreat
