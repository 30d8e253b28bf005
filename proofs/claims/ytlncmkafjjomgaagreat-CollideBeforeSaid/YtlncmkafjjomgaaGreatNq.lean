/- Plain facts on numbers by their digits to the base 2^24, the least one first, as the reference reckons with them: no program. | Contracts: the reference's integers: digit, trim, larger, plus, minus. No conditions but those of each statement. | Contracts: the reference's integers: plus, minus. No conditions but those of each statement. -/
import Derived.Test.YtlncmkafjjomgaaGreatNf
import Derived.Test.YtlncmkafjjomgaaGreatNe
import Derived.Test.YtlncmkafjjomgaaGreatMp
set_option linter.unusedSimpArgs false
set_option linter.unusedVariables false
namespace Go.Proofs.YtlncmkafjjomgaaGreat.R24

/-! ### Sums -/
/-! ### Differences -/
/-! ### Products -/
/-! ### Lists that grow -/
/-! ### The reference's product -/
/-! ### Comparison -/
end Go.Proofs.YtlncmkafjjomgaaGreat.R24
set_option linter.unusedSimpArgs false
namespace Go.Proofs.YtlncmkafjjomgaaGreat
set_option linter.unusedVariables false
open Go.RowKit
end Go.Proofs.YtlncmkafjjomgaaGreat
set_option linter.unusedSimpArgs false
namespace Go.Proofs.YtlncmkafjjomgaaGreat
set_option linter.unusedVariables false
open Go.RowKit
end Go.Proofs.YtlncmkafjjomgaaGreat
