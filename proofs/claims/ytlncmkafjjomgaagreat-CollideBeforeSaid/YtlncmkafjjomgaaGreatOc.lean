/- Contracts: loftblockref08's put, From, Same. No conditions but those of each statement. | Two equal pieces are not told apart;contract: loftblockref08's Same of equal curves. No conditions but those of each statement. -/
import Derived.Test.YtlncmkafjjomgaaGreatOb
import Derived.Test.YtlncmkafjjomgaaGreatNx
import Derived.Test.YtlncmkafjjomgaaGreatNr
import Derived.Test.YtlncmkafjjomgaaGreatNm
set_option linter.unusedSimpArgs false
namespace Go.Proofs.YtlncmkafjjomgaaGreat
set_option linter.unusedVariables false
open Go Go.RowKit
end Go.Proofs.YtlncmkafjjomgaaGreat
set_option linter.unusedSimpArgs false
namespace Go.Proofs.YtlncmkafjjomgaaGreat
set_option linter.unusedVariables false
open Go Go.RowKit
section
variable {P : Program} {N : Nat} {ops : Array Oper} {m : Option Nat} {K : Tm → AH → Prop} {tm : Tm} {H : AH} {rest : List Oper} {ty : TypeId} {pos : String} {af : Array Edge} {d : Nat} {t : TypeId} {x y : Operand}
end
end Go.Proofs.YtlncmkafjjomgaaGreat
