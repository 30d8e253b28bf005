/- Contacts as rows of cells. -/
import Derived.Test.YtlmppfffalaphaaGreatDoorMi
import Derived.Test.YtlmppfffalaphaaGreatDoorMc
import Derived.Test.YtlmppfffalaphaaGreatDoorNn
import Derived.Test.YtlmppfffalaphaaGreatDoorOl
set_option linter.unusedSimpArgs false
set_option linter.unusedVariables false
namespace Go.Proofs.YtlmppfffalaphaaGreatDoor
open Go Go.RowKit
section
variable {N : Nat} {ops : Array Oper} {m : Option Nat} {K : Tm -> AH -> Prop} {tm : Tm} {H : AH} {rest : List Oper} {ty : TypeId} {pos : String} {af : Array Edge} {d : Nat} {x y : Operand}
end
end Go.Proofs.YtlmppfffalaphaaGreatDoor
