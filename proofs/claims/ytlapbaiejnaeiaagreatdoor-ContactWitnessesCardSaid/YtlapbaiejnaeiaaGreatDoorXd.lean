/- Lemmas of the proof. -/
import Derived.Test.YtlapbaiejnaeiaaGreatDoorPh
import Derived.Test.YtlapbaiejnaeiaaGreatDoorPd
set_option linter.all false
namespace Go.Proofs.YtlapbaiejnaeiaaGreatDoor
open Go Go.RowKit
section
variable {P : Program} {N : Nat} {ops : Array Oper} {m : Option Nat} {K : Tm -> AH -> Prop} {tm tm' : Tm} {H : AH} {rest : List Oper} {ty : TypeId} {pos : String} {af : Array Edge} {d : Nat} {t e u : TypeId} {x y z : Operand}
end
end Go.Proofs.YtlapbaiejnaeiaaGreatDoor
