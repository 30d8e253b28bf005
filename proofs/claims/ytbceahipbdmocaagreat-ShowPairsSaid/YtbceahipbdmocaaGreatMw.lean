/- Steps in the calculus over abstract states: conversions of integers;a call that takes one element out of a slice of the caller's own. No dump. No conditions but those of each statement. -/
import Derived.Test.YtbceahipbdmocaaGreatMc
import Derived.ArgAppend
set_option linter.unusedSimpArgs false
set_option linter.unusedVariables false
namespace Go.Proofs.YtbceahipbdmocaaGreat
open Go Go.RowKit
section
variable {P : Program} {N : Nat} {ops : Array Oper} {m : Option Nat} {K : Tm -> AH -> Prop} {tm tm' : Tm} {H : AH} {rest : List Oper} {ty : TypeId} {pos : String} {af : Array Edge} {d : Nat} {t u e : TypeId} {x y z : Operand}
end
end Go.Proofs.YtbceahipbdmocaaGreat
