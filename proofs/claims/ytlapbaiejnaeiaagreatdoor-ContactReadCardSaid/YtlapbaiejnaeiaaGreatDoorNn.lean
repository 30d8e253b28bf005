/- Two fractions, or two spans, are compared by their numbers. No conditions but those of each statement. -/
import Derived.Test.YtlapbaiejnaeiaaGreatDoorMt
import Derived.Test.YtlapbaiejnaeiaaGreatDoorMc
import Derived.Laws.StructEq
set_option linter.unusedSimpArgs false
set_option linter.unusedVariables false
namespace Go.Proofs.YtlapbaiejnaeiaaGreatDoor
open Go Go.RowKit
set_option maxRecDepth 100000 in
theorem Lg : Tryz.prog.fieldsOf 34 = #[⟨"Lo", 3, 0, false, "", "", 0⟩, ⟨"Hi", 3, 1, false, "", "", 8⟩] := by
 unfold Program.fieldsOf
 rw [Tryz.underlying34]
theorem V3 : Tryz.prog.stoodInHeld 34 = false := by kernel_rfl
theorem V2 : Tryz.prog.underlying 34 = some (.struct (Tryz.prog.fieldsOf 34)) := by
 rw [Lg];exact Tryz.underlying34
section
variable {P : Program} {N : Nat} {ops : Array Oper} {m : Option Nat} {K : Tm -> AH -> Prop} {tm : Tm} {H : AH} {rest : List Oper} {ty : TypeId} {pos : String} {af : Array Edge} {d : Nat} {t : TypeId} {x y : Operand}
end
end Go.Proofs.YtlapbaiejnaeiaaGreatDoor
