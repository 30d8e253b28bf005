/- Steps in the calculus over abstract states: within a region an own slice becomes pure data, a block is set apart. No dump. No conditions but those of each statement. -/
import Derived.Test.YtlmppfffalaphaaGreatDoorNe
set_option linter.unusedSimpArgs false
set_option linter.unusedVariables false
namespace Go.Proofs.YtlmppfffalaphaaGreatDoor
open Go Go.RowKit
section
variable {P : Program} {N : Nat} {ops : Array Oper} {K : Tm -> AH -> Prop} {tm : Tm} {H : AH} {rest : List Oper}
theorem Reg.freeze (q : Nat) {b off len n : Nat} {cells : List AV} {rows : List (List Lf)} (ht : tm.get q = some (.own b off len n)) (hb : H.at b = .live cells) (hr : OwnRows cells off len n rows) (h : Reg none P N ops rest ((q, .sl rows) :: tm) (H.put b .dead) K) : Reg none P N ops rest tm H K :=
 ⟨fun E a w ρ hE hR => h.out E a w _ hE (hR.freeze ht hb hr)⟩
end
end Go.Proofs.YtlmppfffalaphaaGreatDoor
