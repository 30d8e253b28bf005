/- Steps in the calculus over abstract states: conversions of integers;a call that takes one element out of a slice of the caller's own. No dump. No conditions but those of each statement. -/
import Derived.Test.YtlncmkafjjomgaaGreatMc
import Derived.ArgAppend
set_option linter.unusedSimpArgs false
namespace Go.Proofs.YtlncmkafjjomgaaGreat
set_option linter.unusedVariables false
open Go Go.RowKit
section
variable {P : Program} {N : Nat} {ops : Array Oper} {m : Option Nat} {K : Tm → AH → Prop} {tm tm' : Tm} {H : AH} {rest : List Oper} {ty : TypeId} {pos : String} {af : Array Edge} {d : Nat} {t u e : TypeId} {x y z : Operand}
theorem S.conv {k k' : IntKind} {n : Int} {ds : TypeDesc} [hu : HasU P t ds] [hv : HasU P u (.int k')] (hx : evT tm x = some (.val (.int k n))) (hw : k'.wrap n = n) (hN : Nat.ble (d + 1) N = true) (h : Reg m P N ops rest ((d, .val (.int k' n)) :: tm) H K) : Reg m P N ops (⟨some d, .convert t u x, ty, pos, af, none⟩ :: rest) tm H K := by
 refine S.val (OpV.mk fun L w ρ η hη hH => ?_) hN h
 have h1 := (hη x (by simp [Op.operands]) _ hx).val_eq
 refine ⟨_, ?_, relV_val _⟩
 simp [execOp, h1, convert, run_underlying hu.out, run_underlying hv.out, Conv.intToInt, hw]
end
end Go.Proofs.YtlncmkafjjomgaaGreat
