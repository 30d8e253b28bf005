/- Steps in the calculus over abstract states: conversions of integers;a call that takes one element out of a slice of the caller's own. No dump. No conditions but those of each statement. -/
import Derived.Test.YtocoehahhohpgaaGreatMc
import Derived.ArgAppend
set_option linter.unusedSimpArgs false
set_option linter.unusedVariables false
namespace Go.Proofs.YtocoehahhohpgaaGreat
open Go Go.RowKit
section
variable {P : Program} {N : Nat} {ops : Array Oper} {m : Option Nat} {K : Tm -> AH -> Prop} {tm tm' : Tm} {H : AH} {rest : List Oper} {ty : TypeId} {pos : String} {af : Array Edge} {d : Nat} {t u e : TypeId} {x y z : Operand}
theorem S.conv {k k' : IntKind} {n : Int} {ds : TypeDesc} [hu : HasU P t ds] [hv : HasU P u (.int k')] (hx : evT tm x = some (.val (.int k n))) (hw : k'.wrap n = n) (hN : Nat.ble (d + 1) N = true) (h : Reg m P N ops rest ((d, .val (.int k' n)) :: tm) H K) : Reg m P N ops (⟨some d, .convert t u x, ty, pos, af, none⟩ :: rest) tm H K := by
 refine S.val (OpV.mk fun L w ρ η hη hH => ?_) hN h
 have h1 := (hη x (by simp [Op.operands]) _ hx).val_eq
 refine ⟨_, ?_, Ac _⟩
 simp [execOp, h1, convert, run_underlying hu.out, run_underlying hv.out, Conv.intToInt, hw]
end
section
variable {P : Program} {N : Nat} {ops : Array Oper} {m : Option Nat} {K : Tm -> AH -> Prop} {tm tm' : Tm} {H : AH} {rest : List Oper} {ty : TypeId} {pos : String} {af : Array Edge} {d : Nat} {t e : TypeId} {x y z : Operand}
end
section
variable {P : Program} {N : Nat} {ops : Array Oper} {K : Tm -> AH -> Prop} {tm : Tm} {H : AH} {rest : List Oper} {ty : TypeId} {pos : String} {af : Array Edge} {d : Nat} {x : Operand}
end
section
variable {P : Program} {N : Nat} {ops : Array Oper} {m : Option Nat} {K : Tm -> AH -> Prop} {tm : Tm} {H : AH} {rest : List Oper} {ty : TypeId} {pos : String} {af : Array Edge} {d : Nat} {t u : TypeId} {x y : Operand}
theorem S.remT {a b : Int} (hx : evT tm x = some (.val (.int .i64 a))) (hy : evT tm y = some (.val (.int .i64 b))) (hN : Nat.ble (d + 1) N = true) (h0 : 0 < b) (h : Reg m P N ops rest ((d, .val (.int .i64 (a.tmod b))) :: tm) H K) : Reg m P N ops (⟨some d, .binOp .rem t x y u, ty, pos, af, none⟩ :: rest) tm H K :=
 S.val (OpV.mk fun L w ρ η hη _ => by
  have h1 := (hη x (by simp [Op.operands]) _ hx).val_eq
  have h2 := (hη y (by simp [Op.operands]) _ hy).val_eq
  have hb : b ≠ 0 := by omega
  exact ⟨_, by simp [execOp, h1, h2, eqGuard, binOp, Op.intDiv, hb], Ac _⟩) hN h
theorem S.quoT {a b : Int} (hx : evT tm x = some (.val (.int .i64 a))) (hy : evT tm y = some (.val (.int .i64 b))) (hN : Nat.ble (d + 1) N = true) (h0 : 0 < b) (hw : IntKind.i64.wrap (a.tdiv b) = a.tdiv b) (h : Reg m P N ops rest ((d, .val (.int .i64 (a.tdiv b))) :: tm) H K) : Reg m P N ops (⟨some d, .binOp .quo t x y u, ty, pos, af, none⟩ :: rest) tm H K :=
 S.val (OpV.mk fun L w ρ η hη _ => by
  have h1 := (hη x (by simp [Op.operands]) _ hx).val_eq
  have h2 := (hη y (by simp [Op.operands]) _ hy).val_eq
  have hb : b ≠ 0 := by omega
  exact ⟨_, by simp [execOp, h1, h2, eqGuard, binOp, Op.intDiv, hb, hw], Ac _⟩) hN h
end
end Go.Proofs.YtocoehahhohpgaaGreat
