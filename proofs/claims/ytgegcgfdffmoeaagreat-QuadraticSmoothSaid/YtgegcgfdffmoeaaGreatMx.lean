/- Steps in the calculus over abstract states: strings.Builder: a builder of the call's own, the calls that write and read it. No dump. No conditions but those of each statement. | Steps in the calculus over abstract states: the last look at a builder: its bytes as a string. No dump. No conditions but those of each statement. -/
import Derived.Test.YtgegcgfdffmoeaaGreatMw
set_option linter.unusedSimpArgs false
namespace Go.Proofs.YtgegcgfdffmoeaaGreat
set_option linter.unusedVariables false
open Go Go.RowKit
def BAt (w : World) (T e : TypeId) (k : Nat) (p v : Value) (s : List Value) : Prop :=
  w.heap[k]? = some (.cells #[p, v] T (0, 0)) ∧ (p = .pointer none ∨ p = .pointer (some ⟨k, 0, none⟩)) ∧ w.ownsRowF 0 e 1 v s.length s ∧ v.ownBlock ≠ some k
structure FnBld (P : Program) (T e : TypeId) (f : FuncId) (zs : List AV) (s s' : List Value) (r : AV) : Prop where
  ent : Enters P f
  run : ∀ (L : Nat → Prop) (w : World) (k : Nat) (p v : Value) (vs : List Value), Glob w → (∀ j, L j → j < w.heap.size) → zs.length = vs.length → (∀ (i : Nat) (x : AV) (u : Value), zs[i]? = some x → vs[i]? = some u → RelV w L noPl x u) → BAt w T e k p v s →
    Calls P f (.pointer (some ⟨k, 0, none⟩) :: vs).toArray w fun e' w' => ∃ u, e' = .returned u ∧ RelV w' L noPl r u ∧ (∃ p' v', BAt w' T e k p' v' s' ∧ ∀ g, v'.ownBlock = some g → v.ownBlock = some g ∨ w.heap.size ≤ g) ∧ Fr (fun j => j = k ∨ v.ownBlock = some j) w w'
def turnPl (ρ : Pl) (b2 : Nat) (v : Value) : Pl := fun x => if x = b2 then (match v.ownBlock with | some g => some (some (g, 0)) | none => ρ b2) else ρ x
section
variable {P : Program} {N : Nat} {ops : Array Oper} {m : Option Nat} {K : Tm → AH → Prop} {tm tm' : Tm} {H : AH} {rest : List Oper} {ty : TypeId} {pos : String} {af : Array Edge} {d : Nat} {t e : TypeId} {x y z : Operand}
end
end Go.Proofs.YtgegcgfdffmoeaaGreat
set_option linter.unusedSimpArgs false
namespace Go.Proofs.YtgegcgfdffmoeaaGreat
set_option linter.unusedVariables false
open Go Go.RowKit
structure FnRead (P : Program) (T e : TypeId) (f : FuncId) (s : List Value) (u : Value) : Prop where
  ent : Enters P f
  run : ∀ (w : World) (k B : Nat), Lib.IsBuilderF T e B k s w → B ≤ w.heap.size → Calls P f #[.pointer (some ⟨k, 0, none⟩)] w fun e' w' => e' = .returned u ∧ Below B w w'
section
variable {P : Program} {N : Nat} {ops : Array Oper} {K : Tm → AH → Prop} {tm : Tm} {H : AH} {rest : List Oper} {ty : TypeId} {pos : String} {af : Array Edge} {d : Nat} {x : Operand}
end
section
variable {P : Program} {N : Nat} {ops : Array Oper} {m : Option Nat} {K : Tm → AH → Prop} {tm : Tm} {H : AH} {rest : List Oper} {ty : TypeId} {pos : String} {af : Array Edge} {d : Nat} {t u : TypeId} {x y : Operand}
end
end Go.Proofs.YtgegcgfdffmoeaaGreat
