/- Steps in the calculus over abstract states: calls that turn a slice of the caller's own in place (sorting), calls that take one and return it turned, slices of own slices, clear, a fresh slice with room. No dump. No conditions but those of each statement. -/
import Derived.Test.YtlapbaiejnaeiaaGreatDoorNe
set_option linter.unusedSimpArgs false
set_option linter.unusedVariables false
namespace Go.Proofs.YtlapbaiejnaeiaaGreatDoor
open Go Go.RowKit
section
variable {P : Program} {N : Nat} {ops : Array Oper} {m : Option Nat} {K : Tm -> AH -> Prop} {tm tm' : Tm} {H : AH} {rest : List Oper} {ty : TypeId} {pos : String} {af : Array Edge} {d : Nat} {t e u : TypeId} {x y z : Operand}
end
section
variable {P : Program} {N : Nat} {ops : Array Oper}
theorem Ords.take {K : Tm -> AH -> Prop} {n i d : Nat} {listed : Array Bool} {tm : Tm} {H : AH} {op : Op} {ty : TypeId} {pos : String} {af : Array Edge} {r : AV} (ho : ops[i]? = some ⟨some d, op, ty, pos, af, none⟩) (hs : Region.noSelect ops = true) (hf : Region.free .any ops listed i = true) (hr : (Region.ready .any ops listed).contains i = true) (hN : Nat.ble (d + 1) N = true)
  (hy : ∀ (L : Nat -> Prop) (w : World) (ρ : Pl) (η : Operand -> Value), (∀ x ∈ op.operands, ∀ y, evT tm x = some y -> RelV w L ρ y (η x)) -> ∃ v, (∀ w', (execOp η ⟨some d, op, ty, pos, af, none⟩).run P w' = .ok (.value v) w') /\ RelV w L ρ r v)
  (h : Ords P N ops K n (listed.setIfInBounds i true) ((d, r) :: tm) H) : Ords P N ops K (n + 1) listed tm H := ⟨fun E a w ρ hE hR => by
 obtain ⟨v, h1, h2⟩ := hy E.L w ρ a.eval fun x hx y hxy => hR.ev (by rw [Ah];exact hxy)
 exact wpAny_take ho hs hf hr (fun c a w hq => absurd hq.1 (by simp)) (.inl ⟨rfl, h1⟩) (h.out E _ w ρ hE (hR.put (by rw [hE];exact Nat.le_of_ble_eq_true hN) h2))⟩
theorem Ords.takeMove {K : Tm -> AH -> Prop} {n d : Nat} (i : Nat) {listed : Array Bool} {tm : Tm} {H : AH} {x : Operand} {ty : TypeId} {pos : String} {af : Array Edge} {r : AV} (ho : ops[i]? = some ⟨some d, .move x, ty, pos, af, none⟩) (hs : Region.noSelect ops = true) (hf : Region.free .any ops listed i = true) (hr : (Region.ready .any ops listed).contains i = true) (hx : evT tm x = some r) (hN : Nat.ble (d + 1) N = true)
  (h : Ords P N ops K n (listed.setIfInBounds i true) ((d, r) :: tm) H) : Ords P N ops K (n + 1) listed tm H :=
 Ords.take ho hs hf hr hN (fun L w ρ η hη => ⟨η x, fun w' => by simp [execOp], hη x (by simp [Op.operands]) _ hx⟩) h
end
end Go.Proofs.YtlapbaiejnaeiaaGreatDoor
