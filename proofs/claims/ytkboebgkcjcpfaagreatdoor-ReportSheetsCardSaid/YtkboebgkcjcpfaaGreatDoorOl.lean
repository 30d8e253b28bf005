/- Steps in the calculus over abstract states: functions that return a slice of the caller's own together with a plain value, and their calls. No dump. No conditions but those of each statement. -/
import Derived.Test.YtkboebgkcjcpfaaGreatDoorNx
import Derived.Laws.StructEq
set_option linter.unusedSimpArgs false
set_option linter.unusedVariables false
namespace Go.Proofs.YtkboebgkcjcpfaaGreatDoor
open Go Go.RowKit
section
variable {P : Program} {N : Nat} {ops : Array Oper} {m : Option Nat} {K : Tm -> AH -> Prop} {tm tm' : Tm} {H : AH} {rest : List Oper} {ty : TypeId} {pos : String} {af : Array Edge} {d : Nat} {t e : TypeId} {x y z : Operand}
end
section
variable {P : Program} {N : Nat}
theorem T.drawRN (n0 : Nat) {id : Nat} {l : List Oper} {Q : Exit -> St -> Prop} {tm : Tm} {H : AH} (n : Nat) (hm : P.follows .mixedOrders = true) (hB : Er l.toArray n = true)
  (h : Reg (some n0) P N l.toArray (l.take n) tm H (fun tm' H' => Reg none P N l.toArray (l.drop n) tm' H' (fun tm H => Q .normal ⟨tm, H⟩))) : T P N (.region id l.toArray true) ⟨tm, H⟩ Q := by
 refine ⟨fun E a w ρ hE hr => ?_⟩
 obtain ⟨ss, hok, hK⟩ := h.out
 have hn : n <= l.length := by simp only [Er, Bool.and_eq_true, decide_eq_true_eq] at hB;simpa using hB.2
 have htl : (l.take n).length = n := by simp;omega
 obtain ⟨h1, h2, h3, h4⟩ := Og (ops := l.toArray) (tm0 := tm) (H0 := H) (tr := ss) (l.take n) ss 0 tm H (fun j hj => by rw [htl] at hj;simp [hj]) (fun j _ => by simp) hok (fun t => rfl) (fun b => rfl)
 have F : Lj P N n0 l.toArray ss tm H n := fun j hj => by
  obtain ⟨o, s, tmj, Hj, g⟩ := h2 j (by rw [htl];exact hj)
  rw [Nat.zero_add] at g
  exact ⟨o, s, tmj, Hj, g⟩
 rw [htl, Nat.zero_add] at h3 h4
 have hr' : RelSt E ⟨tm, H⟩ a { w with drawn := w.drawn + 1 } ρ := hr.below ⟨rfl, rfl, rfl, Nat.le_refl _, fun _ _ => rfl⟩
 have hrep : ∀ i, (Array.replicate l.toArray.size false).getD i false = false := fun i => getD_replicate_false _ _
 have hcnt : cnt (Array.replicate l.toArray.size false) n = n := by
  have : ∀ k, cnt (Array.replicate l.toArray.size false) k = k := fun k => by
   induction k with
   | zero => rfl
   | succ k ih => simp only [cnt, hrep, ih];simp
  exact this n
 refine wp_mono (wp_region_any hm ?_ (Q := fun e a' w' => e = .normal /\ ∃ st' ρ', Q .normal st' /\ RelSt E st' a' w' ρ')) ?_
 ·have key := N7 (ops := l.toArray) (tr := ss) (n := n) (E := E) F hB hE (Q := fun e a' w' => e = .normal /\ ∃ st' ρ', Q .normal st' /\ RelSt E st' a' w' ρ') (l := l.drop n) (fun j => by simp [List.getElem?_drop]) (by simp) (fun a w ⟨tm', H', ρ', g1, g2, g3⟩ => by
   have g4 : RelSt E ⟨Lr (l.take n) ss tm, Pg ss H⟩ a w ρ' := (g1.weaken _ fun t x hx => by rw [g2 t, <- h3 t];exact hx).sameH fun b => by rw [h4 b, <- g3 b]
   exact hK.out E a w ρ' hE g4) n _ a { w with drawn := w.drawn + 1 } hcnt ⟨by simp, (fun j oj _ hl => by rw [hrep] at hl;cases hl), (fun t _ ht => getD_in (by simpa using ht) (hrep t))⟩ ⟨tm, H, ρ, hr', fun t => ?_, fun b => ?_⟩
  ·rw [show n + (l.toArray.size - n) = l.toArray.size by simp;omega] at key
   exact key
  ·rw [H8 (k := 0) n (by omega) fun i _ _ _ => hrep i];rfl
  ·exact (F6 n fun i _ _ _ => hrep i).symm
 ·rintro e a' w' ⟨rfl, st', ρ', g1, g2⟩
  exact ⟨st', ρ', g1, g2⟩
end
section
variable {P : Program} {N : Nat} {ops : Array Oper} {m : Option Nat} {K : Tm -> AH -> Prop} {tm tm' : Tm} {H : AH} {rest : List Oper} {ty : TypeId} {pos : String} {af : Array Edge} {d : Nat} {t e : TypeId} {x y z : Operand}
end
end Go.Proofs.YtkboebgkcjcpfaaGreatDoor
