/- A calculus over abstract states: loops that are walked round by round. Plain theory over any program. -/
import Derived.LoopN
import Derived.Test.YtcfjofhapbkmfaaGreatDoorMa
import Derived.Test.YtcfjofhapbkmfaaGreatDoorMb
import Derived.WideLaws
import Derived.Lib.AtoiAll
import Derived.Lib.IndexMore
import Derived.Lib.IndexBytes
import Derived.Lib.ItoaMem
import Derived.Lib.ItoaLen
import Derived.Lib.Split
import Derived.Lib.Join
set_option linter.unusedSimpArgs false
set_option linter.unusedVariables false
namespace Go.Proofs.YtcfjofhapbkmfaaGreatDoor
open Go Go.RowKit
def LW (P : Program) (c : Code) (Q : Exit -> Act -> World -> Prop) (a : Act) (w : World) : Prop :=
 ∀ b k cs, ∃ e a' w', Q e a' w' /\ Arrives P (lone (b.at a (.code c :: .inLoop c :: k)) cs w) b k cs e a' w'
theorem LW.loop {P : Program} {c : Code} {Q : Exit -> Act -> World -> Prop} {a : Act} {w : World} (h : LW P c Q a w) : (Code.loop c).wp P Q a w := by
 intro b k cs
 obtain ⟨e, a', w', hq, harr⟩ := h b k cs
 exact ⟨e, a', w', hq, .of_steps (.one step_loop) harr⟩
theorem LW.round {P : Program} {c : Code} {Q : Exit -> Act -> World -> Prop} {a : Act} {w : World} (h : c.wp P (Exit.then (LW P c Q) Q) a w) : LW P c Q a w := by
 intro b k cs
 obtain ⟨e, a₁, w₁, hq, harr⟩ := h b (.inLoop c :: k) cs
 cases e with
 | normal =>
  obtain ⟨e₂, a₂, w₂, hq₂, harr₂⟩ := hq b k cs
  exact ⟨e₂, a₂, w₂, hq₂, .of_steps (Steps.trans harr (.one step_inLoop)) harr₂⟩
 | exit id => exact ⟨_, a₁, w₁, hq, .pass (x := .inLoop c) rfl (fun _ _ => .inl (by simp)) harr⟩
 | goto l => exact ⟨_, a₁, w₁, hq, .pass (x := .inLoop c) rfl (fun _ _ => .inl (by simp)) harr⟩
 | ret => exact ⟨_, a₁, w₁, hq, .pass (x := .inLoop c) rfl (fun _ _ => .inl (by simp)) harr⟩
 | panic ch => exact ⟨_, a₁, w₁, hq, .pass (x := .inLoop c) rfl (fun _ _ => .inl (by simp)) harr⟩
 | outgrown => exact ⟨_, a₁, w₁, hq, .pass (x := .inLoop c) rfl (fun _ _ => .inl (by simp)) harr⟩
structure TL (P : Program) (N : Nat) (c : Code) (st : St) (Q : Exit -> St -> Prop) : Prop where
 out : ∀ (E : Env) (a : Act) (w : World) (ρ : Pl), E.N = N -> RelSt E st a w ρ -> LW P c (fun e a' w' => ∃ st' ρ', Q e st' /\ RelSt E st' a' w' ρ') a w
section
variable {P : Program} {N : Nat} {c : Code} {Q : Exit -> St -> Prop}
theorem T.unroll {st : St} (h : TL P N c st Q) : T P N (.loop c) st Q := ⟨fun E a w ρ hE hr => (h.out E a w ρ hE hr).loop⟩
theorem TL.round {st : St} (h : T P N c st (Au (fun st' => TL P N c st' Q) Q)) : TL P N c st Q := ⟨fun E a w ρ hE hr => LW.round (wp_mono (h.out E a w ρ hE hr) (by
 rintro e a' w' ⟨st', ρ', q, r⟩
 cases e with
 | normal => exact q.out E a' w' ρ' hE r
 | _ => exact ⟨st', ρ', q, r⟩))⟩
end
section
variable {P : Program} {N : Nat} {ops : Array Oper} {m : Option Nat} {K : Tm -> AH -> Prop} {tm : Tm} {H : AH} {rest : List Oper} {ty : TypeId} {pos : String} {af : Array Edge} {d : Nat} {t : TypeId} {x y : Operand}
end
def AV.denil1 : AV -> AV
 | .lf (.val (.slice none 0 0)) => .lf (.sl [])
 | x => x
def AV.denil : AV -> AV
 | .agg cs => .agg (cs.map AV.denil1)
 | x => x.denil1
theorem RelV.denil1 {w : World} {L : Nat -> Prop} {ρ : Pl} {x : AV} {v : Value} (h : RelV w L ρ x v) : RelV w L ρ x.denil1 v := by
 unfold AV.denil1
 split
 ·have := h.val_eq
  subst this
  exact .lf _ _ .slnil
 ·exact h
theorem RelV.denil {w : World} {L : Nat -> Prop} {ρ : Pl} {x : AV} {v : Value} (h : RelV w L ρ x v) : RelV w L ρ x.denil v := by
 unfold AV.denil
 split
 ·rename_i cs
  obtain ⟨vs, rfl, hl, hr⟩ := h.agg_out
  refine .agg _ vs (by simpa using hl) fun i x v hx hv => ?_
  rw [List.getElem?_map] at hx
  cases e : cs[i]? with
  | none => rw [e] at hx;cases hx
  | some y =>
   rw [e] at hx
   simp only [Option.map_some, Option.some.injEq] at hx
   subst hx
   exact (hr i y v e hv).denil1
 ·exact h.denil1
theorem Fn0.nils {P : Program} {f : FuncId} {args zs : List AV} {r : AV} (h : Fn0 P f zs r) (e : args.map AV.denil = zs) : Fn0 P f args r := by
 subst e
 refine ⟨h.ent, fun L w vs hG hL hl hv => h.run L w vs hG hL (by simpa using hl) fun i x v hx hu => ?_⟩
 rw [List.getElem?_map] at hx
 cases e : args[i]? with
 | none => rw [e] at hx;cases hx
 | some y =>
  rw [e] at hx
  simp only [Option.map_some, Option.some.injEq] at hx
  subst hx
  exact (hv i y v e hu).denil
end Go.Proofs.YtcfjofhapbkmfaaGreatDoor
namespace Go.Proofs.YtcfjofhapbkmfaaGreatDoor
open Go.Lib
theorem Rd {u : Nat} (h : ¬ u < 10) : decDigits u = decDigits (u / 10) ++ [UInt8.ofNat (48 + u % 10)] := by rw [decDigits, dif_neg h]
theorem A04 (u : Nat) : decDigits u ≠ [] := by
 intro h
 have := decDigits_length u
 have h2 := nDigits_pos u
 rw [h] at this
 simp at this
 omega
end Go.Proofs.YtcfjofhapbkmfaaGreatDoor
