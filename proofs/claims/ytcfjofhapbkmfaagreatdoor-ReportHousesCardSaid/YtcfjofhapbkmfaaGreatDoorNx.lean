/- Steps in the calculus over abstract states: calls that turn a slice of the caller's own in place (sorting), calls that take one and return it turned, slices of own slices, clear, a fresh slice with room. No dump. No conditions but those of each statement. -/
import Derived.Test.YtcfjofhapbkmfaaGreatDoorNe
set_option linter.unusedSimpArgs false
set_option linter.unusedVariables false
namespace Go.Proofs.YtcfjofhapbkmfaaGreatDoor
open Go Go.RowKit
theorem RelSt.turn {E : Env} {tm : Tm} {H : AH} {a : Act} {w w' : World} {ρ : Pl} (h : RelSt E ⟨tm, H⟩ a w ρ) {b k o : Nat} {cells cells' : List AV} {c' : Array Value} {el : TypeId} {lo hi : Nat} (hb : H.at b = .live cells) (q1 : ρ b = some (some (k, o))) (hF : Fr (fun j => j = k) w w') (hw : w'.heap[k]? = some (.cells c' el (lo, hi))) (hlo : hi <= lo) (hsz : o + cells'.length <= c'.size)
  (hc : Later E.L w ρ w' ρ -> ∀ (j : Nat) (x : AV), cells'[j]? = some x -> ∃ v, c'[o + j]? = some v /\ RelV w' E.L ρ x v) : RelSt E ⟨tm, H.put b (.live cells')⟩ a w' ρ := by
 have q2 : ¬ E.L k := by
  obtain ⟨k0, o0, c0, e0, lo0, hi0, i1, i2, i3, i4, i5, i6⟩ := h.H.live b cells hb
  rw [q1] at i1
  simp only [Option.some.injEq, Prod.mk.injEq] at i1
  exact i1.1 ▸ i5
 have hkF : Fb E.L ρ k := .inr ⟨b, o, q1⟩
 have hla : Later E.L w ρ w' ρ := ⟨fun _ _ => .inl rfl, fun j o' u h1 h2 => ⟨by
  rw [World.cell?_of_block (w := w) (hF.block j (Bs h2) fun e => h1 (e ▸ hkF))];exact h2, h1⟩, hF.shape⟩
 have hother : ∀ {b' j o' : Nat}, b' ≠ b -> ρ b' = some (some (j, o')) -> w'.heap[j]? = w.heap[j]? := fun {b' j o'} hne hj =>
  hF.block j (h.H.lt hj) fun e => hne (h.H.dist _ _ j _ o hj (e ▸ q1))
 refine h.move hla ⟨fun b' hb' => ?_, fun b' hb' => ?_, fun b' cs1 hb' => ?_, fun b' es hb' => ?_, h.H.dist, h.H.ext.put hla.cell (by rw [hb];rfl) rfl (fun _ _ => rfl) hF.size (fun _ _ _ _ _ _ _ _ h => h.later hla) (fun b' j o' hne hj => hother hne hj)⟩ (hF.mono fun j hj e => by subst e;exact h.mineO q1) fun b' j o' hj => h.minePut b rfl hj
 ·rw [AH.at_put] at hb'
  split at hb'
  ·cases hb'
  ·exact h.H.free b' hb'
 ·rw [AH.at_put] at hb'
  split at hb'
  ·cases hb'
  ·exact h.H.dead b' hb'
 ·rw [AH.at_put] at hb'
  split at hb'
  ·rename_i e
   injection hb' with hb'
   subst hb' e
   exact ⟨k, o, c', el, lo, hi, q1, hw, hlo, hsz, q2, hc hla⟩
  ·rename_i hne
   obtain ⟨k0, o0, c, el, lo, hi, g1, g2, g3, g4, g5, g6⟩ := h.H.live b' cs1 hb'
   refine ⟨k0, o0, c, el, lo, hi, g1, by rw [hother hne g1];exact g2, g3, g4, g5, fun j x hj => ?_⟩
   obtain ⟨v, f1, f2⟩ := g6 j x hj
   exact ⟨v, f1, f2.later hla⟩
 ·rw [AH.at_put] at hb'
  split at hb'
  ·cases hb'
  ·rename_i hne
   obtain ⟨k0, entries, clock, g1, g2, g3, g4⟩ := h.H.map b' es hb'
   exact ⟨k0, entries, clock, g1, by rw [hother hne g1];exact g2, g3, g4⟩
section
variable {P : Program} {N : Nat} {ops : Array Oper} {m : Option Nat} {K : Tm -> AH -> Prop} {tm tm' : Tm} {H : AH} {rest : List Oper} {ty : TypeId} {pos : String} {af : Array Edge} {d : Nat} {t e u : TypeId} {x y z : Operand}
theorem S.sliceFromO {n b off len : Nat} {k : IntKind} {i : Int} {o2 l2 : Nat} [hu : HasU P t (.slice e)] [hi : HasS P e n] (hx : evT tm x = some (.own b off len n)) (hy : evT tm y = some (.val (.int k i))) (hb : (Bl m H b).isLive = true) (hN : Nat.ble (d + 1) N = true) (h0 : 0 <= i /\ i < len) (ho : off + i.toNat * n = o2) (hl : len - i.toNat = l2)
  (h : Reg m P N ops rest ((d, .own b o2 l2 n) :: tm) H K) : Reg m P N ops (⟨some d, .slice t x (some y) none none, ty, pos, af, none⟩ :: rest) tm H K := by
 subst ho hl
 obtain ⟨cs, hb'⟩ := Cf hb
 refine S.val (OpV.mk fun L w ρ η hη hH => ?_) hN h
 have hv := (hη y (by simp [Op.operands]) _ hy).val_eq
 obtain ⟨k', o', arr, el, lo, hi', g1, g2, g3, g4⟩ := hH b cs hb'
 obtain ⟨cap, el2, sz, h1, hc, hsh, hfit⟩ := (hη x (by simp [Op.operands]) _ hx).own_out k' o' g1
 obtain ⟨j, rfl⟩ : ∃ j : Nat, i = j := ⟨i.toNat, by omega⟩
 rw [Int.toNat_natCast] at *
 have hne : ¬ cap = j := by omega
 have hj : ((j : Nat) : Int) <= (len : Int) := by omega
 refine ⟨.slice (some ⟨k', o' + (off + j * n), none⟩) (len - j) (cap - j), ?_, .own b _ _ n _ (by rw [g1];simp) rfl fun k2 o2 hk2 => ?_⟩
 ·have hj0 : (0 : Int) <= (j : Nat) := Int.natCast_nonneg _
  simp only [execOp, h1, hv, Instr.sliceAt, Option.map_some, Option.map_none, Sem.run_bind, run_underlying hu.out, Result.andThen_ok, Instr.slice, Instr.sliceBounds, Instr.sliceBound, asIntOf, Sem.run_pure, hj, hj0, and_self, if_true, Bj hi.out, Int.toNat_natCast]
  rw [if_neg (by simpa using hne)]
  simp [B0, Nat.add_assoc]
 ·rw [g1] at hk2
  simp only [Option.some.injEq, Prod.mk.injEq] at hk2
  obtain ⟨rfl, rfl⟩ := hk2
  refine ⟨cap - j, el2, sz, rfl, by omega, hsh, ?_⟩
  have : (cap - j) * n + j * n = cap * n := by rw [<- Nat.add_mul, Nat.sub_add_cancel (by omega)]
  omega
theorem S.sliceToO {n b off len : Nat} {k : IntKind} {i : Int} {l2 : Nat} [hu : HasU P t (.slice e)] [hi : HasS P e n] (hx : evT tm x = some (.own b off len n)) (hy : evT tm y = some (.val (.int k i))) (hb : (Bl m H b).isLive = true) (hN : Nat.ble (d + 1) N = true) (h0 : 0 <= i /\ i <= len) (hl : i.toNat = l2)
  (h : Reg m P N ops rest ((d, .own b off l2 n) :: tm) H K) : Reg m P N ops (⟨some d, .slice t x none (some y) none, ty, pos, af, none⟩ :: rest) tm H K := by
 subst hl
 obtain ⟨cs, hb'⟩ := Cf hb
 refine S.val (OpV.mk fun L w ρ η hη hH => ?_) hN h
 have hv := (hη y (by simp [Op.operands]) _ hy).val_eq
 obtain ⟨k', o', arr, el, lo, hi', g1, g2, g3, g4⟩ := hH b cs hb'
 obtain ⟨cap, el2, sz, h1, hc, hsh, hfit⟩ := (hη x (by simp [Op.operands]) _ hx).own_out k' o' g1
 obtain ⟨j, rfl⟩ : ∃ j : Nat, i = j := ⟨i.toNat, by omega⟩
 rw [Int.toNat_natCast] at *
 have hj : ((j : Nat) : Int) <= (cap : Int) := by omega
 refine ⟨.slice (some ⟨k', o' + off, none⟩) j cap, ?_, .own b _ _ n _ (by rw [g1];simp) rfl fun k2 o2 hk2 => ?_⟩
 ·have hj0 : (0 : Int) <= (j : Nat) := Int.natCast_nonneg _
  simp only [execOp, h1, hv, Instr.sliceAt, Option.map_some, Option.map_none, Sem.run_bind, run_underlying hu.out, Result.andThen_ok, Instr.slice, Instr.sliceBounds, Instr.sliceBound, asIntOf, Sem.run_pure, hj, hj0, and_self, if_true, Bj hi.out, Int.toNat_natCast, Nat.sub_zero, Nat.zero_mul]
  simp [B0]
 ·rw [g1] at hk2
  simp only [Option.some.injEq, Prod.mk.injEq] at hk2
  obtain ⟨rfl, rfl⟩ := hk2
  exact ⟨cap, el2, sz, rfl, by omega, hsh, hfit⟩
end
section
variable {P : Program} {N : Nat} {ops : Array Oper}
theorem Ords.take {K : Tm -> AH -> Prop} {n i d : Nat} {listed : Array Bool} {tm : Tm} {H : AH} {op : Op} {ty : TypeId} {pos : String} {af : Array Edge} {r : AV} (ho : ops[i]? = some ⟨some d, op, ty, pos, af, none⟩) (hs : Region.noSelect ops = true) (hf : Region.free .any ops listed i = true) (hr : (Region.ready .any ops listed).contains i = true) (hN : Nat.ble (d + 1) N = true)
  (hy : ∀ (L : Nat -> Prop) (w : World) (ρ : Pl) (η : Operand -> Value), (∀ x ∈ op.operands, ∀ y, evT tm x = some y -> RelV w L ρ y (η x)) -> ∃ v, (∀ w', (execOp η ⟨some d, op, ty, pos, af, none⟩).run P w' = .ok (.value v) w') /\ RelV w L ρ r v)
  (h : Ords P N ops K n (listed.setIfInBounds i true) ((d, r) :: tm) H) : Ords P N ops K (n + 1) listed tm H := ⟨fun E a w ρ hE hR => by
 obtain ⟨v, h1, h2⟩ := hy E.L w ρ a.eval fun x hx y hxy => hR.ev (by rw [Ah];exact hxy)
 exact wpAny_take ho hs hf hr (fun c a w hq => absurd hq.1 (by simp)) (.inl ⟨rfl, h1⟩) (h.out E _ w ρ hE (hR.put (by rw [hE];exact Nat.le_of_ble_eq_true hN) h2))⟩
theorem Ords.takeMove {K : Tm -> AH -> Prop} {n d : Nat} (i : Nat) {listed : Array Bool} {tm : Tm} {H : AH} {x : Operand} {ty : TypeId} {pos : String} {af : Array Edge} {r : AV} (ho : ops[i]? = some ⟨some d, .move x, ty, pos, af, none⟩) (hs : Region.noSelect ops = true) (hf : Region.free .any ops listed i = true) (hr : (Region.ready .any ops listed).contains i = true) (hx : evT tm x = some r) (hN : Nat.ble (d + 1) N = true)
  (h : Ords P N ops K n (listed.setIfInBounds i true) ((d, r) :: tm) H) : Ords P N ops K (n + 1) listed tm H :=
 Ords.take ho hs hf hr hN (fun L w ρ η hη => ⟨η x, fun w' => by simp [execOp], hη x (by simp [Op.operands]) _ hx⟩) h
end
end Go.Proofs.YtcfjofhapbkmfaaGreatDoor
