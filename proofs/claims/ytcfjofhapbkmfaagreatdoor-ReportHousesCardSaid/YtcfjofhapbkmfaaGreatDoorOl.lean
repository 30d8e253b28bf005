/- Steps in the calculus over abstract states: functions that return a slice of the caller's own together with a plain value, and their calls. No dump. No conditions but those of each statement. -/
import Derived.Test.YtcfjofhapbkmfaaGreatDoorNx
import Derived.Laws.StructEq
set_option linter.unusedSimpArgs false
set_option linter.unusedVariables false
namespace Go.Proofs.YtcfjofhapbkmfaaGreatDoor
open Go Go.RowKit
section
variable {P : Program} {N : Nat} {ops : Array Oper} {m : Option Nat} {K : Tm -> AH -> Prop} {tm tm' : Tm} {H : AH} {rest : List Oper} {ty : TypeId} {pos : String} {af : Array Edge} {d : Nat} {t e : TypeId} {x y z : Operand}
theorem S.indexL {n0 n b off len : Nat} {k : IntKind} {i : Int} {o2 : Nat} [hu : HasU P t (.slice e)] [hi : HasS P e n] (hx : evT tm x = some (.own b off len n)) (hy : evT tm y = some (.val (.int k i))) (hb : (Bl none H b).isLive = true) (hm : Y3 ops = true) (hN : Nat.ble (d + 1) N = true) (h0 : 0 <= i /\ i < len) (ho : off + i.toNat * n = o2) (h : Reg (some n0) P N ops rest ((d, .ptr b o2) :: tm) H K) : Reg (some n0) P N ops (⟨some d, .indexAddr t x y, ty, pos, af, none⟩ :: rest) tm H K := by
 subst ho
 obtain ⟨cs, hb'⟩ := Cf hb
 refine ⟨?_⟩
 obtain ⟨ss, g1, g2⟩ := h.out
 exact ⟨.lv (.ptr b (off + i.toNat * n)) b :: ss, ⟨⟨Nat.le_of_ble_eq_true hN, rfl, g1⟩, rfl, ⟨cs, hb'⟩, fun cells => OpV.indexO rfl hx (if_pos rfl) hy hu.out hi.out h0.1 h0.2, hm⟩, g2⟩
theorem S.loadLO {n0 b off n : Nat} {cells l : List AV} {ds : TypeDesc} [hu : HasU P t ds] [hi : HasS P t n] (hx : evT tm x = some (.ptr b off)) (hb : H.at b = .live cells) (hd : ds.isRow = true) (hld : Ot ops d = true) (hN : Nat.ble (d + 1) N = true) (hl : (cells.drop off).take n = l) (hle : off + n <= cells.length) (h : Reg (some n0) P N ops rest ((d, .agg l) :: tm) H K) : Reg (some n0) P N ops (⟨some d, .load t x, ty, pos, af, none⟩ :: rest) tm H K := by
 subst hl
 exact S.ld hb (OpV.loadPA rfl hx (if_pos rfl) hu.out hd hi.out (Nat.ble_eq_true_of_le hle)) hld hN h
theorem S.storeLW {n0 b off n : Nat} {cells : List AV} {r : AV} [hi : HasS P t n] (hx : evT tm x = some (.ptr b off)) (hy : evT tm y = some r) (hb : H.at b = .live cells) (h1 : r.boxed = true) (h2 : (r.cells.all AV.one) = true) (hn : r.cells.length = n) (hl : off + n <= cells.length) (hm : Nat.ble n0 b = true) (h : Reg (some n0) P N ops rest tm (H.put b (.live (Bi off r.cells cells))) K) : Reg (some n0) P N ops (⟨none, .store t x y, ty, pos, af, none⟩ :: rest) tm H K :=
 S.storeD hx hy hb h1 h2 hn (Nat.ble_eq_true_of_le hl) hm h
theorem S.allocR (b : Nat) {v : Value} [hz : HasZ P t v] (hb : (H.at b).idle = true) (htm : tm.clearO b = some tm') (hH : AH.clear b 0 H = true) (h1 : (AV.cst v).boxed = true) (hN : Nat.ble (d + 1) N = true) (h : Reg none P N ops rest ((d, .ptr b 0) :: tm') (H.put b (.live (AV.cst v).cells)) K) : Reg none P N ops (⟨some d, .alloc t, ty, pos, af, none⟩ :: rest) tm H K := by
 refine ⟨fun E a w ρ hE hR => ?_⟩
 replace h := h.out
 refine wpList_plain rfl fun K' hK => ?_
 have hcell : ∀ (w : World) (ρ : Pl), (AV.cst v).cells.length = v.cells.toList.length /\ _ := fun w ρ => (Ko (w := w) (L := E.L) (ρ := ρ) v).cells h1
 obtain ⟨s1, s2⟩ := hR.regrow (tm' := tm') (cells' := (AV.cst v).cells) (w' := w.alloc (.cells v.cells t)) (k' := w.heap.size) (o' := 0) htm hH (HB.idle_map hb) (B5 w _) (Nat.le_refl _)
  (by have := (hcell w ρ).1;simp at this ⊢;omega) (.inr (Nat.le_refl _)) (fun k2 hk2 _ => Aj w _ hk2) (fun k2 x hx => by rw [Al (Aj w _ (Ca hx))];exact hx) rfl rfl rfl (by simp) fun hla j z hj => by
   obtain ⟨u, p1, p2⟩ := (hcell (w.alloc (.cells v.cells t)) (ρ.upd b (some (w.heap.size, 0)))).2 j z hj
   exact ⟨u, by rw [Nat.zero_add];simpa using p1, p2⟩
 have hrun : (execOp a.eval ⟨some d, .alloc t, ty, pos, af, none⟩).run P w = .ok (.value (.pointer (some ⟨w.heap.size, 0, none⟩))) (w.alloc (.cells v.cells t)) := by
  simp only [execOp, Instr.alloc, Sem.run_bind, Dj hz.out, Fm, Result.andThen_ok, Sem.run_pure]
 unfold Oper.wp
 rw [hrun]
 refine hK _ _ (h E _ _ _ hE (s2.put (by rw [hE];exact Nat.le_of_ble_eq_true hN) (.ptr b 0 _ (by unfold Pl.upd;rw [if_pos rfl];simp) rfl fun k2 o2 hk2 => ?_)))
 unfold Pl.upd at hk2
 rw [if_pos rfl] at hk2
 simp only [Option.some.injEq, Prod.mk.injEq] at hk2
 obtain ⟨rfl, rfl⟩ := hk2
 rfl
end
section
variable {P : Program} {N : Nat}
theorem T.drawRN (n0 : Nat) {id : Nat} {l : List Oper} {Q : Exit -> St -> Prop} {tm : Tm} {H : AH} (n : Nat) (hm : P.follows .mixedOrders = true) (hB : D1 l.toArray n = true)
  (h : Reg (some n0) P N l.toArray (l.take n) tm H (fun tm' H' => Reg none P N l.toArray (l.drop n) tm' H' (fun tm H => Q .normal ⟨tm, H⟩))) : T P N (.region id l.toArray true) ⟨tm, H⟩ Q := by
 refine ⟨fun E a w ρ hE hr => ?_⟩
 obtain ⟨ss, hok, hK⟩ := h.out
 have hn : n <= l.length := by simp only [D1, Bool.and_eq_true, decide_eq_true_eq] at hB;simpa using hB.2
 have htl : (l.take n).length = n := by simp;omega
 obtain ⟨h1, h2, h3, h4⟩ := Il (ops := l.toArray) (tm0 := tm) (H0 := H) (tr := ss) (l.take n) ss 0 tm H (fun j hj => by rw [htl] at hj;simp [hj]) (fun j _ => by simp) hok (fun t => rfl) (fun b => rfl)
 have F : Gw P N n0 l.toArray ss tm H n := fun j hj => by
  obtain ⟨o, s, tmj, Hj, g⟩ := h2 j (by rw [htl];exact hj)
  rw [Nat.zero_add] at g
  exact ⟨o, s, tmj, Hj, g⟩
 rw [htl, Nat.zero_add] at h3 h4
 have hr' : RelSt E ⟨tm, H⟩ a { w with drawn := w.drawn + 1 } ρ := hr.below ⟨rfl, rfl, rfl, Nat.le_refl _, fun _ _ => rfl⟩
 have hrep : ∀ i, (Array.replicate l.toArray.size false).getD i false = false := fun i => getD_replicate_false _ _
 have hcnt : cnt (Array.replicate l.toArray.size false) n = n := by
  have : ∀ k, cnt (Array.replicate l.toArray.size false) k = k := fun k => by
   induction k with
   | zero => rfl
   | succ k ih => simp only [cnt, hrep, ih];simp
  exact this n
 refine wp_mono (wp_region_any hm ?_ (Q := fun e a' w' => e = .normal /\ ∃ st' ρ', Q .normal st' /\ RelSt E st' a' w' ρ')) ?_
 ·have key := H9 (ops := l.toArray) (tr := ss) (n := n) (E := E) F hB hE (Q := fun e a' w' => e = .normal /\ ∃ st' ρ', Q .normal st' /\ RelSt E st' a' w' ρ') (l := l.drop n) (fun j => by simp [List.getElem?_drop]) (by simp) (fun a w ⟨tm', H', ρ', g1, g2, g3⟩ => by
   have g4 : RelSt E ⟨Hc (l.take n) ss tm, Kf ss H⟩ a w ρ' := (g1.weaken _ fun t x hx => by rw [g2 t, <- h3 t];exact hx).sameH fun b => by rw [h4 b, <- g3 b]
   exact hK.out E a w ρ' hE g4) n _ a { w with drawn := w.drawn + 1 } hcnt ⟨by simp, (fun j oj _ hl => by rw [hrep] at hl;cases hl), (fun t _ ht => getD_in (by simpa using ht) (hrep t))⟩ ⟨tm, H, ρ, hr', fun t => ?_, fun b => ?_⟩
  ·rw [show n + (l.toArray.size - n) = l.toArray.size by simp;omega] at key
   exact key
  ·rw [Ey (k := 0) n (by omega) fun i _ _ _ => hrep i];rfl
  ·exact (Dl n fun i _ _ _ => hrep i).symm
 ·rintro e a' w' ⟨rfl, st', ρ', g1, g2⟩
  exact ⟨st', ρ', g1, g2⟩
end
section
variable {P : Program} {N : Nat} {ops : Array Oper} {m : Option Nat} {K : Tm -> AH -> Prop} {tm tm' : Tm} {H : AH} {rest : List Oper} {ty : TypeId} {pos : String} {af : Array Edge} {d : Nat} {t e : TypeId} {x y z : Operand}
end
end Go.Proofs.YtcfjofhapbkmfaaGreatDoor
