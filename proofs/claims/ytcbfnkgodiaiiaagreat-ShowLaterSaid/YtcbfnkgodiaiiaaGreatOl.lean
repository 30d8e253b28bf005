/- Steps in the calculus over abstract states: functions that return a slice of the caller's own together with a plain value, and their calls. No dump. No conditions but those of each statement. -/
import Derived.Test.YtcbfnkgodiaiiaaGreatNx
import Derived.Laws.StructEq
set_option linter.unusedSimpArgs false
set_option linter.unusedVariables false
namespace Go.Proofs.YtcbfnkgodiaiiaaGreat
open Go Go.RowKit
section
variable {P : Program} {N : Nat} {ops : Array Oper} {m : Option Nat} {K : Tm -> AH -> Prop} {tm tm' : Tm} {H : AH} {rest : List Oper} {ty : TypeId} {pos : String} {af : Array Edge} {d : Nat} {t e : TypeId} {x y z : Operand}
structure FnOwnT (P : Program) (f : FuncId) (args : List AV) (rows : List (List Lf)) (n : Nat) (u : Value) : Prop where
 ent : Enters P f
 run : ∀ (L : Nat -> Prop) (w : World) (vs : List Value), Glob w -> (∀ k, L k -> k < w.heap.size) -> args.length = vs.length -> (∀ (i : Nat) (x : AV) (v : Value), args[i]? = some x -> vs[i]? = some v -> RelV w L Ay x v) ->
  Calls P f vs.toArray w fun e w' => ∃ v, e = .returned (.tuple #[v, u]) /\ Below w.heap.size w w' /\
   ∃ k o c el lo hi cap, v = .slice (some ⟨k, o, none⟩) rows.length cap /\ w.heap.size <= k /\ w'.heap[k]? = some (.cells c el (lo, hi)) /\ hi <= lo /\ rows.length <= cap /\ o + cap * n <= c.size /\ ∀ (j : Nat) (x : Lf), rows.flatten[j]? = some x -> ∃ u, c[o + j]? = some u /\ RelL w' (fun i => L i \/ i = k) x u
def Tg (P : Program) (fn : Func) (rows : List (List Lf)) (n : Nat) (u : Value) (e : Exit) (st : St) : Prop := (e = .normal \/ e = .ret) /\
 ∃ b, ResL P st fn.results.toList [.own b 0 rows.length n, .val u] /\ st.H.at b = .live (rows.flatten.map .lf)
theorem FnOwnT.of {f : FuncId} {fn : Func} {c : Code} {args : List AV} {rows : List (List Lf)} {n : Nat} {u : Value} {N : Nat} (hf : P.funcs[f]? = some fn) (hnt : fn.ntmps = N) (hb : fn.body = some c) (hn : (fn.name == "runtime.NumGoroutine") = false) (hN : Nat.ble args.length N = true)
  (h : T P N c ⟨A2 0 args, []⟩ (Tg P fn rows n u)) : FnOwnT P f args rows n u := by
 subst hnt
 refine ⟨⟨fn, hf, hn, by rw [hb];rfl⟩, fun L w vs hG hL hl hv => ?_⟩
 have hN' := Nat.le_of_ble_eq_true hN
 refine calls_of_wp hf hb ?_
 let E : Env := { N := fn.ntmps, L := L, O := fun _ => False, w0 := w, good := fun w' hf => hG.below (Fr.below hf) }
 have hsz : (vs.toArray ++ Array.replicate (fn.ntmps - vs.toArray.size) undef).size = fn.ntmps := by simp;omega
 have hst : RelSt E ⟨A2 0 args, []⟩ { tmps := vs.toArray ++ Array.replicate (fn.ntmps - vs.toArray.size) undef, defers := [] } w Ay := by
  refine ⟨hsz, rfl, fun t x hx => ?_, ⟨fun b _ => rfl, (fun b h => by simp [AH.at] at h), (fun b cs h => by simp [AH.at] at h), (fun b cs h => by simp [AH.at] at h), (fun b b' k o o' h => by cases h), ExtOk.nil _ _ _⟩, Fr.refl _ _, (fun b k o h => by cases h), hL⟩
  obtain ⟨_, hx⟩ := Hl _ _ _ _ hx
  rw [Nat.sub_zero] at hx
  have ht : t < args.length := (List.getElem?_eq_some_iff.1 hx).1
  refine ⟨by show t < fn.ntmps;omega, ?_⟩
  have hu : vs[t]? = some (vs[t]'(by omega)) := List.getElem?_eq_getElem _
  have : (vs.toArray ++ Array.replicate (fn.ntmps - vs.toArray.size) undef).getD t undef = vs[t]'(by omega) := by
   rw [Array.getD_eq_getD_getElem?, Array.getElem?_append_left (by simp;omega)]
   simp [hu]
  show RelV w L Ay x ((vs.toArray ++ Array.replicate (fn.ntmps - vs.toArray.size) undef).getD t undef)
  rw [this]
  exact hv t x _ hx hu
 refine wp_mono (h.out E _ w Ay rfl hst) ?_
 rintro e a' w' ⟨st', ρ', ⟨he, b, hx, hlive⟩, hr'⟩
 have hb' : Below w.heap.size w w' := Fr.below hr'.fr
 have fin : ∃ v, (results fn a'.tmps).run P w' = .ok (.tuple #[v, u]) w' /\
   ∃ k o c el lo hi cap, v = .slice (some ⟨k, o, none⟩) rows.length cap /\ w.heap.size <= k /\ w'.heap[k]? = some (.cells c el (lo, hi)) /\ hi <= lo /\ rows.length <= cap /\ o + cap * n <= c.size /\ ∀ (j : Nat) (x : Lf), rows.flatten[j]? = some x -> ∃ u, c[o + j]? = some u /\ RelL w' (fun i => L i \/ i = k) x u := by
  obtain ⟨us, h1, h2, h3⟩ := hx.run hr'
  have hres := Gg (fn := fn) h1
  match us, h2, h3, hres with
  | [v, u'], _, h3, hres =>
   have hu : u' = u := (h3 1 _ u' rfl rfl).val_eq
   subst hu
   have h2 := h3 0 _ v rfl rfl
   obtain ⟨k, o, c, el, lo, hi, g1, g2, g3, g4, g5, g6⟩ := hr'.H.live b _ hlive
   obtain ⟨cap, e2, n2, hveq, hc, hsh, hfit⟩ := h2.own_out k o g1
   have hk : w.heap.size <= k := by
    rcases hr'.mineO g1 with h | h
    ·exact h.elim
    ·exact h
   have hn2 : n2 = c.size := by
    rw [Ck g2] at hsh
    simp only [Option.some.injEq, Prod.mk.injEq] at hsh
    exact hsh.2.symm
   rw [Nat.add_zero] at hveq hfit
   refine ⟨v, hres, k, o, c, el, lo, hi, cap, hveq, hk, g2, g3, hc, by rw [<- hn2];exact hfit, fun j x hj => ?_⟩
   obtain ⟨v, q1, q2⟩ := g6 j (.lf x) (by rw [List.getElem?_map, hj];rfl)
   refine ⟨v, q1, q2.lf_out.less fun i hi => ?_⟩
   rcases hi with hi | hi
   ·exact .inl hi
   ·exact .inr ⟨b, o, hi ▸ g1⟩
 obtain ⟨v, h1, h2⟩ := fin
 rcases he with rfl | rfl
 ·exact ⟨hr'.defers, _, h1, v, rfl, hb', h2⟩
 ·exact ⟨hr'.defers, _, h1, v, rfl, hb', h2⟩
theorem S.callOwnT (b : Nat) {n : Nat} {f : FuncId} {xs : Array Operand} {ts : Array TypeId} {ys : List AV} {rows : List (List Lf)} {u : Value} (hp : FnOwnT P f ys rows n u) (hx : evs (evT tm) xs.toList = some ys) (ht : ys.all AV.tree = true) (hb : (H.at b).idle = true) (htm : tm.clearO b = some tm') (hH : AH.clear b 0 H = true) (hN : Nat.ble (d + 1) N = true)
  (hr : ∀ row ∈ rows, row.length = n)
  (h2 : Reg none P N ops rest ((d, .tup [.own b 0 rows.length n, .val u]) :: tm') (H.put b (.live (rows.flatten.map .lf))) K) : Reg none P N ops (⟨some d, .call ⟨.value (.func f), xs, ts⟩, ty, pos, af, none⟩ :: rest) tm H K := by
 refine ⟨fun E a w ρ hE hR => ?_⟩
 replace h2 := h2.out
 refine wpList_plain rfl fun K' hK => ?_
 have hN' := Nat.le_of_ble_eq_true hN
 obtain ⟨g1, g2⟩ := Ed _ _ hx
 have hrun : (execOp a.eval ⟨some d, .call ⟨.value (.func f), xs, ts⟩, ty, pos, af, none⟩).run P w = .ok (.enter f (xs.toList.map a.eval).toArray) w := by
  have : (execOp a.eval ⟨some d, .call ⟨.value (.func f), xs, ts⟩, ty, pos, af, none⟩).run P w = (callFunc f (#[] ++ xs.map a.eval ++ #[])).run P w := by simp [execOp, resolve, Act.eval, Deferred.ofValue, invoke]
  rw [this, hp.1.run]
  simp only [Result.ok.injEq, Next.enter.injEq, true_and, and_true]
  apply Array.ext'
  simp
 unfold Oper.wp
 rw [hrun]
 refine (hp.2 (Fb E.L ρ) w (xs.toList.map a.eval) hR.glob hR.fb_lt (by simp [<- g1]) fun i x v hx hv => ?_).mono ?_
 ·refine RelV.bare ?_ (List.all_eq_true.1 ht x (List.mem_of_getElem? hx))
  obtain ⟨z, h5, h6⟩ := g2 i x hx
  rw [List.getElem?_map, h5] at hv
  simp at hv
  subst hv
  exact hR.ev (by rw [Am];exact h6)
 ·rintro e w' ⟨v, rfl, hbel, k, o, c, el, lo, hi, cap, rfl, hk, hw, hlo, hcap, hsz, hc⟩
  have hlen : rows.length * n <= cap * n := Nat.mul_le_mul_right _ hcap
  obtain ⟨s1, s2⟩ := hR.regrow (tm' := tm') (cells' := rows.flatten.map AV.lf) (w' := w') (k' := k) (o' := o) htm hH (HB.idle_map hb) hw hlo
   (by rw [List.length_map, Bf rows hr];omega) (.inr hk) (fun k2 hk2 _ => hbel.block k2 hk2) (fun k2 x hx => (Fc (L := E.L) (ρ := ρ) hbel).shape k2 x hx) hbel.os hbel.tape hbel.output hbel.size fun hla j z hj => by
    rw [List.getElem?_map] at hj
    cases hf : rows.flatten[j]? with
    | none => rw [hf] at hj;cases hj
    | some x =>
     rw [hf] at hj
     simp only [Option.map_some, Option.some.injEq] at hj
     subst hj
     obtain ⟨u, p1, p2⟩ := hc j x hf
     refine ⟨u, p1, .lf _ _ (p2.less fun i hi => ?_)⟩
     rcases hi with hi | ⟨b', o', hi⟩
     ·exact .inl (.inl hi)
     ·unfold Pl.upd at hi
      by_cases e' : b' = b
      ·rw [if_pos e'] at hi
       simp only [Option.some.injEq, Prod.mk.injEq] at hi
       exact .inr hi.1.symm
      ·rw [if_neg e'] at hi
       exact .inl (.inr ⟨b', o', hi⟩)
  refine hK _ _ (h2 E _ w' _ hE (s2.put (by rw [hE];exact hN') (RelV.tup [.own b 0 rows.length n, .val u] [.slice (some ⟨k, o, none⟩) rows.length cap, u] rfl fun i x v hx hv => ?_)))
  match i, hx, hv with
  | 0, hx, hv => simp at hx hv;subst hx hv;exact Ie hcap (Ck hw) hsz
  | 1, hx, hv => simp at hx hv;subst hx hv;exact Ab _
theorem S.indexL {n0 n b off len : Nat} {k : IntKind} {i : Int} {o2 : Nat} [hu : HasU P t (.slice e)] [hi : HasS P e n] (hx : evT tm x = some (.own b off len n)) (hy : evT tm y = some (.val (.int k i))) (hb : (Bs none H b).isLive = true) (hm : A8v ops = true) (hN : Nat.ble (d + 1) N = true) (h0 : 0 <= i /\ i < len) (ho : off + i.toNat * n = o2) (h : Reg (some n0) P N ops rest ((d, .ptr b o2) :: tm) H K) : Reg (some n0) P N ops (⟨some d, .indexAddr t x y, ty, pos, af, none⟩ :: rest) tm H K := by
 subst ho
 obtain ⟨cs, hb'⟩ := Dd hb
 refine ⟨?_⟩
 obtain ⟨ss, g1, g2⟩ := h.out
 exact ⟨.lv (.ptr b (off + i.toNat * n)) b :: ss, ⟨⟨Nat.le_of_ble_eq_true hN, rfl, g1⟩, rfl, ⟨cs, hb'⟩, fun cells => OpV.indexO rfl hx (if_pos rfl) hy hu.out hi.out h0.1 h0.2, hm⟩, g2⟩
theorem S.loadLO {n0 b off n : Nat} {cells l : List AV} {ds : TypeDesc} [hu : HasU P t ds] [hi : HasS P t n] (hx : evT tm x = some (.ptr b off)) (hb : H.at b = .live cells) (hd : ds.isRow = true) (hld : Wm ops d = true) (hN : Nat.ble (d + 1) N = true) (hl : (cells.drop off).take n = l) (hle : off + n <= cells.length) (h : Reg (some n0) P N ops rest ((d, .agg l) :: tm) H K) : Reg (some n0) P N ops (⟨some d, .load t x, ty, pos, af, none⟩ :: rest) tm H K := by
 subst hl
 exact S.ld hb (OpV.loadPA rfl hx (if_pos rfl) hu.out hd hi.out (Nat.ble_eq_true_of_le hle)) hld hN h
theorem S.storeLW {n0 b off n : Nat} {cells : List AV} {r : AV} [hi : HasS P t n] (hx : evT tm x = some (.ptr b off)) (hy : evT tm y = some r) (hb : H.at b = .live cells) (h1 : r.boxed = true) (h2 : (r.cells.all AV.one) = true) (hn : r.cells.length = n) (hl : off + n <= cells.length) (hm : Nat.ble n0 b = true) (h : Reg (some n0) P N ops rest tm (H.put b (.live (Be off r.cells cells))) K) : Reg (some n0) P N ops (⟨none, .store t x y, ty, pos, af, none⟩ :: rest) tm H K :=
 S.storeD hx hy hb h1 h2 hn (Nat.ble_eq_true_of_le hl) hm h
theorem S.field {i : Nat} {cs : List AV} {c : AV} {fs : Array Field} {f : Field} {ds : TypeDesc} (hu : P.underlying t = some (.struct fs)) (hf : fs[i]? = some f) (hd : P.underlying f.type = some ds) (hr : ds.isRow = false) (hx : evT tm x = some (.agg cs)) (hc : cs[f.offset]? = some c) (hN : Nat.ble (d + 1) N = true) (h : Reg m P N ops rest ((d, c) :: tm) H K) : Reg m P N ops (⟨some d, .field t x i, ty, pos, af, none⟩ :: rest) tm H K :=
 S.val (OpV.field rfl hx hu hf hd hr hc) hN h
theorem S.allocR (b : Nat) {v : Value} [hz : HasZ P t v] (hb : (H.at b).idle = true) (htm : tm.clearO b = some tm') (hH : AH.clear b 0 H = true) (h1 : (AV.cst v).boxed = true) (hN : Nat.ble (d + 1) N = true) (h : Reg none P N ops rest ((d, .ptr b 0) :: tm') (H.put b (.live (AV.cst v).cells)) K) : Reg none P N ops (⟨some d, .alloc t, ty, pos, af, none⟩ :: rest) tm H K := by
 refine ⟨fun E a w ρ hE hR => ?_⟩
 replace h := h.out
 refine wpList_plain rfl fun K' hK => ?_
 have hcell : ∀ (w : World) (ρ : Pl), (AV.cst v).cells.length = v.cells.toList.length /\ _ := fun w ρ => (Nl (w := w) (L := E.L) (ρ := ρ) v).cells h1
 obtain ⟨s1, s2⟩ := hR.regrow (tm' := tm') (cells' := (AV.cst v).cells) (w' := w.alloc (.cells v.cells t)) (k' := w.heap.size) (o' := 0) htm hH (HB.idle_map hb) (Bz w _) (Nat.le_refl _)
  (by have := (hcell w ρ).1;simp at this ⊢;omega) (.inr (Nat.le_refl _)) (fun k2 hk2 _ => As w _ hk2) (fun k2 x hx => by rw [Cb (As w _ (G1 hx))];exact hx) rfl rfl rfl (by simp) fun hla j z hj => by
   obtain ⟨u, p1, p2⟩ := (hcell (w.alloc (.cells v.cells t)) (ρ.upd b (some (w.heap.size, 0)))).2 j z hj
   exact ⟨u, by rw [Nat.zero_add];simpa using p1, p2⟩
 have hrun : (execOp a.eval ⟨some d, .alloc t, ty, pos, af, none⟩).run P w = .ok (.value (.pointer (some ⟨w.heap.size, 0, none⟩))) (w.alloc (.cells v.cells t)) := by
  simp only [execOp, Instr.alloc, Sem.run_bind, F4 hz.out, Ni, Result.andThen_ok, Sem.run_pure]
 unfold Oper.wp
 rw [hrun]
 refine hK _ _ (h E _ _ _ hE (s2.put (by rw [hE];exact Nat.le_of_ble_eq_true hN) (.ptr b 0 _ (by unfold Pl.upd;rw [if_pos rfl];simp) rfl fun k2 o2 hk2 => ?_)))
 unfold Pl.upd at hk2
 rw [if_pos rfl] at hk2
 simp only [Option.some.injEq, Prod.mk.injEq] at hk2
 obtain ⟨rfl, rfl⟩ := hk2
 rfl
end
section
variable {P : Program} {N : Nat}
theorem T.drawRN (n0 : Nat) {id : Nat} {l : List Oper} {Q : Exit -> St -> Prop} {tm : Tm} {H : AH} (n : Nat) (hm : P.follows .mixedOrders = true) (hB : Gq l.toArray n = true)
  (h : Reg (some n0) P N l.toArray (l.take n) tm H (fun tm' H' => Reg none P N l.toArray (l.drop n) tm' H' (fun tm H => Q .normal ⟨tm, H⟩))) : T P N (.region id l.toArray true) ⟨tm, H⟩ Q := by
 refine ⟨fun E a w ρ hE hr => ?_⟩
 obtain ⟨ss, hok, hK⟩ := h.out
 have hn : n <= l.length := by simp only [Gq, Bool.and_eq_true, decide_eq_true_eq] at hB;simpa using hB.2
 have htl : (l.take n).length = n := by simp;omega
 obtain ⟨h1, h2, h3, h4⟩ := T6 (ops := l.toArray) (tm0 := tm) (H0 := H) (tr := ss) (l.take n) ss 0 tm H (fun j hj => by rw [htl] at hj;simp [hj]) (fun j _ => by simp) hok (fun t => rfl) (fun b => rfl)
 have F : Qg P N n0 l.toArray ss tm H n := fun j hj => by
  obtain ⟨o, s, tmj, Hj, g⟩ := h2 j (by rw [htl];exact hj)
  rw [Nat.zero_add] at g
  exact ⟨o, s, tmj, Hj, g⟩
 rw [htl, Nat.zero_add] at h3 h4
 have hr' : RelSt E ⟨tm, H⟩ a { w with drawn := w.drawn + 1 } ρ := hr.below ⟨rfl, rfl, rfl, Nat.le_refl _, fun _ _ => rfl⟩
 have hrep : ∀ i, (Array.replicate l.toArray.size false).getD i false = false := fun i => getD_replicate_false _ _
 have hcnt : cnt (Array.replicate l.toArray.size false) n = n := by
  have : ∀ k, cnt (Array.replicate l.toArray.size false) k = k := fun k => by
   induction k with
   | zero => rfl
   | succ k ih => simp only [cnt, hrep, ih];simp
  exact this n
 refine wp_mono (wp_region_any hm ?_ (Q := fun e a' w' => e = .normal /\ ∃ st' ρ', Q .normal st' /\ RelSt E st' a' w' ρ')) ?_
 ·have key := Rg (ops := l.toArray) (tr := ss) (n := n) (E := E) F hB hE (Q := fun e a' w' => e = .normal /\ ∃ st' ρ', Q .normal st' /\ RelSt E st' a' w' ρ') (l := l.drop n) (fun j => by simp [List.getElem?_drop]) (by simp) (fun a w ⟨tm', H', ρ', g1, g2, g3⟩ => by
   have g4 : RelSt E ⟨Q5 (l.take n) ss tm, Tq ss H⟩ a w ρ' := (g1.weaken _ fun t x hx => by rw [g2 t, <- h3 t];exact hx).sameH fun b => by rw [h4 b, <- g3 b]
   exact hK.out E a w ρ' hE g4) n _ a { w with drawn := w.drawn + 1 } hcnt ⟨by simp, (fun j oj _ hl => by rw [hrep] at hl;cases hl), (fun t _ ht => getD_in (by simpa using ht) (hrep t))⟩ ⟨tm, H, ρ, hr', fun t => ?_, fun b => ?_⟩
  ·rw [show n + (l.toArray.size - n) = l.toArray.size by simp;omega] at key
   exact key
  ·rw [Jt (k := 0) n (by omega) fun i _ _ _ => hrep i];rfl
  ·exact (Ha n fun i _ _ _ => hrep i).symm
 ·rintro e a' w' ⟨rfl, st', ρ', g1, g2⟩
  exact ⟨st', ρ', g1, g2⟩
end
section
variable {P : Program} {N : Nat} {ops : Array Oper} {m : Option Nat} {K : Tm -> AH -> Prop} {tm tm' : Tm} {H : AH} {rest : List Oper} {ty : TypeId} {pos : String} {af : Array Edge} {d : Nat} {t e : TypeId} {x y z : Operand}
theorem S.buildA {ps : Array (Nat × Operand)} {n len : Nat} {zs : Array Value} {ys : List (Nat × AV)} {out : List AV} [hu : HasU P t (.array len e)] [hi : HasS P e n] [hz : HasZ P t (.agg zs)] (hy : Dx (evT tm) ps.toList = some ys) (ho : Gj (fun (i : Nat) => some (i * n, n)) ys (zs.toList.map Q9) = some out) (hN : Nat.ble (d + 1) N = true) (h : Reg m P N ops rest ((d, .agg out) :: tm) H K) : Reg m P N ops (⟨some d, .build t ps, ty, pos, af, none⟩ :: rest) tm H K := by
 refine S.val (OpV.mk fun L w ρ η hη hH => ?_) hN h
 obtain ⟨g1, g2⟩ := J4 (w := w) (L := L) (ρ := ρ) hy fun x hx y he => hη x (by simpa [Op.operands] using hx) y he
 have hc : H5 w L ρ (zs.toList.map Q9) zs := ⟨by simp, fun j x hx => by
  rw [List.getElem?_map] at hx
  cases e : zs.toList[j]? with
  | none => rw [e] at hx;cases hx
  | some v =>
   rw [e] at hx
   simp only [Option.map_some, Option.some.injEq] at hx
   subst hx
   exact ⟨v, by simpa using e, Ta v⟩⟩
 obtain ⟨r, h3, h4, h5⟩ := I8 ys _ _ zs out g1 g2 hc ho
 refine ⟨.agg r, ?_, ?_⟩
 ·simp only [execOp, Instr.build, Sem.run_bind, F4 hz.out, run_underlying hu.out, Result.andThen_ok, B0 hi.out, Value.cells]
  rw [h3]
  simp only [Sem.run_pure, Result.andThen_ok]
 ·have : r = r.toList.toArray := by simp
  rw [this]
  refine .agg out r.toList (by simpa using h4) fun i x v hx hv => ?_
  obtain ⟨v', h6, h7⟩ := h5 i x hx
  simp only [Array.getElem?_toList] at hv
  rw [h6] at hv
  injection hv with hv
  subst hv
  exact h7
end
end Go.Proofs.YtcbfnkgodiaiiaaGreat
