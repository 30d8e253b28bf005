/- Steps in the calculus over abstract states: functions that return a slice of the caller's own together with a plain value, and their calls. No dump. No conditions but those of each statement. -/
import Derived.Test.YtlapbaiejnaeiaaGreatDoorNx
import Derived.Laws.StructEq
set_option linter.unusedSimpArgs false
set_option linter.unusedVariables false
namespace Go.Proofs.YtlapbaiejnaeiaaGreatDoor
open Go Go.RowKit
section
variable {P : Program} {N : Nat} {ops : Array Oper} {m : Option Nat} {K : Tm -> AH -> Prop} {tm tm' : Tm} {H : AH} {rest : List Oper} {ty : TypeId} {pos : String} {af : Array Edge} {d : Nat} {t e : TypeId} {x y z : Operand}
structure FnOwnT (P : Program) (f : FuncId) (args : List AV) (rows : List (List Lf)) (n : Nat) (u : Value) : Prop where
 ent : Enters P f
 run : ∀ (L : Nat -> Prop) (w : World) (vs : List Value), Glob w -> (∀ k, L k -> k < w.heap.size) -> args.length = vs.length -> (∀ (i : Nat) (x : AV) (v : Value), args[i]? = some x -> vs[i]? = some v -> RelV w L Am x v) ->
  Calls P f vs.toArray w fun e w' => ∃ v, e = .returned (.tuple #[v, u]) /\ Below w.heap.size w w' /\
   ∃ k o c el lo hi cap, v = .slice (some ⟨k, o, none⟩) rows.length cap /\ w.heap.size <= k /\ w'.heap[k]? = some (.cells c el (lo, hi)) /\ hi <= lo /\ rows.length <= cap /\ o + cap * n <= c.size /\ ∀ (j : Nat) (x : Lf), rows.flatten[j]? = some x -> ∃ u, c[o + j]? = some u /\ RelL w' (fun i => L i \/ i = k) x u
def T7 (P : Program) (fn : Func) (rows : List (List Lf)) (n : Nat) (u : Value) (e : Exit) (st : St) : Prop := (e = .normal \/ e = .ret) /\
 ∃ b, ResL P st fn.results.toList [.own b 0 rows.length n, .val u] /\ st.H.at b = .live (rows.flatten.map .lf)
theorem FnOwnT.of {f : FuncId} {fn : Func} {c : Code} {args : List AV} {rows : List (List Lf)} {n : Nat} {u : Value} {N : Nat} (hf : P.funcs[f]? = some fn) (hnt : fn.ntmps = N) (hb : fn.body = some c) (hn : (fn.name == "runtime.NumGoroutine") = false) (hN : Nat.ble args.length N = true)
  (h : T P N c ⟨A0 0 args, []⟩ (T7 P fn rows n u)) : FnOwnT P f args rows n u := by
 subst hnt
 refine ⟨⟨fn, hf, hn, by rw [hb];rfl⟩, fun L w vs hG hL hl hv => ?_⟩
 have hN' := Nat.le_of_ble_eq_true hN
 refine calls_of_wp hf hb ?_
 let E : Env := { N := fn.ntmps, L := L, O := fun _ => False, w0 := w, good := fun w' hf => hG.below (Fr.below hf) }
 have hsz : (vs.toArray ++ Array.replicate (fn.ntmps - vs.toArray.size) undef).size = fn.ntmps := by simp;omega
 have hst : RelSt E ⟨A0 0 args, []⟩ { tmps := vs.toArray ++ Array.replicate (fn.ntmps - vs.toArray.size) undef, defers := [] } w Am := by
  refine ⟨hsz, rfl, fun t x hx => ?_, ⟨fun b _ => rfl, (fun b h => by simp [AH.at] at h), (fun b cs h => by simp [AH.at] at h), (fun b cs h => by simp [AH.at] at h), (fun b b' k o o' h => by cases h), ExtOk.nil _ _ _⟩, Fr.refl _ _, (fun b k o h => by cases h), hL⟩
  obtain ⟨_, hx⟩ := Ew _ _ _ _ hx
  rw [Nat.sub_zero] at hx
  have ht : t < args.length := (List.getElem?_eq_some_iff.1 hx).1
  refine ⟨by show t < fn.ntmps;omega, ?_⟩
  have hu : vs[t]? = some (vs[t]'(by omega)) := List.getElem?_eq_getElem _
  have : (vs.toArray ++ Array.replicate (fn.ntmps - vs.toArray.size) undef).getD t undef = vs[t]'(by omega) := by
   rw [Array.getD_eq_getD_getElem?, Array.getElem?_append_left (by simp;omega)]
   simp [hu]
  show RelV w L Am x ((vs.toArray ++ Array.replicate (fn.ntmps - vs.toArray.size) undef).getD t undef)
  rw [this]
  exact hv t x _ hx hu
 refine wp_mono (h.out E _ w Am rfl hst) ?_
 rintro e a' w' ⟨st', ρ', ⟨he, b, hx, hlive⟩, hr'⟩
 have hb' : Below w.heap.size w w' := Fr.below hr'.fr
 have fin : ∃ v, (results fn a'.tmps).run P w' = .ok (.tuple #[v, u]) w' /\
   ∃ k o c el lo hi cap, v = .slice (some ⟨k, o, none⟩) rows.length cap /\ w.heap.size <= k /\ w'.heap[k]? = some (.cells c el (lo, hi)) /\ hi <= lo /\ rows.length <= cap /\ o + cap * n <= c.size /\ ∀ (j : Nat) (x : Lf), rows.flatten[j]? = some x -> ∃ u, c[o + j]? = some u /\ RelL w' (fun i => L i \/ i = k) x u := by
  obtain ⟨us, h1, h2, h3⟩ := hx.run hr'
  have hres := F4 (fn := fn) h1
  match us, h2, h3, hres with
  | [v, u'], _, h3, hres =>
   have hu : u' = u := (h3 1 _ u' rfl rfl).val_eq
   subst hu
   have h2 := h3 0 _ v rfl rfl
   obtain ⟨k, o, c, el, lo, hi, g1, g2, g3, g4, g5, g6⟩ := hr'.H.live b _ hlive
   obtain ⟨cap, e2, n2, hveq, hc, hsh, hfit⟩ := h2.own_out k o g1
   have hk : w.heap.size <= k := by
    rcases hr'.mineO g1 with h | h
    ·exact h.elim
    ·exact h
   have hn2 : n2 = c.size := by
    rw [Ci g2] at hsh
    simp only [Option.some.injEq, Prod.mk.injEq] at hsh
    exact hsh.2.symm
   rw [Nat.add_zero] at hveq hfit
   refine ⟨v, hres, k, o, c, el, lo, hi, cap, hveq, hk, g2, g3, hc, by rw [<- hn2];exact hfit, fun j x hj => ?_⟩
   obtain ⟨v, q1, q2⟩ := g6 j (.lf x) (by rw [List.getElem?_map, hj];rfl)
   refine ⟨v, q1, q2.lf_out.less fun i hi => ?_⟩
   rcases hi with hi | hi
   ·exact .inl hi
   ·exact .inr ⟨b, o, hi ▸ g1⟩
 obtain ⟨v, h1, h2⟩ := fin
 rcases he with rfl | rfl
 ·exact ⟨hr'.defers, _, h1, v, rfl, hb', h2⟩
 ·exact ⟨hr'.defers, _, h1, v, rfl, hb', h2⟩
theorem S.callOwnT (b : Nat) {n : Nat} {f : FuncId} {xs : Array Operand} {ts : Array TypeId} {ys : List AV} {rows : List (List Lf)} {u : Value} (hp : FnOwnT P f ys rows n u) (hx : evs (evT tm) xs.toList = some ys) (ht : ys.all AV.tree = true) (hb : (H.at b).idle = true) (htm : tm.clearO b = some tm') (hH : AH.clear b 0 H = true) (hN : Nat.ble (d + 1) N = true)
  (hr : ∀ row ∈ rows, row.length = n)
  (h2 : Reg none P N ops rest ((d, .tup [.own b 0 rows.length n, .val u]) :: tm') (H.put b (.live (rows.flatten.map .lf))) K) : Reg none P N ops (⟨some d, .call ⟨.value (.func f), xs, ts⟩, ty, pos, af, none⟩ :: rest) tm H K := by
 refine ⟨fun E a w ρ hE hR => ?_⟩
 replace h2 := h2.out
 refine wpList_plain rfl fun K' hK => ?_
 have hN' := Nat.le_of_ble_eq_true hN
 obtain ⟨g1, g2⟩ := C2 _ _ hx
 have hrun : (execOp a.eval ⟨some d, .call ⟨.value (.func f), xs, ts⟩, ty, pos, af, none⟩).run P w = .ok (.enter f (xs.toList.map a.eval).toArray) w := by
  have : (execOp a.eval ⟨some d, .call ⟨.value (.func f), xs, ts⟩, ty, pos, af, none⟩).run P w = (callFunc f (#[] ++ xs.map a.eval ++ #[])).run P w := by simp [execOp, resolve, Act.eval, Deferred.ofValue, invoke]
  rw [this, hp.1.run]
  simp only [Result.ok.injEq, Next.enter.injEq, true_and, and_true]
  apply Array.ext'
  simp
 unfold Oper.wp
 rw [hrun]
 refine (hp.2 (Fb E.L ρ) w (xs.toList.map a.eval) hR.glob hR.fb_lt (by simp [<- g1]) fun i x v hx hv => ?_).mono ?_
 ·refine RelV.bare ?_ (List.all_eq_true.1 ht x (List.mem_of_getElem? hx))
  obtain ⟨z, h5, h6⟩ := g2 i x hx
  rw [List.getElem?_map, h5] at hv
  simp at hv
  subst hv
  exact hR.ev (by rw [Ah];exact h6)
 ·rintro e w' ⟨v, rfl, hbel, k, o, c, el, lo, hi, cap, rfl, hk, hw, hlo, hcap, hsz, hc⟩
  have hlen : rows.length * n <= cap * n := Nat.mul_le_mul_right _ hcap
  obtain ⟨s1, s2⟩ := hR.regrow (tm' := tm') (cells' := rows.flatten.map AV.lf) (w' := w') (k' := k) (o' := o) htm hH (HB.idle_map hb) hw hlo
   (by rw [List.length_map, Av rows hr];omega) (.inr hk) (fun k2 hk2 _ => hbel.block k2 hk2) (fun k2 x hx => (Dg (L := E.L) (ρ := ρ) hbel).shape k2 x hx) hbel.os hbel.tape hbel.output hbel.size fun hla j z hj => by
    rw [List.getElem?_map] at hj
    cases hf : rows.flatten[j]? with
    | none => rw [hf] at hj;cases hj
    | some x =>
     rw [hf] at hj
     simp only [Option.map_some, Option.some.injEq] at hj
     subst hj
     obtain ⟨u, p1, p2⟩ := hc j x hf
     refine ⟨u, p1, .lf _ _ (p2.less fun i hi => ?_)⟩
     rcases hi with hi | ⟨b', o', hi⟩
     ·exact .inl (.inl hi)
     ·unfold Pl.upd at hi
      by_cases e' : b' = b
      ·rw [if_pos e'] at hi
       simp only [Option.some.injEq, Prod.mk.injEq] at hi
       exact .inr hi.1.symm
      ·rw [if_neg e'] at hi
       exact .inl (.inr ⟨b', o', hi⟩)
  refine hK _ _ (h2 E _ w' _ hE (s2.put (by rw [hE];exact hN') (RelV.tup [.own b 0 rows.length n, .val u] [.slice (some ⟨k, o, none⟩) rows.length cap, u] rfl fun i x v hx hv => ?_)))
  match i, hx, hv with
  | 0, hx, hv => simp at hx hv;subst hx hv;exact Gl hcap (Ci hw) hsz
  | 1, hx, hv => simp at hx hv;subst hx hv;exact A5 _
end
section
variable {P : Program} {N : Nat}
end
section
variable {P : Program} {N : Nat} {ops : Array Oper} {m : Option Nat} {K : Tm -> AH -> Prop} {tm tm' : Tm} {H : AH} {rest : List Oper} {ty : TypeId} {pos : String} {af : Array Edge} {d : Nat} {t e : TypeId} {x y z : Operand}
end
end Go.Proofs.YtlapbaiejnaeiaaGreatDoor
