/- Steps in the calculus over abstract states: strings.Builder: a builder of the call's own, the calls that write and read it. No dump. No conditions but those of each statement. | Steps in the calculus over abstract states: the last look at a builder: its bytes as a string. No dump. No conditions but those of each statement. -/
import Derived.Test.YtfchdagalklgpaaGreatDoorMw
set_option linter.unusedSimpArgs false
namespace Go.Proofs.YtfchdagalklgpaaGreatDoor
set_option linter.unusedVariables false
open Go Go.RowKit
/-- A strings.Builder at block k that holds the bytes s. -/
def BAt (w : World) (T e : TypeId) (k : Nat) (p v : Value) (s : List Value) : Prop :=
  w.heap[k]? = some (.cells #[p, v] T (0, 0)) ∧ (p = .pointer none ∨ p = .pointer (some ⟨k, 0, none⟩)) ∧ w.ownsRowF 0 e 1 v s.length s ∧ v.ownBlock ≠ some k
theorem BAt.f {w : World} {T e : TypeId} {k : Nat} {p v : Value} {s : List Value} (h : BAt w T e k p v s) : Lib.IsBuilderF T e 0 k s w := by
  obtain ⟨h1, h2, h3, h4⟩ := h
  rcases h2 with rfl | rfl
  · exact .inl ⟨Nat.zero_le _, v, h1, h3, h4⟩
  · exact .inr ⟨Nat.zero_le _, v, h1, h3, h4⟩
/-- A function that takes a builder, and more, and leaves other bytes in it. -/
structure FnBld (P : Program) (T e : TypeId) (f : FuncId) (zs : List AV) (s s' : List Value) (r : AV) : Prop where
  ent : Enters P f
  run : ∀ (L : Nat → Prop) (w : World) (k : Nat) (p v : Value) (vs : List Value), Glob w → (∀ j, L j → j < w.heap.size) → zs.length = vs.length → (∀ (i : Nat) (x : AV) (u : Value), zs[i]? = some x → vs[i]? = some u → RelV w L noPl x u) → BAt w T e k p v s →
    Calls P f (.pointer (some ⟨k, 0, none⟩) :: vs).toArray w fun e' w' => ∃ u, e' = .returned u ∧ RelV w' L noPl r u ∧ (∃ p' v', BAt w' T e k p' v' s' ∧ ∀ g, v'.ownBlock = some g → v.ownBlock = some g ∨ w.heap.size ≤ g) ∧ Fr (fun j => j = k ∨ v.ownBlock = some j) w w'
/-- The builder's bytes, and its buffer's place, turn. -/
def turnPl (ρ : Pl) (b2 : Nat) (v : Value) : Pl := fun x => if x = b2 then (match v.ownBlock with | some g => some (some (g, 0)) | none => ρ b2) else ρ x
theorem RelSt.bldTurn {E : Env} {tm tm' : Tm} {H : AH} {a : Act} {w : World} {ρ : Pl} (h : RelSt E ⟨tm, H⟩ a w ρ) {T e : TypeId} {b b2 : Nat} {s s' : List Value} (hb : H.at b = .bld T e b2 s) (htm : tm.clearO b2 = some tm') (hH : AH.clear b2 0 H = true) {k : Nat} {v p' v' : Value} {w' : World}
    (g1 : ρ b = some (some (k, 0))) (g2 : ¬ E.L k) (g7 : ∀ g, v.ownBlock = some g → ρ b2 = some (some (g, 0)) ∧ ¬ E.L g) (hB : BAt w' T e k p' v' s') (hg : ∀ g, v'.ownBlock = some g → v.ownBlock = some g ∨ w.heap.size ≤ g) (hF : Fr (fun j => j = k ∨ v.ownBlock = some j) w w') :
    RelSt E ⟨tm', H.put b (.bld T e b2 s')⟩ a w' (turnPl ρ b2 v') := by
  have hhid := (h.H.ext.bld b T e b2 s hb).1
  have hbb : b ≠ b2 := by
    rintro rfl
    rw [hb] at hhid
    cases hhid
  have hρ : ∀ x, x ≠ b2 → turnPl ρ b2 v' x = ρ x := fun x hx => by unfold turnPl; rw [if_neg hx]
  have hρ2 : ∀ g o, turnPl ρ b2 v' b2 = some (some (g, o)) → ρ b2 = some (some (g, o)) ∨ (w.heap.size ≤ g ∧ v'.ownBlock = some g) := fun g o hh => by
    unfold turnPl at hh
    rw [if_pos rfl] at hh
    split at hh
    · rename_i g' hv
      simp only [Option.some.injEq, Prod.mk.injEq] at hh
      obtain ⟨rfl, rfl⟩ := hh
      rcases hg _ hv with hh | hh
      · exact .inl (g7 _ hh).1
      · exact .inr ⟨hh, hv⟩
    · exact .inl hh
  have hput : ∀ x, x ≠ b → (H.put b (.bld T e b2 s')).at x = H.at x := fun x hx => by rw [AH.at_put, if_neg hx]
  have hblk : ∀ {x j o : Nat}, x ≠ b → x ≠ b2 → ρ x = some (some (j, o)) → w'.heap[j]? = w.heap[j]? := fun {x j o} h1 h2 h3 => by
    refine hF.block j (h.H.lt h3) ?_
    rintro (rfl | hh)
    · exact h1 (h.H.dist _ _ _ _ _ h3 g1)
    · exact h2 (h.H.dist _ _ _ _ _ h3 (g7 _ hh).1)
  have hla : LaterX b2 E.L w ρ w' (turnPl ρ b2 v') := by
    refine ⟨hρ, fun j o u h1 h2 => ⟨?_, ?_⟩, hF.shape⟩
    · have hbl := hF.block j (cell_lt h2) (by
        rintro (rfl | hh)
        · exact h1 (.inr ⟨b, 0, g1⟩)
        · exact h1 (.inr ⟨b2, 0, (g7 _ hh).1⟩))
      rw [World.cell?_of_block (w := w) hbl]
      exact h2
    · rintro (hf | ⟨x, o', hf⟩)
      · exact h1 (.inl hf)
      · by_cases hx : x = b2
        · subst hx
          rcases hρ2 j o' hf with hh | ⟨hh, _⟩
          · exact h1 (.inr ⟨x, o', hh⟩)
          · have := cell_lt h2
            omega
        · rw [hρ x hx] at hf
          exact h1 (.inr ⟨x, o', hf⟩)
  refine ⟨h.size, h.defers, fun t x hx => ?_, ⟨fun x hx => ?_, fun x hx => ?_, fun x cs hx => ?_, fun x es hx => ?_, fun x y j o o' h1 h2 => ?_, ⟨fun x T' e' b3 s'' hx => ?_, fun x hx => ?_, fun x y T1 e1 T2 e2 b3 s1 s2 h1 h2 => ?_, fun x k1 o1 cs1 hx => ?_⟩⟩, ?_, fun x j o h1 => ?_, h.lim⟩
  · obtain ⟨h1, h2⟩ := Tm.get_clearO _ _ _ htm t x hx
    obtain ⟨h3, h4⟩ := h.tm t x h1
    exact ⟨h3, h4.laterX hla h2⟩
  · by_cases e1 : x = b
    · subst e1; rw [AH.at_put, if_pos rfl] at hx; cases hx
    · rw [hput x e1] at hx
      rw [hρ x (fun e2 => by rw [e2, hhid] at hx; cases hx)]
      exact h.H.free x hx
  · by_cases e1 : x = b
    · subst e1; rw [AH.at_put, if_pos rfl] at hx; cases hx
    · rw [hput x e1] at hx
      rw [hρ x (fun e2 => by rw [e2, hhid] at hx; cases hx)]
      exact h.H.dead x hx
  · by_cases e1 : x = b
    · subst e1; rw [AH.at_put, if_pos rfl] at hx; cases hx
    · rw [hput x e1] at hx
      have e2 : x ≠ b2 := fun e2 => by rw [e2, hhid] at hx; cases hx
      obtain ⟨k0, o0, c, el, lo0, hi0, f1, f2, f3, f4, f5, f6⟩ := h.H.live x cs hx
      refine ⟨k0, o0, c, el, lo0, hi0, (hρ x e2).trans f1, by rw [hblk e1 e2 f1]; exact f2, f3, f4, f5, fun j y hj => ?_⟩
      obtain ⟨u, q1, q2⟩ := f6 j y hj
      have hcl := AH.clear_at H 0 x cs hH hx (by omega)
      exact ⟨u, q1, q2.laterX hla (List.all_eq_true.1 hcl y (List.mem_of_getElem? hj))⟩
  · by_cases e1 : x = b
    · subst e1; rw [AH.at_put, if_pos rfl] at hx; cases hx
    · rw [hput x e1] at hx
      have e2 : x ≠ b2 := fun e2 => by rw [e2, hhid] at hx; cases hx
      obtain ⟨k0, entries, clock, f1, f2, f3, f4⟩ := h.H.map x es hx
      exact ⟨k0, entries, clock, (hρ x e2).trans f1, by rw [hblk e1 e2 f1]; exact f2, f3, f4⟩
  · by_cases e1 : x = b2 <;> by_cases e2 : y = b2
    · rw [e1, e2]
    · subst e1
      rw [hρ y e2] at h2
      rcases hρ2 j o h1 with hh | ⟨hh, _⟩
      · exact h.H.dist _ _ _ _ _ hh h2
      · have := h.H.lt h2
        omega
    · subst e2
      rw [hρ x e1] at h1
      rcases hρ2 j o' h2 with hh | ⟨hh, _⟩
      · exact h.H.dist _ _ _ _ _ h1 hh
      · have := h.H.lt h1
        omega
    · rw [hρ x e1] at h1
      rw [hρ y e2] at h2
      exact h.H.dist _ _ _ _ _ h1 h2
  · by_cases e1 : x = b
    · subst e1
      rw [AH.at_put, if_pos rfl] at hx
      simp only [HB.bld.injEq] at hx
      obtain ⟨rfl, rfl, rfl, rfl⟩ := hx
      refine ⟨by rw [hput b2 (Ne.symm hbb)]; exact hhid, k, p', v', (hρ x hbb).trans g1, g2, hB.1, hB.2.1, hB.2.2.1, hB.2.2.2, fun g hv => ⟨by unfold turnPl; rw [if_pos rfl, hv], fun hL => ?_⟩⟩
      rcases hg g hv with hh | hh
      · exact (g7 g hh).2 hL
      · have := h.lim _ hL
        have := h.fr.size
        omega
    · rw [hput x e1] at hx
      obtain ⟨f1, f2⟩ := h.H.ext.bld x T' e' b3 s'' hx
      have e2 : x ≠ b2 := fun e2 => by rw [e2, hhid] at hx; cases hx
      have e3 : b3 ≠ b2 := fun e3 => e1 (h.H.ext.one x b T' e' T e b2 s'' s (e3 ▸ hx) hb)
      have e4 : b3 ≠ b := fun e4 => by rw [e4, hb] at f1; cases f1
      refine ⟨by rw [hput b3 e4]; exact f1, f2.move (hρ x e2) (hρ b3 e3) fun y j o hy hj => ?_⟩
      rcases hy with rfl | rfl
      · exact hblk e1 e2 hj
      · exact hblk e4 e3 hj
  · have e1 : x ≠ b := fun e1 => by subst e1; rw [AH.at_put, if_pos rfl] at hx; cases hx
    rw [hput x e1] at hx
    obtain ⟨f1, f2⟩ := h.H.ext.hid x hx
    by_cases e2 : x = b2
    · subst e2
      refine ⟨?_, fun j o hj => ?_⟩
      · unfold turnPl
        rw [if_pos rfl]
        split
        · simp
        · exact f1
      · rcases hρ2 j o hj with hh | ⟨_, hv⟩
        · exact Nat.lt_of_lt_of_le (f2 j o hh) hF.size
        · rcases hB.2.2.1.2 with ⟨hn, _⟩ | ⟨g, cap, cur, fz, hn, _, hgg, _⟩
          · rw [hn] at hv; simp [Value.ownBlock] at hv
          · rw [hn] at hv
            simp only [Value.ownBlock, Option.some.injEq] at hv
            subst hv
            exact heap_lt hgg
    · rw [hρ x e2]
      exact ⟨f1, fun j o hj => Nat.lt_of_lt_of_le (f2 j o hj) hF.size⟩
  · have hat : ∀ {x T' e' s''}, (H.put b (.bld T e b2 s')).at x = .bld T' e' b3 s'' → ∃ T' e' s'', H.at x = .bld T' e' b3 s'' := fun {x T' e' s''} hh => by
      rw [AH.at_put] at hh
      split at hh
      · rename_i hx
        simp only [HB.bld.injEq] at hh
        obtain ⟨rfl, rfl, rfl, rfl⟩ := hh
        exact ⟨_, _, _, hx ▸ hb⟩
      · exact ⟨_, _, _, hh⟩
    obtain ⟨_, _, _, q1⟩ := hat h1
    obtain ⟨_, _, _, q2⟩ := hat h2
    exact h.H.ext.one _ _ _ _ _ _ _ _ _ q1 q2
  · have e1 : x ≠ b := fun e1 => by subst e1; rw [AH.at_put, if_pos rfl] at hx; cases hx
    rw [hput x e1] at hx
    have e2 : x ≠ b2 := fun e2 => by rw [e2, hhid] at hx; cases hx
    exact (h.H.ext.hot x k1 o1 cs1 hx).move (hρ x e2) hla.cell fun k o hk => hblk e1 e2 hk
  · refine h.fr.trans (hF.mono fun j hj hh => ?_)
    rcases hh with rfl | hh
    · exact h.mineO g1
    · exact h.mineO (g7 _ hh).1
  · have key : ∀ {j o}, ρ x = some (some (j, o)) → (E.O j ∧ ((H.put b (.bld T e b2 s')).at x).isExt = false) ∨ E.w0.heap.size ≤ j := fun {j o} hh => (h.mine x _ _ hh).imp_left fun ⟨p1, p2⟩ => ⟨p1, by
      rw [AH.at_put]
      split
      · rename_i e1
        subst e1
        simp only [hb] at p2
        cases p2
      · exact p2⟩
    by_cases e1 : x = b2
    · subst e1
      rcases hρ2 j o h1 with hh | ⟨hh, _⟩
      · exact key hh
      · have := h.fr.size
        exact .inr (by omega)
    · rw [hρ x e1] at h1
      exact key h1
section
variable {P : Program} {N : Nat} {ops : Array Oper} {m : Option Nat} {K : Tm → AH → Prop} {tm tm' : Tm} {H : AH} {rest : List Oper} {ty : TypeId} {pos : String} {af : Array Edge} {d : Nat} {t e : TypeId} {x y z : Operand}
theorem evs_cons {ev : Operand → Option AV} {x : Operand} {xs : List Operand} {y : AV} {ys : List AV} (h : evs ev (x :: xs) = some (y :: ys)) : ev x = some y ∧ evs ev xs = some ys := by
  simp only [evs] at h
  cases e1 : ev x with
  | none => simp [e1] at h
  | some y' =>
    cases e2 : evs ev xs with
    | none => simp [e1, e2] at h
    | some ys' =>
      simp only [e1, e2, Option.some.injEq, List.cons.injEq] at h
      exact ⟨by rw [h.1], by rw [h.2]⟩
theorem bld_wp {b b2 : Nat} {f : FuncId} {xs : List Operand} {ts : Array TypeId} {ys zs : List AV} {s s' : List Value} {r : AV} {T : TypeId} {dst : Option Nat} {E : Env} {a : Act} {w : World} {ρ : Pl} {K' : Act → World → Prop} {Q : Exit → Act → World → Prop} (hR : RelSt E ⟨tm, H⟩ a w ρ)
    (hp : FnBld P T e f zs s s' r) (hx0 : evT tm x = some (.ptr b 0)) (hx : evs (evT tm) xs = some ys) (hb : H.at b = .bld T e b2 s) (hz : Out2L H ys zs) (hr : r.plain = true) (htm : tm.clearO b2 = some tm') (hH : AH.clear b2 0 H = true)
    (hK : ∀ w' ρ' u, RelSt E ⟨tm', H.put b (.bld T e b2 s')⟩ a w' ρ' → RelV w' E.L ρ' r u → K' (a.put dst u) w') : Oper.wp P ⟨dst, .call ⟨.value (.func f), (x :: xs).toArray, ts⟩, ty, pos, af, none⟩ a w K' Q := by
  obtain ⟨g1, g2⟩ := evs_spec _ _ hx
  obtain ⟨hhid, k, p, v, q1, q2, q3, q4, q5, q6, q7⟩ := hR.H.ext.bld b T e b2 s hb
  have hxv : a.eval x = .pointer (some ⟨k, 0, none⟩) := by
    have := (hR.ev (by rw [ev_evT]; exact hx0)).ptr_out k 0 q1
    simpa using this
  have hrun : (execOp a.eval ⟨dst, .call ⟨.value (.func f), (x :: xs).toArray, ts⟩, ty, pos, af, none⟩).run P w = .ok (.enter f (.pointer (some ⟨k, 0, none⟩) :: xs.map a.eval).toArray) w := by
    have : (execOp a.eval ⟨dst, .call ⟨.value (.func f), (x :: xs).toArray, ts⟩, ty, pos, af, none⟩).run P w = (callFunc f (#[] ++ (x :: xs).toArray.map a.eval ++ #[])).run P w := by simp [execOp, resolve, Act.eval, Deferred.ofValue, invoke]
    rw [this, hp.ent.run]
    simp only [Result.ok.injEq, Next.enter.injEq, true_and, and_true]
    apply Array.ext'
    simp [hxv]
  obtain ⟨k1, k2⟩ := hz.at
  unfold Oper.wp
  rw [hrun]
  refine (hp.run E.L w k p v (xs.map a.eval) hR.glob (fun j hj => hR.fb_lt j (.inl hj)) (by rw [List.length_map, ← k1]; exact g1.symm) (fun i y u hy hu => ?_) ⟨q3, q4, q5, q6⟩).mono ?_
  · obtain ⟨y', h3, h4⟩ := k2 i y hy
    obtain ⟨z, h5, h6⟩ := g2 i y' h3
    rw [List.getElem?_map, h5] at hu
    simp at hu
    subst hu
    exact h4.rel hR.H (hR.ev (by rw [ev_evT]; exact h6))
  · rintro e' w' ⟨u, rfl, hu, ⟨p', v', hB, hg⟩, hF⟩
    exact hK w' _ u (hR.bldTurn hb htm hH q1 q2 q7 hB hg hF) (hu.plain hr)
/-- A call that writes, or reads, a builder. -/
theorem S.callBld {b b2 : Nat} {f : FuncId} {xs : List Operand} {ts : Array TypeId} {ys zs : List AV} {s s' : List Value} {r : AV} {T : TypeId}
    (hp : FnBld P T e f zs s s' r) (hx0 : evT tm x = some (.ptr b 0)) (hx : evs (evT tm) xs = some ys) (hb : H.at b = .bld T e b2 s) (hz : Out2L H ys zs) (hr : r.plain = true) (htm : tm.clearO b2 = some tm') (hH : AH.clear b2 0 H = true) (hN : Nat.ble (d + 1) N = true)
    (h : Reg none P N ops rest ((d, r) :: tm') (H.put b (.bld T e b2 s')) K) : Reg none P N ops (⟨some d, .call ⟨.value (.func f), (x :: xs).toArray, ts⟩, ty, pos, af, none⟩ :: rest) tm H K := by
  refine ⟨fun E a w ρ hE hR => ?_⟩
  replace h := h.out
  refine wpList_plain rfl fun K' hK => ?_
  exact bld_wp hR hp hx0 hx hb hz hr htm hH fun w' ρ' u s2 hu => hK _ _ (h E _ w' ρ' hE (s2.put (by rw [hE]; exact Nat.le_of_ble_eq_true hN) hu))
/-- A new builder. -/
theorem S.allocB {b : Nat} [hz : HasZ P t (.agg #[.pointer none, .slice none 0 0])] (ue : TypeId) (hb : H.nextId = some b) (hN : Nat.ble (d + 1) N = true) (h : Reg none P N ops rest ((d, .ptr b 0) :: tm) ((H.put b (.bld t ue (b + 1) [])).put (b + 1) .hid) K) : Reg none P N ops (⟨some d, .alloc t, ty, pos, af, none⟩ :: rest) tm H K := by
  refine ⟨fun E a w ρ hE hR => ?_⟩
  replace h := h.out
  refine wpList_plain rfl fun K' hK => ?_
  have hlen := nextId_spec hb
  have hf : H.at b = .free := by subst hlen; exact AH.at_len H
  have hf2 : H.at (b + 1) = .free := by subst hlen; simp [AH.at]
  have hrun : (execOp a.eval ⟨some d, .alloc t, ty, pos, af, none⟩).run P w = .ok (.value (.pointer (some ⟨w.heap.size, 0, none⟩))) (w.alloc (.cells #[.pointer none, .slice none 0 0] t)) := by
    simp only [execOp, Instr.alloc, Sem.run_bind, zero_run hz.out, newVar_run, Result.andThen_ok, Sem.run_pure]
    rfl
  obtain ⟨s1, s2⟩ := hR.alloc (b := b) hf [] #[.pointer none, .slice none 0 0] t (by simp) (fun j x hj => by simp at hj)
  have hne : ∀ {x : Nat}, x ≠ b → x ≠ b + 1 → ((H.put b (.bld t ue (b + 1) [])).put (b + 1) .hid).at x = H.at x := fun {x} h1 h2 => by rw [AH.at_put, if_neg h2, AH.at_put, if_neg h1]
  have hne' : ∀ {x : Nat}, x ≠ b → (H.put b (.live [])).at x = H.at x := fun {x} h1 => by rw [AH.at_put, if_neg h1]
  have hb1 : b ≠ b + 1 := by omega
  have hρ : ∀ {x : Nat}, x ≠ b + 1 → ((ρ.upd b (some (w.heap.size, 0))).upd (b + 1) none) x = (ρ.upd b (some (w.heap.size, 0))) x := fun {x} hx => by show (if x = b + 1 then _ else _) = _; rw [if_neg hx]
  have hρ1 : ((ρ.upd b (some (w.heap.size, 0))).upd (b + 1) none) (b + 1) = some none := by show (if b + 1 = b + 1 then _ else _) = _; rw [if_pos rfl]
  have hρb : (ρ.upd b (some (w.heap.size, 0))) b = some (some (w.heap.size, 0)) := by show (if b = b then _ else _) = _; rw [if_pos rfl]
  have hfree : (ρ.upd b (some (w.heap.size, 0))) (b + 1) = none := s1.H.free (b + 1) (by show (H.put b (.live [])).at (b + 1) = .free; rw [hne' (by omega)]; exact hf2)
  have hla : Later E.L (w.alloc (.cells #[.pointer none, .slice none 0 0] t)) (ρ.upd b (some (w.heap.size, 0))) (w.alloc (.cells #[.pointer none, .slice none 0 0] t)) ((ρ.upd b (some (w.heap.size, 0))).upd (b + 1) none) := by
    refine ⟨fun x hx => .inl (hρ fun e => hx (by rw [e]; exact hfree)), fun k o u h1 h2 => ⟨h2, ?_⟩, fun _ _ hx => hx⟩
    rintro (hf | ⟨x, o', hf⟩)
    · exact h1 (.inl hf)
    · by_cases e1 : x = b + 1
      · rw [e1, hρ1] at hf; cases hf
      · rw [hρ e1] at hf; exact h1 (.inr ⟨x, o', hf⟩)
  have hs : ∀ {x k o}, ((ρ.upd b (some (w.heap.size, 0))).upd (b + 1) none) x = some (some (k, o)) → (ρ.upd b (some (w.heap.size, 0))) x = some (some (k, o)) := fun {x k o} hk => by
    by_cases e1 : x = b + 1
    · rw [e1, hρ1] at hk; cases hk
    · rw [hρ e1] at hk; exact hk
  have hlim : ¬ E.L w.heap.size := fun hL => by have := hR.lim _ hL; have := hR.fr.size; omega
  have s3 : RelSt E ⟨tm, (H.put b (.bld t ue (b + 1) [])).put (b + 1) .hid⟩ a (w.alloc (.cells #[.pointer none, .slice none 0 0] t)) ((ρ.upd b (some (w.heap.size, 0))).upd (b + 1) none) := by
    refine s1.move hla ⟨fun x hx => ?_, fun x hx => ?_, fun x cs hx => ?_, fun x es hx => ?_, fun x y k o o' h1 h2 => s1.H.dist _ _ _ _ _ (hs h1) (hs h2), ⟨fun x T e' b3 s'' hx => ?_, fun x hx => ?_, fun x y T1 e1 T2 e2 b3 s1' s2' h1 h2 => ?_, fun x k1 o1 cs1 hx => ?_⟩⟩ (Fr.refl _ _) fun x k o hk => ?_
    · by_cases e1 : x = b + 1
      · subst e1; rw [AH.at_put, if_pos rfl] at hx; cases hx
      · by_cases e2 : x = b
        · subst e2; rw [AH.at_put, if_neg e1, AH.at_put, if_pos rfl] at hx; cases hx
        · rw [hne e2 e1] at hx; rw [hρ e1]; exact s1.H.free x ((hne' e2).trans hx)
    · by_cases e1 : x = b + 1
      · subst e1; rw [AH.at_put, if_pos rfl] at hx; cases hx
      · by_cases e2 : x = b
        · subst e2; rw [AH.at_put, if_neg e1, AH.at_put, if_pos rfl] at hx; cases hx
        · rw [hne e2 e1] at hx; rw [hρ e1]; exact s1.H.dead x ((hne' e2).trans hx)
    · by_cases e1 : x = b + 1
      · subst e1; rw [AH.at_put, if_pos rfl] at hx; cases hx
      · by_cases e2 : x = b
        · subst e2; rw [AH.at_put, if_neg e1, AH.at_put, if_pos rfl] at hx; cases hx
        · rw [hne e2 e1] at hx
          obtain ⟨k, o, c, el, lo, hi, f1, f2, f3, f4, f5, f6⟩ := s1.H.live x cs ((hne' e2).trans hx)
          refine ⟨k, o, c, el, lo, hi, (hρ e1).trans f1, f2, f3, f4, f5, fun j y hj => ?_⟩
          obtain ⟨v, q1, q2⟩ := f6 j y hj
          exact ⟨v, q1, q2.later hla⟩
    · by_cases e1 : x = b + 1
      · subst e1; rw [AH.at_put, if_pos rfl] at hx; cases hx
      · by_cases e2 : x = b
        · subst e2; rw [AH.at_put, if_neg e1, AH.at_put, if_pos rfl] at hx; cases hx
        · rw [hne e2 e1] at hx
          obtain ⟨k, entries, clock, f1, f2, f3, f4⟩ := s1.H.map x es ((hne' e2).trans hx)
          exact ⟨k, entries, clock, (hρ e1).trans f1, f2, f3, f4⟩
    · by_cases e1 : x = b + 1
      · subst e1; rw [AH.at_put, if_pos rfl] at hx; cases hx
      · by_cases e2 : x = b
        · subst e2
          rw [AH.at_put, if_neg e1, AH.at_put, if_pos rfl] at hx
          simp only [HB.bld.injEq] at hx
          obtain ⟨rfl, rfl, rfl, rfl⟩ := hx
          exact ⟨by rw [AH.at_put, if_pos rfl], w.heap.size, .pointer none, .slice none 0 0, (hρ e1).trans hρb, hlim, heap_alloc_eq _ _, .inl rfl, ⟨rfl, .inl ⟨rfl, rfl⟩⟩, by simp [Value.ownBlock], fun g hg => by simp [Value.ownBlock] at hg⟩
        · rw [hne e2 e1] at hx
          obtain ⟨f1, f2⟩ := s1.H.ext.bld x T e' b3 s'' ((hne' e2).trans hx)
          have e3 : b3 ≠ b := fun e3 => by
            rw [e3] at f1
            have : (H.put b (.live [])).at b = .hid := f1
            rw [AH.at_put, if_pos rfl] at this
            cases this
          have e4 : b3 ≠ b + 1 := fun e4 => by
            rw [e4] at f1
            have : (H.put b (.live [])).at (b + 1) = .hid := f1
            rw [hne' (by omega), hf2] at this
            cases this
          exact ⟨by rw [hne e3 e4]; exact (hne' e3).symm.trans f1, f2.move (hρ e1) (hρ e4) fun _ _ _ _ _ => rfl⟩
    · by_cases e1 : x = b + 1
      · subst e1; rw [hρ1]; exact ⟨by simp, fun k o hk => by cases hk⟩
      · by_cases e2 : x = b
        · subst e2; rw [AH.at_put, if_neg e1, AH.at_put, if_pos rfl] at hx; cases hx
        · rw [hne e2 e1] at hx
          rw [hρ e1]
          exact s1.H.ext.hid x ((hne' e2).trans hx)
    · have hat : ∀ {x T' e' s''}, ((H.put b (.bld t ue (b + 1) [])).put (b + 1) .hid).at x = .bld T' e' b3 s'' → (x = b ∧ b3 = b + 1) ∨ (H.at x = .bld T' e' b3 s'' ∧ x ≠ b) := fun {x T' e' s''} hh => by
        by_cases e1 : x = b + 1
        · subst e1; rw [AH.at_put, if_pos rfl] at hh; cases hh
        · by_cases e2 : x = b
          · subst e2
            rw [AH.at_put, if_neg e1, AH.at_put, if_pos rfl] at hh
            simp only [HB.bld.injEq] at hh
            exact .inl ⟨rfl, hh.2.2.1.symm⟩
          · exact .inr ⟨(hne e2 e1).symm.trans hh, e2⟩
      have hno : ∀ {x T' e' s''}, H.at x = .bld T' e' (b + 1) s'' → False := fun {x T' e' s''} hh => by
        have := (hR.H.ext.bld x T' e' (b + 1) s'' hh).1
        have h2 : H.at (b + 1) = .hid := this
        rw [hf2] at h2
        cases h2
      rcases hat h1 with ⟨q1, q2⟩ | ⟨q1, q2⟩ <;> rcases hat h2 with ⟨q3, q4⟩ | ⟨q3, q4⟩
      · rw [q1, q3]
      · subst q2; exact (hno q3).elim
      · subst q4; exact (hno q1).elim
      · exact hR.H.ext.one _ _ _ _ _ _ _ _ _ q1 q3
    · by_cases e1 : x = b + 1
      · subst e1; rw [AH.at_put, if_pos rfl] at hx; cases hx
      · by_cases e2 : x = b
        · subst e2; rw [AH.at_put, if_neg e1, AH.at_put, if_pos rfl] at hx; cases hx
        · rw [hne e2 e1] at hx
          exact (s1.H.ext.hot x k1 o1 cs1 ((hne' e2).trans hx)).move (hρ e1) hla.cell fun _ _ _ => rfl
    · by_cases e1 : x = b + 1
      · rw [e1, hρ1] at hk; cases hk
      · by_cases e2 : x = b
        · rw [e2, hρ hb1, hρb] at hk
          simp only [Option.some.injEq, Prod.mk.injEq] at hk
          have := hR.fr.size
          exact .inr (by omega)
        · have := s1.mine x k o (hs hk)
          rw [hne e2 e1]
          rw [show (({ tm := tm, H := H.put b (.live []) } : St).H.at x) = H.at x from hne' e2] at this
          exact this
  unfold Oper.wp
  rw [hrun]
  exact hK _ _ (h E _ _ _ hE (s3.put (by rw [hE]; exact Nat.le_of_ble_eq_true hN) (s2.later hla)))
end
end Go.Proofs.YtfchdagalklgpaaGreatDoor
set_option linter.unusedSimpArgs false
namespace Go.Proofs.YtfchdagalklgpaaGreatDoor
set_option linter.unusedVariables false
open Go Go.RowKit
/-- A function that reads a builder; the builder's own memory may turn. -/
structure FnRead (P : Program) (T e : TypeId) (f : FuncId) (s : List Value) (u : Value) : Prop where
  ent : Enters P f
  run : ∀ (w : World) (k B : Nat), Lib.IsBuilderF T e B k s w → B ≤ w.heap.size → Calls P f #[.pointer (some ⟨k, 0, none⟩)] w fun e' w' => e' = .returned u ∧ Below B w w'
section
variable {P : Program} {N : Nat} {ops : Array Oper} {K : Tm → AH → Prop} {tm : Tm} {H : AH} {rest : List Oper} {ty : TypeId} {pos : String} {af : Array Edge} {d : Nat} {x : Operand}
theorem S.endBld {b b2 : Nat} {f : FuncId} {ts : Array TypeId} {s : List Value} {u : Value} {T e : TypeId} (hp : FnRead P T e f s u) (hx : evT tm x = some (.ptr b 0)) (hb : H.at b = .bld T e b2 s) (hN : Nat.ble (d + 1) N = true)
    (h : Reg none P N ops rest [(d, .val u)] [] K) : Reg none P N ops (⟨some d, .call ⟨.value (.func f), #[x], ts⟩, ty, pos, af, none⟩ :: rest) tm H K := by
  refine ⟨fun E a w ρ hE hR => ?_⟩
  replace h := h.out
  refine wpList_plain rfl fun K' hK => ?_
  obtain ⟨hhid, k, p, v, q1, q2, q3, q4, q5, q6, q7⟩ := hR.H.ext.bld b T e b2 s hb
  have hxv : a.eval x = .pointer (some ⟨k, 0, none⟩) := by
    have := (hR.ev (by rw [ev_evT]; exact hx)).ptr_out k 0 q1
    simpa using this
  have hrun : (execOp a.eval ⟨some d, .call ⟨.value (.func f), #[x], ts⟩, ty, pos, af, none⟩).run P w = .ok (.enter f #[.pointer (some ⟨k, 0, none⟩)]) w := by
    have : (execOp a.eval ⟨some d, .call ⟨.value (.func f), #[x], ts⟩, ty, pos, af, none⟩).run P w = (callFunc f (#[] ++ #[x].map a.eval ++ #[])).run P w := by simp [execOp, resolve, Act.eval, Deferred.ofValue, invoke]
    rw [this, hp.ent.run]
    simp [hxv]
  have hge : ∀ {b' j o}, (H.at b').isExt = true → ρ b' = some (some (j, o)) → E.w0.heap.size ≤ j := fun {b' j o} hx hj => (hR.mine b' j o hj).resolve_left fun h => by have := h.2; rw [hx] at this; cases this
  have hB : Lib.IsBuilderF T e E.w0.heap.size k s w := by
    have hown : w.ownsRowF E.w0.heap.size e 1 v s.length s := by
      refine ⟨q5.1, ?_⟩
      rcases q5.2 with hh | ⟨g, cap, cur, fz, e1, e2, e3⟩
      · exact .inl hh
      · exact .inr ⟨g, cap, cur, fz, e1, hge (by rw [hhid]; rfl) (q7 g (by rw [e1]; rfl)).1, e3⟩
    rcases q4 with rfl | rfl
    · exact .inl ⟨hge (by rw [hb]; rfl) q1, v, q3, hown, q6⟩
    · exact .inr ⟨hge (by rw [hb]; rfl) q1, v, q3, hown, q6⟩
  unfold Oper.wp
  rw [hrun]
  refine (hp.run w k E.w0.heap.size hB hR.fr.size).mono ?_
  rintro e' w' ⟨rfl, hbel⟩
  refine hK _ _ (h E _ w' noPl hE ?_)
  have hs : RelSt E ⟨[], []⟩ a w' noPl := ⟨hR.size, hR.defers, (fun t x hx => by cases hx), ⟨fun _ _ => rfl, (fun b h => by simp [AH.at] at h), (fun b cs h => by simp [AH.at] at h), (fun b es h => by simp [AH.at] at h), (fun b b' k o o' h => by cases h), ExtOk.nil _ _ _⟩,
    ⟨hbel.os.trans hR.fr.os, hbel.tape.trans hR.fr.tape, hbel.output.trans hR.fr.output, Nat.le_trans hR.fr.size hbel.size, fun j hj hn => (hbel.block j hj).trans (hR.fr.block j hj hn), fun j x hx => by
      rw [shape_of_block (hbel.block j (shape_lt hx))]
      exact hR.fr.shape j x hx⟩, (fun b k o h => by cases h), hR.lim⟩
  exact hs.put (by rw [hE]; exact Nat.le_of_ble_eq_true hN) (relV_val u)
end
section
variable {P : Program} {N : Nat} {ops : Array Oper} {m : Option Nat} {K : Tm → AH → Prop} {tm : Tm} {H : AH} {rest : List Oper} {ty : TypeId} {pos : String} {af : Array Edge} {d : Nat} {t u : TypeId} {x y : Operand}
/-- '+' on strings. -/
theorem S.strAdd {a b : ByteArray} (hx : evT tm x = some (.val (.string a))) (hy : evT tm y = some (.val (.string b))) (hN : Nat.ble (d + 1) N = true) (hl : a.size + b.size ≤ 9223372036854775807) (h : Reg m P N ops rest ((d, .val (.string (a ++ b))) :: tm) H K) : Reg m P N ops (⟨some d, .binOp .add t x y u, ty, pos, af, none⟩ :: rest) tm H K := by
  refine S.val (OpV.mk fun L w ρ η hη _ => ?_) hN h
  have h1 := (hη x (by simp [Op.operands]) _ hx).val_eq
  have h2 := (hη y (by simp [Op.operands]) _ hy).val_eq
  have h3 : ¬ (((a.size + b.size : Nat) : Int) > IntKind.i64.max) := by
    have : IntKind.i64.max = 9223372036854775807 := rfl
    omega
  exact ⟨_, by simp only [execOp, h1, h2, eqGuard, binOp, Op.stringOp, if_neg h3, Sem.run_bind, Sem.run_pure, Result.andThen_ok]; rfl, relV_val _⟩
theorem S.remT {a b : Int} (hx : evT tm x = some (.val (.int .i64 a))) (hy : evT tm y = some (.val (.int .i64 b))) (hN : Nat.ble (d + 1) N = true) (h0 : 0 < b) (h : Reg m P N ops rest ((d, .val (.int .i64 (a.tmod b))) :: tm) H K) : Reg m P N ops (⟨some d, .binOp .rem t x y u, ty, pos, af, none⟩ :: rest) tm H K :=
  S.val (OpV.mk fun L w ρ η hη _ => by
    have h1 := (hη x (by simp [Op.operands]) _ hx).val_eq
    have h2 := (hη y (by simp [Op.operands]) _ hy).val_eq
    have hb : b ≠ 0 := by omega
    exact ⟨_, by simp [execOp, h1, h2, eqGuard, binOp, Op.intDiv, hb], relV_val _⟩) hN h
theorem S.quoT {a b : Int} (hx : evT tm x = some (.val (.int .i64 a))) (hy : evT tm y = some (.val (.int .i64 b))) (hN : Nat.ble (d + 1) N = true) (h0 : 0 < b) (hw : IntKind.i64.wrap (a.tdiv b) = a.tdiv b) (h : Reg m P N ops rest ((d, .val (.int .i64 (a.tdiv b))) :: tm) H K) : Reg m P N ops (⟨some d, .binOp .quo t x y u, ty, pos, af, none⟩ :: rest) tm H K :=
  S.val (OpV.mk fun L w ρ η hη _ => by
    have h1 := (hη x (by simp [Op.operands]) _ hx).val_eq
    have h2 := (hη y (by simp [Op.operands]) _ hy).val_eq
    have hb : b ≠ 0 := by omega
    exact ⟨_, by simp [execOp, h1, h2, eqGuard, binOp, Op.intDiv, hb, hw], relV_val _⟩) hN h
theorem encode_digit {n : Int} (h : 48 ≤ n ∧ n ≤ 57) : Utf8.encode n = ⟨#[UInt8.ofNat n.toNat]⟩ := by
  have key : ∀ d : Fin 10, Utf8.encode ((48 + d.val : Nat) : Int) = ⟨#[UInt8.ofNat (48 + d.val)]⟩ := by decide +kernel
  have := key ⟨n.toNat - 48, by omega⟩
  simp only [show 48 + (n.toNat - 48) = n.toNat by omega, show ((n.toNat : Nat) : Int) = n by omega] at this
  exact this
/-- string(rune): a digit. -/
theorem S.convStr {k : IntKind} {n : Int} {ds : TypeDesc} [hu : HasU P t ds] [hv : HasU P u .string] (hx : evT tm x = some (.val (.int k n))) (hn : 48 ≤ n ∧ n ≤ 57) (hN : Nat.ble (d + 1) N = true) (h : Reg m P N ops rest ((d, .val (.string ⟨#[UInt8.ofNat n.toNat]⟩)) :: tm) H K) : Reg m P N ops (⟨some d, .convert t u x, ty, pos, af, none⟩ :: rest) tm H K := by
  refine S.val (OpV.mk fun L w ρ η hη hH => ?_) hN h
  have h1 := (hη x (by simp [Op.operands]) _ hx).val_eq
  refine ⟨_, ?_, relV_val _⟩
  simp [execOp, h1, convert, run_underlying hu.out, run_underlying hv.out, Conv.intToString, encode_digit hn]
end
end Go.Proofs.YtfchdagalklgpaaGreatDoor
