/- Steps in the calculus over abstract states: a function that is walked where it is called, with the caller's own blocks in sight. No dump. No conditions but those of each statement. -/
import Derived.Test.YtcfjofhapbkmfaaGreatDoorOl
import Derived.Test.YtcfjofhapbkmfaaGreatDoorMi
import Derived.Test.YtcfjofhapbkmfaaGreatDoorMb
import Derived.Test.YtcfjofhapbkmfaaGreatDoorMc
set_option linter.unusedSimpArgs false
set_option linter.unusedVariables false
namespace Go.Proofs.YtcfjofhapbkmfaaGreatDoor
open Go Go.RowKit
section
variable {P : Program} {N : Nat} {ops : Array Oper} {m : Option Nat} {K : Tm -> AH -> Prop} {tm tm' : Tm} {H : AH} {rest : List Oper} {ty : TypeId} {pos : String} {af : Array Edge} {d : Nat} {t e : TypeId} {x y z : Operand}
theorem AH.next_len {H : AH} {g : Nat} (h : H.nextId = some g) : H.at g = .free := by
 have := D7 h
 subst this
 simp [AH.at]
theorem RelH.keep {w : World} {L : Nat -> Prop} {ρ : Pl} {H : AH} (h : RelH w L ρ H) {g : Nat} {cs : List AV} {vs : List Value} (hg : H.at g = .free) (hl : cs.length = vs.length) (hr : ∀ (i : Nat) (x : AV) (v : Value), cs[i]? = some x -> vs[i]? = some v -> RelV w L ρ x v) : RelH w L ρ (H.put g (.gho cs vs)) := by
 have hput : ∀ {b : Nat} {y : HB}, (∀ cs vs, y ≠ .gho cs vs) -> (H.put g (.gho cs vs)).at b = y -> H.at b = y := fun {b y} hy hb => by
  rw [AH.at_put] at hb
  split at hb
  ·exact absurd hb.symm (hy _ _)
  ·exact hb
 exact ⟨fun b hb => h.free b (hput (by intro _ _ h;cases h) hb), fun b hb => h.dead b (hput (by intro _ _ h;cases h) hb), fun b cs' hb => h.live b cs' (hput (by intro _ _ h;cases h) hb), fun b es hb => h.map b es (hput (by intro _ _ h;cases h) hb), h.dist,
  h.ext.put (fun k o u h1 h2 => ⟨h2, h1⟩) (by rw [hg];rfl) rfl (fun _ _ => rfl) (Nat.le_refl _) (fun _ _ _ _ _ _ _ _ h => h) (fun _ _ _ _ _ => rfl) (fun _ _ _ h => by cases h) fun cs' vs' e => by
   injection e with e1 e2
   subst e1 e2
   exact ⟨(fun k o hk => by rw [h.free g hg] at hk;cases hk), hl, hr⟩⟩
def X0 (P : Program) (fn : Func) (g : Nat) (cs : List AV) (vs : List Value) (J : AV -> AH -> Prop) (e : Exit) (st : St) : Prop := (e = .normal \/ e = .ret) /\
 ∃ rs, ResL P st fn.results.toList rs /\ st.H.at g = .gho cs vs /\ J (Ta rs) st.H
theorem Y6 {w : World} {L : Nat -> Prop} {ρ : Pl} {rs : List AV} {us : List Value} (hl : rs.length = us.length) (h : ∀ (i : Nat) (x : AV) (v : Value), rs[i]? = some x -> us[i]? = some v -> RelV w L ρ x v) : RelV w L ρ (Ta rs) (Lv us) := by
 match rs, us, hl, h with
 | [x], [u], _, h => exact h 0 x u rfl rfl
 | [], [], _, h => exact .tup [] [] rfl (fun i x u h => by simp at h)
 | x :: y :: xs, u :: v :: us, hl, h => exact .tup _ (u :: v :: us) hl h
theorem Mp : ∀ (keep : Tm) (t : Nat) (x : AV), keep.get t = some x -> ∃ i : Nat, keep[i]? = some (t, x)
 | [], t, x, h => by cases h
 | (k, y) :: r, t, x, h => by
  rw [Tm.get_cons] at h
  by_cases e : k = t
  ·rw [if_pos e] at h
   injection h with h
   subst e h
   exact ⟨0, rfl⟩
  ·rw [if_neg e] at h
   obtain ⟨i, hi⟩ := Mp r t x h
   exact ⟨i + 1, hi⟩
theorem S.inline (keep : Tm) {g : Nat} {f : FuncId} {fn : Func} {c : Code} {N' : Nat} {x : Operand} {xs : Array Operand} {ts : Array TypeId} {ys caps args : List AV} (hf : P.funcs[f]? = some fn) (hnt : fn.ntmps = N') (hb : fn.body = some c) (hn : (fn.name == "runtime.NumGoroutine") = false)
  (hx : evT tm x = some (.fn (.func f) [] caps)) (hy : evs (evT tm) xs.toList = some ys) (ha : ys ++ caps = args) (hN' : Nat.ble args.length N' = true) (hg : H.nextId = some g) (hk : Cov tm g keep) (hN : Nat.ble (d + 1) N = true)
  (h : ∀ vs : List Value, T P N' c ⟨A0 0 args, H.put g (.gho (keep.map (·.2)) vs)⟩ (X0 P fn g (keep.map (·.2)) vs fun r H' => Reg none P N ops rest ((d, r) :: keep) H' K)) :
  Reg none P N ops (⟨some d, .call ⟨.value x, xs, ts⟩, ty, pos, af, none⟩ :: rest) tm H K := by
 subst hnt ha
 refine ⟨fun E a w ρ hE hR => ?_⟩
 refine wpList_plain rfl fun K' hK => ?_
 have hNN := Nat.le_of_ble_eq_true hN'
 obtain ⟨g1, g2⟩ := Cz _ _ hy
 have hfv := hR.ev (x := x) (by rw [Ah];exact hx)
 obtain ⟨us, ws, h1, h2, h3, _, h4⟩ := hfv.fn_out
 simp only [List.length_nil] at h2
 obtain rfl : us = [] := List.eq_nil_of_length_eq_zero h2.symm
 have hent : Enters P f := ⟨fn, hf, hn, by rw [hb];rfl⟩
 have hrun : (execOp a.eval ⟨some d, .call ⟨.value x, xs, ts⟩, ty, pos, af, none⟩).run P w = .ok (.enter f (xs.toList.map a.eval ++ ws).toArray) w := by
  have : (execOp a.eval ⟨some d, .call ⟨.value x, xs, ts⟩, ty, pos, af, none⟩).run P w = (callFunc f (#[] ++ xs.map a.eval ++ ws.toArray)).run P w := by simp [execOp, resolve, h1, Deferred.ofValue, invoke]
  rw [this, hent.run]
  simp only [Result.ok.injEq, Next.enter.injEq, true_and, and_true]
  apply Array.ext'
  simp
 unfold Oper.wp
 rw [hrun]
 -- the callee's frame
 obtain ⟨vs, hvs⟩ : ∃ vs, vs = xs.toList.map a.eval ++ ws := ⟨_, rfl⟩
 have hvl : (ys ++ caps).length = vs.length := by rw [hvs];simp [<- g1, h3]
 have hv : ∀ (i : Nat) (x : AV) (v : Value), (ys ++ caps)[i]? = some x -> vs[i]? = some v -> RelV w E.L ρ x v := fun i x v hx hv => by
  rw [hvs] at hv
  rcases Nat.lt_or_ge i ys.length with hi | hi
  ·rw [List.getElem?_append_left hi] at hx
   rw [List.getElem?_append_left (by rw [List.length_map, g1];exact hi)] at hv
   obtain ⟨z, h5, h6⟩ := g2 i x hx
   rw [List.getElem?_map, h5] at hv
   simp at hv
   subst hv
   exact hR.ev (by rw [Ah];exact h6)
  ·rw [List.getElem?_append_right hi] at hx
   rw [List.getElem?_append_right (by rw [List.length_map, g1];exact hi), List.length_map, g1] at hv
   exact h4 _ _ _ hx hv
 rw [<- hvs]
 obtain ⟨ks, hks⟩ : ∃ ks, ks = keep.map (fun p => a.tmps.getD p.1 undef) := ⟨_, rfl⟩
 have hfree := AH.next_len hg
 have hkg : ∀ t y, keep.get t = some y -> tm.get t = some y := fun t y ht => (hk.get t y ht).1
 have hko : ∀ (i : Nat) (p : Nat × AV), keep[i]? = some p -> tm.get p.1 = some p.2 := by
  have key : ∀ (keep : Tm), Cov tm g keep -> ∀ (i : Nat) (p : Nat × AV), keep[i]? = some p -> tm.get p.1 = some p.2 := fun keep hc => by
   induction hc with
   | nil => intro i p hp;simp at hp
   | cons h hb c ih =>
    intro i p hp
    cases i with
    | zero => simp at hp;subst hp;exact h
    | succ i => exact ih i p (by simpa using hp)
  exact key keep hk
 let E' : Env := { N := fn.ntmps, L := E.L, O := E.O, w0 := E.w0, good := E.good }
 have hsz : (vs.toArray ++ Array.replicate (fn.ntmps - vs.toArray.size) undef).size = fn.ntmps := by simp;omega
 have hst : RelSt E' ⟨A0 0 (ys ++ caps), H.put g (.gho (keep.map (·.2)) ks)⟩ { tmps := vs.toArray ++ Array.replicate (fn.ntmps - vs.toArray.size) undef, defers := [] } w ρ := by
  refine ⟨hsz, rfl, fun t x hx => ?_, hR.H.keep hfree (by rw [hks];simp) fun i y v hy hv => ?_, hR.fr, fun b k o hk => hR.minePut g rfl hk, hR.lim⟩
  ·obtain ⟨_, hx⟩ := F7 _ _ _ _ hx
   rw [Nat.sub_zero] at hx
   have ht : t < (ys ++ caps).length := (List.getElem?_eq_some_iff.1 hx).1
   refine ⟨by show t < fn.ntmps;omega, ?_⟩
   have hu : vs[t]? = some (vs[t]'(by omega)) := List.getElem?_eq_getElem _
   have : (vs.toArray ++ Array.replicate (fn.ntmps - vs.toArray.size) undef).getD t undef = vs[t]'(by omega) := by
    rw [Array.getD_eq_getD_getElem?, Array.getElem?_append_left (by simp;omega)]
    simp [hu]
   show RelV w E.L ρ x ((vs.toArray ++ Array.replicate (fn.ntmps - vs.toArray.size) undef).getD t undef)
   rw [this]
   exact hv t x _ hx hu
  ·rw [List.getElem?_map] at hy
   rw [hks, List.getElem?_map] at hv
   cases e : keep[i]? with
   | none => rw [e] at hy;cases hy
   | some p =>
    rw [e] at hy hv
    simp only [Option.map_some, Option.some.injEq] at hy hv
    subst hy hv
    exact (hR.tm p.1 p.2 (hko i p e)).2
 have key : Calls P f vs.toArray w fun e w' => ∃ v, e = .returned v /\ K' (a.put (some d) v) w' := by
  refine calls_of_wp hf hb ?_
  refine wp_mono ((h ks).out E' _ w ρ rfl hst) ?_
  rintro e a' w' ⟨st', ρ', ⟨he, rs, hrs, hgo, hreg⟩, hr'⟩
  obtain ⟨us, h1, h2, h3⟩ := hrs.run hr'
  have hres := Fo (fn := fn) h1
  have hback : RelSt E ⟨keep, st'.H⟩ a w' ρ' := by
   refine ⟨hR.size, hR.defers, fun t x hx => ?_, hr'.H, hr'.fr, hr'.mine, hr'.lim⟩
   obtain ⟨i, hi⟩ := Mp keep t x hx
   obtain ⟨_, _, q3⟩ := hr'.H.ext.gho g _ _ hgo
   exact ⟨(hR.tm t x (hkg t x hx)).1, q3 i x _ (by rw [List.getElem?_map, hi];rfl) (by rw [hks, List.getElem?_map, hi];rfl)⟩
  have hfin : K' (a.put (some d) (Lv us)) w' := hK _ _ (hreg.out E _ w' ρ' hE (hback.put (by rw [hE];exact Nat.le_of_ble_eq_true hN) (Y6 h2 h3)))
  rcases he with rfl | rfl
  ·exact ⟨hr'.defers, _, hres, _, rfl, hfin⟩
  ·exact ⟨hr'.defers, _, hres, _, rfl, hfin⟩
 refine key.mono ?_
 rintro e w' ⟨v, rfl, hv⟩
 exact hv
end
section
variable {P : Program} {N : Nat} {ops : Array Oper}
theorem Ords.takeField {K : Tm -> AH -> Prop} {n d : Nat} (i : Nat) {listed : Array Bool} {tm : Tm} {H : AH} {x : Operand} {t ty : TypeId} {j b off fo : Nat} {pos : String} {af : Array Edge} {cells : List AV} [hfi : HasF P t j fo] (ho : ops[i]? = some ⟨some d, .fieldAddr t x j, ty, pos, af, none⟩) (hs : Region.noSelect ops = true) (hf : Region.free .any ops listed i = true) (hr : (Region.ready .any ops listed).contains i = true) (hx : evT tm x = some (.ptr b off)) (hb : H.at b = .live cells) (hN : Nat.ble (d + 1) N = true)
  (h : Ords P N ops K n (listed.setIfInBounds i true) ((d, .ptr b (off + fo)) :: tm) H) : Ords P N ops K (n + 1) listed tm H := ⟨fun E a w ρ hE hR => by
 obtain ⟨fs, f, m, h1, h2, h3, h4, rfl⟩ := hfi.out
 obtain ⟨k, o', arr, e, lo, hi', g1, g2, g3, g4, g5, g6⟩ := hR.H.live b cells hb
 have hv := (hR.ev (x := x) (by rw [Ah];exact hx)).ptr_out k o' g1
 refine wpAny_take ho hs hf hr (fun c a w hq => absurd hq.1 (by simp)) (.inl ⟨rfl, fun w' => by simp only [execOp, hv, Sem.run_bind, Dt h1 h2 h3 h4, Result.andThen_ok, Sem.run_pure];rfl⟩) (h.out E _ w ρ hE (hR.put (by rw [hE];exact Nat.le_of_ble_eq_true hN) ?_))
 refine .ptr _ _ _ (by rw [g1];simp) rfl fun k2 o2 h2 => ?_
 rw [g1] at h2
 injection h2 with h2
 injection h2 with h2
 injection h2 with h2 h3
 subst h2 h3
 rw [B0 rfl, Nat.add_assoc]⟩
end
theorem Y {G R : Prop} (r : R) (h : Rest R -> G := by
 intro r
 first
  | (apply S.call;exact rfl;exact rfl;assumption;exact rfl)
  | (apply S.indexR;(iterate 3 exact rfl);assumption;omega;exact rfl)
  | (apply S.loadRW;(iterate 4 exact rfl))
  | (apply S.max2;(iterate 3 exact rfl))
  | (apply S.min2;(iterate 3 exact rfl))
  | refine Za ?_
  | (apply S.lenO;(iterate 3 exact rfl))
  | (apply S.buildN;(iterate 3 exact rfl))
 exact r.out) : G := h ⟨r⟩
theorem CW {tm tm' : Tm} {n : Nat} (h : Cov tm n tm' := by (repeat' (first | exact Cov.nil|(apply Cov.cons;exact rfl;exact rfl)));first | done | fail) : Cov tm n tm' := h
section
variable {P : Program} {N : Nat} {ops : Array Oper} {m : Option Nat} {K : Tm -> AH -> Prop} {tm tm' : Tm} {H : AH} {rest : List Oper} {ty : TypeId} {pos : String} {af : Array Edge} {d : Nat} {t e : TypeId} {x y z : Operand}
end
section
variable {P : Program} {N : Nat} {ops : Array Oper}
theorem Ords.takeIndex {K : Tm -> AH -> Prop} {n d c : Nat} (i : Nat) {listed : Array Bool} {tm : Tm} {H : AH} {x y : Operand} {t e ty : TypeId} {pos : String} {af : Array Edge} {k : IntKind} {j : Int} {rows : List (List Lf)} {row : List Lf} (ho : ops[i]? = some ⟨some d, .indexAddr t x y, ty, pos, af, none⟩) (hs : Region.noSelect ops = true) (hf : Region.free .any ops listed i = true) (hr : (Region.ready .any ops listed).contains i = true) (hN : Nat.ble (d + 1) N = true) (hu : HasU P t (.slice e)) (hi : HasS P e c) (hx : evT tm x = some (.sl rows)) (hy : evT tm y = some (.val (.int k j))) (hrow : rows[j.toNat]? = some row) (h0 : 0 <= j) (hn : row.length = c)
  (h : Ords P N ops K n (listed.setIfInBounds i true) ((d, .rop row) :: tm) H) : Ords P N ops K (n + 1) listed tm H := by
 refine Ords.take ho hs hf hr hN (fun L w ρ η hη => ?_) h
 have hv := (hη y (by simp [Op.operands]) _ hy).val_eq
 have hlt := (List.getElem?_eq_some_iff.1 hrow).1
 rcases (hη x (by simp [Op.operands]) _ hx).lf_out.sl_out with ⟨rfl, _⟩ | ⟨ad, cap, V, h1, hs, hc, h2, h3⟩
 ·simp at hlt
 ·refine ⟨_, fun w' => by simp only [execOp, h1, hv, Sem.run_bind, F0 hu.out hi.out w' ad rows.length cap k j h0 (by omega), Result.andThen_ok, Sem.run_pure];rfl, ?_⟩
  rw [B0 (hs.resolve_right (by omega))]
  refine .rop _ _ (fun z => V j.toNat z) rfl (fun z x hz => ?_) fun z x hz => h3 _ _ _ _ hrow hz
  have := h2 _ _ _ _ hrow hz
  rw [hn, <- Nat.add_assoc] at this
  exact this
theorem Ords.takeF {K : Tm -> AH -> Prop} {n d : Nat} (i : Nat) {listed : Array Bool} {tm : Tm} {H : AH} {x : Operand} {t ty : TypeId} {j b off fo : Nat} {pos : String} {af : Array Edge} {cells : List AV} (ho : ops[i]? = some ⟨some d, .fieldAddr t x j, ty, pos, af, none⟩) (hs : Region.noSelect ops = true) (hf : Region.free .any ops listed i = true) (hr : (Region.ready .any ops listed).contains i = true) (hfi : HasF P t j fo) (hx : evT tm x = some (.ptr b off)) (hb : H.at b = .live cells) (hN : Nat.ble (d + 1) N = true)
  (h : Ords P N ops K n (listed.setIfInBounds i true) ((d, .ptr b (off + fo)) :: tm) H) : Ords P N ops K (n + 1) listed tm H := Ords.takeField (hfi := hfi) i ho hs hf hr hx hb hN h
theorem Ords.takeArith {K : Tm -> AH -> Prop} {n d : Nat} (i : Nat) {listed : Array Bool} {tm : Tm} {H : AH} {bo : BinOp} {x y : Operand} {t u ty : TypeId} {pos : String} {af : Array Edge} {a b c : Int} (ho : ops[i]? = some ⟨some d, .binOp bo t x y u, ty, pos, af, none⟩) (hs : Region.noSelect ops = true) (hf : Region.free .any ops listed i = true) (hr : (Region.ready .any ops listed).contains i = true) (hN : Nat.ble (d + 1) N = true) (hx : evT tm x = some (.val (.int .i64 a))) (hy : evT tm y = some (.val (.int .i64 b))) (hc : I5 bo a b = some c) (h0 : -9223372036854775808 <= c /\ c <= 9223372036854775807)
  (h : Ords P N ops K n (listed.setIfInBounds i true) ((d, .val (.int .i64 c)) :: tm) H) : Ords P N ops K (n + 1) listed tm H :=
 Ords.take ho hs hf hr hN (fun L w ρ η hη => by
  have hw : IntKind.i64.wrap c = c := by
   simp [IntKind.wrap, IntKind.signed, IntKind.bits]
   omega
  have h1 := (hη x (by simp [Op.operands]) _ hx).val_eq
  have h2 := (hη y (by simp [Op.operands]) _ hy).val_eq
  refine ⟨.int .i64 c, fun w' => ?_, A9 _⟩
  cases bo <;> simp only [I5, reduceCtorEq, Option.some.injEq] at hc <;> subst hc <;> simp [execOp, h1, h2, eqGuard, binOp, Op.intArith, hw]) h
theorem T.ordersR {id : Nat} {Q : Exit -> St -> Prop} {tm : Tm} {H : AH} (hm : P.follows .mixedOrders = true) (h : Ords P N ops (fun tm H => Q .normal ⟨tm, H⟩) ops.size (Array.replicate ops.size false) tm H) : T P N (.region id ops true) ⟨tm, H⟩ Q := by
 refine ⟨fun E a w ρ hE hr => ?_⟩
 have hr' : RelSt E ⟨tm, H⟩ a { w with drawn := w.drawn + 1 } ρ := hr.below ⟨rfl, rfl, rfl, Nat.le_refl _, fun _ _ => rfl⟩
 refine wp_mono (wp_region_any hm (h.out E a _ ρ hE hr')) ?_
 rintro e a' w' ⟨rfl, st', ρ', g1, g2⟩
 exact ⟨st', ρ', g1, g2⟩
end
section
variable {P : Program} {N : Nat} {ops : Array Oper} {m : Option Nat} {K : Tm -> AH -> Prop} {tm : Tm} {H : AH} {rest : List Oper} {ty : TypeId} {pos : String} {af : Array Edge} {d : Nat} {t e : TypeId}
theorem S.buildSlice1 {ps : Array (Nat × Operand)} {n : Nat} {zv : Value} {ys : List (Nat × AV)} {out : List AV} {cs : List Lf} [hu : HasU P t (.slice e)] [hi : HasS P e n] [hz : HasZ P e zv] (h1 : Nat.ble 1 (1 * n) = true) (h2 : Nat.ble (1 * n) 16777216 = true) (hy : Cq (evT tm) ps.toList = some ys) (ho : E0 (fun (i : Nat) => some (i * n, n)) ys (D8 zv (1 * n)) = some out) (hc : lfs out = some cs) (hl : Nat.beq cs.length (1 * n) = true) (hN : Nat.ble (d + 1) N = true) (h : Reg m P N ops rest ((d, .sl [cs]) :: tm) H K) : Reg m P N ops (⟨some d, .buildSlice t 1 ps, ty, pos, af, none⟩ :: rest) tm H K :=
 S.buildSliceF h1 h2 hy ho hc hl (by
  have := Nat.eq_of_beq_eq_true hl
  simp only [chunks, Ku]
  rw [List.take_of_length_le (by omega)]) hN h
end
theorem Ad {n : Nat} {r : List Lf} (h : r.length = n) : ∀ x ∈ [r], x.length = n := by
 intro x hx
 simp only [List.mem_cons, List.not_mem_nil, or_false] at hx
 rw [hx];exact h
theorem Aw (n : Nat) (cs : List Lf) : (cs.map AV.lf).all (AV.under n) = true := by
 rw [List.all_eq_true]
 intro x hx
 obtain ⟨y, _, rfl⟩ := List.mem_map.1 hx
 rfl
def rT (b st : Nat) : Nat -> AV
 | 0 => .val (.slice none 0 0)
 | n + 1 => .own b 0 (n + 1) st
def rB (cells : List AV) : Nat -> HB
 | 0 => .dead
 | _ + 1 => .live cells
theorem By {b st n : Nat} (h : 0 < n) : rT b st n = .own b 0 n st := by cases n <;> first | omega | rfl
theorem Bx {cells : List AV} {n : Nat} (h : 0 < n) : rB cells n = .live cells := by cases n <;> first | omega | rfl
section
variable {P : Program} {N : Nat} {ops : Array Oper} {K : Tm -> AH -> Prop} {tm : Tm} {H : AH} {rest : List Oper} {ty : TypeId} {pos : String} {af : Array Edge} {d : Nat} {t e : TypeId} {x : Operand}
end
end Go.Proofs.YtcfjofhapbkmfaaGreatDoor
