/- Steps in the calculus over abstract states: a function that is walked where it is called, with the caller's own blocks in sight. No dump. No conditions but those of each statement. -/
import Derived.Test.YtcbfnkgodiaiiaaGreatOl
import Derived.Test.YtcbfnkgodiaiiaaGreatMi
import Derived.Test.YtcbfnkgodiaiiaaGreatMb
set_option linter.unusedSimpArgs false
set_option linter.unusedVariables false
namespace Go.Proofs.YtcbfnkgodiaiiaaGreat
open Go Go.RowKit
section
variable {P : Program} {N : Nat} {ops : Array Oper} {m : Option Nat} {K : Tm -> AH -> Prop} {tm tm' : Tm} {H : AH} {rest : List Oper} {ty : TypeId} {pos : String} {af : Array Edge} {d : Nat} {t e : TypeId} {x y z : Operand}
theorem AH.next_len {H : AH} {g : Nat} (h : H.nextId = some g) : H.at g = .free := by
 have := It h
 subst this
 simp [AH.at]
theorem RelH.keep {w : World} {L : Nat -> Prop} {ρ : Pl} {H : AH} (h : RelH w L ρ H) {g : Nat} {cs : List AV} {vs : List Value} (hg : H.at g = .free) (hl : cs.length = vs.length) (hr : ∀ (i : Nat) (x : AV) (v : Value), cs[i]? = some x -> vs[i]? = some v -> RelV w L ρ x v) : RelH w L ρ (H.put g (.gho cs vs)) := by
 have hput : ∀ {b : Nat} {y : HB}, (∀ cs vs, y ≠ .gho cs vs) -> (H.put g (.gho cs vs)).at b = y -> H.at b = y := fun {b y} hy hb => by
  rw [AH.at_put] at hb
  split at hb
  ·exact absurd hb.symm (hy _ _)
  ·exact hb
 exact ⟨fun b hb => h.free b (hput (by intro _ _ h;cases h) hb), fun b hb => h.dead b (hput (by intro _ _ h;cases h) hb), fun b cs' hb => h.live b cs' (hput (by intro _ _ h;cases h) hb), fun b es hb => h.map b es (hput (by intro _ _ h;cases h) hb), h.dist,
  h.ext.put (fun k o u h1 h2 => ⟨h2, h1⟩) (by rw [hg];rfl) rfl (fun _ _ => rfl) (Nat.le_refl _) (fun _ _ _ _ _ _ _ _ h => h) (fun _ _ _ _ _ => rfl) (fun _ _ _ h => by cases h) fun cs' vs' e => by
   injection e with e1 e2
   subst e1 e2
   exact ⟨(fun k o hk => by rw [h.free g hg] at hk;cases hk), hl, hr⟩⟩
def D6 (P : Program) (fn : Func) (g : Nat) (cs : List AV) (vs : List Value) (J : AV -> AH -> Prop) (e : Exit) (st : St) : Prop := (e = .normal \/ e = .ret) /\
 ∃ rs, ResL P st fn.results.toList rs /\ st.H.at g = .gho cs vs /\ J (Kr rs) st.H
theorem A9h {w : World} {L : Nat -> Prop} {ρ : Pl} {rs : List AV} {us : List Value} (hl : rs.length = us.length) (h : ∀ (i : Nat) (x : AV) (v : Value), rs[i]? = some x -> us[i]? = some v -> RelV w L ρ x v) : RelV w L ρ (Kr rs) (Pr us) := by
 match rs, us, hl, h with
 | [x], [u], _, h => exact h 0 x u rfl rfl
 | [], [], _, h => exact .tup [] [] rfl (fun i x u h => by simp at h)
 | x :: y :: xs, u :: v :: us, hl, h => exact .tup _ (u :: v :: us) hl h
theorem A1u : ∀ (keep : Tm) (t : Nat) (x : AV), keep.get t = some x -> ∃ i : Nat, keep[i]? = some (t, x)
 | [], t, x, h => by cases h
 | (k, y) :: r, t, x, h => by
  rw [Tm.get_cons] at h
  by_cases e : k = t
  ·rw [if_pos e] at h
   injection h with h
   subst e h
   exact ⟨0, rfl⟩
  ·rw [if_neg e] at h
   obtain ⟨i, hi⟩ := A1u r t x h
   exact ⟨i + 1, hi⟩
theorem S.inline (keep : Tm) {g : Nat} {f : FuncId} {fn : Func} {c : Code} {N' : Nat} {x : Operand} {xs : Array Operand} {ts : Array TypeId} {ys caps args : List AV} (hf : P.funcs[f]? = some fn) (hnt : fn.ntmps = N') (hb : fn.body = some c) (hn : (fn.name == "runtime.NumGoroutine") = false)
  (hx : evT tm x = some (.fn (.func f) [] caps)) (hy : evs (evT tm) xs.toList = some ys) (ha : ys ++ caps = args) (hN' : Nat.ble args.length N' = true) (hg : H.nextId = some g) (hk : Cov tm g keep) (hN : Nat.ble (d + 1) N = true)
  (h : ∀ vs : List Value, T P N' c ⟨A2 0 args, H.put g (.gho (keep.map (·.2)) vs)⟩ (D6 P fn g (keep.map (·.2)) vs fun r H' => Reg none P N ops rest ((d, r) :: keep) H' K)) :
  Reg none P N ops (⟨some d, .call ⟨.value x, xs, ts⟩, ty, pos, af, none⟩ :: rest) tm H K := by
 subst hnt ha
 refine ⟨fun E a w ρ hE hR => ?_⟩
 refine wpList_plain rfl fun K' hK => ?_
 have hNN := Nat.le_of_ble_eq_true hN'
 obtain ⟨g1, g2⟩ := Ed _ _ hy
 have hfv := hR.ev (x := x) (by rw [Am];exact hx)
 obtain ⟨us, ws, h1, h2, h3, _, h4⟩ := hfv.fn_out
 simp only [List.length_nil] at h2
 obtain rfl : us = [] := List.eq_nil_of_length_eq_zero h2.symm
 have hent : Enters P f := ⟨fn, hf, hn, by rw [hb];rfl⟩
 have hrun : (execOp a.eval ⟨some d, .call ⟨.value x, xs, ts⟩, ty, pos, af, none⟩).run P w = .ok (.enter f (xs.toList.map a.eval ++ ws).toArray) w := by
  have : (execOp a.eval ⟨some d, .call ⟨.value x, xs, ts⟩, ty, pos, af, none⟩).run P w = (callFunc f (#[] ++ xs.map a.eval ++ ws.toArray)).run P w := by simp [execOp, resolve, h1, Deferred.ofValue, invoke]
  rw [this, hent.run]
  simp only [Result.ok.injEq, Next.enter.injEq, true_and, and_true]
  apply Array.ext'
  simp
 unfold Oper.wp
 rw [hrun]
 -- the callee's frame
 obtain ⟨vs, hvs⟩ : ∃ vs, vs = xs.toList.map a.eval ++ ws := ⟨_, rfl⟩
 have hvl : (ys ++ caps).length = vs.length := by rw [hvs];simp [<- g1, h3]
 have hv : ∀ (i : Nat) (x : AV) (v : Value), (ys ++ caps)[i]? = some x -> vs[i]? = some v -> RelV w E.L ρ x v := fun i x v hx hv => by
  rw [hvs] at hv
  rcases Nat.lt_or_ge i ys.length with hi | hi
  ·rw [List.getElem?_append_left hi] at hx
   rw [List.getElem?_append_left (by rw [List.length_map, g1];exact hi)] at hv
   obtain ⟨z, h5, h6⟩ := g2 i x hx
   rw [List.getElem?_map, h5] at hv
   simp at hv
   subst hv
   exact hR.ev (by rw [Am];exact h6)
  ·rw [List.getElem?_append_right hi] at hx
   rw [List.getElem?_append_right (by rw [List.length_map, g1];exact hi), List.length_map, g1] at hv
   exact h4 _ _ _ hx hv
 rw [<- hvs]
 obtain ⟨ks, hks⟩ : ∃ ks, ks = keep.map (fun p => a.tmps.getD p.1 undef) := ⟨_, rfl⟩
 have hfree := AH.next_len hg
 have hkg : ∀ t y, keep.get t = some y -> tm.get t = some y := fun t y ht => (hk.get t y ht).1
 have hko : ∀ (i : Nat) (p : Nat × AV), keep[i]? = some p -> tm.get p.1 = some p.2 := by
  have key : ∀ (keep : Tm), Cov tm g keep -> ∀ (i : Nat) (p : Nat × AV), keep[i]? = some p -> tm.get p.1 = some p.2 := fun keep hc => by
   induction hc with
   | nil => intro i p hp;simp at hp
   | cons h hb c ih =>
    intro i p hp
    cases i with
    | zero => simp at hp;subst hp;exact h
    | succ i => exact ih i p (by simpa using hp)
  exact key keep hk
 let E' : Env := { N := fn.ntmps, L := E.L, O := E.O, w0 := E.w0, good := E.good }
 have hsz : (vs.toArray ++ Array.replicate (fn.ntmps - vs.toArray.size) undef).size = fn.ntmps := by simp;omega
 have hst : RelSt E' ⟨A2 0 (ys ++ caps), H.put g (.gho (keep.map (·.2)) ks)⟩ { tmps := vs.toArray ++ Array.replicate (fn.ntmps - vs.toArray.size) undef, defers := [] } w ρ := by
  refine ⟨hsz, rfl, fun t x hx => ?_, hR.H.keep hfree (by rw [hks];simp) fun i y v hy hv => ?_, hR.fr, fun b k o hk => hR.minePut g rfl hk, hR.lim⟩
  ·obtain ⟨_, hx⟩ := Hl _ _ _ _ hx
   rw [Nat.sub_zero] at hx
   have ht : t < (ys ++ caps).length := (List.getElem?_eq_some_iff.1 hx).1
   refine ⟨by show t < fn.ntmps;omega, ?_⟩
   have hu : vs[t]? = some (vs[t]'(by omega)) := List.getElem?_eq_getElem _
   have : (vs.toArray ++ Array.replicate (fn.ntmps - vs.toArray.size) undef).getD t undef = vs[t]'(by omega) := by
    rw [Array.getD_eq_getD_getElem?, Array.getElem?_append_left (by simp;omega)]
    simp [hu]
   show RelV w E.L ρ x ((vs.toArray ++ Array.replicate (fn.ntmps - vs.toArray.size) undef).getD t undef)
   rw [this]
   exact hv t x _ hx hu
  ·rw [List.getElem?_map] at hy
   rw [hks, List.getElem?_map] at hv
   cases e : keep[i]? with
   | none => rw [e] at hy;cases hy
   | some p =>
    rw [e] at hy hv
    simp only [Option.map_some, Option.some.injEq] at hy hv
    subst hy hv
    exact (hR.tm p.1 p.2 (hko i p e)).2
 have key : Calls P f vs.toArray w fun e w' => ∃ v, e = .returned v /\ K' (a.put (some d) v) w' := by
  refine calls_of_wp hf hb ?_
  refine wp_mono ((h ks).out E' _ w ρ rfl hst) ?_
  rintro e a' w' ⟨st', ρ', ⟨he, rs, hrs, hgo, hreg⟩, hr'⟩
  obtain ⟨us, h1, h2, h3⟩ := hrs.run hr'
  have hres := Gg (fn := fn) h1
  have hback : RelSt E ⟨keep, st'.H⟩ a w' ρ' := by
   refine ⟨hR.size, hR.defers, fun t x hx => ?_, hr'.H, hr'.fr, hr'.mine, hr'.lim⟩
   obtain ⟨i, hi⟩ := A1u keep t x hx
   obtain ⟨_, _, q3⟩ := hr'.H.ext.gho g _ _ hgo
   exact ⟨(hR.tm t x (hkg t x hx)).1, q3 i x _ (by rw [List.getElem?_map, hi];rfl) (by rw [hks, List.getElem?_map, hi];rfl)⟩
  have hfin : K' (a.put (some d) (Pr us)) w' := hK _ _ (hreg.out E _ w' ρ' hE (hback.put (by rw [hE];exact Nat.le_of_ble_eq_true hN) (A9h h2 h3)))
  rcases he with rfl | rfl
  ·exact ⟨hr'.defers, _, hres, _, rfl, hfin⟩
  ·exact ⟨hr'.defers, _, hres, _, rfl, hfin⟩
 refine key.mono ?_
 rintro e w' ⟨v, rfl, hv⟩
 exact hv
end
section
variable {P : Program} {N : Nat} {ops : Array Oper}
theorem Ords.takeExtract {K : Tm -> AH -> Prop} {n d : Nat} (i : Nat) {listed : Array Bool} {tm : Tm} {H : AH} {x : Operand} {j : Nat} {ty : TypeId} {pos : String} {af : Array Edge} {cs : List AV} {r : AV} (ho : ops[i]? = some ⟨some d, .extract x j, ty, pos, af, none⟩) (hs : Region.noSelect ops = true) (hf : Region.free .any ops listed i = true) (hr : (Region.ready .any ops listed).contains i = true) (hx : evT tm x = some (.tup cs)) (hc : cs[j]? = some r) (hN : Nat.ble (d + 1) N = true)
  (h : Ords P N ops K n (listed.setIfInBounds i true) ((d, r) :: tm) H) : Ords P N ops K (n + 1) listed tm H :=
 Ords.take ho hs hf hr hN (fun L w ρ η hη => by
  obtain ⟨vs, h1, hl, hv⟩ := (hη x (by simp [Op.operands]) _ hx).tup_out
  have hi : j < vs.length := by rw [<- hl];exact (List.getElem?_eq_some_iff.1 hc).1
  exact ⟨vs[j], fun w' => by simp [execOp, h1, Instr.extract, hi], hv j r _ hc (List.getElem?_eq_getElem hi)⟩) h
theorem Ords.takeAssign {K : Tm -> AH -> Prop} {n d : Nat} (i : Nat) {listed : Array Bool} {tm : Tm} {H : AH} {x : Operand} {ty : TypeId} {pos : String} {af : Array Edge} {r : AV} (ho : ops[i]? = some ⟨some d, .assign x, ty, pos, af, none⟩) (hs : Region.noSelect ops = true) (hf : Region.free .any ops listed i = true) (hr : (Region.ready .any ops listed).contains i = true) (hx : evT tm x = some r) (hN : Nat.ble (d + 1) N = true)
  (h : Ords P N ops K n (listed.setIfInBounds i true) ((d, r) :: tm) H) : Ords P N ops K (n + 1) listed tm H :=
 Ords.take ho hs hf hr hN (fun L w ρ η hη => ⟨η x, fun w' => by simp [execOp], hη x (by simp [Op.operands]) _ hx⟩) h
theorem Ords.takeField {K : Tm -> AH -> Prop} {n d : Nat} (i : Nat) {listed : Array Bool} {tm : Tm} {H : AH} {x : Operand} {t ty : TypeId} {j b off fo : Nat} {pos : String} {af : Array Edge} {cells : List AV} [hfi : HasF P t j fo] (ho : ops[i]? = some ⟨some d, .fieldAddr t x j, ty, pos, af, none⟩) (hs : Region.noSelect ops = true) (hf : Region.free .any ops listed i = true) (hr : (Region.ready .any ops listed).contains i = true) (hx : evT tm x = some (.ptr b off)) (hb : H.at b = .live cells) (hN : Nat.ble (d + 1) N = true)
  (h : Ords P N ops K n (listed.setIfInBounds i true) ((d, .ptr b (off + fo)) :: tm) H) : Ords P N ops K (n + 1) listed tm H := ⟨fun E a w ρ hE hR => by
 obtain ⟨fs, f, m, h1, h2, h3, h4, rfl⟩ := hfi.out
 obtain ⟨k, o', arr, e, lo, hi', g1, g2, g3, g4, g5, g6⟩ := hR.H.live b cells hb
 have hv := (hR.ev (x := x) (by rw [Am];exact hx)).ptr_out k o' g1
 refine wpAny_take ho hs hf hr (fun c a w hq => absurd hq.1 (by simp)) (.inl ⟨rfl, fun w' => by simp only [execOp, hv, Sem.run_bind, Iy h1 h2 h3 h4, Result.andThen_ok, Sem.run_pure];rfl⟩) (h.out E _ w ρ hE (hR.put (by rw [hE];exact Nat.le_of_ble_eq_true hN) ?_))
 refine .ptr _ _ _ (by rw [g1];simp) rfl fun k2 o2 h2 => ?_
 rw [g1] at h2
 injection h2 with h2
 injection h2 with h2
 injection h2 with h2 h3
 subst h2 h3
 rw [Bo rfl, Nat.add_assoc]⟩
end
theorem Y {G R : Prop} (r : R) (h : Rest R -> G := by
 intro r
 first
  | (apply S.call;exact rfl;exact rfl;assumption;exact rfl)
  | (apply S.indexR;exact rfl;exact rfl;exact rfl;assumption;omega;exact rfl)
  | (apply S.loadRW;(iterate 4 exact rfl))
  | (apply S.max2;exact rfl;exact rfl;exact rfl)
  | (apply S.min2;exact rfl;exact rfl;exact rfl)
  | refine Za ?_
  | (apply S.lenO;exact rfl;exact rfl;exact rfl)
  | (apply S.buildN;exact rfl;exact rfl;exact rfl)
 exact r.out) : G := h ⟨r⟩
theorem CW {tm tm' : Tm} {n : Nat} (h : Cov tm n tm' := by (repeat' (first | exact Cov.nil|(apply Cov.cons;exact rfl;exact rfl)));first | done | fail) : Cov tm n tm' := h
theorem CG {H H' : AH} {n : Nat} (h : CovH n H H' := by (repeat' (first | exact CovH.nil | apply CovH.dead|(apply CovH.live;exact rfl) | apply CovH.map));first | done | fail) : CovH n H H' := h
section
variable {P : Program} {N : Nat} {ops : Array Oper} {m : Option Nat} {K : Tm -> AH -> Prop} {tm tm' : Tm} {H : AH} {rest : List Oper} {ty : TypeId} {pos : String} {af : Array Edge} {d : Nat} {t e : TypeId} {x y z : Operand}
theorem OpV.idxV {o : Oper} {ev : Operand -> Option AV} {Hf : Nat -> HB} {k : IntKind} {i : Int} {len : Nat} {cs : List AV} {c : AV} {ds : TypeDesc} (ho : o.op = .index t x y) (hx : ev x = some (.agg cs)) (hy : ev y = some (.val (.int k i))) (hu : P.underlying t = some (.array len e)) (he : P.underlying e = some ds) (hr : ds.isRow = false) (hi : (P.info? e).map (·.size) = some 1) (h0 : 0 <= i /\ i < len) (hc : cs[i.toNat]? = some c) : OpV P o ev Hf c none := OpV.mk fun L w ρ η hη _ => by
 obtain ⟨vs, h1, hl, hv⟩ := (hη x (by simp [ho, Op.operands]) _ hx).agg_out
 have h2 := (hη y (by simp [ho, Op.operands]) _ hy).val_eq
 have hlt : i.toNat < vs.length := by rw [<- hl];exact (List.getElem?_eq_some_iff.1 hc).1
 have hg := List.getElem?_eq_getElem hlt
 refine ⟨vs[i.toNat], ?_, hv _ _ _ hc hg⟩
 simp [execOp, ho, h1, h2, Instr.index, asIntOf, run_underlying hu, h0, B0 hi, part, L3 he, hr, hlt]
theorem S.idxV {k : IntKind} {i : Int} {len : Nat} {cs : List AV} {c : AV} {ds : TypeDesc} [hu : HasU P t (.array len e)] [he : HasU P e ds] [hi : HasS P e 1] (hx : evT tm x = some (.agg cs)) (hy : evT tm y = some (.val (.int k i))) (hr : ds.isRow = false) (h0 : 0 <= i /\ i < len) (hc : cs[i.toNat]? = some c) (hN : Nat.ble (d + 1) N = true) (h : Reg m P N ops rest ((d, c) :: tm) H K) : Reg m P N ops (⟨some d, .index t x y, ty, pos, af, none⟩ :: rest) tm H K :=
 S.val (OpV.idxV rfl hx hy hu.out he.out hr hi.out h0 hc) hN h
end
end Go.Proofs.YtcbfnkgodiaiiaaGreat
