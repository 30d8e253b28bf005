/- Lemmas of the proof. -/
import Derived.Test.YtlapbaiejnaeiaaGreatDoorMi
import Derived.Test.YtlapbaiejnaeiaaGreatDoorMb
import Derived.Test.YtlapbaiejnaeiaaGreatDoorMh
import Derived.Test.YtlapbaiejnaeiaaGreatDoorMc
set_option linter.all false
set_option maxHeartbeats 64000000
namespace Go.Proofs.YtlapbaiejnaeiaaGreatDoor
open Go.RowKit
def a2r := @List.not_mem_nil
def a7h := @Tryz.results213
/-! ### Beams -/
theorem Ye {α : Type} {nm : α -> ByteArray} {l : List α} (h : (l.map nm).Nodup) {j k : Nat} {x y : α} (hj : l[j]? = some y) (hk : l[k]? = some x) (hjk : j < k) : nm y ≠ nm x := by
 unfold List.Nodup at h
 rw [a3l] at h
 obtain ⟨h1, e1⟩ := a0g.1 hj
 obtain ⟨h2, e2⟩ := a0g.1 hk
 have := h j k (by simpa using h1) (by simpa using h2) hjk
 simpa [e1, e2] using this
theorem Be {α : Type} {l : List α} {k : Nat} {x : α} (hx : l[k]? = some x) : l.take (k + 1) = l.take k ++ [x] := by rw [a0w, hx];rfl
theorem Af {α : Type} {l : List α} {R : α -> List Lf} {k : Nat} {x : α} (hx : l[k]? = some x) : (l.map R)[((k : Nat) : Int).toNat]? = some (R x) := by rw [a0s, a0e, hx];rfl
theorem Ac {α : Type} {l : List α} {k : Nat} (h : k < l.length) : ∃ x, l[k]? = some x := ⟨l[k], a0c h⟩
/-! ### Line sets and houses -/
/-! ### Moves -/
structure MoveR where
 set : ByteArray
 to : Int
 speed : Int
 rise : Int
 fall : Int
def MoveR.row (m : MoveR) : List Lf := [.s m.set, .i m.to, .i m.speed, .i m.rise, .i m.fall]
structure CueR where
 name : ByteArray
 after : ByteArray
 link : Int
 delay : Int
 moves : List MoveR
 crew : Int
 power : Int
def CueR.row (q : CueR) : List Lf := [.s q.name, .s q.after, .i q.link, .i q.delay, .sl (q.moves.map MoveR.row), .i q.crew, .i q.power]
def Dp (m : MoveR) : Prop := Cy m.set = true /\ (-1048576 <= m.to /\ m.to <= 1048576) /\ (1 <= m.speed /\ m.speed <= 8192) /\ (1 <= m.rise /\ m.rise <= 16384) /\ 1 <= m.fall /\ m.fall <= 16384
instance (m : MoveR) : Decidable (Dp m) := by unfold Dp;exact inferInstance
theorem Qw (n lo hi : Int) : Fn0 Tryz.prog 228 [.i n, .i lo, .i hi] (.b (decide (lo <= n /\ n <= hi))) := by
 refine Fn0.of Tryz.func228 Tryz.ntmps228 rfl rfl rfl ?_
 simp only [A1]
 repeat' (first|refine W ?_|refine V ?_|(refine W2 ?_ ?_<;>intro hc))
 all_goals exact A4 (by simp) Tryz.results228 rfl (by simp [*])
theorem Mt (m : MoveR) : Fn0 Tryz.prog 227 [A2 m.row] (.b (decide (Dp m))) := by
 refine Fn0.of Tryz.func227 Tryz.ntmps227 rfl rfl rfl ?_
 simp only [A1]
 repeat' (first|refine W ?_|refine Zc (Cx _) ?_|refine Zc (Qw _ _ _) ?_|refine V ?_|(refine W2 ?_ ?_<;>intro hc))
 all_goals exact A4 (by simp) Tryz.results227 rfl (by simp only [Dp];simp [*])
/-! ### Cues that are right -/
def moveIn (h : HouseR) (m : MoveR) : Prop := Dp m /\ ∃ s, 0 <= Ae h m.set /\ h.sets[(Ae h m.set).toNat]? = some s /\ s.low <= m.to /\ m.to <= s.high
def E5 (h : HouseR) (q : CueR) : Prop := Cy q.name = true /\ (1 <= q.link /\ q.link <= 3) /\ (0 <= q.delay /\ q.delay <= 2147483648) /\ (0 <= q.crew /\ q.crew <= 100) /\ (0 <= q.power /\ q.power <= 100) /\ (∀ m ∈ q.moves, moveIn h m) /\ (q.moves.map MoveR.set).Nodup
noncomputable instance (h : HouseR) (q : CueR) : Decidable (E5 h q) := Classical.propDecidable _
theorem Ee {α : Type} {p : α -> Prop} [DecidablePred p] {l : List α} (h : ¬ idx p l < 0) : ∃ x, l[(idx p l).toNat]? = some x := by
 have := K2 p l
 exact ⟨l[(idx p l).toNat]'(by omega), a0c _⟩
theorem Hm {α : Type} {l : List α} {R : α -> List Lf} {i : Int} {x : α} (hx : l[i.toNat]? = some x) : (l.map R)[i.toNat]? = some (R x) := by rw [a0e, hx];rfl
theorem A3q {h : HouseR} {m : MoveR} {s : SetR} (hk : ¬ Ae h m.set < 0) (hs : h.sets[(Ae h m.set).toNat]? = some s) : moveIn h m ↔ Dp m /\ s.low <= m.to /\ m.to <= s.high := by
 constructor
 ·rintro ⟨h1, t, h2, h3, h4⟩
  rw [hs] at h3;injection h3 with h3;subst h3
  exact ⟨h1, h4⟩
 ·rintro ⟨h1, h2⟩
  exact ⟨h1, s, by omega, hs, h2⟩
theorem A39 (m x : MoveR) : Fn0 Tryz.prog 245 [A2 x.row, .rop m.row] (.b (decide (x.set = m.set))) := by
 refine Fn0.of Tryz.func245 Tryz.ntmps245 rfl rfl rfl ?_
 simp only [A1]
 repeat' (first|refine W ?_|refine V ?_|(refine W2 ?_ ?_<;>intro hc))
 all_goals exact A4 (by simp) Tryz.results245 rfl (by rfl)
theorem Uk (l : List MoveR) (k : Nat) (m : MoveR) (hs : l.length <= 9223372036854775807) :
  Fn0 Tryz.prog 244 [.sl ((l.map MoveR.row).take ((k : Nat) : Int).toNat), .fn (.func 245) [] [.rop m.row]] (.b (decide (∃ y ∈ l.take k, y.set = m.set))) := by
 rw [a0s, <- a8c]
 exact Rh (l.take k) MoveR.row (fun y => y.set = m.set) _ _ (fun _ => rfl) (by simp;omega) rfl fun y hy => A39 m y
theorem A0c {h : HouseR} {q : CueR} {k : Nat} {m : MoveR} (hm : q.moves[k]? = some m) (hn : ¬ moveIn h m \/ ∃ y ∈ q.moves.take k, y.set = m.set) : ¬ E5 h q := by
 rintro ⟨_, _, _, _, _, h6, h7⟩
 rcases hn with hn | hn
 ·exact hn (h6 m (a0b hm))
 ·have h4 := Mq h7 (k + 1)
  rw [Be hm] at h4
  exact ((Ga _ _ _).1 h4).2 hn
theorem V2 (h : HouseR) (q : CueR) (hf : h.sets.length <= 9223372036854775807) (hq : q.moves.length <= 9223372036854775807) : Fn0 Tryz.prog 213 [A2 h.row, A2 q.row] (.b (decide (E5 h q))) := by
 have hle : (q.moves.map MoveR.row).length = q.moves.length := a0a _
 have hles : (h.sets.map SetR.row).length = h.sets.length := a0a _
 refine Fn0.of Tryz.func213 Tryz.ntmps213 rfl rfl rfl ?_
 simp only [A1]
 repeat' (first|refine W ?_|refine Zc (Cx _) ?_|refine Zc (Io _ _ _) ?_|refine V ?_|(refine W2 ?_ ?_<;>intro hc))
 all_goals first
  | exact A4 (by simp) a7h rfl (congrArg Value.bool (decide_eq_false (fun hh => by
    obtain ⟨g1, g2, g3, g4, g5, _⟩ := hh
    first | contradiction | omega)).symm)
  | skip
 all_goals
  refine p0d (fun k => k <= q.moves.length /\ (∀ m ∈ q.moves.take k, moveIn h m) /\ ((q.moves.take k).map MoveR.set).Nodup) (fun k => q.moves.length - k) (fun k => [(48, .i k), (47, .i (q.moves.map MoveR.row).length), (46, .sl (q.moves.map MoveR.row)), (2, .ptr 0 0), (3, .ptr 1 0)]) (fun _ => [.live (h.row.map .lf), .live (q.row.map .lf)]) 0 ⟨a0n _, by simp⟩ CV CH ?_
  rintro k ⟨hk, hok, hnd⟩
  by_cases hlt : k < q.moves.length
  ·have h1 : (k : Int) < ((q.moves.map MoveR.row).length : Nat) := by omega
   obtain ⟨m, hm⟩ := Ac hlt
   have hb := Af (R := MoveR.row) hm
   have hsn := Be hm
   have hmf := A0c (h := h) hm
   by_cases hk0 : Ae h m.set < 0
   ·have hbad : ¬ moveIn h m := fun ⟨_, _, hh, _⟩ => by omega
    repeat' (first|refine W ?_|(apply p0a A0 (by kernel_rfl))|(apply S.indexR;(iterate 3 exact rfl);exact hb;omega;exact rfl)|(apply p0k;(iterate 4 exact rfl))|refine Zc (Mt m) ?_|refine Zc (Pk h m.set hf) ?_|refine Zc (Io _ _ _) ?_|refine Za ?_|refine V ?_|(refine W2 ?_ ?_<;>intro hc))
    all_goals exact A4 (by simp) a7h rfl (congrArg Value.bool (decide_eq_false (hmf (.inl hbad))).symm)
   ·obtain ⟨s, hs⟩ := Ee hk0
    have hbs := Hm (R := SetR.row) hs
    have hin := A3q hk0 hs
    have hid := K2 (fun s : SetR => s.name = m.set) h.sets
    repeat' (first|refine W ?_|(apply p0a A0 (by kernel_rfl))|(apply S.indexR;(iterate 3 exact rfl);exact hb;omega;exact rfl)|(apply S.indexR;(iterate 3 exact rfl);exact hbs;omega;exact rfl)|(apply p0k;(iterate 4 exact rfl))|refine Zc (Mt m) ?_|refine Zc (Pk h m.set hf) ?_|refine Zc (Io _ _ _) ?_|(apply p1s;(iterate 3 exact rfl);omega;(intro row hr;obtain ⟨z, _, rfl⟩ := a1a.1 hr;rfl))|(apply S.callV;exact rfl;exact Uk q.moves k m hq;exact .cons (.one (.lf _)) (.cons (.fn (.cons (.ptr0 rfl) .nil)) .nil);exact rfl;exact rfl)|refine Za ?_|refine V ?_|(refine W2 ?_ ?_<;>intro hc))
    all_goals (try change Next _ _ _ _ _ _)
    all_goals first
     | exact Next.go (k + 1) ⟨by omega, by rw [hsn];intro y hy;rcases a0t.1 hy with hy | hy;exact hok y hy;obtain rfl : y = m := (by simpa using hy);exact hin.2 ⟨by assumption, by assumption⟩, by rw [hsn];exact (Ga _ _ _).2 ⟨hnd, by assumption⟩⟩ (by omega) CV CH
     | exact A4 (by simp) a7h rfl (congrArg Value.bool (decide_eq_false (hmf (.inr (by assumption)))).symm)
     | exact A4 (by simp) a7h rfl (congrArg Value.bool (decide_eq_false (hmf (.inl (fun hh => by
       have h3 := hin.1 hh
       first | exact absurd h3.1 (by assumption) | exact absurd h3.2 (by assumption))))).symm)
  ·have h1 : ¬ (k : Int) < ((q.moves.map MoveR.row).length : Nat) := by omega
   have hk2 : q.moves.take k = q.moves := a0h (by omega)
   rw [hk2] at hok hnd
   repeat' (first|refine W ?_|refine V ?_|(refine W2 ?_ ?_<;>intro hc))
   exact A4 (by simp) a7h rfl (congrArg Value.bool (decide_eq_true ⟨by assumption, by omega, by omega, by omega, by omega, hok, hnd⟩).symm)
end Go.Proofs.YtlapbaiejnaeiaaGreatDoor
namespace Go.Proofs.YtlapbaiejnaeiaaGreatDoor
open Go Go.RowKit
theorem CW {tm tm' : Tm} {n : Nat} (h : Cov tm n tm' := by (repeat' (first|exact Cov.nil|(apply Cov.cons;exact rfl;exact rfl)));first|done|fail) : Cov tm n tm' := h
theorem CG {H H' : AH} {n : Nat} (h : CovH n H H' := by (repeat' (first|exact CovH.nil|apply CovH.dead|(apply CovH.live;exact rfl)|apply CovH.map));first|done|fail) : CovH n H H' := h
section
variable {P : Program} {N : Nat} {ops : Array Oper} {m : Option Nat} {K : Tm -> AH -> Prop} {tm tm' : Tm} {H : AH} {rest : List Oper} {ty : TypeId} {pos : String} {af : Array Edge} {d : Nat} {t e : TypeId} {x y z : Operand}
theorem p3e {H : AH} {g : Nat} (h : H.nextId = some g) : H.at g = .free := by
 have := Gq h
 subst this
 simp [AH.at]
theorem RelH.keep {w : World} {L : Nat -> Prop} {ρ : Pl} {H : AH} (h : RelH w L ρ H) {g : Nat} {cs : List AV} {vs : List Value} (hg : H.at g = .free) (hl : cs.length = vs.length) (hr : ∀ (i : Nat) (x : AV) (v : Value), cs[i]? = some x -> vs[i]? = some v -> RelV w L ρ x v) : RelH w L ρ (H.put g (.gho cs vs)) := by
 have hput : ∀ {b : Nat} {y : HB}, (∀ cs vs, y ≠ .gho cs vs) -> (H.put g (.gho cs vs)).at b = y -> H.at b = y := fun {b y} hy hb => by
  rw [p0b] at hb
  split at hb
  ·exact absurd hb.symm (hy _ _)
  ·exact hb
 exact ⟨fun b hb => h.free b (hput (by intro _ _ h;cases h) hb), fun b hb => h.dead b (hput (by intro _ _ h;cases h) hb), fun b cs' hb => h.live b cs' (hput (by intro _ _ h;cases h) hb), fun b es hb => h.map b es (hput (by intro _ _ h;cases h) hb), h.dist,
  h.ext.put (fun k o u h1 h2 => ⟨h2, h1⟩) (by rw [hg];rfl) rfl (fun _ _ => rfl) (a0m _) (fun _ _ _ _ _ _ _ _ h => h) (fun _ _ _ _ _ => rfl) (fun _ _ _ h => by cases h) fun cs' vs' e => by
   injection e with e1 e2
   subst e1 e2
   exact ⟨(fun k o hk => by rw [h.free g hg] at hk;cases hk), hl, hr⟩⟩
def Ct (P : Program) (fn : Func) (g : Nat) (cs : List AV) (vs : List Value) (J : AV -> AH -> Prop) (e : Exit) (st : St) : Prop := (e = .normal \/ e = .ret) /\
 ∃ rs, ResL P st fn.results.toList rs /\ st.H.at g = .gho cs vs /\ J (Kr rs) st.H
theorem Aau {w : World} {L : Nat -> Prop} {ρ : Pl} {rs : List AV} {us : List Value} (hl : rs.length = us.length) (h : ∀ (i : Nat) (x : AV) (v : Value), rs[i]? = some x -> us[i]? = some v -> RelV w L ρ x v) : RelV w L ρ (Kr rs) (Pw us) := by
 match rs, us, hl, h with
 | [x], [u], _, h => exact h 0 x u rfl rfl
 | [], [], _, h => exact .tup [] [] rfl (fun i x u h => by simp at h)
 | x :: y :: xs, u :: v :: us, hl, h => exact .tup _ (u :: v :: us) hl h
theorem A1p : ∀ (keep : Tm) (t : Nat) (x : AV), keep.get t = some x -> ∃ i : Nat, keep[i]? = some (t, x)
 | [], t, x, h => by cases h
 | (k, y) :: r, t, x, h => by
  rw [p0p] at h
  by_cases e : k = t
  ·rw [if_pos e] at h
   injection h with h
   subst e h
   exact ⟨0, rfl⟩
  ·rw [if_neg e] at h
   obtain ⟨i, hi⟩ := A1p r t x h
   exact ⟨i + 1, hi⟩
theorem p1z (keep : Tm) {g : Nat} {f : FuncId} {fn : Func} {c : Code} {N' : Nat} {x : Operand} {xs : Array Operand} {ts : Array TypeId} {ys caps args : List AV} (hf : P.funcs[f]? = some fn) (hnt : fn.ntmps = N') (hb : fn.body = some c) (hn : (fn.name == "runtime.NumGoroutine") = false)
  (hx : evT tm x = some (.fn (.func f) [] caps)) (hy : evs (evT tm) xs.toList = some ys) (ha : ys ++ caps = args) (hN' : Nat.ble args.length N' = true) (hg : H.nextId = some g) (hk : Cov tm g keep) (hN : Nat.ble (d + 1) N = true)
  (h : ∀ vs : List Value, T P N' c ⟨A1 0 args, H.put g (.gho (keep.map (·.2)) vs)⟩ (Ct P fn g (keep.map (·.2)) vs fun r H' => Reg none P N ops rest ((d, r) :: keep) H' K)) :
  Reg none P N ops (⟨some d, .call ⟨.value x, xs, ts⟩, ty, pos, af, none⟩ :: rest) tm H K := by
 subst hnt ha
 refine ⟨fun E a w ρ hE hR => ?_⟩
 refine wpList_plain rfl fun K' hK => ?_
 have hNN := a0d hN'
 obtain ⟨g1, g2⟩ := Dk _ _ hy
 have hfv := hR.ev (x := x) (by rw [Ai];exact hx)
 obtain ⟨us, ws, h1, h2, h3, _, h4⟩ := hfv.fn_out
 simp only [a0o] at h2
 obtain rfl : us = [] := a1n h2.symm
 have hent : Enters P f := ⟨fn, hf, hn, by rw [hb];rfl⟩
 have hrun : (execOp a.eval ⟨some d, .call ⟨.value x, xs, ts⟩, ty, pos, af, none⟩).run P w = .ok (.enter f (xs.toList.map a.eval ++ ws).toArray) w := by
  have : (execOp a.eval ⟨some d, .call ⟨.value x, xs, ts⟩, ty, pos, af, none⟩).run P w = (callFunc f (#[] ++ xs.map a.eval ++ ws.toArray)).run P w := by simp [execOp, resolve, h1, Deferred.ofValue, invoke]
  rw [this, hent.run]
  simp only [a3i, a3r, true_and, and_true]
  apply a4x
  simp
 unfold Oper.wp
 rw [hrun]
 -- the callee's frame
 obtain ⟨vs, hvs⟩ : ∃ vs, vs = xs.toList.map a.eval ++ ws := ⟨_, rfl⟩
 have hvl : (ys ++ caps).length = vs.length := by rw [hvs];simp [<- g1, h3]
 have hv : ∀ (i : Nat) (x : AV) (v : Value), (ys ++ caps)[i]? = some x -> vs[i]? = some v -> RelV w E.L ρ x v := fun i x v hx hv => by
  rw [hvs] at hv
  rcases a1d i ys.length with hi | hi
  ·rw [a1h hi] at hx
   rw [a1h (by rw [a0a, g1];exact hi)] at hv
   obtain ⟨z, h5, h6⟩ := g2 i x hx
   rw [a0e, h5] at hv
   simp at hv
   subst hv
   exact hR.ev (by rw [Ai];exact h6)
  ·rw [a1g hi] at hx
   rw [a1g (by rw [a0a, g1];exact hi), a0a, g1] at hv
   exact h4 _ _ _ hx hv
 rw [<- hvs]
 obtain ⟨ks, hks⟩ : ∃ ks, ks = keep.map (fun p => a.tmps.getD p.1 undef) := ⟨_, rfl⟩
 have hfree := p3e hg
 have hkg : ∀ t y, keep.get t = some y -> tm.get t = some y := fun t y ht => (hk.get t y ht).1
 have hko : ∀ (i : Nat) (p : Nat × AV), keep[i]? = some p -> tm.get p.1 = some p.2 := by
  have key : ∀ (keep : Tm), Cov tm g keep -> ∀ (i : Nat) (p : Nat × AV), keep[i]? = some p -> tm.get p.1 = some p.2 := fun keep hc => by
   induction hc with
   | nil => intro i p hp;simp at hp
   | cons h hb c ih =>
    intro i p hp
    cases i with
    | zero => simp at hp;subst hp;exact h
    | succ i => exact ih i p (by simpa using hp)
  exact key keep hk
 let E' : Env := { N := fn.ntmps, L := E.L, O := E.O, w0 := E.w0, good := E.good }
 have hsz : (vs.toArray ++ Array.replicate (fn.ntmps - vs.toArray.size) undef).size = fn.ntmps := by simp;omega
 have hst : RelSt E' ⟨A1 0 (ys ++ caps), H.put g (.gho (keep.map (·.2)) ks)⟩ { tmps := vs.toArray ++ Array.replicate (fn.ntmps - vs.toArray.size) undef, defers := [] } w ρ := by
  refine ⟨hsz, rfl, fun t x hx => ?_, hR.H.keep hfree (by rw [hks];simp) fun i y v hy hv => ?_, hR.fr, fun b k o hk => hR.minePut g rfl hk, hR.lim⟩
  ·obtain ⟨_, hx⟩ := Hd _ _ _ _ hx
   rw [a5x] at hx
   have ht : t < (ys ++ caps).length := (a0g.1 hx).1
   refine ⟨by show t < fn.ntmps;omega, ?_⟩
   have hu : vs[t]? = some (vs[t]'(by omega)) := a0c _
   have : (vs.toArray ++ Array.replicate (fn.ntmps - vs.toArray.size) undef).getD t undef = vs[t]'(by omega) := by
    rw [a0r, a1u (by simp;omega)]
    simp [hu]
   show RelV w E.L ρ x ((vs.toArray ++ Array.replicate (fn.ntmps - vs.toArray.size) undef).getD t undef)
   rw [this]
   exact hv t x _ hx hu
  ·rw [a0e] at hy
   rw [hks, a0e] at hv
   cases e : keep[i]? with
   | none => rw [e] at hy;cases hy
   | some p =>
    rw [e] at hy hv
    simp only [a1b, a0f] at hy hv
    subst hy hv
    exact (hR.tm p.1 p.2 (hko i p e)).2
 have key : Calls P f vs.toArray w fun e w' => ∃ v, e = .returned v /\ K' (a.put (some d) v) w' := by
  refine calls_of_wp hf hb ?_
  refine wp_mono ((h ks).out E' _ w ρ rfl hst) ?_
  rintro e a' w' ⟨st', ρ', ⟨he, rs, hrs, hgo, hreg⟩, hr'⟩
  obtain ⟨us, h1, h2, h3⟩ := hrs.run hr'
  have hres := Gc (fn := fn) h1
  have hback : RelSt E ⟨keep, st'.H⟩ a w' ρ' := by
   refine ⟨hR.size, hR.defers, fun t x hx => ?_, hr'.H, hr'.fr, hr'.mine, hr'.lim⟩
   obtain ⟨i, hi⟩ := A1p keep t x hx
   obtain ⟨_, _, q3⟩ := hr'.H.ext.gho g _ _ hgo
   exact ⟨(hR.tm t x (hkg t x hx)).1, q3 i x _ (by rw [a0e, hi];rfl) (by rw [hks, a0e, hi];rfl)⟩
  have hfin : K' (a.put (some d) (Pw us)) w' := hK _ _ (hreg.out E _ w' ρ' hE (hback.put (by rw [hE];exact a0d hN) (Aau h2 h3)))
  rcases he with rfl | rfl
  ·exact ⟨hr'.defers, _, hres, _, rfl, hfin⟩
  ·exact ⟨hr'.defers, _, hres, _, rfl, hfin⟩
 refine key.mono ?_
 rintro e w' ⟨v, rfl, hv⟩
 exact hv
end
section
variable {P : Program} {N : Nat} {ops : Array Oper}
theorem p0j {K : Tm -> AH -> Prop} {n d : Nat} (i : Nat) {listed : Array Bool} {tm : Tm} {H : AH} {x : Operand} {j : Nat} {ty : TypeId} {pos : String} {af : Array Edge} {cs : List AV} {r : AV} (ho : ops[i]? = some ⟨some d, .extract x j, ty, pos, af, none⟩) (hs : Region.noSelect ops = true) (hf : Region.free .any ops listed i = true) (hr : (Region.ready .any ops listed).contains i = true) (hx : evT tm x = some (.tup cs)) (hc : cs[j]? = some r) (hN : Nat.ble (d + 1) N = true)
  (h : Ords P N ops K n (listed.setIfInBounds i true) ((d, r) :: tm) H) : Ords P N ops K (n + 1) listed tm H :=
 Ords.take ho hs hf hr hN (fun L w ρ η hη => by
  obtain ⟨vs, h1, hl, hv⟩ := (hη x (by simp [Op.operands]) _ hx).tup_out
  have hi : j < vs.length := by rw [<- hl];exact (a0g.1 hc).1
  exact ⟨vs[j], fun w' => by simp [execOp, h1, Instr.extract, hi], hv j r _ hc (a0c hi)⟩) h
theorem p1a {K : Tm -> AH -> Prop} {n d : Nat} (i : Nat) {listed : Array Bool} {tm : Tm} {H : AH} {x : Operand} {ty : TypeId} {pos : String} {af : Array Edge} {r : AV} (ho : ops[i]? = some ⟨some d, .assign x, ty, pos, af, none⟩) (hs : Region.noSelect ops = true) (hf : Region.free .any ops listed i = true) (hr : (Region.ready .any ops listed).contains i = true) (hx : evT tm x = some r) (hN : Nat.ble (d + 1) N = true)
  (h : Ords P N ops K n (listed.setIfInBounds i true) ((d, r) :: tm) H) : Ords P N ops K (n + 1) listed tm H :=
 Ords.take ho hs hf hr hN (fun L w ρ η hη => ⟨η x, fun w' => by simp [execOp], hη x (by simp [Op.operands]) _ hx⟩) h
theorem p0z {K : Tm -> AH -> Prop} {n d : Nat} (i : Nat) {listed : Array Bool} {tm : Tm} {H : AH} {x : Operand} {t ty : TypeId} {j b off fo : Nat} {pos : String} {af : Array Edge} {cells : List AV} [hfi : HasF P t j fo] (ho : ops[i]? = some ⟨some d, .fieldAddr t x j, ty, pos, af, none⟩) (hs : Region.noSelect ops = true) (hf : Region.free .any ops listed i = true) (hr : (Region.ready .any ops listed).contains i = true) (hx : evT tm x = some (.ptr b off)) (hb : H.at b = .live cells) (hN : Nat.ble (d + 1) N = true)
  (h : Ords P N ops K n (listed.setIfInBounds i true) ((d, .ptr b (off + fo)) :: tm) H) : Ords P N ops K (n + 1) listed tm H := ⟨fun E a w ρ hE hR => by
 obtain ⟨fs, f, m, h1, h2, h3, h4, rfl⟩ := hfi.out
 obtain ⟨k, o', arr, e, lo, hi', g1, g2, g3, g4, g5, g6⟩ := hR.H.live b cells hb
 have hv := (hR.ev (x := x) (by rw [Ai];exact hx)).ptr_out k o' g1
 refine wpAny_take ho hs hf hr (fun c a w hq => absurd hq.1 (by simp)) (.inl ⟨rfl, fun w' => by simp only [execOp, hv, a0p, Iq h1 h2 h3 h4, a0l, a1e];rfl⟩) (h.out E _ w ρ hE (hR.put (by rw [hE];exact a0d hN) ?_))
 refine .ptr _ _ _ (by rw [g1];simp) rfl fun k2 o2 h2 => ?_
 rw [g1] at h2
 injection h2 with h2
 injection h2 with h2
 injection h2 with h2 h3
 subst h2 h3
 rw [Bm rfl, a1m]⟩
end
theorem Y {G R : Prop} (r : R) (h : Rest R -> G := by
 intro r
 first
  | (apply S.call;exact rfl;exact rfl;assumption;exact rfl)
  | (apply S.indexR;(iterate 3 exact rfl);assumption;omega;exact rfl)
  | (apply p0k;(iterate 4 exact rfl))
  | (apply S.max2;(iterate 3 exact rfl))
  | (apply S.min2;(iterate 3 exact rfl))
  | refine Za ?_
  | (apply S.lenO;(iterate 3 exact rfl))
  | (apply p0v;(iterate 3 exact rfl))
 exact r.out) : G := h ⟨r⟩
section
variable {P : Program} {N : Nat} {ops : Array Oper} {m : Option Nat} {K : Tm -> AH -> Prop} {tm tm' : Tm} {H : AH} {rest : List Oper} {ty : TypeId} {pos : String} {af : Array Edge} {d : Nat} {t e : TypeId} {x y z : Operand}
theorem OpV.idxV {o : Oper} {ev : Operand -> Option AV} {Hf : Nat -> HB} {k : IntKind} {i : Int} {len : Nat} {cs : List AV} {c : AV} {ds : TypeDesc} (ho : o.op = .index t x y) (hx : ev x = some (.agg cs)) (hy : ev y = some (.val (.int k i))) (hu : P.underlying t = some (.array len e)) (he : P.underlying e = some ds) (hr : ds.isRow = false) (hi : (P.info? e).map (·.size) = some 1) (h0 : 0 <= i /\ i < len) (hc : cs[i.toNat]? = some c) : OpV P o ev Hf c none := OpV.mk fun L w ρ η hη _ => by
 obtain ⟨vs, h1, hl, hv⟩ := (hη x (by simp [ho, Op.operands]) _ hx).agg_out
 have h2 := (hη y (by simp [ho, Op.operands]) _ hy).val_eq
 have hlt : i.toNat < vs.length := by rw [<- hl];exact (a0g.1 hc).1
 have hg := a0c hlt
 refine ⟨vs[i.toNat], ?_, hv _ _ _ hc hg⟩
 simp [execOp, ho, h1, h2, Instr.index, asIntOf, run_underlying hu, h0, B5 hi, part, Kn he, hr, hlt]
theorem S.idxV {k : IntKind} {i : Int} {len : Nat} {cs : List AV} {c : AV} {ds : TypeDesc} [hu : HasU P t (.array len e)] [he : HasU P e ds] [hi : HasS P e 1] (hx : evT tm x = some (.agg cs)) (hy : evT tm y = some (.val (.int k i))) (hr : ds.isRow = false) (h0 : 0 <= i /\ i < len) (hc : cs[i.toNat]? = some c) (hN : Nat.ble (d + 1) N = true) (h : Reg m P N ops rest ((d, c) :: tm) H K) : Reg m P N ops (⟨some d, .index t x y, ty, pos, af, none⟩ :: rest) tm H K :=
 S.val (OpV.idxV rfl hx hy hu.out he.out hr hi.out h0 hc) hN h
end
section
variable {P : Program} {N : Nat} {ops : Array Oper} {m : Option Nat} {K : Tm -> AH -> Prop} {tm : Tm} {H : AH} {rest : List Oper} {ty : TypeId} {pos : String} {af : Array Edge} {d : Nat} {t e : TypeId}
theorem p0c {ps : Array (Nat × Operand)} {n : Nat} {zv : Value} {ys : List (Nat × AV)} {out : List AV} {cs : List Lf} [hu : HasU P t (.slice e)] [hi : HasS P e n] [hz : HasZ P e zv] (h1 : Nat.ble 1 (1 * n) = true) (h2 : Nat.ble (1 * n) 16777216 = true) (hy : Du (evT tm) ps.toList = some ys) (ho : G6 (fun (i : Nat) => some (i * n, n)) ys (Fa zv (1 * n)) = some out) (hc : lfs out = some cs) (hl : Nat.beq cs.length (1 * n) = true) (hN : Nat.ble (d + 1) N = true) (h : Reg m P N ops rest ((d, .sl [cs]) :: tm) H K) : Reg m P N ops (⟨some d, .buildSlice t 1 ps, ty, pos, af, none⟩ :: rest) tm H K :=
 p1d h1 h2 hy ho hc hl (by
  have := a1w hl
  simp only [chunks, Rz]
  rw [a0h (by omega)]) hN h
end
theorem Ag {n : Nat} {r : List Lf} (h : r.length = n) : ∀ x ∈ [r], x.length = n := by
 intro x hx
 simp only [a1i, a2r, or_false] at hx
 rw [hx];exact h
theorem Ah (n : Nat) (cs : List Lf) : (cs.map AV.lf).all (AV.under n) = true := by
 rw [a0k]
 intro x hx
 obtain ⟨y, _, rfl⟩ := a1a.1 hx
 rfl
def rT (b st : Nat) : Nat -> AV
 | 0 => .val (.slice none 0 0)
 | n + 1 => .own b 0 (n + 1) st
def rB (cells : List AV) : Nat -> HB
 | 0 => .dead
 | _ + 1 => .live cells
theorem K9 {b st n : Nat} (h : 0 < n) : rT b st n = .own b 0 n st := by cases n <;> first | omega | rfl
theorem K8 {cells : List AV} {n : Nat} (h : 0 < n) : rB cells n = .live cells := by cases n <;> first | omega | rfl
theorem N0 (n b st : Nat) : ∀ k, b < n -> (rT b st k).under n = true
 | 0, _ => rfl
 | k + 1, h => by show Nat.blt b n = true;exact a2o h
theorem p2c {n : Nat} {cells : List AV} {H H' : AH} (hb : cells.all (AV.under n) = true) (c : CovH n H H') : ∀ k, CovH n (rB cells k :: H) (rB cells k :: H')
 | 0 => .dead c
 | _ + 1 => .live hb c
section
variable {P : Program} {N : Nat} {ops : Array Oper} {K : Tm -> AH -> Prop} {tm : Tm} {H : AH} {rest : List Oper} {ty : TypeId} {pos : String} {af : Array Edge} {d : Nat} {t e : TypeId} {x : Operand}
theorem p2d {b st n : Nat} {cells : List AV} [hu : HasU P t (.slice e)] (hx : evT tm x = some (rT b st n)) (hb : H.at b = rB cells n) (hN : Nat.ble (d + 1) N = true) (h : Reg none P N ops rest ((d, .val (.int .i64 (n : Int))) :: tm) H K) : Reg none P N ops (⟨some d, .call ⟨.builtin .len, #[x], #[t]⟩, ty, pos, af, none⟩ :: rest) tm H K := by
 cases n with
 | zero => exact p4z hx hN h
 | succ n => exact S.lenO hx (by show (H.at b).isLive = true;rw [hb];rfl) hN h
end
end Go.Proofs.YtlapbaiejnaeiaaGreatDoor
