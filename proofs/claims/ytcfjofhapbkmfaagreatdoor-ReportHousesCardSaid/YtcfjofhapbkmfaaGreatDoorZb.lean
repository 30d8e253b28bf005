/- A calculus over abstract states: ranges over a function. A round's code and what comes behind such a loop are walked by the same steps. Plain theory over any program. No conditions but those of each statement. -/
import Derived.Test.YtcfjofhapbkmfaaGreatDoorPa
import Derived.Test.YtcfjofhapbkmfaaGreatDoorMc
import Derived.RangeFuncNested
import Derived.RangeFuncCalls
import Derived.RangeFuncLeaves
import Derived.OwnWalkIn
import Derived.OrdersIn
import Derived.Test.YtcfjofhapbkmfaaGreatDoorYa
set_option linter.unusedSimpArgs false
set_option linter.unusedVariables false
namespace Go.Proofs.YtcfjofhapbkmfaaGreatDoor
open Go Go.RowKit
/-! ### From the plain steps to those in a round -/
def Bo (a : Act) (ds : List Deferred) : Act := { a with defers := a.defers ++ ds }
theorem Ea (a : Act) (ds : List Deferred) (d : Option Tmp) (v : Value) : (Bo a ds).put d v = Bo (a.put d v) ds := by cases d <;> rfl
theorem I2 (a : Act) (ds : List Deferred) : (Bo a ds).eval = a.eval := by
 funext x
 cases x <;> rfl
def WdF (F : Fence) : Prop := F = Fence.wide \/ ∃ l, F = Fence.wide.inRound l
theorem WdF.fn {F : Fence} (h : WdF F) (f : FuncId) : F.fn f := by rcases h with rfl | ⟨l, rfl⟩ <;> trivial
def F3 (o : Oper) : Bool := match o.op with | .defer _ => false | _ => true
theorem Vg {o : Oper} (h : F3 o = true) : ∀ c, o.op ≠ .defer c := fun c e => by unfold F3 at h;rw [e] at h;cases h
section
variable {P : Program} {F : Fence} {n : Nat} {Q Q' : Exit -> Act -> World -> Prop} {ds : List Deferred}
theorem S0 (hF : WdF F) {o : Oper} {a : Act} {w : World} {next next' : Act -> World -> Prop} (ho : F3 o = true) (hn : ∀ a' w', next a' w' -> next' (Bo a' ds) w') (hp : ∀ c a' w', ¬ Q (.panic c) a' w') (hl : ∀ a' w', ¬ Q .outgrown a' w') (h : o.wp P a w next Q) : o.wpIn F n P (Bo a ds) w next' Q' := by
 refine ⟨fun f _ => hF.fn f, ?_⟩
 rw [Oper.semAt_plain F _ _ (Vg ho), I2]
 unfold Oper.wp at h
 have hlo : ¬ LetsOut Q := fun ⟨a', w', k⟩ => hl a' w' k
 generalize (execOp a.eval o).run P w = r at *
 match r, h with
 | .ok (.value v) w', h => show next' ((Bo a ds).put o.dst v) w';rw [Ea];exact hn _ _ h
 | .ok .skip w', h => show next' ((Bo a ds).put o.dst undef) w';rw [Ea];exact hn _ _ h
 | .ok (.defer d) w', h =>
  show next' ({ Bo a ds with defers := d :: (Bo a ds).defers }.put o.dst undef) w'
  have := hn _ _ h
  rw [<- Ea] at this
  exact this
 | .ok (.enter f args) w', h =>
  have key : CallsIn Fence.wide (n - 1) P f args w' fun
   | .returned v, w'' => next' ((Bo a ds).put o.dst v) w''
   | .panicked chain, w'' => Q' (.panic chain) (Bo a ds) w''
   | .outgrown, _ => LetsOut Q' := callsIn_wide.2 ((h : Calls P f args w' _).mono fun e w'' hq => by
    cases e with
    | returned v => show next' ((Bo a ds).put o.dst v) w'';rw [Ea];exact hn _ _ hq
    | panicked c => exact absurd hq (hp _ _ _)
    | outgrown => exact absurd hq hlo)
  rcases hF with rfl | ⟨l, rfl⟩
  ·exact ⟨fun k => by simp [Fence.wide] at k, key⟩
  ·exact ⟨fun k => by simp [Fence.wide, Fence.inRound] at k, key⟩
 | .ok (.row row args) w', h =>
  have key : RowsIn Fence.wide (n - 1) P row args w' fun v w'' => next' ((Bo a ds).put o.dst v) w'' := fun c cs _ => by
   obtain ⟨v, w2, h1, h2⟩ := (h : Rows P row args w' _) c cs
   exact ⟨v, w2, (by show next' ((Bo a ds).put o.dst v) w2;rw [Ea];exact hn _ _ h1), stepsIn_wide.2 h2⟩
  rcases hF with rfl | ⟨l, rfl⟩
  ·exact ⟨fun k => by simp [Fence.wide] at k, key⟩
  ·exact ⟨fun k => by simp [Fence.wide, Fence.inRound] at k, key⟩
 | .halt (.panic v) w', h => exact absurd h (hp _ _ _)
theorem Mq (hF : WdF F) {ops : Array Oper} (hn : ∀ a' w', Q .normal a' w' -> Q' .normal (Bo a' ds) w') (hp : ∀ c a' w', ¬ Q (.panic c) a' w') (hl : ∀ a' w', ¬ Q .outgrown a' w') : ∀ (l : List Oper) (a : Act) (w : World), l.all F3 = true -> wpList P ops Q l a w -> wpListIn F n P ops Q' l (Bo a ds) w
 | [], a, w, _, h => hn _ _ h
 | o :: l, a, w, ho, h => by
  rw [List.all_cons, Bool.and_eq_true] at ho
  unfold wpList at h
  unfold wpListIn
  show if Region.wanted o (yielded ops a.tmps) then _ else _
  split
  ·rename_i hw
   rw [if_pos hw] at h
   rcases h with h | ⟨_, a', w', k⟩
   ·exact S0 hF ho.1 (fun a' w' k => Mq hF hn hp hl l a' w' ho.2 k) hp hl h
   ·exact absurd k (hl _ _)
  ·rename_i hw
   rw [if_neg hw] at h
   exact ⟨fun f _ => hF.fn f, by rw [Ea];exact Mq hF hn hp hl l _ w ho.2 h⟩
theorem Kx (hF : WdF F) {ops : Array Oper} (ho : ops.toList.all F3 = true) (hn : ∀ a' w', Q .normal a' w' -> Q' .normal (Bo a' ds) w') (hp : ∀ c a' w', ¬ Q (.panic c) a' w') (hl : ∀ a' w', ¬ Q .outgrown a' w') : ∀ (fuel : Nat) (listed : Array Bool) (a : Act) (w : World), wpAny P .any ops Q fuel listed a w -> wpAnyIn F n P .any ops Q' fuel listed (Bo a ds) w
 | 0, listed, a, w, h => ⟨h.1, hn _ _ h.2⟩
 | fuel + 1, listed, a, w, h => by
  refine ⟨fun k => hn _ _ (h.1 k), fun i hi => ?_⟩
  have h1 := h.2 i hi
  unfold wpOp at h1
  unfold wpOpIn
  cases e : ops[i]? with
  | none =>
   rw [e] at h1
   exact Kx hF ho hn hp hl fuel _ a w h1
  | some o =>
   rw [e] at h1
   have hno : F3 o = true := List.all_eq_true.1 ho o (by simpa using Array.mem_of_getElem? e)
   dsimp only at h1 ⊢
   show if Region.wanted o (yielded ops a.tmps) then _ else _
   split
   ·rename_i hw
    rw [if_pos hw] at h1
    rcases h1 with h1 | ⟨_, a', w', k⟩
    ·exact S0 hF hno (fun a' w' k => Kx hF ho hn hp hl fuel _ a' w' k) hp hl h1
    ·exact absurd k (hl _ _)
   ·rename_i hw
    rw [if_neg hw] at h1
    exact ⟨fun f _ => hF.fn f, by rw [Ea];exact Kx hF ho hn hp hl fuel _ _ w h1⟩
end
/-! ### The same blocks, seen from now on -/
def HB.calm : HB -> Bool
 | .live _ => true
 | .dead => true
 | .free => true
 | .gho _ _ => true
 | _ => false
def calmH (H : AH) : Bool := H.all HB.calm
theorem calmH.at {H : AH} (h : calmH H = true) (b : Nat) : (H.at b).calm = true := by
 unfold AH.at
 rw [List.getD_eq_getElem?_getD]
 cases e : H[b]? with
 | none => rfl
 | some x => exact List.all_eq_true.1 h x (List.mem_of_getElem? e)
theorem P3 {x : HB} (h : x.calm = true) : x.isExt = false := by cases x <;> first | rfl | cases h
theorem RelH.cells {w : World} {L : Nat -> Prop} {ρ : Pl} {H : AH} (h : RelH w L ρ H) (hc : calmH H = true) {b k o : Nat} (hb : ρ b = some (some (k, o))) : ∃ c e f, w.heap[k]? = some (.cells c e f) := by
 have h1 := hc
 have h2 := calmH.at h1 b
 cases e : H.at b with
 | live cells =>
  obtain ⟨k', o', c, e', lo, hi, g1, g2, _⟩ := h.live b cells e
  rw [hb] at g1
  injection g1 with g1
  injection g1 with g1
  injection g1 with g1 g3
  subst g1
  exact ⟨c, e', _, g2⟩
 | dead => rw [h.dead b e] at hb;cases hb
 | free => rw [h.free b e] at hb;cases hb
 | gho cs vs => exact absurd hb ((h.ext.gho b cs vs e).1 k o)
 | map _ => rw [e] at h2;cases h2
 | bld _ _ _ _ => rw [e] at h2;cases h2
 | hid => rw [e] at h2;cases h2
 | hot _ _ _ => rw [e] at h2;cases h2
def Ov (ρ : Pl) (k : Nat) : Prop := ∃ b o, ρ b = some (some (k, o))
def Env.at (E : Env) (w : World) (ρ : Pl) (hg : ∀ w', Fr (Ov ρ) w w' -> Glob w') : Env := { N := E.N, L := E.L, O := Ov ρ, w0 := w, good := hg }
theorem RelSt.mineB {E : Env} {st : St} {a : Act} {w : World} {ρ : Pl} (h : RelSt E st a w ρ) {k : Nat} (hk : Ov ρ k) : E.O k \/ E.w0.heap.size <= k := by
 obtain ⟨b, o, hb⟩ := hk
 exact (h.mine b k o hb).imp And.left id
theorem RelSt.fit {E : Env} {st : St} {a : Act} {w : World} {ρ : Pl} (h : RelSt E st a w ρ) : ∀ w', Fr (Ov ρ) w w' -> Glob w' := fun w' hf => E.good w' (h.fr.trans (hf.mono fun k _ hk => h.mineB hk))
theorem RelSt.rebase {E : Env} {st : St} {a : Act} {w : World} {ρ : Pl} (h : RelSt E st a w ρ) (hc : calmH st.H = true) : RelSt (E.at w ρ h.fit) st a w ρ :=
 ⟨h.size, h.defers, h.tm, h.H, Fr.refl _ _, fun b k o hb => .inl ⟨⟨b, o, hb⟩, P3 (calmH.at hc b)⟩, fun k hk => Nat.lt_of_lt_of_le (h.lim k hk) h.fr.size⟩
theorem RelSt.unbase {E : Env} {st st' : St} {a a' : Act} {w w' : World} {ρ ρ' : Pl} (h : RelSt E st a w ρ) (h' : RelSt (E.at w ρ h.fit) st' a' w' ρ') : RelSt E st' a' w' ρ' := by
 refine ⟨h'.size, h'.defers, h'.tm, h'.H, h.fr.trans (h'.fr.mono fun k _ hk => h.mineB hk), fun b k o hb => ?_, h.lim⟩
 rcases h'.mine b k o hb with ⟨h1, h2⟩ | h1
 ·exact (h.mineB h1).imp (fun x => ⟨x, h2⟩) fun x => x
 ·exact .inr (Nat.le_trans h.fr.size h1)
theorem RelSt.others {E : Env} {st st' : St} {a a' : Act} {w w' : World} {ρ ρ' : Pl} (h : RelSt E st a w ρ) (hc : calmH st.H = true) (h' : RelSt (E.at w ρ h.fit) st' a' w' ρ') {k : Nat} {o : Obj} (hk : w.heap[k]? = some o) (ho : o.isCells = false) : w'.heap[k]? = some o := by
 have hlt : k < w.heap.size := (Array.getElem?_eq_some_iff.1 hk).1
 rw [h'.fr.block k hlt (fun ⟨b, q, hb⟩ => ?_)]
 ·exact hk
 ·obtain ⟨c, e, f, hcell⟩ := h.H.cells hc hb
  rw [hk] at hcell
  injection hcell with hcell
  subst hcell
  cases ho
theorem RelSt.turned {E : Env} {st : St} {a : Act} {w w' : World} {ρ : Pl} (h : RelSt E st a w ρ) (hc : calmH st.H = true) (hk : ∀ (k : Nat) (c : Array Value) (e : TypeId) (f : Nat × Nat), w.heap[k]? = some (Obj.cells c e f) -> w'.heap[k]? = some (Obj.cells c e f)) (hf : Fr (fun k => E.O k \/ E.w0.heap.size <= k) w w') : RelSt E st a w' ρ := by
 have hcell : ∀ k o u, w.cell? ⟨k, o, none⟩ = some u -> w'.cell? ⟨k, o, none⟩ = some u := fun k o u hu => by
  unfold World.cell? at hu ⊢
  dsimp only at hu ⊢
  split at hu
  ·rename_i c e f he
   rw [hk _ _ _ _ he]
   exact hu
  ·cases hu
 have hl : Later E.L w ρ w' ρ := ⟨fun _ _ => .inl rfl, fun k o u h1 h2 => ⟨hcell k o u h2, h1⟩, hf.shape⟩
 refine h.move hl ?_ hf h.mine
 refine ⟨h.H.free, h.H.dead, fun b cells hb => ?_, fun b es hb => ?_, h.H.dist, h.H.ext.same hl.cell hf.size (fun b k o hb => ?_) fun x v hx => hx.later hl⟩
 ·obtain ⟨k, o, c, e, lo, hi, h1, h2, h3, h4, h5, h6⟩ := h.H.live b cells hb
  refine ⟨k, o, c, e, lo, hi, h1, hk _ _ _ _ h2, h3, h4, h5, fun j x hj => ?_⟩
  obtain ⟨v, g1, g2⟩ := h6 j x hj
  exact ⟨v, g1, g2.later hl⟩
 ·have := calmH.at hc b
  rw [hb] at this
  cases this
 ·obtain ⟨c, e, f, hcl⟩ := h.H.cells hc hb
  rw [hcl, hk _ _ _ _ hcl]
/-! ### The steps at any fence, deferred marks of loops kept aside -/
def mkD (D : Nat) : Deferred := { target := .collected D, args := #[] }
def DOk (E : Env) (Ds : List Nat) (w : World) : Prop := Ds.Nodup /\ ∀ D ∈ Ds, E.w0.heap.size <= D /\ w.heap[D]? = some (.deferred (some []))
def Yt (E : Env) (Q : Exit -> St -> Prop) (e : Exit) (a' : Act) (w' : World) : Prop := ∃ a1 Ds st' ρ', Q e st' /\ RelSt E st' a1 w' ρ' /\ DOk E Ds w' /\ a' = Bo a1 (Ds.map mkD)
structure T2 (F : Fence) (n : Nat) (P : Program) (N : Nat) (c : Code) (st : St) (Q : Exit -> St -> Prop) : Prop where
 out : ∀ (E : Env) (a : Act) (w : World) (ρ : Pl) (Ds : List Nat), E.N = N -> RelSt E st a w ρ -> DOk E Ds w -> c.wpIn F n P (Yt E Q) (Bo a (Ds.map mkD)) w
section
variable {F : Fence} {n : Nat} {P : Program} {N : Nat} {st : St} {Q : Exit -> St -> Prop}
theorem T2.mono {c : Code} {Q' : Exit -> St -> Prop} (h : T2 F n P N c st Q) (hq : ∀ e st, Q e st -> Q' e st) : T2 F n P N c st Q' := ⟨fun E a w ρ Ds hE hr hD =>
 wpIn_mono (h.out E a w ρ Ds hE hr hD) fun e a' w' ⟨a1, Ds', st', ρ', q, r⟩ => ⟨a1, Ds', st', ρ', hq _ _ q, r⟩⟩
theorem T2.skip (h : Q .normal st) : T2 F n P N .skip st Q := ⟨fun E a w ρ Ds hE hr hD => wpIn_skip ⟨a, Ds, st, ρ, h, hr, hD, rfl⟩⟩
theorem T2.exit {id : Nat} (h : Q (.exit id) st) : T2 F n P N (.exit id) st Q := ⟨fun E a w ρ Ds hE hr hD => wpIn_exit ⟨a, Ds, st, ρ, h, hr, hD, rfl⟩⟩
theorem T2.ret (h : Q .ret st) : T2 F n P N .ret st Q := ⟨fun E a w ρ Ds hE hr hD => wpIn_ret ⟨a, Ds, st, ρ, h, hr, hD, rfl⟩⟩
theorem T2.seq {x y : Code} (h : T2 F n P N x st (Au (fun st' => T2 F n P N y st' Q) Q)) : T2 F n P N (.seq x y) st Q := ⟨fun E a w ρ Ds hE hr hD => by
 refine wpIn_seq (wpIn_mono (h.out E a w ρ Ds hE hr hD) ?_)
 rintro e a' w' ⟨a1, Ds', st', ρ', q, r, hD', rfl⟩
 cases e with
 | normal => exact q.out E a1 w' ρ' Ds' hE r hD'
 | exit i => exact ⟨a1, Ds', st', ρ', q, r, hD', rfl⟩
 | goto i => exact ⟨a1, Ds', st', ρ', q, r, hD', rfl⟩
 | ret => exact ⟨a1, Ds', st', ρ', q, r, hD', rfl⟩
 | panic c => exact ⟨a1, Ds', st', ρ', q, r, hD', rfl⟩
 | outgrown => exact ⟨a1, Ds', st', ρ', q, r, hD', rfl⟩⟩
theorem T2.block {id : Nat} {c : Code} (h : T2 F n P N c st (Ae id Q)) : T2 F n P N (.block id c) st Q := ⟨fun E a w ρ Ds hE hr hD => by
 refine wpIn_block (wpIn_mono (h.out E a w ρ Ds hE hr hD) ?_)
 rintro e a' w' ⟨a1, Ds', st', ρ', q, r, hD', rfl⟩
 cases e with
 | exit i =>
  simp only [Exit.inBlock]
  by_cases hi : i = id
  ·subst hi
   rw [if_pos rfl]
   simp only [Ae, Nat.beq_refl] at q
   exact ⟨a1, Ds', st', ρ', q, r, hD', rfl⟩
  ·rw [if_neg hi]
   simp only [Ae, Dc hi] at q
   exact ⟨a1, Ds', st', ρ', q, r, hD', rfl⟩
 | normal => exact ⟨a1, Ds', st', ρ', q, r, hD', rfl⟩
 | goto i => exact ⟨a1, Ds', st', ρ', q, r, hD', rfl⟩
 | ret => exact ⟨a1, Ds', st', ρ', q, r, hD', rfl⟩
 | panic c => exact ⟨a1, Ds', st', ρ', q, r, hD', rfl⟩
 | outgrown => exact ⟨a1, Ds', st', ρ', q, r, hD', rfl⟩⟩
theorem T2.cond {x y : Code} {c : Operand} {b : Bool} (hc : st.ev c = some (.val (.bool b))) (h1 : b = true -> T2 F n P N x st Q) (h2 : b = false -> T2 F n P N y st Q) : T2 F n P N (.cond c x y) st Q := ⟨fun E a w ρ Ds hE hr hD =>
 wpIn_cond_split (by rw [I2];exact (hr.ev hc).val_eq) (fun hb => (h1 hb).out E a w ρ Ds hE hr hD) (fun hb => (h2 hb).out E a w ρ Ds hE hr hD)⟩
theorem T2.cov {c : Code} {tm tm' : Tm} {H H' : AH} (ht : Cov tm H'.length tm') (hH : CovH H'.length H H') (h : T2 F n P N c ⟨tm', H'⟩ Q) : T2 F n P N c ⟨tm, H⟩ Q := ⟨fun E a w ρ Ds hE hr hD => by
 obtain ⟨ρ', hr'⟩ := hr.cov ht hH
 exact h.out E a w ρ' Ds hE hr' hD⟩
theorem T2.loop {c : Code} (I : Nat -> St -> Prop) {k : Nat} (h0 : I k st) (round : ∀ k st, I k st -> T2 F n P N c st (Au (fun st' => ∃ m, m < k /\ I m st') Q)) : T2 F n P N (.loop c) st Q := ⟨fun E a w ρ Ds hE hr hD => by
 let p : Act -> World -> Nat -> Prop := fun a w n => ∃ a1 Ds st ρ, I n st /\ RelSt E st a1 w ρ /\ DOk E Ds w /\ a = Bo a1 (Ds.map mkD)
 let μ : Act -> World -> Nat := fun a w => @dite _ (∃ n, p a w n) (Classical.propDecidable _) (fun h => (Ou h).choose) (fun _ => 0)
 have hμ : ∀ a w, (∃ n, p a w n) -> p a w (μ a w) /\ ∀ m, p a w m -> μ a w <= m := fun a w h => by
  have := (Ou h).choose_spec
  simp only [μ, dif_pos h]
  exact this
 refine wpIn_loop (fun a w => ∃ n, p a w n) μ ⟨k, a, Ds, st, ρ, h0, hr, hD, rfl⟩ fun a w hI => ?_
 obtain ⟨⟨a1, Ds1, s, r, h1, h2, h3, h4⟩, _⟩ := hμ a w hI
 have key := (round _ s h1).out E a1 w r Ds1 hE h2 h3
 rw [<- h4] at key
 refine wpIn_mono key ?_
 rintro e a' w' ⟨a2, Ds', st', ρ', q, hr', hD', rfl⟩
 cases e with
 | normal =>
  obtain ⟨m, hm, hi⟩ := q
  have hp : p (Bo a2 (Ds'.map mkD)) w' m := ⟨a2, Ds', st', ρ', hi, hr', hD', rfl⟩
  exact ⟨⟨m, hp⟩, Nat.lt_of_le_of_lt ((hμ _ w' ⟨m, hp⟩).2 m hp) hm⟩
 | exit i => exact ⟨a2, Ds', st', ρ', q, hr', hD', rfl⟩
 | goto i => exact ⟨a2, Ds', st', ρ', q, hr', hD', rfl⟩
 | ret => exact ⟨a2, Ds', st', ρ', q, hr', hD', rfl⟩
 | panic c => exact ⟨a2, Ds', st', ρ', q, hr', hD', rfl⟩
 | outgrown => exact ⟨a2, Ds', st', ρ', q, hr', hD', rfl⟩⟩
theorem T2.loopS {α : Type} {c : Code} {tm : Tm} {H : AH} (I : α -> Prop) (μ : α -> Nat) (S : α -> Tm) (G : α -> AH) (a0 : α) (hI : I a0) (ht : Cov tm (G a0).length (S a0)) (hH : CovH (G a0).length H (G a0))
  (round : ∀ a, I a -> T2 F n P N c ⟨S a, G a⟩ (Au (Go.Proofs.YtcfjofhapbkmfaaGreatDoor.Next I μ S G a) Q)) : T2 F n P N (.loop c) ⟨tm, H⟩ Q := by
 refine T2.cov ht hH (T2.loop (fun k st => ∃ a, I a /\ μ a = k /\ (st = ⟨S a, G a⟩ \/ ∃ tm H, st = ⟨tm, H⟩ /\ Cov tm (G a).length (S a) /\ CovH (G a).length H (G a))) (k := μ a0) ?_ ?_)
 ·exact ⟨a0, hI, rfl, .inl rfl⟩
 ·rintro k st ⟨a, hI, rfl, hs⟩
  have key := (round a hI).mono (Q' := Au (fun st' => ∃ m, m < μ a /\ ∃ b, I b /\ μ b = m /\ (st' = ⟨S b, G b⟩ \/ ∃ tm H, st' = ⟨tm, H⟩ /\ Cov tm (G b).length (S b) /\ CovH (G b).length H (G b))) Q) fun e st q => by
   cases e with
   | normal =>
    obtain ⟨b, g1, g2, g3, g4⟩ := q
    exact ⟨_, g2, b, g1, rfl, .inr ⟨st.tm, st.H, rfl, g3, g4⟩⟩
   | _ => exact q
  rcases hs with rfl | ⟨tm, H, rfl, h1, h2⟩
  ·exact key
  ·exact T2.cov h1 h2 key
end
section
variable {F : Fence} {n : Nat} {P : Program} {N : Nat} {Q : Exit -> St -> Prop} {tm : Tm} {H : AH}
def RegOut (P : Program) (N : Nat) (ops : Array Oper) (tm : Tm) (H : AH) (K : Tm -> AH -> Prop) : Prop := ∀ (E : Env) (a : Act) (w : World) (ρ : Pl), E.N = N -> RelSt E ⟨tm, H⟩ a w ρ -> wpAny P .any ops (Oy K E) ops.size (Array.replicate ops.size false) a w
theorem T2.post {E : Env} {a1 : Act} {w w' : World} {ρ ρ' : Pl} {a : Act} {Ds : List Nat} {st st' : St} {K : St -> Prop} {Q : Exit -> St -> Prop} (hr : RelSt E st a w ρ) (hc : calmH st.H = true) (hD : DOk E Ds w) (h : RelSt (E.at w ρ hr.fit) st' a1 w' ρ') (hq : Q .normal st') : Yt E Q .normal (Bo a1 (Ds.map mkD)) w' :=
 ⟨a1, Ds, st', ρ', hq, hr.unbase h, ⟨hD.1, fun D hm => ⟨(hD.2 D hm).1, hr.others hc h (hD.2 D hm).2 rfl⟩⟩, rfl⟩
theorem T2.region {id : Nat} {l : List Oper} (hF : WdF F) (hn : l.all F3 = true) (hc : calmH H = true) (h : Reg none P N l.toArray l tm H (fun tm H => Q .normal ⟨tm, H⟩)) : T2 F n P N (.region id l.toArray false) ⟨tm, H⟩ Q := ⟨fun E a w ρ Ds hE hr hD => by
 have h1 : wpList P l.toArray (fun e a' w' => e = .normal /\ ∃ st' ρ', Q .normal ⟨st'.tm, st'.H⟩ /\ RelSt (E.at w ρ hr.fit) st' a' w' ρ') l a w := h.out (E.at w ρ hr.fit) a w ρ hE (hr.rebase hc)
 refine wpIn_region_lit (Mq hF (fun a' w' k => ?_) (fun c a' w' k => by cases k.1) (fun a' w' k => by cases k.1) l a w hn h1)
 obtain ⟨_, st', ρ', q, r⟩ := k
 exact T2.post (K := fun _ => True) hr hc hD r q⟩
theorem T2.regionD {id : Nat} {ops : Array Oper} (hF : WdF F) (hm : P.follows .mixedOrders = true) (hn : ops.toList.all F3 = true) (hc : calmH H = true) (h : RegOut P N ops tm H (fun tm H => Q .normal ⟨tm, H⟩)) : T2 F n P N (.region id ops true) ⟨tm, H⟩ Q := ⟨fun E a w ρ Ds hE hr hD => by
 have hb : Below w.heap.size w { w with drawn := w.drawn + 1 } := ⟨rfl, rfl, rfl, Nat.le_refl _, fun _ _ => rfl⟩
 have hr2 := hr.below hb
 have h1 := h (E.at _ ρ hr2.fit) a { w with drawn := w.drawn + 1 } ρ hE (hr2.rebase hc)
 refine wpIn_region_any hm (Kx hF hn (fun a' w' k => ?_) (fun c a' w' k => by cases k.1) (fun a' w' k => by cases k.1) ops.size _ a _ h1)
 obtain ⟨_, st', ρ', q, r⟩ := k
 exact T2.post (K := fun _ => True) hr2 hc ⟨hD.1, fun D hm => hD.2 D hm⟩ r q⟩
theorem T2.regs {id : Nat} {l : List Oper} {y : Code} (hF : WdF F) (hn : l.all F3 = true) (hc : calmH H = true) (h : Reg none P N l.toArray l tm H (fun tm H => T2 F n P N y ⟨tm, H⟩ Q)) : T2 F n P N (.seq (.region id l.toArray false) y) ⟨tm, H⟩ Q := T2.seq (T2.region hF hn hc h)
theorem T2.regsD {id : Nat} {ops : Array Oper} {y : Code} (hF : WdF F) (hm : P.follows .mixedOrders = true) (hn : ops.toList.all F3 = true) (hc : calmH H = true) (h : RegOut P N ops tm H (fun tm H => T2 F n P N y ⟨tm, H⟩ Q)) : T2 F n P N (.seq (.region id ops true) y) ⟨tm, H⟩ Q := T2.seq (T2.regionD hF hm hn hc h)
theorem RegOut.drawN (n0 : Nat) {l : List Oper} {K : Tm -> AH -> Prop} (n : Nat) (hB : D1 l.toArray n = true)
  (h : Reg (some n0) P N l.toArray (l.take n) tm H (fun tm' H' => Reg none P N l.toArray (l.drop n) tm' H' K)) : RegOut P N l.toArray tm H K := fun E a w ρ hE hr => by
 obtain ⟨ss, hok, hK⟩ := h.out
 have hn : n <= l.length := by simp only [D1, Bool.and_eq_true, decide_eq_true_eq] at hB;simpa using hB.2
 have htl : (l.take n).length = n := by simp;omega
 obtain ⟨h1, h2, h3, h4⟩ := Il (ops := l.toArray) (tm0 := tm) (H0 := H) (tr := ss) (l.take n) ss 0 tm H (fun j hj => by rw [htl] at hj;simp [hj]) (fun j _ => by simp) hok (fun t => rfl) (fun b => rfl)
 have F : Gw P N n0 l.toArray ss tm H n := fun j hj => by
  obtain ⟨o, s, tmj, Hj, g⟩ := h2 j (by rw [htl];exact hj)
  rw [Nat.zero_add] at g
  exact ⟨o, s, tmj, Hj, g⟩
 rw [htl, Nat.zero_add] at h3 h4
 have hrep : ∀ i, (Array.replicate l.toArray.size false).getD i false = false := fun i => getD_replicate_false _ _
 have hcnt : cnt (Array.replicate l.toArray.size false) n = n := by
  have : ∀ k, cnt (Array.replicate l.toArray.size false) k = k := fun k => by
   induction k with
   | zero => rfl
   | succ k ih => simp only [cnt, hrep, ih];simp
  exact this n
 have key := H9 (ops := l.toArray) (tr := ss) (n := n) (E := E) F hB hE (Q := Oy K E) (l := l.drop n) (fun j => by simp [List.getElem?_drop]) (by simp) (fun a w ⟨tm', H', ρ', g1, g2, g3⟩ => by
  have g4 : RelSt E ⟨Hc (l.take n) ss tm, Kf ss H⟩ a w ρ' := (g1.weaken _ fun t x hx => by rw [g2 t, <- h3 t];exact hx).sameH fun b => by rw [h4 b, <- g3 b]
  exact hK.out E a w ρ' hE g4) n _ a w hcnt ⟨by simp, (fun j oj _ hl => by rw [hrep] at hl;cases hl), (fun t _ ht => getD_in (by simpa using ht) (hrep t))⟩ ⟨tm, H, ρ, hr, fun t => ?_, fun b => ?_⟩
 ·rw [show n + (l.toArray.size - n) = l.toArray.size by simp;omega] at key
  exact key
 ·rw [Ey (k := 0) n (by omega) fun i _ _ _ => hrep i];rfl
 ·exact (Dl n fun i _ _ _ => hrep i).symm
/-! A test that is known, or split. -/
theorem T2.cT {p : Prop} {dp : Decidable p} {a b : Code} {c : Operand} (hc : St.ev ⟨tm, H⟩ c = some (.val (.bool (decide p)))) (hp : p) (h : T2 F n P N a ⟨tm, H⟩ Q) : T2 F n P N (.cond c a b) ⟨tm, H⟩ Q := T2.cond hc (fun _ => h) fun hf => absurd hp (of_decide_eq_false hf)
theorem T2.cF {p : Prop} {dp : Decidable p} {a b : Code} {c : Operand} (hc : St.ev ⟨tm, H⟩ c = some (.val (.bool (decide p)))) (hp : ¬ p) (h : T2 F n P N b ⟨tm, H⟩ Q) : T2 F n P N (.cond c a b) ⟨tm, H⟩ Q := T2.cond hc (fun ht => absurd (of_decide_eq_true ht) hp) fun _ => h
theorem T2.cFn {p : Prop} {dp : Decidable p} {a b : Code} {c : Operand} (hc : St.ev ⟨tm, H⟩ c = some (.val (.bool (decide (¬ p))))) (hp : p) (h : T2 F n P N b ⟨tm, H⟩ Q) : T2 F n P N (.cond c a b) ⟨tm, H⟩ Q := T2.cond hc (fun ht => absurd hp (of_decide_eq_true ht)) fun _ => h
theorem T2.cTn {p : Prop} {dp : Decidable p} {a b : Code} {c : Operand} (hc : St.ev ⟨tm, H⟩ c = some (.val (.bool (decide (¬ p))))) (hp : ¬ p) (h : T2 F n P N a ⟨tm, H⟩ Q) : T2 F n P N (.cond c a b) ⟨tm, H⟩ Q := T2.cond hc (fun _ => h) fun hf => absurd hp (of_decide_eq_false hf)
end
/-! ### A range over a function -/
def AgW (w : World) (F : Nat -> Prop) (W : World) : Prop := ∀ k o u, ¬ F k -> w.cell? ⟨k, o, none⟩ = some u -> W.cell? ⟨k, o, none⟩ = some u
abbrev Sub (m : Nat) := {x : Nat // x < m}
structure Iter (P : Program) (gf : FuncId) (caps : List AV) (m : Nat) (xs : List (Sub m)) : Prop where
 ent : Enters P gf
 stops : ∀ (L : Nat -> Prop) (ρ : Pl) (w : World) (lb : List Value) (n : Nat), (∀ k, Fb L ρ k -> k < w.heap.size) -> caps.length = lb.length -> (∀ (i : Nat) (x : AV) (v : Value), caps[i]? = some x -> lb[i]? = some v -> RelV w L ρ x v) ->
  SeqStopsK Fence.wide n P gf lb.toArray (fun x : Sub m => #[.int .i64 (x.1 : Int)]) (fun A B => AgW w (Fb L ρ) A -> AgW w (Fb L ρ) B) (fun ys => ys = xs) (fun pre => pre <+: xs) xs.length w
def Asg (P : Program) (assign : Code) (p q : Nat) : Prop := ∀ (l n : Nat) (a : Act) (v : Value) (W : World) (K : Act -> World -> Prop), K ((a.put (some p) v).put (some q) v) W -> p < a.tmps.size -> assign.wpIn (Fence.wide.inRound l) n P (Exit.then K (fun _ _ _ => False)) (a.put (some p) v) W
theorem X1 (P : Program) (p : Nat) : Asg P .skip p p := fun l n a v W K hK hp => wpIn_skip (by
 have : (a.put (some p) v).put (some p) v = a.put (some p) v := by simp [Act.put]
 rw [this] at hK
 exact hK)
theorem Z0 (P : Program) (p q : Nat) (id : Nat) (t : TypeId) (s : String) : Asg P (.region id #[⟨some q, .assign (.tmp p), t, s, #[], none⟩] false) p q := fun l n a v W K hK hp => by
 have hv : (a.put (some p) v).eval (.tmp p) = v := by
  show (a.tmps.setIfInBounds p v).getD p undef = v
  rw [Array.getD_eq_getD_getElem?, Array.getElem?_setIfInBounds]
  simp [hp]
 refine wpIn_region_lit (l := [⟨some q, .assign (.tmp p), t, s, #[], none⟩]) ?_
 unfold wpListIn
 rw [if_pos (by rfl)]
 refine ⟨fun f _ => trivial, ?_⟩
 rw [Oper.semAt_plain (Fence.wide.inRound l) _ _ (fun c e => by cases e)]
 show Oper.uponIn _ _ _ _ _ _ _ (Sem.run P (execOp (a.put (some p) v).eval ⟨some q, .assign (.tmp p), t, s, #[], none⟩) W)
 have : Sem.run P (execOp (a.put (some p) v).eval ⟨some q, .assign (.tmp p), t, s, #[], none⟩) W = .ok (.value v) W := by
  simp [execOp, hv]
 rw [this]
 exact hK
theorem RelSt.back {E : Env} {a a0 : Act} {w : World} {ρ : Pl} {keep : Tm} {g : Nat} {H : AH} (h : RelSt E ⟨[], H⟩ a w ρ) (hg : H.at g = .gho (keep.map (·.2)) (keep.map fun p => a0.tmps.getD p.1 undef)) (hs : a0.tmps.size = E.N) (hd : a0.defers = []) (hk : ∀ p ∈ keep, p.1 < E.N) : RelSt E ⟨keep, H⟩ a0 w ρ := by
 refine ⟨hs, hd, fun t x hx => ?_, h.H, h.fr, h.mine, h.lim⟩
 obtain ⟨i, hi⟩ := Mp keep t x hx
 obtain ⟨_, _, q3⟩ := h.H.ext.gho g _ _ hg
 exact ⟨hk _ (List.mem_of_getElem? hi), q3 i x _ (by rw [List.getElem?_map, hi];rfl) (by rw [List.getElem?_map, hi];rfl)⟩
theorem RelH.keep2 {w : World} {L : Nat -> Prop} {ρ : Pl} {H : AH} (h : RelH w L ρ H) {g : Nat} {cs : List AV} {vs : List Value} (hg : H.at g = .free \/ H.at g = .dead) (hl : cs.length = vs.length) (hr : ∀ (i : Nat) (x : AV) (v : Value), cs[i]? = some x -> vs[i]? = some v -> RelV w L ρ x v) : RelH w L ρ (H.put g (.gho cs vs)) := by
 have hput : ∀ {b : Nat} {y : HB}, (∀ cs vs, y ≠ .gho cs vs) -> (H.put g (.gho cs vs)).at b = y -> H.at b = y := fun {b y} hy hb => by
  rw [AH.at_put] at hb
  split at hb
  ·exact absurd hb.symm (hy _ _)
  ·exact hb
 exact ⟨fun b hb => h.free b (hput (by intro _ _ h;cases h) hb), fun b hb => h.dead b (hput (by intro _ _ h;cases h) hb), fun b cs' hb => h.live b cs' (hput (by intro _ _ h;cases h) hb), fun b es hb => h.map b es (hput (by intro _ _ h;cases h) hb), h.dist,
  h.ext.put (fun k o u h1 h2 => ⟨h2, h1⟩) (by rcases hg with hg | hg <;> rw [hg] <;> rfl) rfl (fun _ _ => rfl) (Nat.le_refl _) (fun _ _ _ _ _ _ _ _ h => h) (fun _ _ _ _ _ => rfl) (fun _ _ _ h => by cases h) fun cs' vs' e => by
   injection e with e1 e2
   subst e1 e2
   exact ⟨(fun k o hk => by rcases hg with hg | hg;rw [h.free g hg] at hk;cases hk;rw [h.dead g hg] at hk;cases hk), hl, hr⟩⟩
theorem X8 {tm : Tm} {g : Nat} : ∀ {keep : Tm}, Cov tm g keep -> ∀ (i : Nat) (p : Nat × AV), keep[i]? = some p -> tm.get p.1 = some p.2 := fun {keep} hc => by
 induction hc with
 | nil => intro i p hp;simp at hp
 | cons h hb c ih =>
  intro i p hp
  cases i with
  | zero => simp at hp;subst hp;exact h
  | succ i => exact ih i p (by simpa using hp)
theorem Xi {tm : Tm} {p q t : Nat} {x : AV} (h : ((tm.drop p).drop q).get t = some x) : p ≠ t /\ q ≠ t /\ tm.get t = some x := by
 obtain ⟨h1, h2⟩ := Tm.get_drop _ _ _ _ h
 obtain ⟨h3, h4⟩ := Tm.get_drop _ _ _ _ h2
 exact ⟨h3, h1, h4⟩
set_option maxHeartbeats 1000000 in
theorem T2.rangeFunc {P : Program} {N m : Nat} {Q : Exit -> St -> Prop} {gf : FuncId} {caps : List AV} {xs : List (Sub m)} {tm0 : Tm} {H0 : AH} {c : Operand} {assign body : Code} {p q : Nat} (g : Nat) (tm : Tm) (hit : Iter P gf caps m xs)
  (hc : evT tm0 c = some (.fn (.func gf) [] caps)) (hk : Cov tm0 g tm) (hg0 : H0.at g = .free \/ H0.at g = .dead) (hcalm0 : calmH H0 = true) (ha : Asg P assign p q) (hpN : Nat.ble (p + 1) N = true) (hqN : Nat.ble (q + 1) N = true)
  (ok : List (Sub m) -> Prop) (G : List Value -> List (Sub m) -> AH) (hG0 : ∀ vs, G vs [] = H0.put g (.gho (tm.map (·.2)) vs)) (hgG : ∀ vs pre, (G vs pre).at g = .gho (tm.map (·.2)) vs) (hcalm : ∀ vs pre, calmH (G vs pre) = true) (hok0 : ok [])
  (hbody : ∀ (vs : List Value) (l : Nat) (pre : List (Sub m)) (x : Sub m), ok pre -> pre.length < xs.length -> T2 (Fence.wide.inRound l) 7 P N body ⟨(q, .val (.int .i64 (x.1 : Int))) :: ((tm.drop p).drop q), G vs pre⟩ (fun e st => (e = .normal /\ ok (pre ++ [x]) /\ CovH (G vs (pre ++ [x])).length st.H (G vs (pre ++ [x]))) \/ (e = .ret /\ ¬ ok (pre ++ [x]))))
  (hoks : ∀ pre, pre <+: xs -> ok pre) (h : ∀ vs, Q .normal ⟨tm, (G vs xs).put g .dead⟩) : T2 Fence.wide 9 P N (.rangeFunc c #[p] assign body) ⟨tm0, H0⟩ Q := ⟨fun E a w ρ Ds hE hR hD => by
 have hfv : RelV w E.L ρ (.fn (.func gf) [] caps) (a.eval c) := hR.ev (x := c) (by rw [Ah];exact hc)
 obtain ⟨us, lb, hlb, hus, hll, _, hlr⟩ := hfv.fn_out
 simp only [List.length_nil] at hus
 obtain rfl : us = [] := List.eq_nil_of_length_eq_zero hus.symm
 obtain ⟨vs, hvs⟩ : ∃ vs, vs = tm.map (fun y => a.tmps.getD y.1 undef) := ⟨_, rfl⟩
 have hkg : ∀ t y, tm.get t = some y -> tm0.get t = some y := fun t y ht => (hk.get t y ht).1
 have hko := X8 hk
 have hkN : ∀ y ∈ tm, y.1 < E.N := fun y hy => by
  obtain ⟨i, hi⟩ := List.getElem?_of_mem hy
  exact (hR.tm y.1 y.2 (hko i y hi)).1
 have hpE : p < E.N := by rw [hE];exact Nat.le_of_ble_eq_true hpN
 have hqE : q < E.N := by rw [hE];exact Nat.le_of_ble_eq_true hqN
 -- the state at the start, the registers kept aside, seen from now on
 have h00 : RelSt E ⟨[], G vs []⟩ a w ρ := by
  rw [hG0]
  refine ⟨hR.size, hR.defers, (fun t x hx => by cases hx), hR.H.keep2 hg0 (by rw [hvs];simp) fun i y v hy hv => ?_, hR.fr, fun b k o hk => hR.minePut g rfl hk, hR.lim⟩
  rw [List.getElem?_map] at hy
  rw [hvs, List.getElem?_map] at hv
  cases e : tm[i]? with
  | none => rw [e] at hy;cases hy
  | some y0 =>
   rw [e] at hy hv
   simp only [Option.map_some, Option.some.injEq] at hy hv
   subst hy hv
   exact (hR.tm y0.1 y0.2 (hko i y0 e)).2
 have hfit := h00.fit
 have hEN : (E.at w ρ hfit).N = E.N := rfl
 let I : List (Sub m) -> World -> Prop := fun pre W => ok pre /\ ∃ ρ', RelSt (E.at w ρ hfit) ⟨[], G vs pre⟩ a W ρ'
 let Ix : Code -> List (Sub m) -> World -> Prop := fun c pre _ => c = .ret /\ ¬ ok pre
 let a1 : Sub m -> Act := fun x => (a.put (some p) (.int .i64 (x.1 : Int))).put (some q) (.int .i64 (x.1 : Int))
 have hFb : ∀ k, Fb E.L ρ k -> k < w.heap.size := fun k hk => by
  rcases hk with hk | ⟨b, o, hb⟩
  ·exact Nat.lt_of_lt_of_le (hR.lim k hk) hR.fr.size
  ·obtain ⟨c, e, f, hcl⟩ := hR.H.cells hcalm0 hb
   exact (Array.getElem?_eq_some_iff.1 hcl).1
 have hown : OwnFrom w.heap.size I := fun pre W W' row ⟨h1, ρ', h2⟩ hgr hrow => by
  have hsame : ∀ k, k < W.heap.size -> some k ≠ row -> W'.heap[k]? = W.heap[k]? := hgr.block
  refine ⟨h1, ρ', h2.turned (hcalm vs pre) (fun k c e f hk => ?_) ⟨hgr.os, hgr.tape, hgr.output, hgr.size, fun k hk ho => ?_, fun k x hx => ?_⟩⟩
  ·rw [hsame k (Array.getElem?_eq_some_iff.1 hk).1 (fun e' => by
    obtain ⟨_, ob, h3, h4⟩ := hrow k e'.symm
    rw [hk] at h3
    injection h3 with h3
    subst h3
    cases h4)]
   exact hk
  ·exact hsame k hk (fun e' => ho (.inr (hrow k e'.symm).1))
  ·rw [Al (hsame k (Ca hx) (fun e' => by
    obtain ⟨_, ob, h3, h4⟩ := hrow k e'.symm
    unfold World.shape? at hx
    rw [h3] at hx
    cases ob <;> first|(cases h4;done)|(simp at hx;done)))]
   exact hx
 have hag : ∀ (W W' : World) (ρ1 : Pl) (st1 st2 : St) (b1 b2 : Act) (ρ2 : Pl) (r1 : RelSt (E.at w ρ hfit) st1 b1 W ρ1), RelSt ((E.at w ρ hfit).at W ρ1 r1.fit) st2 b2 W' ρ2 -> AgW w (Fb E.L ρ) W -> AgW w (Fb E.L ρ) W' := fun W W' ρ1 st1 st2 b1 b2 ρ2 r1 r2 hA k o u h1 h2 => by
  have h3 := hA k o u h1 h2
  have hb := r2.fr.block k (Bs h3) (fun hm => by
   rcases r1.mineB hm with ⟨b, o', hb⟩ | h4
   ·exact h1 (.inr ⟨b, o', hb⟩)
   ·have := Bs h2
    exact absurd h4 (by show ¬ w.heap.size <= k;omega))
  unfold World.cell? at h3 ⊢
  dsimp only at h3 ⊢
  rw [hb]
  exact h3
 have hgN : 1 <= 9 := by omega
 refine wpIn_rangeFunc_ownH (n := 9) rfl (by omega) (gf := gf) (lb := lb.toArray) (by rw [I2];exact hlb) trivial (fun args w => hit.ent.run args w)
  (hit.stops E.L ρ w lb (9 - 1) hFb hll hlr) (fun h1 h2 h3 => h2 (h1 h3)) (fun W l o o' hl ho hcells _ hA k oo u h1 h2 => ?_) (Below.refl _ _) (fun x => rfl) I Ix hown (fun c pre W W' row hs _ _ => hs) ⟨hok0, ρ, h00.rebase (hcalm vs [])⟩
  (fun x a' _ => a' = a1 x) (fun x a' _ W W' row hs _ _ => hs) (fun l pre x W K hI hK => ?_) (fun l pre x a' W hl hrec hI ha' hlen => ?_) (fun D ys W hD2 hys hI hDD => ?_) (fun D c pre W hD2 hpre hIx hDD => ?_)
 ·-- book-keeping keeps what the iterator reads
  have h3 := hA k oo u h1 h2
  have hkl : k ≠ l := fun e => by have := Bs h2;omega
  unfold World.cell? at h3 ⊢
  dsimp only at h3 ⊢
  rw [World.putObj_heap_other (fun e => hkl e)]
  exact h3
 ·-- the number goes into its register
  have := ha l (9 - 1 - 1) { a with defers := [] } (.int .i64 (x.1 : Int)) W K (hK _ W (KeepsFrom.refl _ _) (fun h => h) hI (by
   show _ = a1 x
   show ((({ a with defers := [] } : Act).put (some p) _).put (some q) _) = (a.put (some p) _).put (some q) _
   have : ({ a with defers := [] } : Act) = a := by
    have := hR.defers
    cases a
    simp only at this
    subst this
    rfl
   rw [this])) (by show p < a.tmps.size;rw [hR.size];exact hpE)
  have hz : ∀ (t : Array Value) (v : Value), (#[p].zip #[v]).foldl (fun t (y : Nat × Value) => t.setIfInBounds y.1 y.2) t = t.setIfInBounds p v := fun t v => by simp
  have hz2 := hz a.tmps (.int .i64 (x.1 : Int))
  show Code.wpIn _ _ _ _ _ { tmps := (#[p].zip #[Value.int .i64 (x.1 : Int)]).foldl (fun t (y : Nat × Value) => t.setIfInBounds y.1 y.2) a.tmps, defers := [] } W
  rw [hz2]
  exact this
 ·-- the body
  obtain ⟨hok, ρ1, r1⟩ := hI
  subst ha'
  have hback : RelSt (E.at w ρ hfit) ⟨tm, G vs pre⟩ a W ρ1 := r1.back (a0 := a) (g := g) (by rw [hgG, hvs]) hR.size hR.defers hkN
  have r2 : RelSt (E.at w ρ hfit) ⟨(q, .val (.int .i64 (x.1 : Int))) :: ((tm.drop p).drop q), G vs pre⟩ (a1 x) W ρ1 := by
   have e1 := hback.put (d := p) hpE (x := .val (.int .i64 (x.1 : Int))) (v := .int .i64 (x.1 : Int)) (A9 _)
   have e2 := e1.put (d := q) hqE (x := .val (.int .i64 (x.1 : Int))) (v := .int .i64 (x.1 : Int)) (A9 _)
   refine e2.weaken _ fun t y ht => ?_
   rw [Tm.get_cons] at ht ⊢
   by_cases eq : q = t
   ·rw [if_pos eq] at ht ⊢;exact ht
   ·rw [if_neg eq] at ht ⊢
    obtain ⟨k1, k2, k3⟩ := Xi ht
    rw [Tm.get_cons, if_neg k1]
    exact k3
  have key := (hbody vs l pre x hok hlen).out ((E.at w ρ hfit).at W ρ1 r2.fit) (a1 x) W ρ1 [] (by show E.N = N;exact hE) (r2.rebase (hcalm vs pre)) ⟨List.nodup_nil, fun D hm => by cases hm⟩
  have he0 : Bo (a1 x) ([].map mkD) = a1 x := by simp [Bo]
  rw [he0] at key
  refine wpIn_mono key ?_
  rintro e a2 W' ⟨a3, Ds', st', ρ', hq, r3, hD3, rfl⟩
  have hkeep : KeepsFrom w.heap.size W W' := ⟨r3.fr.size, fun k o _ hk ho => r2.others (hcalm vs pre) r3 hk ho⟩
  rcases hq with ⟨rfl, hok', hcov⟩ | ⟨rfl, hno⟩
  ·refine ⟨hkeep, hag W W' ρ1 _ _ _ _ ρ' r2 r3, hok', ?_⟩
   have r4 := r2.unbase r3
   obtain ⟨ρ5, r5⟩ := (r4 : RelSt _ ⟨st'.tm, st'.H⟩ _ _ _).cov (tm' := []) .nil hcov
   exact ⟨ρ5, hR.size, hR.defers, (fun t y hy => by cases hy), r5.H, r5.fr, r5.mine, r5.lim⟩
  ·exact ⟨hkeep, rfl, hno⟩
 ·-- behind the loop
  obtain ⟨hok, ρ1, r1⟩ := hI
  subst hys
  have hback : RelSt (E.at w ρ hfit) ⟨tm, G vs ys⟩ a W ρ1 := r1.back (a0 := a) (g := g) (by rw [hgG, hvs]) hR.size hR.defers hkN
  have hE2 := h00.unbase hback
  have hcg : ((⟨tm, G vs ys⟩ : St).H.at g).isExt = false := P3 (calmH.at (hcalm vs ys) g)
  refine ⟨a, D :: Ds, ⟨tm, (G vs ys).put g .dead⟩, _, h vs, hE2.kill hcg, ⟨?_, fun D' hm => ?_⟩, (by
   show ({ tmps := a.tmps, defers := mkD D :: (a.defers ++ Ds.map mkD) } : Act) = { tmps := a.tmps, defers := a.defers ++ (mkD D :: Ds.map mkD) }
   rw [hR.defers];rfl)⟩
  ·refine List.nodup_cons.2 ⟨fun hm => ?_, hD.1⟩
   have := (Array.getElem?_eq_some_iff.1 (hD.2 D hm).2).1
   omega
  ·rcases List.mem_cons.1 hm with rfl | hm
   ·exact ⟨Nat.le_trans hR.fr.size hD2, hDD⟩
   ·exact ⟨(hD.2 D' hm).1, h00.others (hcalm vs []) hback (hD.2 D' hm).2 rfl⟩
 ·exact absurd (hoks pre hpre) hIx.2⟩
/-! ### Functions -/
theorem Ii {E : Env} {P : Program} {fn : Func} {st : St} {a1 : Act} {r : AV} {n : Nat} (hl : ∀ (w' : World) (ρ' : Pl), RelSt E st a1 w' ρ' -> ∃ v, (results fn a1.tmps).run P w' = .ok v w' /\ RelV w' E.L An r v) (hc : calmH st.H = true) : ∀ (Ds : List Nat) (w : World) (ρ : Pl), RelSt E st a1 w ρ -> DOk E Ds w -> LeavesInM Fence.wide n P fn a1.tmps (fun e w' => ∃ v, e = .returned v /\ RelV w' E.L An r v /\ Fr E.O E.w0 w') (Ds.map mkD) .returning w
 | [], w, ρ, hr, hD => by
  obtain ⟨v, h1, h2⟩ := hl w ρ hr
  exact ⟨v, h1, v, rfl, h2, hr.fr⟩
 | D :: Ds, w, ρ, hr, hD => by
  obtain ⟨hn, hd⟩ := hD
  obtain ⟨g1, g2⟩ := hd D (by simp)
  rw [List.nodup_cons] at hn
  have hlt : D < w.heap.size := (Array.getElem?_eq_some_iff.1 g2).1
  have hother : ∀ k, k ≠ D -> (w.putObj D (.deferred none)).heap[k]? = w.heap[k]? := fun k hk => World.putObj_heap_other (fun e => hk e)
  have hg := grownBy_putObj' w D (.deferred none)
  have hr2 : RelSt E st a1 (w.putObj D (.deferred none)) ρ := by
   refine hr.turned hc (fun k c e f hk => ?_) ⟨hg.os, hg.tape, hg.output, hg.size, fun k hk ho => ?_, fun k x hx => ?_⟩
   ·rw [hother k (fun e => by subst e;rw [g2] at hk;cases hk)];exact hk
   ·exact hother k (fun e => by subst e;exact ho (.inr g1))
   ·have hkD : k ≠ D := fun e => by
     subst e
     unfold World.shape? at hx
     rw [g2] at hx
     cases hx
    rw [Al (hother k hkD)];exact hx
  refine ⟨by simp, .inl ⟨D, _, rfl, run_takeDeferred g2, Ii hl hc Ds _ ρ hr2 ⟨hn.2, fun D' hm => ?_⟩⟩⟩
  obtain ⟨g3, g4⟩ := hd D' (by simp [hm])
  exact ⟨g3, by rw [hother D' (fun e => hn.1 (e ▸ hm))];exact g4⟩
theorem Fn0.of2 {P : Program} {f : FuncId} {fn : Func} {c : Code} {args : List AV} {r : AV} {N : Nat} (hf : P.funcs[f]? = some fn) (hnt : fn.ntmps = N) (hb : fn.body = some c) (hn : (fn.name == "runtime.NumGoroutine") = false) (hN : Nat.ble args.length N = true)
  (h : T2 Fence.wide 9 P N c ⟨A0 0 args, []⟩ (fun e st => Cb P fn r e st /\ calmH st.H = true)) : Fn0 P f args r := by
 subst hnt
 refine ⟨⟨fn, hf, hn, by rw [hb];rfl⟩, fun L w vs hG hL hl hv => ?_⟩
 have hN' := Nat.le_of_ble_eq_true hN
 refine (callsIn_wide (n := 9)).1 (callsIn_of_wp_marks hf hb trivial ?_ rfl)
 let E : Env := { N := fn.ntmps, L := L, O := fun _ => False, w0 := w, good := fun w' hf => hG.below (Fr.below hf) }
 have hsz : (vs.toArray ++ Array.replicate (fn.ntmps - vs.toArray.size) undef).size = fn.ntmps := by simp;omega
 have hst : RelSt E ⟨A0 0 args, []⟩ { tmps := vs.toArray ++ Array.replicate (fn.ntmps - vs.toArray.size) undef, defers := [] } w An := by
  refine ⟨hsz, rfl, fun t x hx => ?_, ⟨fun b _ => rfl, (fun b h => by simp [AH.at] at h), (fun b cs h => by simp [AH.at] at h), (fun b cs h => by simp [AH.at] at h), (fun b b' k o o' h => by cases h), ExtOk.nil _ _ _⟩, Fr.refl _ _, (fun b k o h => by cases h), hL⟩
  obtain ⟨_, hx⟩ := F7 _ _ _ _ hx
  rw [Nat.sub_zero] at hx
  have ht : t < args.length := (List.getElem?_eq_some_iff.1 hx).1
  refine ⟨by show t < fn.ntmps;omega, ?_⟩
  have hu : vs[t]? = some (vs[t]'(by omega)) := List.getElem?_eq_getElem _
  have : (vs.toArray ++ Array.replicate (fn.ntmps - vs.toArray.size) undef).getD t undef = vs[t]'(by omega) := by
   rw [Array.getD_eq_getD_getElem?, Array.getElem?_append_left (by simp;omega)]
   simp [hu]
  show RelV w L An x ((vs.toArray ++ Array.replicate (fn.ntmps - vs.toArray.size) undef).getD t undef)
  rw [this]
  exact hv t x _ hx hu
 have key := h.out E _ w An [] rfl hst ⟨List.nodup_nil, fun D hm => by cases hm⟩
 refine wpIn_mono key ?_
 rintro e a' w' ⟨a1, Ds, st', ρ', ⟨⟨he, xs, hxs, hout⟩, hc⟩, hr', hD', rfl⟩
 have hl : ∀ (w' : World) (ρ' : Pl), RelSt E st' a1 w' ρ' -> ∃ v, (results fn a1.tmps).run P w' = .ok v w' /\ RelV w' E.L An r v := fun w' ρ' hr' => by
  obtain ⟨us, h1, h2, h3⟩ := hxs.run hr'
  refine ⟨Lv us, Fo (fn := fn) h1, hout.rel hr'.H ?_⟩
  match xs, us, h2, h3 with
  | [x], [u], _, h3 => exact h3 0 x u rfl rfl
  | [], [], h2, h3 => exact .tup [] [] rfl (fun i x u h => by simp at h)
  | x :: y :: xs, u :: v :: us, h2, h3 => exact .tup _ (u :: v :: us) h2 h3
 have hfin := Ii (P := P) (fn := fn) (n := 9) (r := r) hl hc Ds w' ρ' hr' hD'
 have hds : (Bo a1 (Ds.map mkD)).defers = Ds.map mkD := by show a1.defers ++ _ = _;rw [hr'.defers];rfl
 have key2 : LeavesInM Fence.wide 9 P fn (Bo a1 (Ds.map mkD)).tmps (fun e w' => ∃ v, e = .returned v /\ RelV w' L An r v /\ Below w.heap.size w w') (Bo a1 (Ds.map mkD)).defers .returning w' := by
  rw [hds]
  have conv : (fun e w' => ∃ v, e = Ending.returned v /\ RelV w' E.L An r v /\ Fr E.O E.w0 w') = fun e w' => ∃ v, e = Ending.returned v /\ RelV w' L An r v /\ Below w.heap.size w w' := by
   funext e w2
   apply propext
   constructor
   ·rintro ⟨v, h1, h2, h3⟩;exact ⟨v, h1, h2, Fr.below h3⟩
   ·rintro ⟨v, h1, h2, h3⟩;exact ⟨v, h1, h2, Fr.of_below h3⟩
  rw [<- conv]
  exact hfin
 rcases he with rfl | rfl
 ·exact key2
 ·exact key2
section
variable {P : Program} {N : Nat} {ops : Array Oper} {K : Tm -> AH -> Prop} {tm : Tm} {H : AH} {rest : List Oper} {ty : TypeId} {pos : String} {af : Array Edge} {d : Nat} {t e u : TypeId} {x y : Operand}
def I9 (cs : List Lf) (p s c : Nat) : List Lf := cs.take p ++ (cs.drop s).take c ++ cs.drop (p + c)
theorem Y4 {w : World} {F : Nat -> Prop} {x : Lf} {v : Value} (h : RelL w F x v) (h1 : x.one = true) : v.oneCell' = true := by
 cases h with
 | val v => exact h1
 | slnil => rfl
 | sl => rfl
 | fn => rfl
theorem S.copyOO {n b p s ld ls : Nat} {cs : List Lf} [hu : HasU P t (.slice e)] [hi : HasS P e n] (hx : evT tm x = some (.own b p ld n)) (hy : evT tm y = some (.own b s ls n)) (hb : H.at b = .live (cs.map .lf)) (hN : Nat.ble (d + 1) N = true) (h1 : cs.all Lf.one = true) (hp : p + ld * n <= cs.length) (hs : s + ls * n <= cs.length)
  (h : Reg none P N ops rest ((d, .val (.int .i64 (Nat.min ls ld : Nat))) :: tm) (H.put b (.live ((I9 cs p s (Nat.min ls ld * n)).map .lf))) K) : Reg none P N ops (⟨some d, .call ⟨.builtin .copy, #[x, y], #[t, u]⟩, ty, pos, af, none⟩ :: rest) tm H K := by
 refine ⟨fun E a w ρ hE hR => ?_⟩
 replace h := h.out
 refine wpList_plain rfl fun K' hK => ?_
 have hN' := Nat.le_of_ble_eq_true hN
 have hxv : RelV w E.L ρ (.own b p ld n) (a.eval x) := hR.ev (by rw [Ah];exact hx)
 have hyv : RelV w E.L ρ (.own b s ls n) (a.eval y) := hR.ev (by rw [Ah];exact hy)
 obtain ⟨k, o, c, el, lo, hi', g1, g2, g3, g4, g5, g6⟩ := hR.H.live b _ hb
 obtain ⟨cap, e2, n2, hxe, hcap, hsh, hfitc⟩ := hxv.own_out k o g1
 obtain ⟨cap', e2', n2', hye, hcap', hsh', hfitc'⟩ := hyv.own_out k o g1
 rw [List.length_map] at g4
 obtain ⟨m, hm⟩ : ∃ m, m = Nat.min ls ld := ⟨_, rfl⟩
 rw [<- hm] at h
 have hm1 : m <= ls := by rw [hm];exact Nat.min_le_left _ _
 have hm2 : m <= ld := by rw [hm];exact Nat.min_le_right _ _
 have hml : m * n <= ls * n := Nat.mul_le_mul_right _ hm1
 have hmd : m * n <= ld * n := Nat.mul_le_mul_right _ hm2
 obtain ⟨i, hi1, hi2⟩ : ∃ i, P.info? e = some i /\ i.size = n := by
  have := hi.out
  cases hh : P.info? e with
  | none => rw [hh] at this;cases this
  | some i => rw [hh] at this;exact ⟨i, rfl, by simpa using this⟩
 obtain ⟨news, hnews⟩ : ∃ news, news = (c.toList.drop (o + s)).take (m * n) := ⟨_, rfl⟩
 have q1 : news.length = m * n := by rw [hnews, List.length_take, List.length_drop, Array.length_toList];omega
 have qat : ∀ j, j < m * n -> news[j]? = c[o + s + j]? := fun j hj => by
  rw [hnews, List.getElem?_take, if_pos hj, List.getElem?_drop, Array.getElem?_toList]
 have qrel : ∀ j, j < m * n -> ∃ z v, cs[s + j]? = some z /\ news[j]? = some v /\ RelV w E.L ρ (.lf z) v := fun j hj => by
  have hz : cs[s + j]? = some (cs[s + j]'(by omega)) := List.getElem?_eq_getElem _
  obtain ⟨v, p1, p2⟩ := g6 (s + j) _ (by rw [List.getElem?_map, hz];rfl)
  exact ⟨_, v, hz, by rw [qat j hj, Nat.add_assoc];exact p1, p2⟩
 have q2 : ∀ v ∈ news, v.oneCell' = true := fun v hv => by
  obtain ⟨j, hj⟩ := List.getElem?_of_mem hv
  have hjl : j < m * n := by have := (List.getElem?_eq_some_iff.1 hj).1;omega
  obtain ⟨z, v', p1, p2, p3⟩ := qrel j hjl
  rw [hj] at p2
  injection p2 with p2
  subst p2
  exact Y4 p3.lf_out (List.all_eq_true.1 h1 z (List.mem_of_getElem? p1))
 obtain ⟨c', w', f1, f2, f3, f4, f5, f6, f7, f8, f9, f10⟩ := Dn (P := P) (k := k) (off := o + p) g3 news 0 c w g2 (by rw [q1];omega) q2
 have hF : Fr (fun j => j = k) w w' := ⟨f7, f8, f9, Nat.le_of_eq f10.symm, fun i _ hn => f5 i hn, f6⟩
 have hrun : (execOp a.eval ⟨some d, .call ⟨.builtin .copy, #[x, y], #[t, u]⟩, ty, pos, af, none⟩).run P w = .ok (.value (goInt m)) w' := by
  have hf : (Builtin.firstCells n m (.slice (some ⟨k, o + s, none⟩) ls cap')).run P w = .ok news.toArray w := run_firstCells_some (P := P) w n m ⟨k, o + s, none⟩ ls cap' news q1 (fun j v hj => by
   have hjl : j < m * n := by have := (List.getElem?_eq_some_iff.1 hj).1;omega
   rw [show (⟨k, o + s, none⟩ : Addr).add j = ⟨k, o + s + j, none⟩ by simp [Addr.add]]
   rw [qat j hjl] at hj
   unfold World.cell?
   rw [g2]
   exact hj)
  have hmm : min ls ld = m := hm.symm
  simp [execOp, resolve, invoke, builtin, hxe, hye, Builtin.copy_, run_underlying hu.out, sizeOf, typeInfo, hi1, hi2, Builtin.lenOf, hmm, hf, f1]
 unfold Oper.wp
 rw [hrun]
 have hcl : (I9 cs p s (m * n)).length = cs.length := by
  unfold I9
  rw [List.length_append, List.length_append, List.length_take, List.length_take, List.length_drop, List.length_drop]
  omega
 have s2 := hR.turn (cells' := (I9 cs p s (m * n)).map .lf) hb g1 hF f2 g3 (by rw [List.length_map, hcl, f3];exact g4) fun hla j z hj => by
  rw [List.getElem?_map] at hj
  cases hq : (I9 cs p s (m * n))[j]? with
  | none => rw [hq] at hj;cases hj
  | some z0 =>
   rw [hq] at hj
   simp only [Option.map_some, Option.some.injEq] at hj
   subst hj
   have hlt : (cs.take p).length = p := by rw [List.length_take];omega
   have hld : ((cs.drop s).take (m * n)).length = m * n := by rw [List.length_take, List.length_drop];omega
   unfold I9 at hq
   rcases Nat.lt_or_ge j p with j1 | j1
   ·rw [List.append_assoc, List.getElem?_append_left (by omega), List.getElem?_take, if_pos j1] at hq
    obtain ⟨v, p1, p2⟩ := g6 j _ (by rw [List.getElem?_map, hq];rfl)
    exact ⟨v, by rw [f4, if_neg (by omega)];exact p1, p2.later hla⟩
   ·rcases Nat.lt_or_ge j (p + m * n) with j2 | j2
    ·rw [List.append_assoc, List.getElem?_append_right (by omega), hlt, List.getElem?_append_left (by omega), List.getElem?_take, if_pos (by omega), List.getElem?_drop] at hq
     obtain ⟨z, v, p1, p2, p3⟩ := qrel (j - p) (by omega)
     rw [hq] at p1
     injection p1 with p1
     subst p1
     refine ⟨v, ?_, p3.later hla⟩
     rw [f4, if_pos (by rw [q1];omega), show o + j - (o + p + 0) = j - p by omega]
     exact p2
    ·rw [List.getElem?_append_right (by rw [List.length_append];omega), List.length_append, hlt, hld, List.getElem?_drop, show p + m * n + (j - (p + m * n)) = j by omega] at hq
     obtain ⟨v, p1, p2⟩ := g6 j _ (by rw [List.getElem?_map, hq];rfl)
     exact ⟨v, by rw [f4, if_neg (by rw [q1];omega)];exact p1, p2.later hla⟩
 exact hK _ _ (h E _ w' ρ hE (s2.put (by rw [hE];exact hN') (A9 _)))
theorem S.copyZ {n b : Nat} {rows : List (List Lf)} {cells : List AV} [hu : HasU P t (.slice e)] [hi : HasS P e n] (hx : evT tm x = some (.own b 0 0 n)) (hy : evT tm y = some (.sl rows)) (hb : H.at b = .live cells) (hN : Nat.ble (d + 1) N = true)
  (h : Reg none P N ops rest ((d, .val (.int .i64 0)) :: tm) H K) : Reg none P N ops (⟨some d, .call ⟨.builtin .copy, #[x, y], #[t, u]⟩, ty, pos, af, none⟩ :: rest) tm H K := by
 refine ⟨fun E a w ρ hE hR => ?_⟩
 replace h := h.out
 refine wpList_plain rfl fun K' hK => ?_
 have hN' := Nat.le_of_ble_eq_true hN
 have hxv : RelV w E.L ρ (.own b 0 0 n) (a.eval x) := hR.ev (by rw [Ah];exact hx)
 have hyv : RelV w E.L ρ (.sl rows) (a.eval y) := hR.ev (by rw [Ah];exact hy)
 obtain ⟨k, o, c, el, lo, hi', g1, g2, g3, g4, g5, g6⟩ := hR.H.live b _ hb
 obtain ⟨cap, e2, n2, hxe, hcap, hsh, hfitc⟩ := hxv.own_out k o g1
 obtain ⟨i, hi1, hi2⟩ : ∃ i, P.info? e = some i /\ i.size = n := by
  have := hi.out
  cases hh : P.info? e with
  | none => rw [hh] at this;cases this
  | some i => rw [hh] at this;exact ⟨i, rfl, by simpa using this⟩
 have hrun : (execOp a.eval ⟨some d, .call ⟨.builtin .copy, #[x, y], #[t, u]⟩, ty, pos, af, none⟩).run P w = .ok (.value (goInt 0)) w := by
  have hs : (storeCells ⟨k, o, none⟩ ([] : List Value) 0).run P w = .ok () w := rfl
  generalize hv : a.eval y = v at *
  have hl := hyv.lf_out
  cases hl with
  | slnil =>
   have hf : (Builtin.firstCells n 0 (.slice none 0 0)).run P w = .ok #[] w := by simp [Builtin.firstCells]
   simp [execOp, resolve, invoke, builtin, hxe, hv, Builtin.copy_, run_underlying hu.out, sizeOf, typeInfo, hi1, hi2, Builtin.lenOf, hf, hs]
  | sl _ ad cap V _ _ _ _ =>
   have hf : (Builtin.firstCells n 0 (.slice (some ad) rows.length cap)).run P w = .ok #[] w := run_firstCells_some (P := P) w n 0 ad rows.length cap [] (by simp) (fun j v h => by simp at h)
   simp [execOp, resolve, invoke, builtin, hxe, hv, Builtin.copy_, run_underlying hu.out, sizeOf, typeInfo, hi1, hi2, Builtin.lenOf, hf, hs]
 unfold Oper.wp
 rw [hrun]
 exact hK _ _ (h E _ w ρ hE (hR.put (by rw [hE];exact hN') (A9 _)))
end
theorem Lp (n : Nat) : (madeCells #[Value.int .i64 0, Value.int .i64 0] (n * 2)).toList.map AV.val = List.replicate (n * 2) (.val (.int .i64 0)) := by
 have h : ∀ i, (#[Value.int .i64 0, Value.int .i64 0] : Array Value)[i % 2]! = .int .i64 0 := fun i => by
  rcases Nat.mod_two_eq_zero_or_one i with e | e <;> rw [e] <;> rfl
 have e : madeCells #[Value.int .i64 0, Value.int .i64 0] (n * 2) = (Array.range (n * 2)).map fun _ => Value.int .i64 0 := by
  unfold madeCells
  congr 1
  funext i
  exact h i
 rw [e]
 simp [List.map_const']
end Go.Proofs.YtcfjofhapbkmfaaGreatDoor
