/- Steps in the calculus over abstract states: slices of the call's own that grow by append, that are written at an index that is known to lie within, and that become pure data;comparisons of structs. No dump. No conditions but those of each statement. -/
import Derived.Test.YtcfjofhapbkmfaaGreatDoorMb
import Derived.Laws.Append
import Derived.Lib.SliceRun
import GoSem.ClaimJoined
import Derived.ChangeArms
import Derived.OpenShut
import Derived.ArgAppend
set_option linter.unusedSimpArgs false
set_option linter.unusedVariables false
namespace Go.Proofs.YtcfjofhapbkmfaaGreatDoor
open Go Go.RowKit
def AV.off0 (b : Nat) : AV -> Bool
 | .lf _ => true
 | .rop _ => true
 | .ptr b' _ => !(Nat.beq b' b)
 | .own b' _ _ _ => !(Nat.beq b' b)
 | .mp b' => !(Nat.beq b' b)
 | .err => true
 | _ => false
def AV.clear (b : Nat) : AV -> Bool
 | .agg cs => cs.all (AV.off0 b)
 | .tup cs => cs.all (AV.off0 b)
 | .fn _ fs cs => fs.all (AV.off0 b) && cs.all (AV.off0 b)
 | .lf _ => true
 | .rop _ => true
 | .ptr b' _ => !(Nat.beq b' b)
 | .own b' _ _ _ => !(Nat.beq b' b)
 | .mp b' => !(Nat.beq b' b)
 | .err => true
structure LaterX (b : Nat) (L : Nat -> Prop) (w : World) (ρ : Pl) (w' : World) (ρ' : Pl) : Prop where
 ext : ∀ b', b' ≠ b -> ρ' b' = ρ b'
 cell : ∀ k o u, ¬ Fb L ρ k -> w.cell? ⟨k, o, none⟩ = some u -> w'.cell? ⟨k, o, none⟩ = some u /\ ¬ Fb L ρ' k
 shape : ∀ k x, w.shape? k = some x -> w'.shape? k = some x
theorem Y2 {a b : Nat} (h : (!(Nat.beq a b)) = true) : a ≠ b := by
 rintro rfl
 rw [Nat.beq_refl] at h
 cases h
theorem RelV.off0X {b : Nat} {L : Nat -> Prop} {w w' : World} {ρ ρ' : Pl} (hl : LaterX b L w ρ w' ρ') {x : AV} {v : Value} (h : RelV w L ρ x v) (hc : x.off0 b = true) : RelV w' L ρ' x v := by
 cases h with
 | lf x v h => exact .lf x v (h.later hl.cell)
 | agg cs vs hl' h => cases hc
 | tup cs vs hl' h => cases hc
 | rop cs ad V hs h1 h2 =>
  refine .rop cs ad V hs (fun j x hj => ?_) (fun j x hj => (h2 j x hj).later hl.cell)
  obtain ⟨a, c⟩ := h1 j x hj
  exact (hl.cell _ _ _ a c).symm
 | ptr b' off v hb h1 h =>
  have e := hl.ext b' (Y2 hc)
  exact .ptr b' off v (by rw [e];exact hb) h1 fun k o hk => h k o (e ▸ hk)
 | own b' off len st v hb h1 h =>
  have e := hl.ext b' (Y2 hc)
  refine .own b' off len st v (by rw [e];exact hb) h1 fun k o hk => ?_
  obtain ⟨cap, el, n, h1, h2, h3, h4⟩ := h k o (e ▸ hk)
  exact ⟨cap, el, n, h1, h2, hl.shape _ _ h3, h4⟩
 | mp b' v hb h1 h =>
  have e := hl.ext b' (Y2 hc)
  exact .mp b' v (by rw [e];exact hb) h1 fun k o hk => h k o (e ▸ hk)
 | fn f fs cs us vs a b h k => cases hc
 | err t u => exact .err t u
theorem RelV.laterX {b : Nat} {L : Nat -> Prop} {w w' : World} {ρ ρ' : Pl} (hl : LaterX b L w ρ w' ρ') {x : AV} {v : Value} (h : RelV w L ρ x v) (hc : x.clear b = true) : RelV w' L ρ' x v := by
 have all : ∀ {cs : List AV} {vs : List Value}, (∀ (i : Nat) (x : AV) (v : Value), cs[i]? = some x -> vs[i]? = some v -> RelV w L ρ x v) -> cs.all (AV.off0 b) = true -> ∀ (i : Nat) (x : AV) (v : Value), cs[i]? = some x -> vs[i]? = some v -> RelV w' L ρ' x v :=
  fun h hc i x v hx hv => (h i x v hx hv).off0X hl (List.all_eq_true.1 hc x (List.mem_of_getElem? hx))
 cases x with
 | agg cs =>
  obtain ⟨vs, rfl, hlen, hr⟩ := h.agg_out
  exact .agg cs vs hlen (all hr hc)
 | tup cs =>
  obtain ⟨vs, rfl, hlen, hr⟩ := h.tup_out
  exact .tup cs vs hlen (all hr hc)
 | fn f fs cs =>
  obtain ⟨us, vs, rfl, h1, h2, h3, h4⟩ := h.fn_out
  simp only [AV.clear, Bool.and_eq_true] at hc
  exact .fn f fs cs us vs h1 h2 (all h3 hc.1) (all h4 hc.2)
 | lf x => exact h.off0X hl rfl
 | rop cs => exact h.off0X hl rfl
 | ptr b' off => exact h.off0X hl hc
 | own b' off len st => exact h.off0X hl hc
 | mp b' => exact h.off0X hl hc
 | err => exact h.off0X hl rfl

def Tm.dropO : Tm -> Nat -> Option Tm
 | [], _ => some []
 | (k, v) :: r, t => match Tm.dropO r t with
  | none => none
  | some r' => match Nat.beq k t with
   | true => some r'
   | false => some ((k, v) :: r')
def Tm.clearO (b : Nat) : Tm -> Option Tm
 | [] => some []
 | (k, x) :: r => match Tm.clearO b r with
  | none => none
  | some r' => match x.clear b with
   | true => some ((k, x) :: r')
   | false => Tm.dropO r' k
theorem Tm.get_dropO : ∀ (tm tm' : Tm) (d : Nat), tm.dropO d = some tm' -> ∀ t x, tm'.get t = some x -> d ≠ t /\ tm.get t = some x
 | [], tm', d, h, t, x, hx => by
  simp only [Tm.dropO, Option.some.injEq] at h
  subst h;cases hx
 | (k, v) :: r, tm', d, h, t, x, hx => by
  simp only [Tm.dropO] at h
  cases e : Tm.dropO r d with
  | none => simp [e] at h
  | some r' =>
   have ih := Tm.get_dropO r r' d e t
   simp only [e] at h
   by_cases hk : k = d
   ·subst hk
    rw [Nat.beq_refl] at h
    simp only [Option.some.injEq] at h
    subst h
    obtain ⟨h1, h2⟩ := ih x hx
    exact ⟨h1, by rw [Tm.get_cons, if_neg h1];exact h2⟩
   ·rw [Dc hk] at h
    simp only [Option.some.injEq] at h
    subst h
    rw [Tm.get_cons] at hx ⊢
    by_cases e2 : k = t
    ·rw [if_pos e2] at hx ⊢;exact ⟨fun h => hk (e2.trans h.symm), hx⟩
    ·rw [if_neg e2] at hx ⊢;exact ih x hx
theorem Tm.get_clearO : ∀ (b : Nat) (tm tm' : Tm), tm.clearO b = some tm' -> ∀ t x, tm'.get t = some x -> tm.get t = some x /\ x.clear b = true
 | b, [], tm', h, t, x, hx => by
  simp only [Tm.clearO, Option.some.injEq] at h
  subst h;cases hx
 | b, (k, v) :: r, tm', h, t, x, hx => by
  simp only [Tm.clearO] at h
  cases e : Tm.clearO b r with
  | none => simp [e] at h
  | some r' =>
   have ih := Tm.get_clearO b r r' e t
   simp only [e] at h
   cases hv : v.clear b with
   | true =>
    simp only [hv, Option.some.injEq] at h
    subst h
    rw [Tm.get_cons] at hx ⊢
    by_cases e2 : k = t
    ·rw [if_pos e2] at hx ⊢
     injection hx with hx
     subst hx
     exact ⟨rfl, hv⟩
    ·rw [if_neg e2] at hx ⊢;exact ih x hx
   | false =>
    simp only [hv] at h
    obtain ⟨h1, h2⟩ := Tm.get_dropO _ _ _ h t x hx
    rw [Tm.get_cons, if_neg h1]
    exact ih x h2
def HB.clear (b : Nat) : HB -> Bool
 | .live cs => cs.all (AV.clear b)
 | .gho cs _ => cs.all (AV.clear b)
 | _ => true
def AH.clear (b : Nat) : Nat -> AH -> Bool
 | _, [] => true
 | n, x :: r => (match Nat.beq n b with | true => true | false => x.clear b) && AH.clear b (n + 1) r
def HB.ord : HB -> Bool
 | .free => true
 | .dead => true
 | .live _ => true
 | _ => false
theorem HB.ord_ext {x : HB} (h : x.ord = true) : x.isExt = false := by cases x <;> first | rfl | cases h
theorem AH.clear_at {b : Nat} : ∀ (H : AH) (n b' : Nat) (cs : List AV), H.clear b n = true -> H.at b' = .live cs -> n + b' ≠ b -> cs.all (AV.clear b) = true
 | [], n, b', cs, _, h, _ => by simp [AH.at] at h
 | x :: r, n, 0, cs, hc, h, hne => by
  simp only [AH.clear, Bool.and_eq_true] at hc
  rw [Dc (by omega)] at hc
  obtain rfl : x = .live cs := by simpa [AH.at] using h
  exact hc.1
 | x :: r, n, b' + 1, cs, hc, h, hne => by
  simp only [AH.clear, Bool.and_eq_true] at hc
  rw [AH.at_cons] at h
  exact AH.clear_at r (n + 1) b' cs hc.2 h (by omega)

theorem AH.clear_gho {b : Nat} : ∀ (H : AH) (n b' : Nat) (cs : List AV) (vs : List Value), H.clear b n = true -> H.at b' = .gho cs vs -> n + b' ≠ b -> cs.all (AV.clear b) = true
 | [], n, b', cs, vs, _, h, _ => by simp [AH.at] at h
 | x :: r, n, 0, cs, vs, hc, h, hne => by
  simp only [AH.clear, Bool.and_eq_true] at hc
  rw [Dc (by omega)] at hc
  obtain rfl : x = .gho cs vs := by simpa [AH.at] using h
  exact hc.1
 | x :: r, n, b' + 1, cs, vs, hc, h, hne => by
  simp only [AH.clear, Bool.and_eq_true] at hc
  rw [AH.at_cons] at h
  exact AH.clear_gho r (n + 1) b' cs vs hc.2 h (by omega)
theorem RelSt.regrow {E : Env} {tm tm' : Tm} {H : AH} {a : Act} {w : World} {ρ : Pl} (h : RelSt E ⟨tm, H⟩ a w ρ) {b : Nat} {w' : World} {k' o' : Nat} {c' : Array Value} {e' : TypeId} {lo hi : Nat} {cells' : List AV}
  (htm : tm.clearO b = some tm') (hH : H.clear b 0 = true) (hmap : (H.at b).ord = true)
  (hw : w'.heap[k']? = some (.cells c' e' (lo, hi))) (hlo : hi <= lo) (hsz : o' + cells'.length <= c'.size)
  (hk : (∃ o, ρ b = some (some (k', o))) \/ w.heap.size <= k')
  (hb : ∀ k, k < w.heap.size -> k ≠ k' -> w'.heap[k]? = w.heap[k]?) (hsh : ∀ k x, w.shape? k = some x -> w'.shape? k = some x)
  (hos : w'.os = w.os) (htape : w'.tape = w.tape) (hout : w'.output = w.output) (hsize : w.heap.size <= w'.heap.size)
  (hc : LaterX b E.L w ρ w' (ρ.upd b (some (k', o'))) -> ∀ (j : Nat) (x : AV), cells'[j]? = some x -> ∃ v, c'[o' + j]? = some v /\ RelV w' E.L (ρ.upd b (some (k', o'))) x v) :
  LaterX b E.L w ρ w' (ρ.upd b (some (k', o'))) /\ RelSt E ⟨tm', H.put b (.live cells')⟩ a w' (ρ.upd b (some (k', o'))) := by
 have hL : ¬ E.L k' := by
  rcases hk with ⟨o, hk⟩ | hk
  ·cases e : H.at b with
   | free => rw [h.H.free b e] at hk;cases hk
   | dead => rw [h.H.dead b e] at hk;cases hk
   | live cells =>
    obtain ⟨k0, o0, c, el, lo, hi, h1, h2, h3, h4, h5, h6⟩ := h.H.live b cells e
    rw [h1] at hk
    injection hk with hk
    injection hk with hk
    injection hk with hk _
    subst hk
    exact h5
   | map es => rw [e] at hmap;cases hmap
   | bld T e' b2 s => rw [e] at hmap;cases hmap
   | hid => rw [e] at hmap;cases hmap
   | hot k o cs => rw [e] at hmap;cases hmap
   | gho cs vs => rw [e] at hmap;cases hmap
  ·intro hL
   have := h.lim _ hL
   have := h.fr.size
   omega
 have hmine : E.O k' \/ E.w0.heap.size <= k' := by
  rcases hk with ⟨o, hk⟩ | hk
  ·exact h.mineO hk
  ·have := h.fr.size
   exact .inr (by omega)
 have hne : ∀ {b' k o : Nat}, b' ≠ b -> ρ b' = some (some (k, o)) -> k ≠ k' := fun {b' k o} hbb h1 e => by
  subst e
  rcases hk with ⟨o2, hk⟩ | hk
  ·exact hbb (h.H.dist _ _ _ _ _ h1 hk)
  ·have := h.H.lt h1
   omega
 have hu : ∀ {b' k o : Nat}, (ρ.upd b (some (k', o'))) b' = some (some (k, o)) -> (b' = b /\ k = k' /\ o = o') \/ (b' ≠ b /\ ρ b' = some (some (k, o))) := fun {b' k o} h1 => by
  unfold Pl.upd at h1
  by_cases e : b' = b
  ·rw [if_pos e] at h1
   simp only [Option.some.injEq, Prod.mk.injEq] at h1
   exact .inl ⟨e, h1.1.symm, h1.2.symm⟩
  ·rw [if_neg e] at h1
   exact .inr ⟨e, h1⟩
 have hla : LaterX b E.L w ρ w' (ρ.upd b (some (k', o'))) := by
  refine ⟨fun b' hb' => by unfold Pl.upd;rw [if_neg hb'], fun k o u h1 h2 => ?_, hsh⟩
  have hkk : k ≠ k' := by
   rintro rfl
   rcases hk with ⟨o2, hk⟩ | hk
   ·exact h1 (.inr ⟨b, o2, hk⟩)
   ·have := Bs h2
    omega
  refine ⟨by rw [World.cell?_of_block (w := w) (hb k (Bs h2) hkk)];exact h2, ?_⟩
  rintro (hf | ⟨b', o2, hf⟩)
  ·exact h1 (.inl hf)
  ·rcases hu hf with ⟨_, e, _⟩ | ⟨_, h3⟩
   ·exact hkk e
   ·exact h1 (.inr ⟨b', o2, h3⟩)
 have hput : ∀ b', b' ≠ b -> (H.put b (.live cells')).at b' = H.at b' := fun b' hb' => by rw [AH.at_put, if_neg hb']
 have hupd : ∀ b', b' ≠ b -> (ρ.upd b (some (k', o'))) b' = ρ b' := fun b' hb' => by unfold Pl.upd;rw [if_neg hb']
 refine ⟨hla, ⟨h.size, h.defers, fun t x hx => ?_, ⟨fun b' hb' => ?_, fun b' hb' => ?_, fun b' cs hb' => ?_, fun b' es hb' => ?_, fun b1 b2 k o1 o2 h1 h2 => ?_, h.H.ext.put hla.cell (HB.ord_ext hmap) rfl hupd hsize (fun b' cs vs hne hg y hy v hv => hv.laterX hla (List.all_eq_true.1 (AH.clear_gho H 0 b' cs vs hH hg (by omega)) y hy)) fun b' k o hne' hk' => hb k (h.H.lt hk') (hne hne' hk')⟩, ?_, fun b' k o h1 => ?_, h.lim⟩⟩
 ·obtain ⟨h1, h2⟩ := Tm.get_clearO _ _ _ htm t x hx
  obtain ⟨h3, h4⟩ := h.tm t x h1
  exact ⟨h3, h4.laterX hla h2⟩
 ·by_cases e : b' = b
  ·subst e;rw [AH.at_put, if_pos rfl] at hb';cases hb'
  ·rw [hput b' e] at hb';rw [hupd b' e];exact h.H.free b' hb'
 ·by_cases e : b' = b
  ·subst e;rw [AH.at_put, if_pos rfl] at hb';cases hb'
  ·rw [hput b' e] at hb';rw [hupd b' e];exact h.H.dead b' hb'
 ·by_cases e : b' = b
  ·subst e
   rw [AH.at_put, if_pos rfl] at hb'
   injection hb' with hb'
   subst hb'
   refine ⟨k', o', c', e', lo, hi, by unfold Pl.upd;rw [if_pos rfl], hw, hlo, hsz, hL, fun j x hj => ?_⟩
   exact hc hla j x hj
  ·rw [hput b' e] at hb'
   obtain ⟨k0, o0, c, el, lo0, hi0, h1, h2, h3, h4, h5, h6⟩ := h.H.live b' cs hb'
   refine ⟨k0, o0, c, el, lo0, hi0, by rw [hupd b' e];exact h1, by rw [hb k0 (Bm h2) (hne e h1)];exact h2, h3, h4, h5, fun j x hj => ?_⟩
   obtain ⟨v, g1, g2⟩ := h6 j x hj
   have hcl := AH.clear_at H 0 b' cs hH hb' (by omega)
   exact ⟨v, g1, g2.laterX hla (List.all_eq_true.1 hcl x (List.mem_of_getElem? hj))⟩
 ·by_cases e : b' = b
  ·subst e;rw [AH.at_put, if_pos rfl] at hb';cases hb'
  ·rw [hput b' e] at hb'
   obtain ⟨k0, entries, clock, h1, h2, h3, h4⟩ := h.H.map b' es hb'
   exact ⟨k0, entries, clock, by rw [hupd b' e];exact h1, by rw [hb k0 (Bm h2) (hne e h1)];exact h2, h3, h4⟩
 ·rcases hu h1 with ⟨e1, f1, _⟩ | ⟨e1, f1⟩ <;> rcases hu h2 with ⟨e2, f2, _⟩ | ⟨e2, f2⟩
  ·rw [e1, e2]
  ·exact absurd f1 (hne e2 f2)
  ·exact absurd f2 (hne e1 f1)
  ·exact h.H.dist _ _ _ _ _ f1 f2
 ·refine h.fr.trans ⟨hos, htape, hout, hsize, fun k hk1 hk2 => hb k hk1 fun e => hk2 ?_, hsh⟩
  subst e
  exact hmine
 ·rcases hu h1 with ⟨e1, rfl, _⟩ | ⟨_, f1⟩
  ·exact hmine.imp_left fun h1 => ⟨h1, by show ((H.put b (.live cells')).at b').isExt = false;rw [AH.at_put, if_pos e1];rfl⟩
  ·exact h.minePut b rfl f1

/-! ### Cells in a row -/
theorem Dn {P : Program} {k off : Nat} {e : TypeId} {lo hi : Nat} (hlo : hi <= lo) : ∀ (vs : List Value) (i : Nat) (c : Array Value) (w : World), w.heap[k]? = some (.cells c e (lo, hi)) -> off + i + vs.length <= c.size -> (∀ v ∈ vs, v.oneCell' = true) ->
  ∃ (c' : Array Value) (w' : World), (storeCells ⟨k, off, none⟩ vs i).run P w = .ok () w' /\ w'.heap[k]? = some (.cells c' e (lo, hi)) /\ c'.size = c.size /\ (∀ j, c'[j]? = if off + i <= j /\ j < off + i + vs.length then vs[j - (off + i)]? else c[j]?) /\ (∀ k', k' ≠ k -> w'.heap[k']? = w.heap[k']?) /\ (∀ k x, w.shape? k = some x -> w'.shape? k = some x) /\ w'.os = w.os /\ w'.tape = w.tape /\ w'.output = w.output /\ w'.heap.size = w.heap.size
 | [], i, c, w, hw, hl, h1 => ⟨c, w, rfl, hw, rfl, fun j => by rw [if_neg (by simp)], fun _ _ => rfl, fun _ _ h => h, rfl, rfl, rfl, rfl⟩
 | v :: vs, i, c, w, hw, hl, h1 => by
  simp only [List.length_cons] at hl
  have hcell : w.cell? ⟨k, off + i, none⟩ = some (c[off + i]'(by omega)) := by
   unfold World.cell?
   rw [hw]
   exact Array.getElem?_eq_getElem (by show off + i < c.size;omega)
  have hfz : w.frozen? ⟨k, off + i, none⟩ = false := by
   simp only [World.frozen?, hw]
   simp
   omega
  have hst : (store ((⟨k, off, none⟩ : Addr).add i) v).run P w = .ok () (w.setCell ⟨k, off + i, none⟩ v) := by
   rw [B0 rfl, run_store P w _ v _ (h1 v (by simp))]
   simp [hcell, hfz]
  obtain ⟨c', w', g1, g2, g3, g4, g5, g6, g7, g8, g9, g10⟩ := Dn (P := P) (off := off) hlo vs (i + 1) (c.setIfInBounds (off + i) v) (w.setCell ⟨k, off + i, none⟩ v) (heap_setCell w k (off + i) v c e _ hw) (by simp;omega) fun u hu => h1 u (by simp [hu])
  refine ⟨c', w', by simp only [storeCells, Sem.run_bind, hst, Result.andThen_ok, g1], g2, by simpa using g3, fun j => ?_, fun k' hk => by rw [g5 k' hk, Below.heap_setCell w _ v k' hk], fun k' x hx => g6 k' x (by rw [Cd];exact hx), g7, g8, g9, by rw [g10];simp [World.setCell]⟩
  rw [g4 j]
  by_cases e1 : j = off + i
  ·subst e1
   rw [if_neg (by omega), if_pos (by simp), Array.getElem?_setIfInBounds]
   simp
   omega
  ·by_cases e2 : off + (i + 1) <= j /\ j < off + (i + 1) + vs.length
   ·rw [if_pos e2, if_pos (by simp;omega), show j - (off + i) = j - (off + (i + 1)) + 1 by omega, List.getElem?_cons_succ]
   ·rw [if_neg e2, if_neg (by simp;omega), Array.getElem?_setIfInBounds_ne (by omega)]
def Lf.one : Lf -> Bool
 | .val v => v.oneCell'
 | _ => true
theorem RelL.one {w : World} {F : Nat -> Prop} {x : Lf} {v : Value} (h : RelL w F x v) (h1 : x.one = true) : v.oneCell' = true := by
 cases x with
 | val u =>
  generalize e : Lf.val u = y at h
  cases h <;> cases e
  exact h1
 | sl rows => obtain ⟨a, cap, rfl, _⟩ := h.slice;rfl
 | fn f caps => obtain ⟨ads, V, rfl, _⟩ := h.fn_out;rfl
theorem Fj {α : Type} {n : Nat} : ∀ (rows : List (List α)) (i j : Nat), (∀ row ∈ rows, row.length = n) -> j < n -> rows.flatten[i * n + j]? = (rows[i]?).bind (·[j]?)
 | [], i, j, _, _ => by simp
 | r :: rows, 0, j, h, hj => by
  rw [List.flatten_cons, List.getElem?_append_left (by rw [h r (by simp)];omega)]
  simp
 | r :: rows, i + 1, j, h, hj => by
  have hr := h r (by simp)
  rw [List.flatten_cons, Nat.succ_mul, List.getElem?_append_right (by omega), show i * n + n + j - r.length = i * n + j by omega, Fj rows i j (fun row h' => h row (by simp [h'])) hj]
  simp
theorem B6 {α : Type} {n : Nat} : ∀ (rows : List (List α)), (∀ row ∈ rows, row.length = n) -> rows.flatten.length = rows.length * n
 | [], _ => by simp
 | r :: rows, h => by
  rw [List.flatten_cons, List.length_append, h r (by simp), B6 rows fun row h' => h row (by simp [h']), List.length_cons, Nat.succ_mul]
  omega
theorem RelL.news {P : Program} {w : World} {F : Nat -> Prop} {rows : List (List Lf)} {v : Value} {n : Nat} (h : RelL w F (.sl rows) v) (hr : ∀ row ∈ rows, row.length = n) (hn : 1 <= n) (h1 : rows.flatten.all Lf.one = true) :
  ∃ (news : List Value), news.length = rows.length * n /\ (∀ u ∈ news, u.oneCell' = true) /\ (∀ (j : Nat) (x : Lf), rows.flatten[j]? = some x -> ∃ u, news[j]? = some u /\ RelL w F x u) /\
   ((v = .slice none 0 0 /\ rows = []) \/ ∃ (ad : Addr) (cap : Nat), v = .slice (some ad) rows.length cap /\ ∀ (j : Nat) (u : Value), news[j]? = some u -> w.cell? (ad.add j) = some u) := by
 rcases h.sl_out with ⟨rfl, rfl⟩ | ⟨ad, cap, V, rfl, hs, hc, h2, h3⟩
 ·exact ⟨[], by simp, by simp, by simp, .inl ⟨rfl, rfl⟩⟩
 ·let news : List Value := (List.range (rows.length * n)).map fun j => V (j / n) (j % n)
  have hnl : news.length = rows.length * n := by simp [news]
  have hat : ∀ j, j < rows.length * n -> ∃ x row, rows[j / n]? = some row /\ row[j % n]? = some x /\ rows.flatten[j]? = some x /\ row.length = n := fun j hj => by
   have hjn : j / n < rows.length := (Nat.div_lt_iff_lt_mul (by omega)).2 hj
   have hrow := hr (rows[j / n]) (List.getElem_mem hjn)
   have hm : j % n < n := Nat.mod_lt _ (by omega)
   have hdm : j / n * n + j % n = j := by rw [Nat.mul_comm];exact Nat.div_add_mod j n
   refine ⟨(rows[j / n])[j % n]'(by rw [hrow];exact hm), rows[j / n], List.getElem?_eq_getElem hjn, List.getElem?_eq_getElem _, ?_, hrow⟩
   have := Fj rows (j / n) (j % n) hr hm
   rw [hdm] at this
   rw [this, List.getElem?_eq_getElem hjn]
   simp [hrow, hm]
  have hnj : ∀ j, j < rows.length * n -> news[j]? = some (V (j / n) (j % n)) := fun j hj => by simp [news, hj]
  have hlt : ∀ {j : Nat} {u : Value}, news[j]? = some u -> j < rows.length * n := fun {j u} h => by
   have := (List.getElem?_eq_some_iff.1 h).1
   omega
  refine ⟨news, hnl, fun u hu => ?_, fun j x hx => ?_, .inr ⟨ad, cap, rfl, fun j u hu => ?_⟩⟩
  ·obtain ⟨j, hj⟩ := List.getElem?_of_mem hu
   have hjl := hlt hj
   obtain ⟨x, row, q1, q2, q3, q4⟩ := hat j hjl
   rw [hnj j hjl] at hj
   injection hj with hj
   subst hj
   exact (h3 _ row _ x q1 q2).one (List.all_eq_true.1 h1 x (List.mem_of_getElem? q3))
  ·have hjl : j < rows.length * n := by rw [<- B6 rows hr];exact (List.getElem?_eq_some_iff.1 hx).1
   obtain ⟨y, row, q1, q2, q3, q4⟩ := hat j hjl
   rw [hx] at q3
   injection q3 with q3
   subst q3
   exact ⟨_, hnj j hjl, h3 _ row _ x q1 q2⟩
  ·have hjl := hlt hu
   obtain ⟨y, row, q1, q2, q3, q4⟩ := hat j hjl
   rw [hnj j hjl] at hu
   injection hu with hu
   subst hu
   obtain ⟨_, q5⟩ := h2 _ row _ y q1 q2
   have hdm : j / n * n + j % n = j := by rw [Nat.mul_comm];exact Nat.div_add_mod j n
   rw [q4, hdm] at q5
   rw [B0 (hs.resolve_right fun h0 => absurd (List.getElem?_eq_some_iff.1 q1).1 (by rw [show rows.length = 0 by omega];exact Nat.not_lt_zero _))]
   exact q5
theorem B8 (b : Nat) (cs : List Lf) : (cs.map AV.lf).all (AV.clear b) = true := by
 rw [List.all_eq_true]
 intro x hx
 obtain ⟨y, _, rfl⟩ := List.mem_map.1 hx
 rfl
theorem Gl (w : World) (need old : Nat) (e : TypeId) : need <= grownCap w need old e := by
 simp [grownCap, Question.cut]
section
variable {P : Program} {N : Nat} {ops : Array Oper} {m : Option Nat} {K : Tm -> AH -> Prop} {tm tm' : Tm} {H : AH} {rest : List Oper} {ty : TypeId} {pos : String} {af : Array Edge} {d : Nat} {t e : TypeId} {x y : Operand}
theorem U3 {n nb len b : Nat} {rows : List (List Lf)} {cells : List AV} {zv : Value} [hu : HasU P t (.slice e)] [hi : HasS P e n] [hz : HasZ P e zv] [hby : HasB P e nb] {E : Env} {a : Act} {w : World} {ρ : Pl} {K' : Act -> World -> Prop} {Q : Exit -> Act -> World -> Prop}
  (hR : RelSt E ⟨tm, H⟩ a w ρ) (hx : evT tm x = some (.own b 0 len n)) (hb : H.at b = .live cells) (hc : cells.length = len * n) (hy : evT tm y = some (.sl rows)) (hn1 : Nat.ble 1 n = true)
  (hr : ∀ row ∈ rows, row.length = n) (h1 : rows.flatten.all Lf.one = true) (hzs : Nat.beq zv.cells.size n = true)
  (hfit : (len + rows.length) * nb <= 140737488355328) (hlen : len + rows.length <= 9223372036854775807)
  (htm : tm.clearO b = some tm') (hH : AH.clear b 0 H = true) (hcl : cells.all (AV.clear b) = true)
  (hK : ∀ w' ρ' v, RelSt E ⟨tm', H.put b (.live (cells ++ rows.flatten.map .lf))⟩ a w' ρ' -> RelV w' E.L ρ' (.own b 0 (len + rows.length) n) v -> K' (a.put (some d) v) w') :
  Oper.wp P ⟨some d, .call ⟨.builtin .append, #[x, y], #[t, t]⟩, ty, pos, af, none⟩ a w K' Q := by
 have hxv : RelV w E.L ρ (.own b 0 len n) (a.eval x) := hR.ev (by rw [Ah];exact hx)
 have hyv : RelV w E.L ρ (.sl rows) (a.eval y) := hR.ev (by rw [Ah];exact hy)
 obtain ⟨k, o, c, el, lo, hi', g1, g2, g3, g4, g5, g6⟩ := hR.H.live b cells hb
 obtain ⟨cap, e2, n2, hxe, hcap, hsh, hfitc⟩ := hxv.own_out k o g1
 have hn1' := Nat.le_of_ble_eq_true hn1
 obtain ⟨news, q1, q2, q3, q4⟩ := hyv.lf_out.news (P := P) hr hn1' h1
 obtain ⟨i, hi1, hi2⟩ : ∃ i, P.info? e = some i /\ i.size = n := by
  have := hi.out
  cases hh : P.info? e with
  | none => rw [hh] at this;cases this
  | some i => rw [hh] at this;exact ⟨i, rfl, by simpa using this⟩
 have hi3 : i.bytes = nb := by have := hby.out;rw [hi1] at this;simpa using this
 have hi4 : i.zero = some zv := by have := hz.out;rw [hi1] at this;simpa using this
 have hzs' := Nat.eq_of_beq_eq_true hzs
 rw [Nat.add_zero] at hxe
 rw [Nat.add_zero] at hfitc
 have hcs : n2 = c.size := by
  have hsh' := hsh
  unfold World.shape? at hsh'
  rw [g2] at hsh'
  simp at hsh'
  exact hsh'.2.symm
 -- the new cells
 have hnew : ∀ (j : Nat) (z : AV), (cells ++ rows.flatten.map AV.lf)[j]? = some z -> (j < len * n /\ cells[j]? = some z) \/ (len * n <= j /\ ∃ x, z = .lf x /\ rows.flatten[j - len * n]? = some x) := fun j z hj => by
  rcases Nat.lt_or_ge j cells.length with hlt | hge
  ·rw [List.getElem?_append_left hlt] at hj
   exact .inl ⟨by omega, hj⟩
  ·rw [List.getElem?_append_right hge, List.getElem?_map, hc] at hj
   cases hf : rows.flatten[j - len * n]? with
   | none => rw [hf] at hj;cases hj
   | some x =>
    rw [hf] at hj
    simp only [Option.map_some, Option.some.injEq] at hj
    exact .inr ⟨by omega, x, hj.symm, rfl⟩
 have hmapn : (H.at b).ord = true := by rw [hb];rfl
 have fin : ∀ (w' : World) (k' o' cap' : Nat) (c' : Array Value) (e' : TypeId) (lo' hi'' : Nat),
   (execOp a.eval ⟨some d, .call ⟨.builtin .append, #[x, y], #[t, t]⟩, ty, pos, af, none⟩).run P w = .ok (.value (.slice (some ⟨k', o', none⟩) (len + rows.length) cap')) w' ->
   w'.heap[k']? = some (.cells c' e' (lo', hi'')) -> hi'' <= lo' -> len + rows.length <= cap' -> o' + cap' * n <= c'.size -> ((∃ o, ρ b = some (some (k', o))) \/ w.heap.size <= k') ->
   (∀ k, k < w.heap.size -> k ≠ k' -> w'.heap[k]? = w.heap[k]?) -> (∀ k x, w.shape? k = some x -> w'.shape? k = some x) -> w'.os = w.os -> w'.tape = w.tape -> w'.output = w.output -> w.heap.size <= w'.heap.size ->
   (∀ j, j < len * n -> c'[o' + j]? = c[o + j]?) -> (∀ j, j < rows.length * n -> c'[o' + len * n + j]? = news[j]?) -> Oper.wp P ⟨some d, .call ⟨.builtin .append, #[x, y], #[t, t]⟩, ty, pos, af, none⟩ a w K' Q := fun w' k' o' cap' c' e' lo' hi'' hrun r1 r2 r3 r4 r5 r6 r7 r8 r9 r10 r11 r12 r13 => by
  have hsz : o' + (cells ++ rows.flatten.map AV.lf).length <= c'.size := by
   rw [List.length_append, List.length_map, B6 rows hr, hc, <- Nat.add_mul]
   exact Nat.le_trans (Nat.add_le_add_left (Nat.mul_le_mul_right _ r3) _) r4
  obtain ⟨s1, s2⟩ := hR.regrow (tm' := tm') (cells' := cells ++ rows.flatten.map AV.lf) htm hH hmapn r1 r2 hsz r5 r6 r7 r8 r9 r10 r11 fun hla j z hj => by
   rcases hnew j z hj with ⟨hj1, hj2⟩ | ⟨hj1, x, rfl, hj2⟩
   ·obtain ⟨v, p1, p2⟩ := g6 j z hj2
    exact ⟨v, by rw [r12 j hj1];exact p1, p2.laterX hla (List.all_eq_true.1 hcl z (List.mem_of_getElem? hj2))⟩
   ·obtain ⟨u, p1, p2⟩ := q3 _ x hj2
    have hjl : j - len * n < rows.length * n := by rw [<- B6 rows hr];exact (List.getElem?_eq_some_iff.1 hj2).1
    have := r13 (j - len * n) hjl
    rw [show o' + len * n + (j - len * n) = o' + j by omega] at this
    exact ⟨u, by rw [this];exact p1, RelV.laterX hla (.lf _ _ p2) rfl⟩
  unfold Oper.wp
  rw [hrun]
  refine hK _ _ _ s2 ?_
  refine .own b 0 _ n _ (by unfold Pl.upd;rw [if_pos rfl];simp) rfl fun k2 o2 hk2 => ?_
  unfold Pl.upd at hk2
  rw [if_pos rfl] at hk2
  simp only [Option.some.injEq, Prod.mk.injEq] at hk2
  obtain ⟨rfl, rfl⟩ := hk2
  exact ⟨cap', e', c'.size, rfl, r3, by unfold World.shape?;rw [r1], r4⟩
 have hexec : ∀ {v : Value} {w' : World}, (Builtin.append_ #[t, t] ty #[a.eval x, a.eval y]).run P w = .ok v w' -> (execOp a.eval ⟨some d, .call ⟨.builtin .append, #[x, y], #[t, t]⟩, ty, pos, af, none⟩).run P w = .ok (.value v) w' := fun {v w'} hh => by
  unfold execOp
  simp only [resolve, invoke, builtin, Sem.run_bind, Sem.run_pure, Result.andThen_ok, List.map_toArray, List.map_cons, List.map_nil, hh]
 have inplace : ∀ (v : Value), a.eval y = v -> (∃ ax cx, v = .slice ax rows.length cx) -> (Builtin.firstCells n rows.length v).run P w = .ok news.toArray w -> len + rows.length <= cap -> Oper.wp P ⟨some d, .call ⟨.builtin .append, #[x, y], #[t, t]⟩, ty, pos, af, none⟩ a w K' Q := fun v hv ⟨ax, cx, hvs⟩ hf hroom => by
  have hroomn : len * n + rows.length * n <= cap * n := by rw [<- Nat.add_mul];exact Nat.mul_le_mul_right _ hroom
  obtain ⟨c', w', f1, f2, f3, f4, f5, f6, f7, f8, f9, f10⟩ := Dn (P := P) (k := k) (off := o + len * n) g3 news 0 c w g2 (by rw [q1];omega) q2
  refine fin w' k o cap c' el lo hi' (hexec ?_) f2 g3 hroom (by rw [f3];omega) (.inl ⟨o, g1⟩) (fun k2 _ hk2 => f5 k2 hk2) f6 f7 f8 f9 (by omega) (fun j hj => ?_) fun j hj => ?_
  ·rw [hxe, hv, hvs]
   rw [hvs] at hf
   simp [Builtin.append_, run_underlying hu.out, sizeOf, typeInfo, hi1, hi2, Builtin.lenOf, hroom, hf, B0, f1]
  ·rw [f4, if_neg (by omega)]
  ·rw [f4, if_pos (by rw [q1];omega)]
   congr 1
   omega
 rcases q4 with ⟨hv, rfl⟩ | ⟨ad, cx, hv, hcellsv⟩
 ·refine inplace _ hv ⟨none, 0, rfl⟩ ?_ (by simpa using hcap)
  have : news = [] := List.eq_nil_of_length_eq_zero (by simpa using q1)
  subst this
  simp [Builtin.firstCells]
 ·have hf : (Builtin.firstCells n rows.length (.slice (some ad) rows.length cx)).run P w = .ok news.toArray w := run_firstCells_some (P := P) w n rows.length ad rows.length cx news q1 hcellsv
  rcases Nat.lt_or_ge cap (len + rows.length) with hgrow | hroom
  ·have holds : ∀ (j : Nat) (v : Value), ((List.range (len * n)).map fun j => c.getD (o + j) undef)[j]? = some v -> w.cell? ((⟨k, o, none⟩ : Addr).add j) = some v := fun j v hj => by
    have hjl : j < len * n := by
     have := (List.getElem?_eq_some_iff.1 hj).1
     simpa using this
    obtain ⟨z, hz'⟩ : ∃ z, cells[j]? = some z := ⟨_, List.getElem?_eq_getElem (by omega)⟩
    obtain ⟨u, p1, _⟩ := g6 j z hz'
    rw [List.getElem?_map, List.getElem?_range hjl] at hj
    simp only [Option.map_some, Option.some.injEq] at hj
    rw [B0 rfl]
    rw [Array.getD_eq_getD_getElem?, p1] at hj
    simp only [Option.getD_some] at hj
    subst hj
    exact Bh g2 p1
   have hr' := run_append_grow (P := P) w t ty e i zv hu.out hi1 hi4 ⟨k, o, none⟩ len cap ((List.range (len * n)).map fun j => c.getD (o + j) undef) (by simp [hi2]) holds ad rows.length cx news (by rw [hi2];exact q1) hcellsv hgrow (by omega) (growslice_fits hgrow (by rw [hi3];exact hfit))
   have hge := Gl w (len + rows.length) cap e
   refine fin _ w.heap.size 0 _ _ e 0 0 (hexec (by rw [hxe, hv];exact hr')) (B5 w.drew _) (Nat.le_refl _) hge ?_ (.inr (Nat.le_refl _)) (fun k2 hk2 _ => Aj w.drew _ hk2) (fun k2 x hx => by rw [Al (Aj w.drew _ (Ca hx))];exact hx) rfl rfl rfl (by simp) (fun j hj => ?_) fun j hj => ?_
   ·simp only [Array.size_append, List.size_toArray, List.length_map, List.length_range, q1, Builtin.zeroCells, Array.size_map, Array.size_range, hzs', Nat.zero_add]
    rw [<- Nat.add_mul, <- Nat.add_mul, Nat.add_sub_cancel' hge]
    exact Nat.le_refl _
   ·obtain ⟨z, hz'⟩ : ∃ z, cells[j]? = some z := ⟨_, List.getElem?_eq_getElem (by omega)⟩
    obtain ⟨u, p1, _⟩ := g6 j z hz'
    rw [Nat.zero_add, Array.getElem?_append_left (by simp;omega), Array.getElem?_append_left (by simpa using hj)]
    simp [hj, p1, Array.getD_eq_getD_getElem?]
   ·rw [Nat.zero_add, Array.getElem?_append_left (by simp;omega), Array.getElem?_append_right (by simp)]
    simp
  ·exact inplace _ hv ⟨some ad, cx, rfl⟩ hf hroom
theorem S.appendO {n nb len b : Nat} {rows : List (List Lf)} {cells : List AV} {zv : Value} [hu : HasU P t (.slice e)] [hi : HasS P e n] [hz : HasZ P e zv] [hby : HasB P e nb]
  (hx : evT tm x = some (.own b 0 len n)) (hb : H.at b = .live cells) (hy : evT tm y = some (.sl rows)) (htm : tm.clearO b = some tm') (hH : AH.clear b 0 H = true) (hn1 : Nat.ble 1 n = true) (hzs : Nat.beq zv.cells.size n = true) (hN : Nat.ble (d + 1) N = true)
  (hc : cells.length = len * n) (hr : ∀ row ∈ rows, row.length = n) (h1 : rows.flatten.all Lf.one = true) (hcl : cells.all (AV.clear b) = true)
  (hfit : (len + rows.length) * nb <= 140737488355328) (hlen : len + rows.length <= 9223372036854775807)
  (h : Reg none P N ops rest ((d, .own b 0 (len + rows.length) n) :: tm') (H.put b (.live (cells ++ rows.flatten.map .lf))) K) :
  Reg none P N ops (⟨some d, .call ⟨.builtin .append, #[x, y], #[t, t]⟩, ty, pos, af, none⟩ :: rest) tm H K := by
 refine ⟨fun E a w ρ hE hR => ?_⟩
 replace h := h.out
 refine wpList_plain rfl fun K' hK => ?_
 exact U3 hR hx hb hc hy hn1 hr h1 hzs hfit hlen htm hH hcl fun w' ρ' v s2 hv => hK _ _ (h E _ w' ρ' hE (s2.put (by rw [hE];exact Nat.le_of_ble_eq_true hN) hv))
end
def HB.idle : HB -> Bool
 | .dead => true
 | .free => true
 | _ => false
theorem HB.idle_map {x : HB} (h : x.idle = true) : x.ord = true := by cases x <;> first | rfl | cases h
theorem Dg {w : World} {k : Nat} {c : Array Value} {e : TypeId} {fr : Nat × Nat} (h : w.heap[k]? = some (.cells c e fr)) : w.shape? k = some (e, c.size) := by
 unfold World.shape?
 rw [h]
section
variable {P : Program} {N : Nat} {ops : Array Oper} {m : Option Nat} {K : Tm -> AH -> Prop} {tm tm' : Tm} {H : AH} {rest : List Oper} {ty : TypeId} {pos : String} {af : Array Edge} {d : Nat} {t e : TypeId} {x y z : Operand}
theorem Gq {w : World} {L : Nat -> Prop} {ρ : Pl} {b k o len cap n sz : Nat} {e : TypeId} (hc : len <= cap) (hsh : w.shape? k = some (e, sz)) (hf : o + cap * n <= sz) : RelV w L (ρ.upd b (some (k, o))) (.own b 0 len n) (.slice (some ⟨k, o, none⟩) len cap) := by
 refine .own b 0 _ n _ (by unfold Pl.upd;rw [if_pos rfl];simp) rfl fun k2 o2 hk2 => ?_
 unfold Pl.upd at hk2
 rw [if_pos rfl] at hk2
 simp only [Option.some.injEq, Prod.mk.injEq] at hk2
 obtain ⟨rfl, rfl⟩ := hk2
 exact ⟨cap, e, sz, rfl, hc, hsh, hf⟩
theorem S.appendN (b : Nat) {n nb : Nat} {row : List Lf} {rows : List (List Lf)} {zv : Value} [hu : HasU P t (.slice e)] [hi : HasS P e n] [hz : HasZ P e zv] [hby : HasB P e nb]
  (hx : evT tm x = some (.val (.slice none 0 0))) (hy : evT tm y = some (.sl (row :: rows))) (hb : (H.at b).idle = true) (htm : tm.clearO b = some tm') (hH : AH.clear b 0 H = true) (hn1 : Nat.ble 1 n = true) (hzs : Nat.beq zv.cells.size n = true) (hN : Nat.ble (d + 1) N = true)
  (hr : ∀ r ∈ row :: rows, r.length = n) (h1 : (row :: rows).flatten.all Lf.one = true) (hfit : (row :: rows).length * nb <= 140737488355328) (hlen : (row :: rows).length <= 9223372036854775807)
  (h : Reg none P N ops rest ((d, .own b 0 (row :: rows).length n) :: tm') (H.put b (.live ((row :: rows).flatten.map .lf))) K) :
  Reg none P N ops (⟨some d, .call ⟨.builtin .append, #[x, y], #[t, t]⟩, ty, pos, af, none⟩ :: rest) tm H K := by
 refine ⟨fun E a w ρ hE hR => ?_⟩
 replace h := h.out
 refine wpList_plain rfl fun K' hK => ?_
 have hxv := (hR.ev (x := x) (by rw [Ah];exact hx)).val_eq
 have hyv : RelV w E.L ρ (.sl (row :: rows)) (a.eval y) := hR.ev (by rw [Ah];exact hy)
 obtain ⟨news, q1, q2, q3, q4⟩ := hyv.lf_out.news (P := P) hr (Nat.le_of_ble_eq_true hn1) h1
 obtain ⟨i, hi1, hi2⟩ : ∃ i, P.info? e = some i /\ i.size = n := by
  have := hi.out
  cases hh : P.info? e with
  | none => rw [hh] at this;cases this
  | some i => rw [hh] at this;exact ⟨i, rfl, by simpa using this⟩
 have hi3 : i.bytes = nb := by have := hby.out;rw [hi1] at this;simpa using this
 have hi4 : i.zero = some zv := by have := hz.out;rw [hi1] at this;simpa using this
 have hzs' := Nat.eq_of_beq_eq_true hzs
 rcases q4 with ⟨_, h0⟩ | ⟨ad, cx, hv, hcellsv⟩
 ·cases h0
 generalize hrr : row :: rows = R at *
 have hpos : 0 < R.length := by rw [<- hrr];simp
 have hr' := run_append_nil (P := P) w t ty e i zv hu.out hi1 hi4 ad R.length cx news (by rw [hi2];exact q1) hcellsv hpos (by omega) (by rw [hi3];omega)
 have hexec : (execOp a.eval ⟨some d, .call ⟨.builtin .append, #[x, y], #[t, t]⟩, ty, pos, af, none⟩).run P w = .ok (.value (.slice (some ⟨w.heap.size, 0, none⟩) R.length (grownCap w R.length 0 e))) (w.drew.alloc (.cells (news.toArray ++ Builtin.zeroCells zv.cells (grownCap w R.length 0 e - R.length)) e)) := by
  unfold execOp
  simp only [resolve, invoke, builtin, Sem.run_bind, Sem.run_pure, Result.andThen_ok, List.map_toArray, List.map_cons, List.map_nil, hxv, hv, hr']
 have hge := Gl w R.length 0 e
 have hsz : (news.toArray ++ Builtin.zeroCells zv.cells (grownCap w R.length 0 e - R.length)).size = grownCap w R.length 0 e * n := by
  simp only [Array.size_append, List.size_toArray, q1, Builtin.zeroCells, Array.size_map, Array.size_range, hzs']
  rw [<- Nat.add_mul, Nat.add_sub_cancel' hge]
 obtain ⟨s1, s2⟩ := hR.regrow (tm' := tm') (cells' := R.flatten.map AV.lf) (w' := w.drew.alloc (.cells (news.toArray ++ Builtin.zeroCells zv.cells (grownCap w R.length 0 e - R.length)) e)) (k' := w.heap.size) (o' := 0) htm hH (HB.idle_map hb) (B5 w.drew _) (Nat.le_refl _)
  (by rw [hsz, List.length_map, B6 R hr, Nat.zero_add];exact Nat.mul_le_mul_right _ hge) (.inr (Nat.le_refl _)) (fun k2 hk2 _ => Aj w.drew _ hk2) (fun k2 x hx => by rw [Al (Aj w.drew _ (Ca hx))];exact hx) rfl rfl rfl (by simp) fun hla j z hj => by
   rw [List.getElem?_map] at hj
   cases hf : R.flatten[j]? with
   | none => rw [hf] at hj;cases hj
   | some x =>
    rw [hf] at hj
    simp only [Option.map_some, Option.some.injEq] at hj
    subst hj
    obtain ⟨u, p1, p2⟩ := q3 _ x hf
    have hjl : j < news.length := (List.getElem?_eq_some_iff.1 p1).1
    refine ⟨u, ?_, RelV.laterX hla (.lf _ _ p2) rfl⟩
    rw [Nat.zero_add, Array.getElem?_append_left (by simpa using hjl)]
    simpa using p1
 unfold Oper.wp
 rw [hexec]
 refine hK _ _ (h E _ _ _ hE (s2.put (by rw [hE];exact Nat.le_of_ble_eq_true hN) (Gq hge (Dg (B5 w.drew _)) ?_)))
 rw [hsz]
 omega
theorem S.buildSliceO {b : Nat} {ps : Array (Nat × Operand)} {len n : Nat} {zv : Value} {ys : List (Nat × AV)} {out : List AV} [hu : HasU P t (.slice e)] [hi : HasS P e n] [hz : HasZ P e zv] (hb' : H.nextId = some b) (hm : Lr m b = true) (h2 : Nat.ble (len * n) 16777216 = true) (hy : Cq (evT tm) ps.toList = some ys) (ho : E0 (fun (i : Nat) => some (i * n, n)) ys (D8 zv (len * n)) = some out) (hN : Nat.ble (d + 1) N = true) (h : Reg m P N ops rest ((d, .own b 0 len n) :: tm) (H.put b (.live out)) K) : Reg m P N ops (⟨some d, .buildSlice t len ps, ty, pos, af, none⟩ :: rest) tm H K := by
 have h2' := Nat.le_of_ble_eq_true h2
 refine S.new rfl hb' hm (fun E st a w ρ K' Q hr he hH hn hK => ?_) hN h
 obtain ⟨g1, g2⟩ := G8 (w := w) (L := E.L) (ρ := ρ) (η := a.eval) hy fun x hx y hxy => hr.ev (he x (by simpa [Op.operands] using hx) y hxy)
 have hzr : Em w E.L ρ (D8 zv (len * n)) ((Array.range (len * n)).map (zv.cells[· % zv.cells.size]!)) := ⟨by simp [D8], fun j x hx => by
  unfold D8 at hx
  rw [List.getElem?_map] at hx
  by_cases hj : j < len * n
  ·rw [List.getElem?_range hj] at hx
   simp only [Option.map_some, Option.some.injEq] at hx
   subst hx
   exact ⟨_, by rw [Array.getElem?_map, Array.getElem?_range, if_pos hj];rfl, A9 _⟩
  ·rw [List.getElem?_eq_none (by simpa using hj)] at hx
   cases hx⟩
 obtain ⟨r, h3, h4, h5⟩ := Fu ys _ _ _ out g1 g2 hzr ho
 have h3' : Instr.fill (fun i => some (i * n, n)) ((Array.range (len * n)).map (zv.cells[· % zv.cells.size]!)) (List.map (fun x => (x.fst, a.eval x.snd)) ps.toList) = some r := by rw [<- h3, Array.toList_map]
 have hrs : r.size = len * n := by
  have hout : ∀ (ys : List (Nat × AV)) (cs out : List AV), E0 (fun (i : Nat) => some (i * n, n)) ys cs = some out -> out.length = cs.length := by
   intro ys
   induction ys with
   | nil => intro cs out h;simp only [E0, Option.some.injEq] at h;subst h;rfl
   | cons p ys ih =>
    intro cs out h
    obtain ⟨i, x⟩ := p
    simp only [E0] at h
    split at h
    ·rename_i hbb
     rw [Bool.and_eq_true, Bool.and_eq_true] at hbb
     have h6 := Nat.eq_of_beq_eq_true hbb.1.1
     have h7 := Nat.le_of_ble_eq_true hbb.1.2
     rw [ih _ _ h, Dx _ _ _ (by omega)]
    ·cases h
  rw [<- h4, hout _ _ _ ho]
  simp [D8]
 have hw : (execOp a.eval ⟨some d, .buildSlice t len ps, ty, pos, af, none⟩).run P w = .ok (.value (.slice (some ⟨w.heap.size, 0, none⟩) len len)) (w.alloc (.cells r e)) := by
  have n1 : ¬ 2 ^ 24 < len * n := by omega
  by_cases n0 : len * n = 0
  ·have hr0 : (Array.range (len * n)).map (zv.cells[· % zv.cells.size]!) = #[] := by rw [n0];simp
   have hrc : ∀ (f : Nat -> Value), (Array.range 0).map f = #[] := fun f => by simp
   simp only [execOp, Instr.buildSlice, Sem.run_bind, run_underlying hu.out, Bj hi.out, Result.andThen_ok]
   rw [n0]
   rw [hr0] at h3'
   simp [hrc, h3', newRow, Sem.run_bind]
  ·simp only [execOp, Instr.buildSlice, Sem.run_bind, run_underlying hu.out, Bj hi.out, Result.andThen_ok]
   simp [n0, n1, Dj hz.out, h3', newRow, Sem.run_bind]
 obtain ⟨k1, k2⟩ := hr.alloc (hn b _ rfl) out r e (by omega) h5
 unfold Oper.wp
 rw [hw]
 exact hK _ _ _ k1 (Gq (Nat.le_refl _) (Dg (B5 w _)) (by rw [hrs];omega))
theorem S.storeW {b off n : Nat} {cells : List AV} {r : AV} [hi : HasS P t n] (hx : evT tm x = some (.ptr b off)) (hy : evT tm y = some r) (hb : H.at b = .live cells) (h1 : r.boxed = true) (h2 : (r.cells.all AV.one) = true) (hn : r.cells.length = n) (hl : off + n <= cells.length) (h : Reg none P N ops rest tm (H.put b (.live (Bi off r.cells cells))) K) : Reg none P N ops (⟨none, .store t x y, ty, pos, af, none⟩ :: rest) tm H K :=
 S.store hx hy hb h1 h2 hn (Nat.ble_eq_true_of_le hl) h

/-! ### Own slices that nobody writes to any more -/
theorem OwnRows.of (cs : List Lf) {n : Nat} {rows : List (List Lf)} (hr : ∀ row ∈ rows, row.length = n) (h : cs = rows.flatten) : OwnRows (cs.map .lf) 0 rows.length n rows := by
 refine ⟨rfl, fun i row hi => ⟨hr row (List.mem_of_getElem? hi), fun j x hj => ?_⟩⟩
 have hjn : j < n := by rw [<- hr row (List.mem_of_getElem? hi)];exact (List.getElem?_eq_some_iff.1 hj).1
 rw [Nat.zero_add, List.getElem?_map, h, Fj rows i j hr hjn, hi]
 simp [hj]
theorem RelSt.freeze {E : Env} {a : Act} {w : World} {ρ : Pl} (hR : RelSt E ⟨tm, H⟩ a w ρ) {q b off len n : Nat} {cells : List AV} {rows : List (List Lf)} (ht : tm.get q = some (.own b off len n)) (hb : H.at b = .live cells) (hr : OwnRows cells off len n rows) : RelSt E ⟨(q, .sl rows) :: tm, H.put b .dead⟩ a w (ρ.upd b none) := by
 obtain ⟨hq, hv⟩ := hR.tm q _ ht
 obtain ⟨k, o, c, e, lo, hi, g1, g2, g3, g4, g5, g6⟩ := hR.H.live b cells hb
 have hk := hR.kill (b := b) (by show (H.at b).isExt = false;rw [hb];rfl)
 have hF : ∀ i, Fb E.L (ρ.upd b none) i -> Fb E.L ρ i := fun i hi => by
  rcases hi with hi | ⟨b', o', hi⟩
  ·exact .inl hi
  ·unfold Pl.upd at hi
   by_cases e' : b' = b
   ·rw [if_pos e'] at hi;cases hi
   ·rw [if_neg e'] at hi;exact .inr ⟨b', o', hi⟩
 have hnk : ¬ Fb E.L (ρ.upd b none) k := by
  rintro (hf | ⟨b', o', hf⟩)
  ·exact g5 hf
  ·unfold Pl.upd at hf
   by_cases e' : b' = b
   ·rw [if_pos e'] at hf;cases hf
   ·rw [if_neg e'] at hf;exact e' (hR.H.dist _ _ _ _ _ hf g1)
 have hrel : RelV w E.L (ρ.upd b none) (.sl rows) (a.tmps.getD q undef) := by
  obtain ⟨cap, e2, n2, hveq, hc, _⟩ := hv.own_out k o g1
  rw [hveq]
  obtain ⟨rfl, hr⟩ := hr
  refine .lf _ _ (.sl rows ⟨k, o + off, none⟩ cap (fun i j => c.getD (o + (off + (i * n + j))) undef) (.inl rfl) hc (fun i row j x h1 h2 => ?_) fun i row j x h1 h2 => ?_)
  ·obtain ⟨hl, hx⟩ := hr i row h1
   obtain ⟨v, g7, g8⟩ := g6 _ _ (hx j x h2)
   refine ⟨hnk, ?_⟩
   simp only [hl]
   rw [Nat.add_assoc, Bh g2 g7]
   simp [Array.getD_eq_getD_getElem?, g7]
  ·obtain ⟨hl, hx⟩ := hr i row h1
   obtain ⟨v, g7, g8⟩ := g6 _ _ (hx j x h2)
   simp only [Array.getD_eq_getD_getElem?, g7, Option.getD_some]
   exact g8.lf_out.less hF
 refine ⟨hk.size, hk.defers, fun t' x hx => ?_, hk.H, hk.fr, hk.mine, hk.lim⟩
 rw [Tm.get_cons] at hx
 by_cases e' : q = t'
 ·rw [if_pos e'] at hx
  injection hx with hx
  subst hx e'
  exact ⟨hq, hrel⟩
 ·rw [if_neg e'] at hx
  exact hk.tm t' x hx
theorem T.freeze {c : Code} {Q : Exit -> St -> Prop} (q : Nat) {b off len n : Nat} {cells : List AV} {rows : List (List Lf)} (ht : tm.get q = some (.own b off len n)) (hb : H.at b = .live cells) (hr : OwnRows cells off len n rows) (h : T P N c ⟨(q, .sl rows) :: tm, H.put b .dead⟩ Q) : T P N c ⟨tm, H⟩ Q :=
 ⟨fun E a w ρ hE hR => h.out E a w _ hE (hR.freeze ht hb hr)⟩
theorem T.kill {c : Code} {Q : Exit -> St -> Prop} (b : Nat) (h : T P N c ⟨tm, H.put b .dead⟩ Q) (hn : (H.at b).isExt = false := by rfl) : T P N c ⟨tm, H⟩ Q :=
 ⟨fun E a w ρ hE hR => h.out E a w _ hE (hR.kill hn)⟩
theorem S.eqNil {rows : List (List Lf)} {u : TypeId} {n c : Nat} [hu : HasU P t (.slice e)] (hx : evT tm x = some (.sl rows)) (hN : Nat.ble (d + 1) N = true) (h1 : rows = [] -> Reg none P N ops rest ((d, .val (.bool true)) :: tm) H K) (h2 : Reg none P N ops rest ((d, .val (.bool false)) :: tm) H K) : Reg none P N ops (⟨some d, .binOp .eql t x (.const (.slice none n c)) u, ty, pos, af, none⟩ :: rest) tm H K := by
 refine ⟨fun E a w ρ hE hR => ?_⟩
 replace h2 := h2.out
 refine wpList_plain rfl fun K' hK => ?_
 have hxv : RelV w E.L ρ (.sl rows) (a.eval x) := hR.ev (by rw [Ah];exact hx)
 have hN' := Nat.le_of_ble_eq_true hN
 obtain ⟨ad, cap, hv, _⟩ := hxv.lf_out.slice
 have hrun : (execOp a.eval ⟨some d, .binOp .eql t x (.const (.slice none n c)) u, ty, pos, af, none⟩).run P w = .ok (.value (.bool ad.isNone)) w := by
  have := Lib.run_eql_slice_nil (P := P) w t e ad rows.length cap n c hu.out
  have hc : a.eval (.const (.slice none n c)) = .slice none n c := rfl
  simp only [execOp, hv, hc, eqGuard, Sem.run_bind, Sem.run_pure, Result.andThen_ok, this]
  simp [this]
 unfold Oper.wp
 rw [hrun]
 cases ad with
 | none =>
  have hrows : rows = [] := by
   rcases hxv.lf_out.sl_out with ⟨h, _⟩ | ⟨ad, cap', V, h, _⟩
   ·exact h
   ·rw [hv] at h;cases h
  exact hK _ _ ((h1 hrows).out E _ w ρ hE (hR.put (by rw [hE];exact hN') (A9 _)))
 | some ad => exact hK _ _ (h2 E _ w ρ hE (hR.put (by rw [hE];exact hN') (A9 _)))

/-! ### Calls that return a slice of the caller's own -/
structure FnOwn (P : Program) (f : FuncId) (args : List AV) (rows : List (List Lf)) (n : Nat) : Prop where
 ent : Enters P f
 run : ∀ (L : Nat -> Prop) (w : World) (vs : List Value), Glob w -> (∀ k, L k -> k < w.heap.size) -> args.length = vs.length -> (∀ (i : Nat) (x : AV) (v : Value), args[i]? = some x -> vs[i]? = some v -> RelV w L An x v) ->
  Calls P f vs.toArray w fun e w' => ∃ v, e = .returned v /\ Below w.heap.size w w' /\ ((rows = [] /\ RelV w' L An (.sl []) v) \/
   ∃ k o c el lo hi cap, v = .slice (some ⟨k, o, none⟩) rows.length cap /\ w.heap.size <= k /\ w'.heap[k]? = some (.cells c el (lo, hi)) /\ hi <= lo /\ rows.length <= cap /\ o + cap * n <= c.size /\ ∀ (j : Nat) (x : Lf), rows.flatten[j]? = some x -> ∃ u, c[o + j]? = some u /\ RelL w' (fun i => L i \/ i = k) x u)
end
section
variable {P : Program} {N : Nat}
theorem T.drawR {id : Nat} {l : List Oper} {Q : Exit -> St -> Prop} {tm : Tm} {H : AH} (n : Nat) (hm : P.follows .mixedOrders = true) (hB : D1 l.toArray n = true)
  (h : Reg (some H.length) P N l.toArray (l.take n) tm H (fun tm' H' => Reg none P N l.toArray (l.drop n) tm' H' (fun tm H => Q .normal ⟨tm, H⟩))) : T P N (.region id l.toArray true) ⟨tm, H⟩ Q := by
 refine ⟨fun E a w ρ hE hr => ?_⟩
 obtain ⟨ss, hok, hK⟩ := h.out
 have hn : n <= l.length := by simp only [D1, Bool.and_eq_true, decide_eq_true_eq] at hB;simpa using hB.2
 have htl : (l.take n).length = n := by simp;omega
 obtain ⟨h1, h2, h3, h4⟩ := Il (ops := l.toArray) (tm0 := tm) (H0 := H) (tr := ss) (l.take n) ss 0 tm H (fun j hj => by rw [htl] at hj;simp [hj]) (fun j _ => by simp) hok (fun t => rfl) (fun b => rfl)
 have F : Gw P N H.length l.toArray ss tm H n := fun j hj => by
  obtain ⟨o, s, tmj, Hj, g⟩ := h2 j (by rw [htl];exact hj)
  rw [Nat.zero_add] at g
  exact ⟨o, s, tmj, Hj, g⟩
 rw [htl, Nat.zero_add] at h3 h4
 have hr' : RelSt E ⟨tm, H⟩ a { w with drawn := w.drawn + 1 } ρ := hr.below ⟨rfl, rfl, rfl, Nat.le_refl _, fun _ _ => rfl⟩
 have hrep : ∀ i, (Array.replicate l.toArray.size false).getD i false = false := fun i => getD_replicate_false _ _
 have hcnt : cnt (Array.replicate l.toArray.size false) n = n := by
  have : ∀ k, cnt (Array.replicate l.toArray.size false) k = k := fun k => by
   induction k with
   | zero => rfl
   | succ k ih => simp only [cnt, hrep, ih];simp
  exact this n
 refine wp_mono (wp_region_any hm ?_ (Q := fun e a' w' => e = .normal /\ ∃ st' ρ', Q .normal st' /\ RelSt E st' a' w' ρ')) ?_
 ·have key := H9 (ops := l.toArray) (tr := ss) (n := n) (E := E) F hB hE (Q := fun e a' w' => e = .normal /\ ∃ st' ρ', Q .normal st' /\ RelSt E st' a' w' ρ') (l := l.drop n) (fun j => by simp [List.getElem?_drop]) (by simp) (fun a w ⟨tm', H', ρ', g1, g2, g3⟩ => by
   have g4 : RelSt E ⟨Hc (l.take n) ss tm, Kf ss H⟩ a w ρ' := (g1.weaken _ fun t x hx => by rw [g2 t, <- h3 t];exact hx).sameH fun b => by rw [h4 b, <- g3 b]
   exact hK.out E a w ρ' hE g4) n _ a { w with drawn := w.drawn + 1 } hcnt ⟨by simp, (fun j oj _ hl => by rw [hrep] at hl;cases hl), (fun t _ ht => getD_in (by simpa using ht) (hrep t))⟩ ⟨tm, H, ρ, hr', fun t => ?_, fun b => ?_⟩
  ·rw [show n + (l.toArray.size - n) = l.toArray.size by simp;omega] at key
   exact key
  ·rw [Ey (k := 0) n (by omega) fun i _ _ _ => hrep i];rfl
  ·exact (Dl n fun i _ _ _ => hrep i).symm
 ·rintro e a' w' ⟨rfl, st', ρ', g1, g2⟩
  exact ⟨st', ρ', g1, g2⟩
end
section
variable {P : Program} {N : Nat} {ops : Array Oper} {m : Option Nat} {K : Tm -> AH -> Prop} {tm tm' : Tm} {H : AH} {rest : List Oper} {ty : TypeId} {pos : String} {af : Array Edge} {d : Nat} {t e : TypeId} {x y z : Operand}
def On (P : Program) (fn : Func) (rows : List (List Lf)) (n : Nat) (e : Exit) (st : St) : Prop := (e = .normal \/ e = .ret) /\
 ((∃ v, ResL P st fn.results.toList [.val v] /\ v = .slice none 0 0 /\ rows = []) \/ (ResL P st fn.results.toList [.sl []] /\ rows = []) \/ ∃ b, ResL P st fn.results.toList [.own b 0 rows.length n] /\ st.H.at b = .live (rows.flatten.map .lf))
theorem FnOwn.of {f : FuncId} {fn : Func} {c : Code} {args : List AV} {rows : List (List Lf)} {n : Nat} {N : Nat} (hf : P.funcs[f]? = some fn) (hnt : fn.ntmps = N) (hb : fn.body = some c) (hn : (fn.name == "runtime.NumGoroutine") = false) (hN : Nat.ble args.length N = true)
  (h : T P N c ⟨A0 0 args, []⟩ (On P fn rows n)) : FnOwn P f args rows n := by
 subst hnt
 refine ⟨⟨fn, hf, hn, by rw [hb];rfl⟩, fun L w vs hG hL hl hv => ?_⟩
 have hN' := Nat.le_of_ble_eq_true hN
 refine calls_of_wp hf hb ?_
 let E : Env := { N := fn.ntmps, L := L, O := fun _ => False, w0 := w, good := fun w' hf => hG.below (Fr.below hf) }
 have hsz : (vs.toArray ++ Array.replicate (fn.ntmps - vs.toArray.size) undef).size = fn.ntmps := by simp;omega
 have hst : RelSt E ⟨A0 0 args, []⟩ { tmps := vs.toArray ++ Array.replicate (fn.ntmps - vs.toArray.size) undef, defers := [] } w An := by
  refine ⟨hsz, rfl, fun t x hx => ?_, ⟨fun b _ => rfl, (fun b h => by simp [AH.at] at h), (fun b cs h => by simp [AH.at] at h), (fun b cs h => by simp [AH.at] at h), (fun b b' k o o' h => by cases h), ExtOk.nil _ _ _⟩, Fr.refl _ _, (fun b k o h => by cases h), hL⟩
  obtain ⟨_, hx⟩ := F7 _ _ _ _ hx
  rw [Nat.sub_zero] at hx
  have ht : t < args.length := (List.getElem?_eq_some_iff.1 hx).1
  refine ⟨by show t < fn.ntmps;omega, ?_⟩
  have hu : vs[t]? = some (vs[t]'(by omega)) := List.getElem?_eq_getElem _
  have : (vs.toArray ++ Array.replicate (fn.ntmps - vs.toArray.size) undef).getD t undef = vs[t]'(by omega) := by
   rw [Array.getD_eq_getD_getElem?, Array.getElem?_append_left (by simp;omega)]
   simp [hu]
  show RelV w L An x ((vs.toArray ++ Array.replicate (fn.ntmps - vs.toArray.size) undef).getD t undef)
  rw [this]
  exact hv t x _ hx hu
 refine wp_mono (h.out E _ w An rfl hst) ?_
 rintro e a' w' ⟨st', ρ', ⟨he, hres⟩, hr'⟩
 have hb' : Below w.heap.size w w' := Fr.below hr'.fr
 have one : ∀ {x : AV}, ResL P st' fn.results.toList [x] -> ∃ u, (results fn a'.tmps).run P w' = .ok u w' /\ RelV w' L ρ' x u := fun {x} hx => by
  obtain ⟨us, h1, h2, h3⟩ := hx.run hr'
  have hres := Fo (fn := fn) h1
  match us, h2, h3, hres with
  | [u], _, h3, hres => exact ⟨u, hres, h3 0 x u rfl rfl⟩
 have fin : ∃ u, (results fn a'.tmps).run P w' = .ok u w' /\ ((rows = [] /\ RelV w' L An (.sl []) u) \/
   ∃ k o c el lo hi cap, u = .slice (some ⟨k, o, none⟩) rows.length cap /\ w.heap.size <= k /\ w'.heap[k]? = some (.cells c el (lo, hi)) /\ hi <= lo /\ rows.length <= cap /\ o + cap * n <= c.size /\ ∀ (j : Nat) (x : Lf), rows.flatten[j]? = some x -> ∃ u, c[o + j]? = some u /\ RelL w' (fun i => L i \/ i = k) x u) := by
  rcases hres with ⟨v, hx, rfl, hrows⟩ | ⟨hx, hrows⟩ | ⟨b, hx, hlive⟩
  ·obtain ⟨u, h1, h2⟩ := one hx
   have := h2.val_eq
   subst this
   exact ⟨_, h1, .inl ⟨hrows, .lf _ _ .slnil⟩⟩
  ·obtain ⟨u, h1, h2⟩ := one hx
   refine ⟨u, h1, .inl ⟨hrows, .lf _ _ (h2.lf_out.less fun k hk => .inl ((Dk L k).1 hk))⟩⟩
  ·obtain ⟨u, h1, h2⟩ := one hx
   obtain ⟨k, o, c, el, lo, hi, g1, g2, g3, g4, g5, g6⟩ := hr'.H.live b _ hlive
   obtain ⟨cap, e2, n2, hveq, hc, hsh, hfit⟩ := h2.own_out k o g1
   have hk : w.heap.size <= k := by
    rcases hr'.mineO g1 with h | h
    ·exact h.elim
    ·exact h
   have hn2 : n2 = c.size := by
    rw [Dg g2] at hsh
    simp only [Option.some.injEq, Prod.mk.injEq] at hsh
    exact hsh.2.symm
   rw [Nat.add_zero] at hveq hfit
   refine ⟨u, h1, .inr ⟨k, o, c, el, lo, hi, cap, hveq, hk, g2, g3, hc, by rw [<- hn2];exact hfit, fun j x hj => ?_⟩⟩
   obtain ⟨v, q1, q2⟩ := g6 j (.lf x) (by rw [List.getElem?_map, hj];rfl)
   refine ⟨v, q1, q2.lf_out.less fun i hi => ?_⟩
   rcases hi with hi | hi
   ·exact .inl hi
   ·exact .inr ⟨b, o, hi ▸ g1⟩
 obtain ⟨u, h1, h2⟩ := fin
 rcases he with rfl | rfl
 ·exact ⟨hr'.defers, _, h1, _, rfl, hb', h2⟩
 ·exact ⟨hr'.defers, _, h1, _, rfl, hb', h2⟩
theorem S.callOwn (b : Nat) {n : Nat} {f : FuncId} {xs : Array Operand} {ts : Array TypeId} {ys : List AV} {rows : List (List Lf)} (hp : FnOwn P f ys rows n) (hx : evs (evT tm) xs.toList = some ys) (ht : ys.all AV.tree = true) (hb : (H.at b).idle = true) (htm : tm.clearO b = some tm') (hH : AH.clear b 0 H = true) (hN : Nat.ble (d + 1) N = true)
  (hr : ∀ row ∈ rows, row.length = n)
  (h1 : rows = [] -> Reg none P N ops rest ((d, .sl []) :: tm) H K)
  (h2 : Reg none P N ops rest ((d, .own b 0 rows.length n) :: tm') (H.put b (.live (rows.flatten.map .lf))) K) : Reg none P N ops (⟨some d, .call ⟨.value (.func f), xs, ts⟩, ty, pos, af, none⟩ :: rest) tm H K := by
 refine ⟨fun E a w ρ hE hR => ?_⟩
 replace h2 := h2.out
 refine wpList_plain rfl fun K' hK => ?_
 have hN' := Nat.le_of_ble_eq_true hN
 obtain ⟨g1, g2⟩ := Cz _ _ hx
 have hrun : (execOp a.eval ⟨some d, .call ⟨.value (.func f), xs, ts⟩, ty, pos, af, none⟩).run P w = .ok (.enter f (xs.toList.map a.eval).toArray) w := by
  have : (execOp a.eval ⟨some d, .call ⟨.value (.func f), xs, ts⟩, ty, pos, af, none⟩).run P w = (callFunc f (#[] ++ xs.map a.eval ++ #[])).run P w := by simp [execOp, resolve, Act.eval, Deferred.ofValue, invoke]
  rw [this, hp.1.run]
  simp only [Result.ok.injEq, Next.enter.injEq, true_and, and_true]
  apply Array.ext'
  simp
 unfold Oper.wp
 rw [hrun]
 refine (hp.2 (Fb E.L ρ) w (xs.toList.map a.eval) hR.glob hR.fb_lt (by simp [<- g1]) fun i x v hx hv => ?_).mono ?_
 ·refine RelV.bare ?_ (List.all_eq_true.1 ht x (List.mem_of_getElem? hx))
  obtain ⟨z, h5, h6⟩ := g2 i x hx
  rw [List.getElem?_map, h5] at hv
  simp at hv
  subst hv
  exact hR.ev (by rw [Ah];exact h6)
 ·rintro e w' ⟨v, rfl, hbel, hv⟩
  have hR' := hR.below hbel
  have nilCase : rows = [] -> RelV w' (Fb E.L ρ) An (.sl []) v -> K' (a.put (some d) v) w' := fun h0 hv0 => hK _ _ ((h1 h0).out E _ w' ρ hE (hR'.put (by rw [hE];exact hN') hv0.dress))
  rcases hv with ⟨h0, hv0⟩ | ⟨k, o, c, el, lo, hi, cap, rfl, hk, hw, hlo, hcap, hsz, hc⟩
  ·exact nilCase h0 hv0
  ·have hlen : rows.length * n <= cap * n := Nat.mul_le_mul_right _ hcap
   obtain ⟨s1, s2⟩ := hR.regrow (tm' := tm') (cells' := rows.flatten.map AV.lf) (w' := w') (k' := k) (o' := o) htm hH (HB.idle_map hb) hw hlo
    (by rw [List.length_map, B6 rows hr];omega) (.inr hk) (fun k2 hk2 _ => hbel.block k2 hk2) (fun k2 x hx => (F1 (L := E.L) (ρ := ρ) hbel).shape k2 x hx) hbel.os hbel.tape hbel.output hbel.size fun hla j z hj => by
     rw [List.getElem?_map] at hj
     cases hf : rows.flatten[j]? with
     | none => rw [hf] at hj;cases hj
     | some x =>
      rw [hf] at hj
      simp only [Option.map_some, Option.some.injEq] at hj
      subst hj
      obtain ⟨u, p1, p2⟩ := hc j x hf
      refine ⟨u, p1, .lf _ _ (p2.less fun i hi => ?_)⟩
      rcases hi with hi | ⟨b', o', hi⟩
      ·exact .inl (.inl hi)
      ·unfold Pl.upd at hi
       by_cases e' : b' = b
       ·rw [if_pos e'] at hi
        simp only [Option.some.injEq, Prod.mk.injEq] at hi
        exact .inr hi.1.symm
       ·rw [if_neg e'] at hi
        exact .inl (.inr ⟨b', o', hi⟩)
   exact hK _ _ (h2 E _ w' _ hE (s2.put (by rw [hE];exact hN') (Gq hcap (Dg hw) hsz)))

/-! ### Closures -/
def fnOf : AV -> Option (FuncId × List AV)
 | .fn (.func g) [] caps => some (g, caps)
 | .lf (.fn (.func g) caps) => some (g, caps.map .rop)
 | _ => none
theorem RelV.fnOf {w : World} {L : Nat -> Prop} {ρ : Pl} {x : AV} {v : Value} {g : FuncId} {caps : List AV} (h : RelV w L ρ x v) (hf : fnOf x = some (g, caps)) : ∃ vs : List Value, v = .func (.func g) #[] vs.toArray /\ caps.length = vs.length /\ ∀ (i : Nat) (y : AV) (u : Value), caps[i]? = some y -> vs[i]? = some u -> RelV w L ρ y u := by
 cases x with
 | fn f fs cs =>
  obtain ⟨us, vs, rfl, h1, h2, h3, h4⟩ := h.fn_out
  cases fs with
  | cons y ys => cases f <;> simp [Go.Proofs.YtcfjofhapbkmfaaGreatDoor.fnOf] at hf
  | nil =>
   cases f <;> simp only [Go.Proofs.YtcfjofhapbkmfaaGreatDoor.fnOf, Option.some.injEq, Prod.mk.injEq, reduceCtorEq] at hf
   obtain ⟨rfl, rfl⟩ := hf
   simp only [List.length_nil] at h1
   obtain rfl : us = [] := List.eq_nil_of_length_eq_zero h1.symm
   exact ⟨vs, rfl, h2, h4⟩
 | lf y =>
  cases y with
  | fn f cs =>
   obtain ⟨ads, V, rfl, h1, h2, h3, h4⟩ := h.lf_out.fn_out
   cases f <;> simp only [Go.Proofs.YtcfjofhapbkmfaaGreatDoor.fnOf, Option.some.injEq, Prod.mk.injEq, reduceCtorEq] at hf
   obtain ⟨rfl, rfl⟩ := hf
   refine ⟨_, rfl, by simpa using h1, fun i y u hy hu => ?_⟩
   rw [List.getElem?_map] at hy hu
   cases hcs : cs[i]? with
   | none => rw [hcs] at hy;cases hy
   | some c =>
    cases had : ads[i]? with
    | none => rw [had] at hu;cases hu
    | some ad =>
     rw [hcs] at hy
     rw [had] at hu
     simp only [Option.map_some, Option.some.injEq] at hy hu
     subst hy hu
     exact .rop c ad (V i) (h2 i ad had) (fun j x hj => h3 i c ad j x hcs had hj) fun j x hj => h4 i c j x hcs hj
  | _ => simp [Go.Proofs.YtcfjofhapbkmfaaGreatDoor.fnOf] at hf
 | _ => simp [Go.Proofs.YtcfjofhapbkmfaaGreatDoor.fnOf] at hf
theorem OpV.callFV {o : Oper} {ev : Operand -> Option AV} {Hf : Nat -> HB} {g : FuncId} {f : Operand} {fv : AV} {xs : Array Operand} {ts : Array TypeId} {ys caps zs : List AV} {r : AV} {H0 : AH} (hp : Fn0 P g zs r) (ho : o.op = .call ⟨.value f, xs, ts⟩) (hf : ev f = some fv) (hfn : fnOf fv = some (g, caps)) (hx : evs ev xs.toList = some ys) (hs : ∀ b cs, H0.at b = .live cs -> Hf b = .live cs) (hz : Out2L H0 (ys ++ caps) zs) (hr : r.plain = true) : OpV P o ev Hf r none := fun E st a w ρ K Q hrs he hH hn hK => by
 obtain ⟨g1, g2⟩ := Cz _ _ hx
 have hfv := hrs.ev (he f (by rw [ho];simp [Op.operands, Call.operands]) _ hf)
 obtain ⟨vs, h1, h3, h4⟩ := hfv.fnOf hfn
 have hrun : (execOp a.eval o).run P w = .ok (.enter g (xs.toList.map a.eval ++ vs).toArray) w := by
  have : (execOp a.eval o).run P w = (callFunc g (#[] ++ xs.map a.eval ++ vs.toArray)).run P w := by simp [execOp, ho, resolve, h1, Deferred.ofValue, invoke]
  rw [this, hp.1.run]
  simp only [Result.ok.injEq, Next.enter.injEq, true_and, and_true]
  apply Array.ext'
  simp
 have hRR : ∀ {x y : AV} {v : Value}, Out2 H0 x y -> RelV w E.L ρ x v -> RelV w E.L An y v := fun {x y v} h hv => by
  refine (h.mono (fun b cs hb => hH b cs (hs b cs hb))).rel hrs.H hv
 unfold Oper.wp
 rw [hrun]
 obtain ⟨k1, k2⟩ := hz.at
 refine (hp.2 E.L w (xs.toList.map a.eval ++ vs) hrs.glob (fun k hk => hrs.fb_lt k (.inl hk)) (by rw [<- k1];simp [<- g1, h3]) fun i x v hx hv => ?_).mono ?_
 ·obtain ⟨y, hy, hyx⟩ := k2 i x hx
  refine hRR hyx ?_
  rcases Nat.lt_or_ge i ys.length with hi | hi
  ·rw [List.getElem?_append_left hi] at hy
   rw [List.getElem?_append_left (by rw [List.length_map, g1];exact hi)] at hv
   obtain ⟨z, h5, h6⟩ := g2 i y hy
   rw [List.getElem?_map, h5] at hv
   simp at hv
   subst hv
   refine hrs.ev (he z ?_ y h6)
   rw [ho]
   exact Array.mem_append.2 (.inr (Array.mem_toList_iff.1 (List.mem_of_getElem? h5)))
  ·rw [List.getElem?_append_right hi] at hy
   rw [List.getElem?_append_right (by rw [List.length_map, g1];exact hi), List.length_map, g1] at hv
   exact h4 _ _ _ hy hv
 ·rintro e w' ⟨v, rfl, hv, hb⟩
  exact hK w' ρ v (hrs.below hb) (hv.plain hr)
theorem S.callFV {g : FuncId} {f : Operand} {fv : AV} {xs : Array Operand} {ts : Array TypeId} {ys caps zs : List AV} {r : AV} (hf : evT tm f = some fv) (hfn : fnOf fv = some (g, caps)) (hx : evs (evT tm) xs.toList = some ys) (hp : Fn0 P g zs r) (hz : Out2L (Li m H) (ys ++ caps) zs) (hr : r.plain = true) (hN : Nat.ble (d + 1) N = true) (h : Reg m P N ops rest ((d, r) :: tm) H K) : Reg m P N ops (⟨some d, .call ⟨.value f, xs, ts⟩, ty, pos, af, none⟩ :: rest) tm H K :=
 S.val (OpV.callFV hp rfl hf hfn hx (fun b cs hb => Pf hb) hz hr) hN h

/-! ### Two integers -/
class HasEq2 (P : Program) (t : TypeId) : Prop where
 out : ∀ (o : Oper) (η : Operand -> Value) (w : World) (x y : Operand) (u : TypeId) (a b c d : Int), o.op = .binOp .eql t x y u -> η x = .agg #[.int .i64 a, .int .i64 b] -> η y = .agg #[.int .i64 c, .int .i64 d] -> (execOp η o).run P w = .ok (.value (.bool (decide (a = c /\ b = d)))) w
theorem S.eq2 {u : TypeId} {a b c e' : Int} [he : HasEq2 P t] (hx : evT tm x = some (.agg [.val (.int .i64 a), .val (.int .i64 b)])) (hy : evT tm y = some (.agg [.val (.int .i64 c), .val (.int .i64 e')])) (hN : Nat.ble (d + 1) N = true) (h : Reg m P N ops rest ((d, .val (.bool (decide (a = c /\ b = e')))) :: tm) H K) : Reg m P N ops (⟨some d, .binOp .eql t x y u, ty, pos, af, none⟩ :: rest) tm H K := by
 refine S.val (OpV.mk fun L w ρ η hη hH => ?_) hN h
 have h1 := (hη x (by simp [Op.operands]) _ hx).flat (u := .agg #[.int .i64 a, .int .i64 b]) rfl
 have h2 := (hη y (by simp [Op.operands]) _ hy).flat (u := .agg #[.int .i64 c, .int .i64 e']) rfl
 exact ⟨_, he.out _ η w x y u a b c e' rfl h1 h2, A9 _⟩
theorem S.max2 {k : IntKind} {a b : Int} {ts : Array TypeId} (hx : evT tm x = some (.val (.int k a))) (hy : evT tm y = some (.val (.int k b))) (hN : Nat.ble (d + 1) N = true) (h : Reg m P N ops rest ((d, .val (.int k (max a b))) :: tm) H K) : Reg m P N ops (⟨some d, .call ⟨.builtin .max, #[x, y], ts⟩, ty, pos, af, none⟩ :: rest) tm H K := by
 refine S.val (OpV.mk fun L w ρ η hη hH => ?_) hN h
 have h1 := (hη x (by simp [Op.operands, Call.operands]) _ hx).val_eq
 have h2 := (hη y (by simp [Op.operands, Call.operands]) _ hy).val_eq
 refine ⟨_, ?_, A9 _⟩
 have : (if b > a then b else a) = max a b := by omega
 simp [execOp, resolve, invoke, builtin, Builtin.max_, Builtin.max2, h1, h2]
 omega
theorem S.min2 {k : IntKind} {a b : Int} {ts : Array TypeId} (hx : evT tm x = some (.val (.int k a))) (hy : evT tm y = some (.val (.int k b))) (hN : Nat.ble (d + 1) N = true) (h : Reg m P N ops rest ((d, .val (.int k (min a b))) :: tm) H K) : Reg m P N ops (⟨some d, .call ⟨.builtin .min, #[x, y], ts⟩, ty, pos, af, none⟩ :: rest) tm H K := by
 refine S.val (OpV.mk fun L w ρ η hη hH => ?_) hN h
 have h1 := (hη x (by simp [Op.operands, Call.operands]) _ hx).val_eq
 have h2 := (hη y (by simp [Op.operands, Call.operands]) _ hy).val_eq
 refine ⟨_, ?_, A9 _⟩
 simp [execOp, resolve, invoke, builtin, Builtin.min_, Builtin.min2, h1, h2]
 omega
end
def Gj (P : Program) : List Field -> Nat -> Nat -> Bool
 | [], off, tot => Nat.beq off tot
 | f :: fs, off, tot => Nat.beq f.offset off && Gj P fs (off + P.cellsOf f.type) tot
def okT (P : Program) : Nat -> TypeId -> Bool
 | 0, _ => false
 | n + 1, t => match P.underlying t with
  | some .bool => true
  | some (.int _) => true
  | some .string => true
  | some (.slice e) => Nat.ble 1 (P.cellsOf e) && okT P n e
  | some (.struct fs) => Gj P fs.toList 0 (P.cellsOf t) && fs.toList.all fun f => okT P n f.type
  | some (.array m e) => Nat.beq (m * P.cellsOf e) (P.cellsOf t) && okT P n e
  | _ => false
def Mg (C : TypeId -> List Lf -> Prop) : List Field -> List Lf -> Prop
 | [], row => row = []
 | f :: fs, row => ∃ r s, row = r ++ s /\ C f.type r /\ Mg C fs s
def Mh (C : List Lf -> Prop) : Nat -> List Lf -> Prop
 | 0, row => row = []
 | k + 1, row => ∃ r s, row = r ++ s /\ C r /\ Mh C k s
def B9 (P : Program) : Nat -> TypeId -> List Lf -> Prop
 | 0, _, _ => False
 | n + 1, t, row => match P.underlying t with
  | some .bool => ∃ b, row = [.val (.bool b)]
  | some (.int k) => ∃ i, row = [.val (.int k i)] /\ k.min <= i /\ i <= k.max
  | some .string => ∃ s, row = [.val (.string s)] /\ s.size <= reachBytes
  | some (.slice e) => ∃ rows, row = [.sl rows] /\ rows.length <= maxLen /\ rows.length * P.bytesOf e <= reachBytes /\ ∀ r ∈ rows, B9 P n e r
  | some (.struct fs) => Mg (B9 P n) fs.toList row
  | some (.array m e) => Mh (B9 P n e) m row
  | _ => False
def RowRel (w : World) (row : List Lf) (cs : List Value) (off : Nat) : Prop := ∀ (j : Nat) (y : Lf) (v : Value), row[j]? = some y -> cs[off + j]? = some v -> RelL w (fun _ => False) y v
theorem Mr {α β : Type} {f : α -> Option β} {a : α} {l : List α} {r : List β} (h : (a :: l).mapM f = some r) : ∃ y ys, f a = some y /\ l.mapM f = some ys /\ r = y :: ys := by
 rw [List.mapM_cons] at h
 cases e : f a with
 | none => simp [e] at h
 | some y =>
  cases e2 : l.mapM f with
  | none => simp [e, e2] at h
  | some ys =>
   simp [e, e2] at h
   exact ⟨y, ys, rfl, rfl, h.symm⟩
theorem Rz {α β : Type} {f : α -> Option β} : ∀ {l : List α} {r : List β}, l.mapM f = some r -> r.length = l.length /\ ∀ (i : Nat) (x : α), l[i]? = some x -> ∃ y, f x = some y /\ r[i]? = some y
 | [], r, h => by simp at h;subst h;simp
 | a :: l, r, h => by
  obtain ⟨y, ys, h1, h2, rfl⟩ := Mr h
  obtain ⟨g1, g2⟩ := Rz h2
  refine ⟨by simp [g1], fun i x hx => ?_⟩
  cases i with
  | zero => simp at hx;subst hx;exact ⟨y, h1, rfl⟩
  | succ i => simpa using g2 i x (by simpa using hx)
theorem Jd {α : Type} {p : Nat -> α -> Prop} : ∀ (n : Nat), (∀ i, i < n -> ∃ r, p i r) -> ∃ rows : List α, rows.length = n /\ ∀ (i : Nat) (r : α), rows[i]? = some r -> p i r
 | 0, _ => ⟨[], rfl, by simp⟩
 | n + 1, h => by
  obtain ⟨rows, h1, h2⟩ := Jd n fun i hi => h i (by omega)
  obtain ⟨r, hr⟩ := h n (by omega)
  refine ⟨rows ++ [r], by simp [h1], fun i x hx => ?_⟩
  rcases Nat.lt_or_ge i n with hi | hi
  ·rw [List.getElem?_append_left (by omega)] at hx
   exact h2 i x hx
  ·rw [List.getElem?_append_right (by omega), h1] at hx
   have hi' : i = n := by
    rcases Nat.lt_or_ge (i - n) 1 with h | h
    ·omega
    ·rw [List.getElem?_eq_none (by simpa using h)] at hx;cases hx
   subst hi'
   simp at hx
   subst hx
   exact hr
section
variable {P : Program} {w : World} {m : Nat} {H : Type} {g : TypeId -> List Value -> Option (DataW H × List MemPlace)}
def S9 (P : Program) (w : World) (m : Nat) (g : TypeId -> List Value -> Option (DataW H × List MemPlace)) : Prop :=
 ∀ t cs x, okT P m t = true -> g t cs = some x -> ((x.1.weights P t).all (· <= reachBytes)) = true -> ∃ row, B9 P m t row /\ row.length = cs.length /\ RowRel w row cs 0
theorem Nf : ∀ (fs : List Field) (off tot : Nat), Gj P fs off tot = true -> off <= tot
 | [], off, tot, h => Nat.le_of_eq (Nat.eq_of_beq_eq_true h)
 | f :: fs, off, tot, h => by
  simp only [Gj, Bool.and_eq_true] at h
  have := Nf fs _ _ h.2
  omega
theorem RowRel.append {row s : List Lf} {cs : List Value} {off : Nat} (h : RowRel w row ((cs.drop off).take row.length) 0) (k : RowRel w s cs (off + row.length)) : RowRel w (row ++ s) cs off := fun j y v hy hv => by
 rcases Nat.lt_or_ge j row.length with hj | hj
 ·rw [List.getElem?_append_left hj] at hy
  exact h j y v hy (by rw [Nat.zero_add, List.getElem?_take_of_lt hj, List.getElem?_drop];exact hv)
 ·rw [List.getElem?_append_right hj] at hy
  exact k (j - row.length) y v hy (by rw [show off + row.length + (j - row.length) = off + j by omega];exact hv)
theorem Je (ih : S9 P w m g) {cs : List Value} {tot : Nat} (hcs : cs.length = tot) : ∀ (fs : List Field) (off : Nat) (xs : List (DataW H × List MemPlace)), Gj P fs off tot = true -> (fs.all fun f => okT P m f.type) = true -> xs.length = fs.length -> (∀ (i : Nat) (f : Field), fs[i]? = some f -> g f.type ((cs.drop f.offset).take (P.cellsOf f.type)) = xs[i]?) ->
  ((DataW.weightsEach P (fs.map (·.type)) (xs.map (·.1))).all (· <= reachBytes)) = true -> ∃ row, Mg (B9 P m) fs row /\ off + row.length = tot /\ RowRel w row cs off
 | [], off, xs, hc, _, _, h, _ => ⟨[], rfl, Nat.eq_of_beq_eq_true hc, fun j y v hy => by simp at hy⟩
 | f :: fs, off, [], hc, ho, hl, h, hw => by simp at hl
 | f :: fs, off, x :: ys, hc, ho, hl, h, hw => by
  simp only [Gj, Bool.and_eq_true] at hc
  simp only [List.all_cons, Bool.and_eq_true] at ho
  have h1 := h 0 f rfl
  have h2 : ∀ (i : Nat) (f : Field), fs[i]? = some f -> g f.type ((cs.drop f.offset).take (P.cellsOf f.type)) = ys[i]? := fun i f hf => by simpa using h (i + 1) f (by simpa using hf)
  simp only [List.getElem?_cons_zero] at h1
  simp only [List.map_cons, DataW.weightsEach, List.all_append, Bool.and_eq_true] at hw
  have hoff := Nat.eq_of_beq_eq_true hc.1
  have hle := Nf _ _ _ hc.2
  obtain ⟨s, k1, k2, k3⟩ := Je ih hcs fs (off + P.cellsOf f.type) ys hc.2 ho.2 (by simpa using hl) h2 hw.2
  obtain ⟨r, j1, j2, j3⟩ := ih f.type _ x ho.1 h1 hw.1
  rw [hoff] at j2 j3
  have hlen : r.length = P.cellsOf f.type := by rw [j2, List.length_take, List.length_drop];omega
  refine ⟨r ++ s, ⟨r, s, rfl, j1, k1⟩, by rw [List.length_append];omega, RowRel.append (by rw [hlen];exact j3) (by rw [hlen];exact k3)⟩
theorem L8 (ih : S9 P w m g) {cs : List Value} {e : TypeId} (he : okT P m e = true) {n : Nat} (hcs : cs.length = n * P.cellsOf e) : ∀ (k s : Nat) (xs : List (DataW H × List MemPlace)), s + k = n -> xs.length = k -> (∀ i, i < k -> g e ((cs.drop ((s + i) * P.cellsOf e)).take (P.cellsOf e)) = xs[i]?) ->
  ((DataW.weightsAll P e (xs.map (·.1))).all (· <= reachBytes)) = true -> ∃ row, Mh (B9 P m e) k row /\ row.length = k * P.cellsOf e /\ RowRel w row cs (s * P.cellsOf e)
 | 0, s, xs, hk, _, h, _ => ⟨[], rfl, by simp, fun j y v hy => by simp at hy⟩
 | k + 1, s, [], hk, hl, h, hw => by simp at hl
 | k + 1, s, x :: ys, hk, hl, h, hw => by
  have h1 := h 0 (by omega)
  have h2 : ∀ i, i < k -> g e ((cs.drop ((s + 1 + i) * P.cellsOf e)).take (P.cellsOf e)) = ys[i]? := fun i hi => by
   have := h (i + 1) (by omega)
   rw [show s + (i + 1) = s + 1 + i by omega] at this
   simpa using this
  simp only [Nat.add_zero, List.getElem?_cons_zero] at h1
  simp only [List.map_cons, DataW.weightsAll, List.all_append, Bool.and_eq_true] at hw
  obtain ⟨t, k1, k2, k3⟩ := L8 ih he hcs k (s + 1) ys (by omega) (by simpa using hl) h2 hw.2
  obtain ⟨r, j1, j2, j3⟩ := ih e _ x he h1 hw.1
  have hb : (s + 1) * P.cellsOf e <= n * P.cellsOf e := Nat.mul_le_mul_right _ (by omega)
  rw [Nat.succ_mul] at hb k3
  have hlen : r.length = P.cellsOf e := by rw [j2, List.length_take, List.length_drop];omega
  refine ⟨r ++ t, ⟨r, t, rfl, j1, k1⟩, by rw [List.length_append, Nat.succ_mul];omega, RowRel.append (by rw [hlen];exact j3) (by rw [hlen];exact k3)⟩
theorem Hy : ∀ {e : TypeId} {ds : List (DataW H)} {i : Nat} {d : DataW H}, ((DataW.weightsAll P e ds).all (· <= reachBytes)) = true -> ds[i]? = some d -> ((d.weights P e).all (· <= reachBytes)) = true
 | e, [], i, d, _, h => by simp at h
 | e, x :: ds, 0, d, hw, h => by
  simp at h;subst h
  simp only [DataW.weightsAll, List.all_append, Bool.and_eq_true] at hw
  exact hw.1
 | e, x :: ds, i + 1, d, hw, h => by
  simp only [DataW.weightsAll, List.all_append, Bool.and_eq_true] at hw
  exact Hy hw.2 (by simpa using h)
theorem P4 {a : Addr} {n : Nat} {l : List Value} (h : w.cells? 0 a n = some l) : l.length = n /\ ∀ j, j < n -> ∃ v, l[j]? = some v /\ w.cell? (a.add j) = some v := by
 unfold World.cells? at h
 rw [if_pos (Nat.zero_le _)] at h
 obtain ⟨h1, h2⟩ := Rz h
 rw [List.length_range] at h1
 refine ⟨h1, fun j hj => ?_⟩
 obtain ⟨v, h3, h4⟩ := h2 j j (by simp [hj])
 exact ⟨v, h4, h3⟩
theorem Sm (ih : S9 P w m g) {a : Addr} {len cap : Nat} {e : TypeId} (he : okT P m e = true) (hsz : 1 <= P.cellsOf e) (hc : len <= cap) {elems rest : List (DataW H × List MemPlace)}
  (l1 : elems.length = len) (m1 : ∀ i, i < len -> (w.cells? 0 (a.add (i * P.cellsOf e)) (P.cellsOf e)).bind (g e) = elems[i]?) (l2 : rest.length = cap - len) (m2 : ∀ j, j < cap - len -> (w.cells? 0 (a.add ((len + j) * P.cellsOf e)) (P.cellsOf e)).bind (g e) = rest[j]?)
  (hw : ((DataW.weightsAll P e (elems.map (·.1))).all (· <= reachBytes)) = true) : ∃ rows, rows.length = len /\ (∀ r ∈ rows, B9 P m e r) /\ RelL w (fun _ => False) (.sl rows) (.slice (some a) len cap) := by
 have spot : a.spot = none \/ cap = 0 := by
  by_cases h0 : cap = 0
  ·exact .inr h0
  ·left
   have : ∃ l, w.cells? 0 (a.add (0 * P.cellsOf e)) (P.cellsOf e) = some l := by
    rcases Nat.lt_or_ge 0 len with hl | hl
    ·have hy := m1 0 hl
     rw [List.getElem?_eq_getElem (by omega)] at hy
     cases hh : w.cells? 0 (a.add (0 * P.cellsOf e)) (P.cellsOf e) with
     | none => rw [hh] at hy;cases hy
     | some l => exact ⟨l, rfl⟩
    ·have hl0 : len = 0 := by omega
     subst hl0
     have hy := m2 0 (by omega)
     rw [List.getElem?_eq_getElem (by omega), Nat.zero_add] at hy
     cases hh : w.cells? 0 (a.add (0 * P.cellsOf e)) (P.cellsOf e) with
     | none => rw [hh] at hy;cases hy
     | some l => exact ⟨l, rfl⟩
   obtain ⟨l, hl⟩ := this
   obtain ⟨_, hat⟩ := P4 hl
   obtain ⟨v, _, hv⟩ := hat 0 (by omega)
   rw [Nat.zero_mul] at hv
   have e0 : (a.add 0).add 0 = a := by simp [Addr.add]
   rw [e0] at hv
   unfold World.cell? at hv
   cases hs : a.spot with
   | none => rfl
   | some s =>
    split at hv
    ·rw [hs] at hv;simp at hv
    ·cases hv
 have each : ∀ i, i < len -> ∃ r : List Lf, B9 P m e r /\ r.length = P.cellsOf e /\ ∀ (j : Nat) (y : Lf), r[j]? = some y -> ∃ v, w.cell? ⟨a.block, a.off + (i * P.cellsOf e + j), none⟩ = some v /\ RelL w (fun _ => False) y v := fun i hi => by
  have hx := m1 i hi
  have hxe : elems[i]? = some (elems[i]'(by omega)) := List.getElem?_eq_getElem _
  rw [hxe] at hx
  generalize elems[i]'(by omega) = x at hx hxe
  cases hh : w.cells? 0 (a.add (i * P.cellsOf e)) (P.cellsOf e) with
  | none => rw [hh] at hx;cases hx
  | some l =>
   rw [hh] at hx
   simp only [Option.bind_some] at hx
   obtain ⟨hl, hat⟩ := P4 hh
   obtain ⟨r, c1, c2, c3⟩ := ih e l x he hx (Hy hw (i := i) (by rw [List.getElem?_map, hxe];rfl))
   refine ⟨r, c1, by omega, fun j y hj => ?_⟩
   have hjl : j < P.cellsOf e := by have := (List.getElem?_eq_some_iff.1 hj).1;omega
   obtain ⟨v, h3, h4⟩ := hat j hjl
   have hs := spot.resolve_right (by omega)
   rw [B0 hs, B0 rfl] at h4
   exact ⟨v, by rw [<- Nat.add_assoc];exact h4, c3 j y v hj (by rw [Nat.zero_add];exact h3)⟩
 obtain ⟨rows, hlen, hrows⟩ := Jd len each
 refine ⟨rows, hlen, fun r hr => ?_, ?_⟩
 ·obtain ⟨i, hi⟩ := List.getElem?_of_mem hr
  exact (hrows i r hi).1
 ·have key := RelL.sl (w := w) (F := fun _ => False) rows a cap (fun i j => (w.cell? ⟨a.block, a.off + (i * P.cellsOf e + j), none⟩).getD undef) spot (by omega) (fun i row j x hi hj => ?_) fun i row j x hi hj => ?_
  ·rw [hlen] at key;exact key
  ·obtain ⟨_, r2, r3⟩ := hrows i row hi
   obtain ⟨v, h3, _⟩ := r3 j x hj
   refine ⟨fun h => h, ?_⟩
   rw [r2, h3];rfl
  ·obtain ⟨_, r2, r3⟩ := hrows i row hi
   obtain ⟨v, h3, h4⟩ := r3 j x hj
   rw [h3];exact h4
theorem Ge {enc : TypeId × Value -> H} {held : Bool} : ∀ (m n : Nat), S9 P w m (fun t cs => DataW.trod enc P w 0 (fun _ => true) held n t cs)
 | 0, n => fun t cs x ho _ _ => by simp [okT] at ho
 | m + 1, n => fun t cs x ho h hw => by
  simp only [okT] at ho
  unfold B9
  split at ho
  ·rename_i hu
   obtain ⟨b, rfl, rfl⟩ := DataW.trod_bool hu h
   exact ⟨_, ⟨b, rfl⟩, rfl, fun j y v hy hv => by
    cases j with
    | zero => simp at hy hv;subst hy hv;exact .val _
    | succ j => simp at hy⟩
  ·rename_i k hu
   obtain ⟨i, rfl, rfl, hwf⟩ := DataW.trod_int hu h
   refine ⟨_, ⟨i, rfl, ?_⟩, rfl, fun j y v hy hv => by
    cases j with
    | zero => simp at hy hv;subst hy hv;exact .val _
    | succ j => simp at hy⟩
   simpa [Lit.wf] using hwf
  ·rename_i hu
   obtain ⟨s, rfl, rfl, hs⟩ := DataW.trod_string hu h
   refine ⟨_, ⟨s, rfl, ?_⟩, rfl, fun j y v hy hv => by
    cases j with
    | zero => simp at hy hv;subst hy hv;exact .val _
    | succ j => simp at hy⟩
   simp [DataW.weights] at hw
   exact hw
  ·rename_i e hu
   simp only [Bool.and_eq_true] at ho
   rcases DataW.trod_slice hu h with ⟨rfl, rfl⟩ | ⟨a, len, cap, elems, rest, n', rfl, rfl, rfl, _, hc, hm, l1, m1, m2, _⟩
   ·refine ⟨_, ⟨[], rfl, by simp, by simp, by simp⟩, rfl, fun j y v hy hv => by
     cases j with
     | zero => simp at hy hv;subst hy hv;exact .slnil
     | succ j => simp at hy⟩
   ·simp only [DataW.weights, hu, List.all_cons, List.all_append, Bool.and_eq_true, List.length_map, decide_eq_true_eq] at hw
    obtain ⟨l2, m2⟩ := m2 rfl
    obtain ⟨rows, r1, r2, r3⟩ := Sm (g := fun t cs => DataW.trod enc P w 0 (fun _ => true) held n' t cs) (Ge m n') ho.2 (Nat.le_of_ble_eq_true ho.1) hc l1 m1 l2 m2 hw.2.1
    have hle : len * P.bytesOf e <= (elems.length + rest.length) * P.bytesOf e := Nat.mul_le_mul_right _ (by omega)
    refine ⟨_, ⟨rows, rfl, by omega, by rw [r1];exact Nat.le_trans hle hw.1, r2⟩, rfl, fun j y v hy hv => by
     cases j with
     | zero => simp at hy hv;subst hy hv;exact r3
     | succ j => simp at hy⟩
  ·rename_i fs hu
   simp only [Bool.and_eq_true] at ho
   obtain ⟨xs, n', rfl, rfl, hl, hxl, hat⟩ := DataW.trod_struct hu h
   simp only [DataW.weights, hu] at hw
   obtain ⟨row, r1, r2, r3⟩ := Je (g := fun t cs => DataW.trod enc P w 0 (fun _ => true) held n' t cs) (Ge m n') hl fs.toList 0 xs ho.1 ho.2 (by simpa using hxl) (fun i f hf => hat i f (by simpa using hf)) hw
   exact ⟨row, r1, by omega, r3⟩
  ·rename_i k e hu
   simp only [Bool.and_eq_true] at ho
   obtain ⟨xs, n', rfl, rfl, hl, hxl, hat⟩ := DataW.trod_array hu h
   simp only [DataW.weights, hu] at hw
   have hmul := Nat.eq_of_beq_eq_true ho.1
   obtain ⟨row, r1, r2, r3⟩ := L8 (g := fun t cs => DataW.trod enc P w 0 (fun _ => true) held n' t cs) (Ge m n') ho.2 (n := k) (cs := cs) (by omega) k 0 xs (by omega) hxl (fun i hi => by simpa using hat i hi) hw
   exact ⟨row, r1, by omega, by simpa using r3⟩
  ·cases ho
end
section
variable {P : Program} {N : Nat} {ops : Array Oper} {m : Option Nat} {K : Tm -> AH -> Prop} {tm tm' : Tm} {H : AH} {rest : List Oper} {ty : TypeId} {pos : String} {af : Array Edge} {d : Nat} {t u e : TypeId} {x y z : Operand}
theorem S.conv {k k' : IntKind} {n : Int} {ds : TypeDesc} [hu : HasU P t ds] [hv : HasU P u (.int k')] (hx : evT tm x = some (.val (.int k n))) (hw : k'.wrap n = n) (hN : Nat.ble (d + 1) N = true) (h : Reg m P N ops rest ((d, .val (.int k' n)) :: tm) H K) : Reg m P N ops (⟨some d, .convert t u x, ty, pos, af, none⟩ :: rest) tm H K := by
 refine S.val (OpV.mk fun L w ρ η hη hH => ?_) hN h
 have h1 := (hη x (by simp [Op.operands]) _ hx).val_eq
 refine ⟨_, ?_, A9 _⟩
 simp [execOp, h1, convert, run_underlying hu.out, run_underlying hv.out, Conv.intToInt, hw]
end
def BAt (w : World) (T e : TypeId) (k : Nat) (p v : Value) (s : List Value) : Prop :=
 w.heap[k]? = some (.cells (#[p, v] ++ E9 T) T (0, 0)) /\ (p = .pointer none \/ p = .pointer (some ⟨k, 0, none⟩)) /\ w.ownsRowF 0 e 1 v s.length s /\ v.ownBlock ≠ some k
structure FnBld (P : Program) (T e : TypeId) (f : FuncId) (zs : List AV) (s s' : List Value) (r : AV) : Prop where
 ent : Enters P f
 run : ∀ (L : Nat -> Prop) (w : World) (k : Nat) (p v : Value) (vs : List Value), Glob w -> (∀ j, L j -> j < w.heap.size) -> zs.length = vs.length -> (∀ (i : Nat) (x : AV) (u : Value), zs[i]? = some x -> vs[i]? = some u -> RelV w L An x u) -> BAt w T e k p v s ->
  Calls P f (.pointer (some ⟨k, 0, none⟩) :: vs).toArray w fun e' w' => ∃ u, e' = .returned u /\ RelV w' L An r u /\ (∃ p' v', BAt w' T e k p' v' s' /\ ∀ g, v'.ownBlock = some g -> v.ownBlock = some g \/ w.heap.size <= g) /\ Fr (fun j => j = k \/ v.ownBlock = some j) w w'
def Fe (ρ : Pl) (b2 : Nat) (v : Value) : Pl := fun x => if x = b2 then (match v.ownBlock with | some g => some (some (g, 0)) | none => ρ b2) else ρ x
theorem RelSt.bldTurn {E : Env} {tm tm' : Tm} {H : AH} {a : Act} {w : World} {ρ : Pl} (h : RelSt E ⟨tm, H⟩ a w ρ) {T e : TypeId} {b b2 : Nat} {s s' : List Value} (hb : H.at b = .bld T e b2 s) (htm : tm.clearO b2 = some tm') (hH : AH.clear b2 0 H = true) {k : Nat} {v p' v' : Value} {w' : World}
  (g1 : ρ b = some (some (k, 0))) (g2 : ¬ E.L k) (g7 : ∀ g, v.ownBlock = some g -> ρ b2 = some (some (g, 0)) /\ ¬ E.L g) (hB : BAt w' T e k p' v' s') (hg : ∀ g, v'.ownBlock = some g -> v.ownBlock = some g \/ w.heap.size <= g) (hF : Fr (fun j => j = k \/ v.ownBlock = some j) w w') :
  RelSt E ⟨tm', H.put b (.bld T e b2 s')⟩ a w' (Fe ρ b2 v') := by
 have hhid := (h.H.ext.bld b T e b2 s hb).1
 have hbb : b ≠ b2 := by
  rintro rfl
  rw [hb] at hhid
  cases hhid
 have hρ : ∀ x, x ≠ b2 -> Fe ρ b2 v' x = ρ x := fun x hx => by unfold Fe;rw [if_neg hx]
 have hρ2 : ∀ g o, Fe ρ b2 v' b2 = some (some (g, o)) -> ρ b2 = some (some (g, o)) \/ (w.heap.size <= g /\ v'.ownBlock = some g) := fun g o hh => by
  unfold Fe at hh
  rw [if_pos rfl] at hh
  split at hh
  ·rename_i g' hv
   simp only [Option.some.injEq, Prod.mk.injEq] at hh
   obtain ⟨rfl, rfl⟩ := hh
   rcases hg _ hv with hh | hh
   ·exact .inl (g7 _ hh).1
   ·exact .inr ⟨hh, hv⟩
  ·exact .inl hh
 have hput : ∀ x, x ≠ b -> (H.put b (.bld T e b2 s')).at x = H.at x := fun x hx => by rw [AH.at_put, if_neg hx]
 have hblk : ∀ {x j o : Nat}, x ≠ b -> x ≠ b2 -> ρ x = some (some (j, o)) -> w'.heap[j]? = w.heap[j]? := fun {x j o} h1 h2 h3 => by
  refine hF.block j (h.H.lt h3) ?_
  rintro (rfl | hh)
  ·exact h1 (h.H.dist _ _ _ _ _ h3 g1)
  ·exact h2 (h.H.dist _ _ _ _ _ h3 (g7 _ hh).1)
 have hla : LaterX b2 E.L w ρ w' (Fe ρ b2 v') := by
  refine ⟨hρ, fun j o u h1 h2 => ⟨?_, ?_⟩, hF.shape⟩
  ·have hbl := hF.block j (Bs h2) (by
    rintro (rfl | hh)
    ·exact h1 (.inr ⟨b, 0, g1⟩)
    ·exact h1 (.inr ⟨b2, 0, (g7 _ hh).1⟩))
   rw [World.cell?_of_block (w := w) hbl]
   exact h2
  ·rintro (hf | ⟨x, o', hf⟩)
   ·exact h1 (.inl hf)
   ·by_cases hx : x = b2
    ·subst hx
     rcases hρ2 j o' hf with hh | ⟨hh, _⟩
     ·exact h1 (.inr ⟨x, o', hh⟩)
     ·have := Bs h2
      omega
    ·rw [hρ x hx] at hf
     exact h1 (.inr ⟨x, o', hf⟩)
 refine ⟨h.size, h.defers, fun t x hx => ?_, ⟨fun x hx => ?_, fun x hx => ?_, fun x cs hx => ?_, fun x es hx => ?_, fun x y j o o' h1 h2 => ?_, ⟨fun x T' e' b3 s'' hx => ?_, fun x hx => ?_, fun x y T1 e1 T2 e2 b3 s1 s2 h1 h2 => ?_, fun x k1 o1 cs1 hx => ?_, fun x cs1 vs1 hx => ?_⟩⟩, ?_, fun x j o h1 => ?_, h.lim⟩
 ·obtain ⟨h1, h2⟩ := Tm.get_clearO _ _ _ htm t x hx
  obtain ⟨h3, h4⟩ := h.tm t x h1
  exact ⟨h3, h4.laterX hla h2⟩
 ·by_cases e1 : x = b
  ·subst e1;rw [AH.at_put, if_pos rfl] at hx;cases hx
  ·rw [hput x e1] at hx
   rw [hρ x (fun e2 => by rw [e2, hhid] at hx;cases hx)]
   exact h.H.free x hx
 ·by_cases e1 : x = b
  ·subst e1;rw [AH.at_put, if_pos rfl] at hx;cases hx
  ·rw [hput x e1] at hx
   rw [hρ x (fun e2 => by rw [e2, hhid] at hx;cases hx)]
   exact h.H.dead x hx
 ·by_cases e1 : x = b
  ·subst e1;rw [AH.at_put, if_pos rfl] at hx;cases hx
  ·rw [hput x e1] at hx
   have e2 : x ≠ b2 := fun e2 => by rw [e2, hhid] at hx;cases hx
   obtain ⟨k0, o0, c, el, lo0, hi0, f1, f2, f3, f4, f5, f6⟩ := h.H.live x cs hx
   refine ⟨k0, o0, c, el, lo0, hi0, (hρ x e2).trans f1, by rw [hblk e1 e2 f1];exact f2, f3, f4, f5, fun j y hj => ?_⟩
   obtain ⟨u, q1, q2⟩ := f6 j y hj
   have hcl := AH.clear_at H 0 x cs hH hx (by omega)
   exact ⟨u, q1, q2.laterX hla (List.all_eq_true.1 hcl y (List.mem_of_getElem? hj))⟩
 ·by_cases e1 : x = b
  ·subst e1;rw [AH.at_put, if_pos rfl] at hx;cases hx
  ·rw [hput x e1] at hx
   have e2 : x ≠ b2 := fun e2 => by rw [e2, hhid] at hx;cases hx
   obtain ⟨k0, entries, clock, f1, f2, f3, f4⟩ := h.H.map x es hx
   exact ⟨k0, entries, clock, (hρ x e2).trans f1, by rw [hblk e1 e2 f1];exact f2, f3, f4⟩
 ·by_cases e1 : x = b2 <;> by_cases e2 : y = b2
  ·rw [e1, e2]
  ·subst e1
   rw [hρ y e2] at h2
   rcases hρ2 j o h1 with hh | ⟨hh, _⟩
   ·exact h.H.dist _ _ _ _ _ hh h2
   ·have := h.H.lt h2
    omega
  ·subst e2
   rw [hρ x e1] at h1
   rcases hρ2 j o' h2 with hh | ⟨hh, _⟩
   ·exact h.H.dist _ _ _ _ _ h1 hh
   ·have := h.H.lt h1
    omega
  ·rw [hρ x e1] at h1
   rw [hρ y e2] at h2
   exact h.H.dist _ _ _ _ _ h1 h2
 ·by_cases e1 : x = b
  ·subst e1
   rw [AH.at_put, if_pos rfl] at hx
   simp only [HB.bld.injEq] at hx
   obtain ⟨rfl, rfl, rfl, rfl⟩ := hx
   refine ⟨by rw [hput b2 (Ne.symm hbb)];exact hhid, k, p', v', (hρ x hbb).trans g1, g2, hB.1, hB.2.1, hB.2.2.1, hB.2.2.2, fun g hv => ⟨by unfold Fe;rw [if_pos rfl, hv], fun hL => ?_⟩⟩
   rcases hg g hv with hh | hh
   ·exact (g7 g hh).2 hL
   ·have := h.lim _ hL
    have := h.fr.size
    omega
  ·rw [hput x e1] at hx
   obtain ⟨f1, f2⟩ := h.H.ext.bld x T' e' b3 s'' hx
   have e2 : x ≠ b2 := fun e2 => by rw [e2, hhid] at hx;cases hx
   have e3 : b3 ≠ b2 := fun e3 => e1 (h.H.ext.one x b T' e' T e b2 s'' s (e3 ▸ hx) hb)
   have e4 : b3 ≠ b := fun e4 => by rw [e4, hb] at f1;cases f1
   refine ⟨by rw [hput b3 e4];exact f1, f2.move (hρ x e2) (hρ b3 e3) fun y j o hy hj => ?_⟩
   rcases hy with rfl | rfl
   ·exact hblk e1 e2 hj
   ·exact hblk e4 e3 hj
 ·have e1 : x ≠ b := fun e1 => by subst e1;rw [AH.at_put, if_pos rfl] at hx;cases hx
  rw [hput x e1] at hx
  obtain ⟨f1, f2⟩ := h.H.ext.hid x hx
  by_cases e2 : x = b2
  ·subst e2
   refine ⟨?_, fun j o hj => ?_⟩
   ·unfold Fe
    rw [if_pos rfl]
    split
    ·simp
    ·exact f1
   ·rcases hρ2 j o hj with hh | ⟨_, hv⟩
    ·exact Nat.lt_of_lt_of_le (f2 j o hh) hF.size
    ·rcases hB.2.2.1.2 with ⟨hn, _⟩ | ⟨g, cap, cur, fz, hn, _, hgg, _⟩
     ·rw [hn] at hv;simp [Value.ownBlock] at hv
     ·rw [hn] at hv
      simp only [Value.ownBlock, Option.some.injEq] at hv
      subst hv
      exact Bm hgg
  ·rw [hρ x e2]
   exact ⟨f1, fun j o hj => Nat.lt_of_lt_of_le (f2 j o hj) hF.size⟩
 ·have hat : ∀ {x T' e' s''}, (H.put b (.bld T e b2 s')).at x = .bld T' e' b3 s'' -> ∃ T' e' s'', H.at x = .bld T' e' b3 s'' := fun {x T' e' s''} hh => by
   rw [AH.at_put] at hh
   split at hh
   ·rename_i hx
    simp only [HB.bld.injEq] at hh
    obtain ⟨rfl, rfl, rfl, rfl⟩ := hh
    exact ⟨_, _, _, hx ▸ hb⟩
   ·exact ⟨_, _, _, hh⟩
  obtain ⟨_, _, _, q1⟩ := hat h1
  obtain ⟨_, _, _, q2⟩ := hat h2
  exact h.H.ext.one _ _ _ _ _ _ _ _ _ q1 q2
 ·have e1 : x ≠ b := fun e1 => by subst e1;rw [AH.at_put, if_pos rfl] at hx;cases hx
  rw [hput x e1] at hx
  have e2 : x ≠ b2 := fun e2 => by rw [e2, hhid] at hx;cases hx
  exact (h.H.ext.hot x k1 o1 cs1 hx).move (hρ x e2) hla.cell fun k o hk => hblk e1 e2 hk
 ·have e1 : x ≠ b := fun e1 => by subst e1;rw [AH.at_put, if_pos rfl] at hx;cases hx
  rw [hput x e1] at hx
  have e2 : x ≠ b2 := fun e2 => by rw [e2, hhid] at hx;cases hx
  obtain ⟨f1, f2, f3⟩ := h.H.ext.gho x cs1 vs1 hx
  exact ⟨by rw [hρ x e2];exact f1, f2, fun i y v hy hv => (f3 i y v hy hv).laterX hla (List.all_eq_true.1 (AH.clear_gho H 0 x cs1 vs1 hH hx (by omega)) y (List.mem_of_getElem? hy))⟩
 ·refine h.fr.trans (hF.mono fun j hj hh => ?_)
  rcases hh with rfl | hh
  ·exact h.mineO g1
  ·exact h.mineO (g7 _ hh).1
 ·have key : ∀ {j o}, ρ x = some (some (j, o)) -> (E.O j /\ ((H.put b (.bld T e b2 s')).at x).isExt = false) \/ E.w0.heap.size <= j := fun {j o} hh => (h.mine x _ _ hh).imp_left fun ⟨p1, p2⟩ => ⟨p1, by
   rw [AH.at_put]
   split
   ·rename_i e1
    subst e1
    simp only [hb] at p2
    cases p2
   ·exact p2⟩
  by_cases e1 : x = b2
  ·subst e1
   rcases hρ2 j o h1 with hh | ⟨hh, _⟩
   ·exact key hh
   ·have := h.fr.size
    exact .inr (by omega)
  ·rw [hρ x e1] at h1
   exact key h1
section
variable {P : Program} {N : Nat} {ops : Array Oper} {m : Option Nat} {K : Tm -> AH -> Prop} {tm tm' : Tm} {H : AH} {rest : List Oper} {ty : TypeId} {pos : String} {af : Array Edge} {d : Nat} {t e : TypeId} {x y z : Operand}
theorem A05 {b b2 : Nat} {f : FuncId} {xs : List Operand} {ts : Array TypeId} {ys zs : List AV} {s s' : List Value} {r : AV} {T : TypeId} {dst : Option Nat} {E : Env} {a : Act} {w : World} {ρ : Pl} {K' : Act -> World -> Prop} {Q : Exit -> Act -> World -> Prop} (hR : RelSt E ⟨tm, H⟩ a w ρ)
  (hp : FnBld P T e f zs s s' r) (hx0 : evT tm x = some (.ptr b 0)) (hx : evs (evT tm) xs = some ys) (hb : H.at b = .bld T e b2 s) (hz : Out2L H ys zs) (hr : r.plain = true) (htm : tm.clearO b2 = some tm') (hH : AH.clear b2 0 H = true)
  (hK : ∀ w' ρ' u, RelSt E ⟨tm', H.put b (.bld T e b2 s')⟩ a w' ρ' -> RelV w' E.L ρ' r u -> K' (a.put dst u) w') : Oper.wp P ⟨dst, .call ⟨.value (.func f), (x :: xs).toArray, ts⟩, ty, pos, af, none⟩ a w K' Q := by
 obtain ⟨g1, g2⟩ := Cz _ _ hx
 obtain ⟨hhid, k, p, v, q1, q2, q3, q4, q5, q6, q7⟩ := hR.H.ext.bld b T e b2 s hb
 have hxv : a.eval x = .pointer (some ⟨k, 0, none⟩) := by
  have := (hR.ev (by rw [Ah];exact hx0)).ptr_out k 0 q1
  simpa using this
 have hrun : (execOp a.eval ⟨dst, .call ⟨.value (.func f), (x :: xs).toArray, ts⟩, ty, pos, af, none⟩).run P w = .ok (.enter f (.pointer (some ⟨k, 0, none⟩) :: xs.map a.eval).toArray) w := by
  have : (execOp a.eval ⟨dst, .call ⟨.value (.func f), (x :: xs).toArray, ts⟩, ty, pos, af, none⟩).run P w = (callFunc f (#[] ++ (x :: xs).toArray.map a.eval ++ #[])).run P w := by simp [execOp, resolve, Act.eval, Deferred.ofValue, invoke]
  rw [this, hp.ent.run]
  simp only [Result.ok.injEq, Next.enter.injEq, true_and, and_true]
  apply Array.ext'
  simp [hxv]
 obtain ⟨k1, k2⟩ := hz.at
 unfold Oper.wp
 rw [hrun]
 refine (hp.run E.L w k p v (xs.map a.eval) hR.glob (fun j hj => hR.fb_lt j (.inl hj)) (by rw [List.length_map, <- k1];exact g1.symm) (fun i y u hy hu => ?_) ⟨q3, q4, q5, q6⟩).mono ?_
 ·obtain ⟨y', h3, h4⟩ := k2 i y hy
  obtain ⟨z, h5, h6⟩ := g2 i y' h3
  rw [List.getElem?_map, h5] at hu
  simp at hu
  subst hu
  exact h4.rel hR.H (hR.ev (by rw [Ah];exact h6))
 ·rintro e' w' ⟨u, rfl, hu, ⟨p', v', hB, hg⟩, hF⟩
  exact hK w' _ u (hR.bldTurn hb htm hH q1 q2 q7 hB hg hF) (hu.plain hr)
theorem S.callBld {b b2 : Nat} {f : FuncId} {xs : List Operand} {ts : Array TypeId} {ys zs : List AV} {s s' : List Value} {r : AV} {T : TypeId}
  (hp : FnBld P T e f zs s s' r) (hx0 : evT tm x = some (.ptr b 0)) (hx : evs (evT tm) xs = some ys) (hb : H.at b = .bld T e b2 s) (hz : Out2L H ys zs) (hr : r.plain = true) (htm : tm.clearO b2 = some tm') (hH : AH.clear b2 0 H = true) (hN : Nat.ble (d + 1) N = true)
  (h : Reg none P N ops rest ((d, r) :: tm') (H.put b (.bld T e b2 s')) K) : Reg none P N ops (⟨some d, .call ⟨.value (.func f), (x :: xs).toArray, ts⟩, ty, pos, af, none⟩ :: rest) tm H K := by
 refine ⟨fun E a w ρ hE hR => ?_⟩
 replace h := h.out
 refine wpList_plain rfl fun K' hK => ?_
 exact A05 hR hp hx0 hx hb hz hr htm hH fun w' ρ' u s2 hu => hK _ _ (h E _ w' ρ' hE (s2.put (by rw [hE];exact Nat.le_of_ble_eq_true hN) hu))
theorem S.allocBT {b : Nat} {zs : Array Value} [hz : HasZ P t (.agg zs)] (hzs : zs = #[.pointer none, .slice none 0 0] ++ E9 t) (ue : TypeId) (hb : H.nextId = some b) (hN : Nat.ble (d + 1) N = true) (h : Reg none P N ops rest ((d, .ptr b 0) :: tm) ((H.put b (.bld t ue (b + 1) [])).put (b + 1) .hid) K) : Reg none P N ops (⟨some d, .alloc t, ty, pos, af, none⟩ :: rest) tm H K := by
 have hz' := hz.out
 rw [hzs] at hz'
 refine ⟨fun E a w ρ hE hR => ?_⟩
 replace h := h.out
 refine wpList_plain rfl fun K' hK => ?_
 have hlen := D7 hb
 have hf : H.at b = .free := by subst hlen;exact AH.at_len H
 have hf2 : H.at (b + 1) = .free := by subst hlen;simp [AH.at]
 have hrun : (execOp a.eval ⟨some d, .alloc t, ty, pos, af, none⟩).run P w = .ok (.value (.pointer (some ⟨w.heap.size, 0, none⟩))) (w.alloc (.cells (#[.pointer none, .slice none 0 0] ++ E9 t) t)) := by
  simp only [execOp, Instr.alloc, Sem.run_bind, Dj hz', Fm, Result.andThen_ok, Sem.run_pure]
  rfl
 obtain ⟨s1, s2⟩ := hR.alloc (b := b) hf [] (#[.pointer none, .slice none 0 0] ++ E9 t) t (by simp) (fun j x hj => by simp at hj)
 have hne : ∀ {x : Nat}, x ≠ b -> x ≠ b + 1 -> ((H.put b (.bld t ue (b + 1) [])).put (b + 1) .hid).at x = H.at x := fun {x} h1 h2 => by rw [AH.at_put, if_neg h2, AH.at_put, if_neg h1]
 have hne' : ∀ {x : Nat}, x ≠ b -> (H.put b (.live [])).at x = H.at x := fun {x} h1 => by rw [AH.at_put, if_neg h1]
 have hb1 : b ≠ b + 1 := by omega
 have hρ : ∀ {x : Nat}, x ≠ b + 1 -> ((ρ.upd b (some (w.heap.size, 0))).upd (b + 1) none) x = (ρ.upd b (some (w.heap.size, 0))) x := fun {x} hx => by show (if x = b + 1 then _ else _) = _;rw [if_neg hx]
 have hρ1 : ((ρ.upd b (some (w.heap.size, 0))).upd (b + 1) none) (b + 1) = some none := by show (if b + 1 = b + 1 then _ else _) = _;rw [if_pos rfl]
 have hρb : (ρ.upd b (some (w.heap.size, 0))) b = some (some (w.heap.size, 0)) := by show (if b = b then _ else _) = _;rw [if_pos rfl]
 have hfree : (ρ.upd b (some (w.heap.size, 0))) (b + 1) = none := s1.H.free (b + 1) (by show (H.put b (.live [])).at (b + 1) = .free;rw [hne' (by omega)];exact hf2)
 have hla : Later E.L (w.alloc (.cells (#[.pointer none, .slice none 0 0] ++ E9 t) t)) (ρ.upd b (some (w.heap.size, 0))) (w.alloc (.cells (#[.pointer none, .slice none 0 0] ++ E9 t) t)) ((ρ.upd b (some (w.heap.size, 0))).upd (b + 1) none) := by
  refine ⟨fun x hx => .inl (hρ fun e => hx (by rw [e];exact hfree)), fun k o u h1 h2 => ⟨h2, ?_⟩, fun _ _ hx => hx⟩
  rintro (hf | ⟨x, o', hf⟩)
  ·exact h1 (.inl hf)
  ·by_cases e1 : x = b + 1
   ·rw [e1, hρ1] at hf;cases hf
   ·rw [hρ e1] at hf;exact h1 (.inr ⟨x, o', hf⟩)
 have hs : ∀ {x k o}, ((ρ.upd b (some (w.heap.size, 0))).upd (b + 1) none) x = some (some (k, o)) -> (ρ.upd b (some (w.heap.size, 0))) x = some (some (k, o)) := fun {x k o} hk => by
  by_cases e1 : x = b + 1
  ·rw [e1, hρ1] at hk;cases hk
  ·rw [hρ e1] at hk;exact hk
 have hlim : ¬ E.L w.heap.size := fun hL => by have := hR.lim _ hL;have := hR.fr.size;omega
 have s3 : RelSt E ⟨tm, (H.put b (.bld t ue (b + 1) [])).put (b + 1) .hid⟩ a (w.alloc (.cells (#[.pointer none, .slice none 0 0] ++ E9 t) t)) ((ρ.upd b (some (w.heap.size, 0))).upd (b + 1) none) := by
  refine s1.move hla ⟨fun x hx => ?_, fun x hx => ?_, fun x cs hx => ?_, fun x es hx => ?_, fun x y k o o' h1 h2 => s1.H.dist _ _ _ _ _ (hs h1) (hs h2), ⟨fun x T e' b3 s'' hx => ?_, fun x hx => ?_, fun x y T1 e1 T2 e2 b3 s1' s2' h1 h2 => ?_, fun x k1 o1 cs1 hx => ?_, fun x cs1 vs1 hx => ?_⟩⟩ (Fr.refl _ _) fun x k o hk => ?_
  ·by_cases e1 : x = b + 1
   ·subst e1;rw [AH.at_put, if_pos rfl] at hx;cases hx
   ·by_cases e2 : x = b
    ·subst e2;rw [AH.at_put, if_neg e1, AH.at_put, if_pos rfl] at hx;cases hx
    ·rw [hne e2 e1] at hx;rw [hρ e1];exact s1.H.free x ((hne' e2).trans hx)
  ·by_cases e1 : x = b + 1
   ·subst e1;rw [AH.at_put, if_pos rfl] at hx;cases hx
   ·by_cases e2 : x = b
    ·subst e2;rw [AH.at_put, if_neg e1, AH.at_put, if_pos rfl] at hx;cases hx
    ·rw [hne e2 e1] at hx;rw [hρ e1];exact s1.H.dead x ((hne' e2).trans hx)
  ·by_cases e1 : x = b + 1
   ·subst e1;rw [AH.at_put, if_pos rfl] at hx;cases hx
   ·by_cases e2 : x = b
    ·subst e2;rw [AH.at_put, if_neg e1, AH.at_put, if_pos rfl] at hx;cases hx
    ·rw [hne e2 e1] at hx
     obtain ⟨k, o, c, el, lo, hi, f1, f2, f3, f4, f5, f6⟩ := s1.H.live x cs ((hne' e2).trans hx)
     refine ⟨k, o, c, el, lo, hi, (hρ e1).trans f1, f2, f3, f4, f5, fun j y hj => ?_⟩
     obtain ⟨v, q1, q2⟩ := f6 j y hj
     exact ⟨v, q1, q2.later hla⟩
  ·by_cases e1 : x = b + 1
   ·subst e1;rw [AH.at_put, if_pos rfl] at hx;cases hx
   ·by_cases e2 : x = b
    ·subst e2;rw [AH.at_put, if_neg e1, AH.at_put, if_pos rfl] at hx;cases hx
    ·rw [hne e2 e1] at hx
     obtain ⟨k, entries, clock, f1, f2, f3, f4⟩ := s1.H.map x es ((hne' e2).trans hx)
     exact ⟨k, entries, clock, (hρ e1).trans f1, f2, f3, f4⟩
  ·by_cases e1 : x = b + 1
   ·subst e1;rw [AH.at_put, if_pos rfl] at hx;cases hx
   ·by_cases e2 : x = b
    ·subst e2
     rw [AH.at_put, if_neg e1, AH.at_put, if_pos rfl] at hx
     simp only [HB.bld.injEq] at hx
     obtain ⟨rfl, rfl, rfl, rfl⟩ := hx
     exact ⟨by rw [AH.at_put, if_pos rfl], w.heap.size, .pointer none, .slice none 0 0, (hρ e1).trans hρb, hlim, B5 _ _, .inl rfl, ⟨rfl, .inl ⟨rfl, rfl⟩⟩, by simp [Value.ownBlock], fun g hg => by simp [Value.ownBlock] at hg⟩
    ·rw [hne e2 e1] at hx
     obtain ⟨f1, f2⟩ := s1.H.ext.bld x T e' b3 s'' ((hne' e2).trans hx)
     have e3 : b3 ≠ b := fun e3 => by
      rw [e3] at f1
      have : (H.put b (.live [])).at b = .hid := f1
      rw [AH.at_put, if_pos rfl] at this
      cases this
     have e4 : b3 ≠ b + 1 := fun e4 => by
      rw [e4] at f1
      have : (H.put b (.live [])).at (b + 1) = .hid := f1
      rw [hne' (by omega), hf2] at this
      cases this
     exact ⟨by rw [hne e3 e4];exact (hne' e3).symm.trans f1, f2.move (hρ e1) (hρ e4) fun _ _ _ _ _ => rfl⟩
  ·by_cases e1 : x = b + 1
   ·subst e1;rw [hρ1];exact ⟨by simp, fun k o hk => by cases hk⟩
   ·by_cases e2 : x = b
    ·subst e2;rw [AH.at_put, if_neg e1, AH.at_put, if_pos rfl] at hx;cases hx
    ·rw [hne e2 e1] at hx
     rw [hρ e1]
     exact s1.H.ext.hid x ((hne' e2).trans hx)
  ·have hat : ∀ {x T' e' s''}, ((H.put b (.bld t ue (b + 1) [])).put (b + 1) .hid).at x = .bld T' e' b3 s'' -> (x = b /\ b3 = b + 1) \/ (H.at x = .bld T' e' b3 s'' /\ x ≠ b) := fun {x T' e' s''} hh => by
    by_cases e1 : x = b + 1
    ·subst e1;rw [AH.at_put, if_pos rfl] at hh;cases hh
    ·by_cases e2 : x = b
     ·subst e2
      rw [AH.at_put, if_neg e1, AH.at_put, if_pos rfl] at hh
      simp only [HB.bld.injEq] at hh
      exact .inl ⟨rfl, hh.2.2.1.symm⟩
     ·exact .inr ⟨(hne e2 e1).symm.trans hh, e2⟩
   have hno : ∀ {x T' e' s''}, H.at x = .bld T' e' (b + 1) s'' -> False := fun {x T' e' s''} hh => by
    have := (hR.H.ext.bld x T' e' (b + 1) s'' hh).1
    have h2 : H.at (b + 1) = .hid := this
    rw [hf2] at h2
    cases h2
   rcases hat h1 with ⟨q1, q2⟩ | ⟨q1, q2⟩ <;> rcases hat h2 with ⟨q3, q4⟩ | ⟨q3, q4⟩
   ·rw [q1, q3]
   ·subst q2;exact (hno q3).elim
   ·subst q4;exact (hno q1).elim
   ·exact hR.H.ext.one _ _ _ _ _ _ _ _ _ q1 q3
  ·by_cases e1 : x = b + 1
   ·subst e1;rw [AH.at_put, if_pos rfl] at hx;cases hx
   ·by_cases e2 : x = b
    ·subst e2;rw [AH.at_put, if_neg e1, AH.at_put, if_pos rfl] at hx;cases hx
    ·rw [hne e2 e1] at hx
     exact (s1.H.ext.hot x k1 o1 cs1 ((hne' e2).trans hx)).move (hρ e1) hla.cell fun _ _ _ => rfl
  ·by_cases e1 : x = b + 1
   ·subst e1;rw [AH.at_put, if_pos rfl] at hx;cases hx
   ·by_cases e2 : x = b
    ·subst e2;rw [AH.at_put, if_neg e1, AH.at_put, if_pos rfl] at hx;cases hx
    ·rw [hne e2 e1] at hx
     obtain ⟨f1, f2, f3⟩ := s1.H.ext.gho x cs1 vs1 ((hne' e2).trans hx)
     exact ⟨by rw [hρ e1];exact f1, f2, fun i y v hy hv => (f3 i y v hy hv).later hla⟩
  ·by_cases e1 : x = b + 1
   ·rw [e1, hρ1] at hk;cases hk
   ·by_cases e2 : x = b
    ·rw [e2, hρ hb1, hρb] at hk
     simp only [Option.some.injEq, Prod.mk.injEq] at hk
     have := hR.fr.size
     exact .inr (by omega)
    ·have := s1.mine x k o (hs hk)
     rw [hne e2 e1]
     rw [show (({ tm := tm, H := H.put b (.live []) } : St).H.at x) = H.at x from hne' e2] at this
     exact this
 unfold Oper.wp
 rw [hrun]
 exact hK _ _ (h E _ _ _ hE (s3.put (by rw [hE];exact Nat.le_of_ble_eq_true hN) (s2.later hla)))
end
def A02 (w : World) (T e : TypeId) (B k : Nat) (s : List Value) : Prop :=
 B <= k /\ ∃ p v, w.heap[k]? = some (.cells (#[p, v] ++ E9 T) T (0, 0)) /\ (p = .pointer none \/ p = .pointer (some ⟨k, 0, none⟩)) /\ w.ownsRowF B e 1 v s.length s /\ v.ownBlock ≠ some k
structure FnRead (P : Program) (T e : TypeId) (f : FuncId) (s : List Value) (u : Value) : Prop where
 ent : Enters P f
 run : ∀ (w : World) (k B : Nat), A02 w T e B k s -> B <= w.heap.size -> Calls P f #[.pointer (some ⟨k, 0, none⟩)] w fun e' w' => e' = .returned u /\ Below B w w'
section
variable {P : Program} {N : Nat} {ops : Array Oper} {K : Tm -> AH -> Prop} {tm : Tm} {H : AH} {rest : List Oper} {ty : TypeId} {pos : String} {af : Array Edge} {d : Nat} {x : Operand}
theorem S.endBld {b b2 : Nat} {f : FuncId} {ts : Array TypeId} {s : List Value} {u : Value} {T e : TypeId} (hp : FnRead P T e f s u) (hx : evT tm x = some (.ptr b 0)) (hb : H.at b = .bld T e b2 s) (hN : Nat.ble (d + 1) N = true)
  (h : Reg none P N ops rest [(d, .val u)] [] K) : Reg none P N ops (⟨some d, .call ⟨.value (.func f), #[x], ts⟩, ty, pos, af, none⟩ :: rest) tm H K := by
 refine ⟨fun E a w ρ hE hR => ?_⟩
 replace h := h.out
 refine wpList_plain rfl fun K' hK => ?_
 obtain ⟨hhid, k, p, v, q1, q2, q3, q4, q5, q6, q7⟩ := hR.H.ext.bld b T e b2 s hb
 have hxv : a.eval x = .pointer (some ⟨k, 0, none⟩) := by
  have := (hR.ev (by rw [Ah];exact hx)).ptr_out k 0 q1
  simpa using this
 have hrun : (execOp a.eval ⟨some d, .call ⟨.value (.func f), #[x], ts⟩, ty, pos, af, none⟩).run P w = .ok (.enter f #[.pointer (some ⟨k, 0, none⟩)]) w := by
  have : (execOp a.eval ⟨some d, .call ⟨.value (.func f), #[x], ts⟩, ty, pos, af, none⟩).run P w = (callFunc f (#[] ++ #[x].map a.eval ++ #[])).run P w := by simp [execOp, resolve, Act.eval, Deferred.ofValue, invoke]
  rw [this, hp.ent.run]
  simp [hxv]
 have hge : ∀ {b' j o}, (H.at b').isExt = true -> ρ b' = some (some (j, o)) -> E.w0.heap.size <= j := fun {b' j o} hx hj => (hR.mine b' j o hj).resolve_left fun h => by have := h.2;rw [hx] at this;cases this
 have hB : A02 w T e E.w0.heap.size k s := by
  have hown : w.ownsRowF E.w0.heap.size e 1 v s.length s := by
   refine ⟨q5.1, ?_⟩
   rcases q5.2 with hh | ⟨g, cap, cur, fz, e1, e2, e3⟩
   ·exact .inl hh
   ·exact .inr ⟨g, cap, cur, fz, e1, hge (by rw [hhid];rfl) (q7 g (by rw [e1];rfl)).1, e3⟩
  exact ⟨hge (by rw [hb];rfl) q1, p, v, q3, q4, hown, q6⟩
 unfold Oper.wp
 rw [hrun]
 refine (hp.run w k E.w0.heap.size hB hR.fr.size).mono ?_
 rintro e' w' ⟨rfl, hbel⟩
 refine hK _ _ (h E _ w' An hE ?_)
 have hs : RelSt E ⟨[], []⟩ a w' An := ⟨hR.size, hR.defers, (fun t x hx => by cases hx), ⟨fun _ _ => rfl, (fun b h => by simp [AH.at] at h), (fun b cs h => by simp [AH.at] at h), (fun b es h => by simp [AH.at] at h), (fun b b' k o o' h => by cases h), ExtOk.nil _ _ _⟩,
  ⟨hbel.os.trans hR.fr.os, hbel.tape.trans hR.fr.tape, hbel.output.trans hR.fr.output, Nat.le_trans hR.fr.size hbel.size, fun j hj hn => (hbel.block j hj).trans (hR.fr.block j hj hn), fun j x hx => by
   rw [Al (hbel.block j (Ca hx))]
   exact hR.fr.shape j x hx⟩, (fun b k o h => by cases h), hR.lim⟩
 exact hs.put (by rw [hE];exact Nat.le_of_ble_eq_true hN) (A9 u)
end
section
variable {P : Program} {N : Nat} {ops : Array Oper} {m : Option Nat} {K : Tm -> AH -> Prop} {tm : Tm} {H : AH} {rest : List Oper} {ty : TypeId} {pos : String} {af : Array Edge} {d : Nat} {t u : TypeId} {x y : Operand}
theorem S.strAdd {a b : ByteArray} (hx : evT tm x = some (.val (.string a))) (hy : evT tm y = some (.val (.string b))) (hN : Nat.ble (d + 1) N = true) (hl : a.size + b.size <= 9223372036854775807) (h : Reg m P N ops rest ((d, .val (.string (a ++ b))) :: tm) H K) : Reg m P N ops (⟨some d, .binOp .add t x y u, ty, pos, af, none⟩ :: rest) tm H K := by
 refine S.val (OpV.mk fun L w ρ η hη _ => ?_) hN h
 have h1 := (hη x (by simp [Op.operands]) _ hx).val_eq
 have h2 := (hη y (by simp [Op.operands]) _ hy).val_eq
 have h3 : ¬ (((a.size + b.size : Nat) : Int) > IntKind.i64.max) := by
  have : IntKind.i64.max = 9223372036854775807 := rfl
  omega
 exact ⟨_, by simp only [execOp, h1, h2, eqGuard, binOp, Op.stringOp, if_neg h3, Sem.run_bind, Sem.run_pure, Result.andThen_ok];rfl, A9 _⟩
theorem S.remT {a b : Int} (hx : evT tm x = some (.val (.int .i64 a))) (hy : evT tm y = some (.val (.int .i64 b))) (hN : Nat.ble (d + 1) N = true) (h0 : 0 < b) (h : Reg m P N ops rest ((d, .val (.int .i64 (a.tmod b))) :: tm) H K) : Reg m P N ops (⟨some d, .binOp .rem t x y u, ty, pos, af, none⟩ :: rest) tm H K :=
 S.val (OpV.mk fun L w ρ η hη _ => by
  have h1 := (hη x (by simp [Op.operands]) _ hx).val_eq
  have h2 := (hη y (by simp [Op.operands]) _ hy).val_eq
  have hb : b ≠ 0 := by omega
  exact ⟨_, by simp [execOp, h1, h2, eqGuard, binOp, Op.intDiv, hb], A9 _⟩) hN h
theorem S.quoT {a b : Int} (hx : evT tm x = some (.val (.int .i64 a))) (hy : evT tm y = some (.val (.int .i64 b))) (hN : Nat.ble (d + 1) N = true) (h0 : 0 < b) (hw : IntKind.i64.wrap (a.tdiv b) = a.tdiv b) (h : Reg m P N ops rest ((d, .val (.int .i64 (a.tdiv b))) :: tm) H K) : Reg m P N ops (⟨some d, .binOp .quo t x y u, ty, pos, af, none⟩ :: rest) tm H K :=
 S.val (OpV.mk fun L w ρ η hη _ => by
  have h1 := (hη x (by simp [Op.operands]) _ hx).val_eq
  have h2 := (hη y (by simp [Op.operands]) _ hy).val_eq
  have hb : b ≠ 0 := by omega
  exact ⟨_, by simp [execOp, h1, h2, eqGuard, binOp, Op.intDiv, hb, hw], A9 _⟩) hN h
theorem P6 {n : Int} (h : 48 <= n /\ n <= 57) : Utf8.encode n = ⟨#[UInt8.ofNat n.toNat]⟩ := by
 have key : ∀ d : Fin 10, Utf8.encode ((48 + d.val : Nat) : Int) = ⟨#[UInt8.ofNat (48 + d.val)]⟩ := by decide +kernel
 have := key ⟨n.toNat - 48, by omega⟩
 simp only [show 48 + (n.toNat - 48) = n.toNat by omega, show ((n.toNat : Nat) : Int) = n by omega] at this
 exact this
theorem S.convStr {k : IntKind} {n : Int} {ds : TypeDesc} [hu : HasU P t ds] [hv : HasU P u .string] (hx : evT tm x = some (.val (.int k n))) (hn : 48 <= n /\ n <= 57) (hN : Nat.ble (d + 1) N = true) (h : Reg m P N ops rest ((d, .val (.string ⟨#[UInt8.ofNat n.toNat]⟩)) :: tm) H K) : Reg m P N ops (⟨some d, .convert t u x, ty, pos, af, none⟩ :: rest) tm H K := by
 refine S.val (OpV.mk fun L w ρ η hη hH => ?_) hN h
 have h1 := (hη x (by simp [Op.operands]) _ hx).val_eq
 refine ⟨_, ?_, A9 _⟩
 simp [execOp, h1, convert, run_underlying hu.out, run_underlying hv.out, Conv.intToString, P6 hn]
end
end Go.Proofs.YtcfjofhapbkmfaaGreatDoor
