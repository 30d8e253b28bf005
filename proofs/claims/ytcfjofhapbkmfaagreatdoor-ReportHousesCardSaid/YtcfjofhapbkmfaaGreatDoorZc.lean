/- Contract: grid's iterator over the beams over a depth. No conditions but those of each statement. -/
import Derived.Test.YtcfjofhapbkmfaaGreatDoorZb
import Derived.Test.YtcfjofhapbkmfaaGreatDoorZa
import Derived.RangeFuncBound
import Derived.Shelf.Abstract
import Derived.Shelf.RegionOpen
import Derived.WalkKit
import Derived.TacticsInMore
import Derived.LoopNIn
import Derived.LoopIn
import Derived.Test.YtcfjofhapbkmfaaGreatDoorXa
import Derived.Test.YtcfjofhapbkmfaaGreatDoorQa
import Derived.Test.YtcfjofhapbkmfaaGreatDoorPa
set_option linter.unusedSimpArgs false
set_option linter.unusedVariables false
namespace Go.Proofs.YtcfjofhapbkmfaaGreatDoor
open Go Go.RowKit Go.Shelf
attribute [local go_sem] Oper.semAt_some
def ovK (l : List RoofR) (d : Int) : Nat -> List (Sub l.length)
 | 0 => []
 | k + 1 => ovK l d k ++ if h : k < l.length then (if ovR l[k] d then [⟨k, h⟩] else []) else []
set_option maxRecDepth 100000 in
set_option maxHeartbeats 4000000 in
theorem Vj (n l B1 o1 B2 o2 b off len cap N m : Nat) (d : Int) (nm : Nat -> ByteArray) (fr tt mo : Nat -> Int) (hlen : len <= 1000000) (ks : Nat -> List (Sub m)) (hk0 : ks 0 = []) (hm : len = m)
  (hks : ∀ k, (h : k < m) -> ks (k + 1) = ks k ++ if fr k <= d /\ d <= tt k then [⟨k, h⟩] else []) (hkn : ∀ k, k < m -> fr k <= d /\ d <= tt k -> (ks k).length < N)
  (Ag : World -> Prop) (a1 : ∀ W, Ag W -> W.cell? ⟨B1, o1, none⟩ = some (.slice (some ⟨b, off, none⟩) len cap)) (a2 : ∀ W, Ag W -> W.cell? ⟨B2, o2, none⟩ = some (.int .i64 d))
  (a3 : ∀ W k, Ag W -> k < len -> W.cell? ⟨b, off + k * 4, none⟩ = some (.string (nm k)) /\ W.cell? ⟨b, off + k * 4 + 1, none⟩ = some (.int .i64 (fr k)) /\ W.cell? ⟨b, off + k * 4 + 2, none⟩ = some (.int .i64 (tt k)) /\ W.cell? ⟨b, off + k * 4 + 3, none⟩ = some (.int .i64 (mo k)))
  (J Jx : List (Sub m) -> World -> Prop) (hJ : ∀ s W W', J s W -> W.grownBy W' none -> J s W') (hA : ∀ W W', Ag W -> W.grownBy W' none -> Ag W')
  (hY : ∀ pre x W, J pre W -> pre.length < N -> YieldAt Fence.wide (n - 1) Tryz.prog l #[.int .i64 (x.1 : Int)] W fun e W' => (e = .returned (.bool true) /\ J (pre ++ [x]) W' /\ (Ag W -> Ag W')) \/ (e = .returned (.bool false) /\ Jx (pre ++ [x]) W'))
  (W : World) (hAW : Ag W) (h0 : J [] W) :
  CallsIn Fence.wide n Tryz.prog 226 #[.func (.yield l) #[] #[], .pointer (some ⟨B1, o1, none⟩), .pointer (some ⟨B2, o2, none⟩)] W fun e W' => (∃ v, e = .returned v) /\ (J (ks m) W' \/ ∃ k, k < m /\ Jx (ks (k + 1)) W') := by
 have hB1 := a1 W hAW
 refine callsIn_of_wp Tryz.func226 rfl trivial ?_ rfl
 simp only [Tryz.ntmps226, List.size_toArray, List.length_cons, List.length_nil, Nat.reduceAdd, Nat.reduceSub, Array.replicate_succ, Array.replicate_zero, List.push_toArray, List.append_toArray, List.nil_append, List.cons_append]
 gi_wp2
 gi_loopw [8] (fun i wr => ∃ k : Nat, k <= len /\ i = .int .i64 k /\ J (ks k) wr /\ Ag wr) (fun i _ => len - (intOf i).toNat)
 case atStart => exact ⟨0, Nat.zero_le _, rfl, by rw [hk0];exact h0, hAW⟩
 case round =>
  obtain ⟨k, hk, rfl, hJs, hAr⟩ := hrel
  by_cases hlt : k < len
  ·obtain ⟨c0, c1, c2, c3⟩ := a3 wr k hAr hlt
   have hgr := World.grownBy_alloc wr (Obj.cells #[Value.string (nm k), Value.int .i64 (fr k), Value.int .i64 (tt k), Value.int .i64 (mo k)] 69) none
   have hA2 := hA _ _ hAr hgr
   have hJ2 := hJ _ _ _ hJs hgr
   have cd := a2 _ hA2
   have hkm : k < m := by omega
   have hsk := hks k hkm
   by_cases h1 : fr k <= d
   ·by_cases h2 : d <= tt k
    ·obtain ⟨fn, tmps, assign, body, hy, hR⟩ := hY (ks k) ⟨k, hkm⟩ _ hJ2 (hkn k hkm ⟨h1, h2⟩)
     dsimp only at hy
     rw [if_pos ⟨h1, h2⟩] at hsk
     gi_wp2
     refine ⟨fun h => by simp [Fence.wide] at h, hR.mono ?_⟩
     rintro e W3 (⟨rfl, hJ3, hk3⟩ | ⟨rfl, hJx3⟩)
     ·rw [<- hsk] at hJ3
      have hA3 := hk3 hA2
      gi_wp2
      go_roundw
      case rel => exact ⟨k + 1, by omega, by simp, hJ3, hA3⟩
      case measure => simp [intOf];omega
     ·rw [<- hsk] at hJx3
      gi_wp2
      refine bodyPost_ret (results_none rfl _ _ _) rfl ?_
      exact ⟨⟨_, rfl⟩, .inr ⟨k, hkm, hJx3⟩⟩
    ·rw [if_neg (fun k => h2 k.2), List.append_nil] at hsk
     gi_wp2
     refine ⟨fun _ h => (by cases h), ?_⟩
     gi_wp2
     go_roundw
     case rel => exact ⟨k + 1, by omega, by simp, by rw [hsk];exact hJ2, hA2⟩
     case measure => simp [intOf];omega
   ·rw [if_neg (fun k => h1 k.1), List.append_nil] at hsk
    gi_wp2
    refine ⟨fun _ h => (by cases h), ?_⟩
    gi_wp2
    go_roundw
    case rel => exact ⟨k + 1, by omega, by simp, by rw [hsk];exact hJ2, hA2⟩
    case measure => simp [intOf];omega
  ·obtain rfl : k = len := by omega
   gi_wp2
   go_end0
   exact ⟨⟨_, rfl⟩, .inl (by rw [<- hm];exact hJs)⟩
set_option maxRecDepth 100000 in
set_option maxHeartbeats 4000000 in
theorem T0 (n l B1 o1 B2 o2 cap : Nat) (ad : Option Addr) (J : World -> Prop) (W : World) (h1 : W.cell? ⟨B1, o1, none⟩ = some (.slice ad 0 cap)) (h0 : J W) :
  CallsIn Fence.wide n Tryz.prog 226 #[.func (.yield l) #[] #[], .pointer (some ⟨B1, o1, none⟩), .pointer (some ⟨B2, o2, none⟩)] W fun e W' => (∃ v, e = .returned v) /\ J W' := by
 refine callsIn_of_wp Tryz.func226 rfl trivial ?_ rfl
 simp only [Tryz.ntmps226, List.size_toArray, List.length_cons, List.length_nil, Nat.reduceAdd, Nat.reduceSub, Array.replicate_succ, Array.replicate_zero, List.push_toArray, List.append_toArray, List.nil_append, List.cons_append]
 gi_wp2
 gi_loopw [8] (fun i wr => i = .int .i64 0 /\ J wr) (fun _ _ => 0)
 case atStart => exact ⟨rfl, h0⟩
 case round =>
  obtain ⟨rfl, hJs⟩ := hrel
  gi_wp2
  go_end0
  exact ⟨⟨_, rfl⟩, hJs⟩
theorem Kn {l : List RoofR} {d : Int} {k : Nat} : ∀ j, k <= j -> ovK l d k <+: ovK l d j
 | 0, h => by obtain rfl : k = 0 := by omega
              exact List.prefix_refl _
 | j + 1, h => by
  by_cases e : k = j + 1
  ·subst e;exact List.prefix_refl _
  ·exact (Kn j (by omega)).trans (List.prefix_append _ _)
theorem AgW.grown {w : World} {F : Nat -> Prop} {A B : World} (h : AgW w F A) (hg : A.grownBy B none) : AgW w F B := fun k o u h1 h2 => by
 have h3 := h k o u h1 h2
 have hb := hg.block k (Bs h3) (fun e => by cases e)
 unfold World.cell? at h3 ⊢
 dsimp only at h3 ⊢
 rw [hb]
 exact h3
def rNm (l : List RoofR) (k : Nat) : ByteArray := (l[k]?.map RoofR.name).getD ⟨#[]⟩
def rFr (l : List RoofR) (k : Nat) : Int := (l[k]?.map RoofR.from_).getD 0
def rTo (l : List RoofR) (k : Nat) : Int := (l[k]?.map RoofR.to).getD 0
def rMo (l : List RoofR) (k : Nat) : Int := (l[k]?.map RoofR.most).getD 0
theorem Nq (l : List RoofR) (d : Int) (hl : l.length <= 1000000) : Iter Tryz.prog 226 [.rop [.sl (l.map RoofR.row)], .rop [.i d]] l.length (ovK l d l.length) := by
 refine ⟨⟨_, Tryz.func226, rfl, rfl⟩, fun L ρ w lb n hF hlen hrel => ?_⟩
 match lb, hlen, hrel with
 | [v1, v2], _, hrel =>
  have r1 := hrel 0 _ _ rfl rfl
  have r2 := hrel 1 _ _ rfl rfl
  cases r1 with
  | rop _ ad1 V1 hs1 g1 g2 =>
  cases r2 with
  | rop _ ad2 V2 hs2 g3 g4 =>
  obtain ⟨B1, o1, sp1⟩ := ad1
  obtain ⟨B2, o2, sp2⟩ := ad2
  simp only at hs1 hs2
  subst hs1 hs2
  obtain ⟨n1, c1⟩ := g1 0 _ rfl
  obtain ⟨n2, c2⟩ := g3 0 _ rfl
  have q2 := (g4 0 _ rfl).val_eq
  rw [q2] at c2
  simp only [Nat.add_zero] at c1 c2 n1 n2
  have q1 := g2 0 _ rfl
  intro lix J Jx W hW hJ hJx hY h0
  have hAW : AgW w (Fb L ρ) W := fun k o u h1 h2 => (hW.cell (p := ⟨k, o, none⟩) (Bs h2)).trans h2
  have hJ2 : ∀ s A B, J s A -> A.grownBy B none -> J s B := fun s A B h1 h2 => hJ s A B none h1 h2 (fun r e => by cases e)
  have hempty : ∀ (ad : Option Addr) (cap : Nat), V1 0 = .slice ad 0 cap -> l = [] -> CallsIn Fence.wide n Tryz.prog 226 (#[.func (.yield lix) #[] #[]] ++ [.pointer (some ⟨B1, o1, none⟩), .pointer (some ⟨B2, o2, none⟩)].toArray) W fun e W' => (∃ v, e = .returned v) /\ ((∃ xs, xs = ovK l d l.length /\ J xs W') \/ (∃ pre, pre <+: ovK l d l.length /\ Jx pre W')) := fun ad cap hv hl0 => by
   subst hl0
   rw [hv] at c1
   refine (T0 n lix B1 o1 B2 o2 cap ad (fun W => J [] W) W (hAW _ _ _ n1 c1) h0).mono ?_
   rintro e W' ⟨h1, h2⟩
   exact ⟨h1, .inl ⟨_, rfl, h2⟩⟩
  generalize hv0 : V1 0 = v0 at q1
  by_cases hl0 : l = []
  ·generalize hrows : l.map RoofR.row = rows at q1
   cases q1 with
   | slnil => exact hempty none 0 hv0 hl0
   | sl _ ad cap V hs hc h1 h2 =>
    subst hrows
    rw [List.length_map, hl0] at hv0
    exact hempty (some ad) cap hv0 hl0
  ·have hpos : 0 < l.length := List.length_pos_iff.2 hl0
   generalize hrows : l.map RoofR.row = rows at q1
   cases q1 with
   | slnil =>
    exact absurd (List.map_eq_nil_iff.1 hrows) hl0
   | sl _ ad cap V hs hc h1 h2 =>
    subst hrows
    rw [List.length_map] at hc hv0
    have hsp : ad.spot = none := hs.resolve_right (by omega)
    obtain ⟨b, off, sp⟩ := ad
    simp only at hsp
    subst hsp
    rw [hv0] at c1
    have hcell : ∀ (A : World) (k j : Nat) (x : RoofR) (u : Value), AgW w (Fb L ρ) A -> l[k]? = some x -> x.row[j]? = some (.val u) -> A.cell? ⟨b, off + (k * 4 + j), none⟩ = some u := fun A k j x u hA hx hu => by
     have hrow : (l.map RoofR.row)[k]? = some x.row := by rw [List.getElem?_map, hx];rfl
     obtain ⟨m1, m2⟩ := h1 k _ j _ hrow hu
     have m3 := (h2 k _ j _ hrow hu).val_eq
     rw [m3] at m2
     exact hA _ _ _ m1 m2
    have key := Vj n lix B1 o1 B2 o2 b off l.length cap (ovK l d l.length).length l.length d (rNm l) (rFr l) (rTo l) (rMo l) hl (ovK l d) rfl rfl (fun k hk => by
     show ovK l d k ++ _ = _
     rw [dif_pos hk]
     congr 1
     have e : l[k]? = some l[k] := List.getElem?_eq_getElem hk
     have e1 : rFr l k = l[k].from_ := by unfold rFr;rw [e];rfl
     have e2 : rTo l k = l[k].to := by unfold rTo;rw [e];rfl
     rw [e1, e2]
     rfl) (fun k hk ho => by
     have e : l[k]? = some l[k] := List.getElem?_eq_getElem hk
     have e1 : rFr l k = l[k].from_ := by unfold rFr;rw [e];rfl
     have e2 : rTo l k = l[k].to := by unfold rTo;rw [e];rfl
     rw [e1, e2] at ho
     have hp := (Kn (l := l) (d := d) (k := k + 1) l.length hk).length_le
     have : (ovK l d (k + 1)).length = (ovK l d k).length + 1 := by
      show (ovK l d k ++ _).length = _
      rw [dif_pos hk, if_pos (show ovR l[k] d from ho), List.length_append];rfl
     omega) (AgW w (Fb L ρ)) (fun A hA => hA _ _ _ n1 c1) (fun A hA => hA _ _ _ n2 c2) (fun A k hA hk => by
     have e : l[k]? = some l[k] := List.getElem?_eq_getElem hk
     have e1 : rFr l k = l[k].from_ := by unfold rFr;rw [e];rfl
     have e2 : rTo l k = l[k].to := by unfold rTo;rw [e];rfl
     have e3 : rNm l k = l[k].name := by unfold rNm;rw [e];rfl
     have e4 : rMo l k = l[k].most := by unfold rMo;rw [e];rfl
     rw [e1, e2, e3, e4]
     exact ⟨hcell A k 0 _ _ hA e rfl, hcell A k 1 _ _ hA e rfl, hcell A k 2 _ _ hA e rfl, hcell A k 3 _ _ hA e rfl⟩)
     J Jx hJ2 (fun A B hA hg => hA.grown hg) hY W hAW h0
    refine key.mono ?_
    rintro e W' ⟨k1, k2 | ⟨k, k3, k4⟩⟩
    ·exact ⟨k1, .inl ⟨_, rfl, k2⟩⟩
    ·exact ⟨k1, .inr ⟨_, Kn _ k3, k4⟩⟩
theorem Nk (l : List RoofR) (d : Int) : Fn0 Tryz.prog 170 [.sl (l.map RoofR.row), .i d] (.fn (.func 226) [] [.rop [.sl (l.map RoofR.row)], .rop [.i d]]) := by
 refine Fn0.of Tryz.func170 Tryz.ntmps170 rfl rfl rfl ?_
 simp only [A0]
 repeat' (first
  | refine W ?_
  | refine Y ?_
  | refine V ?_
  | (refine W2 ?_ ?_ <;> intro hc))
 all_goals exact So (by simp) Tryz.results170 rfl (.one (.fn (.cons (.ptr0 rfl) (.cons (.ptr0 rfl) .nil))))
end Go.Proofs.YtcfjofhapbkmfaaGreatDoor
namespace Go.Proofs.YtcfjofhapbkmfaaGreatDoor
open Go Go.RowKit
theorem Mu (l : List RoofR) (d : Int) : ∀ k, k <= l.length -> (ovK l d k).length = Ap (l.take k) d
 | 0, _ => rfl
 | k + 1, hk => by
  have e : l[k]? = some l[k] := List.getElem?_eq_getElem (by omega)
  rw [Nd d e]
  show (ovK l d k ++ _).length = _
  rw [dif_pos (by omega : k < l.length), List.length_append, Mu l d k (by omega)]
  by_cases h : ovR l[k] d
  ·rw [if_pos h, if_pos h];rfl
  ·rw [if_neg h, if_neg h];rfl
set_option maxHeartbeats 4000000 in
theorem Hg (l : List RoofR) (d : Int) (hl : l.length <= 20) : Fn0 Tryz.prog 169 [.sl (l.map RoofR.row), .i d] (.i (Ap l d : Nat)) := by
 have co := Nk l d
 have hlen : (ovK l d l.length).length = Ap l d := by rw [Mu l d _ (Nat.le_refl _), List.take_length]
 have hcn := D6 l d
 refine Fn0.of2 Tryz.func169 Tryz.ntmps169 rfl rfl rfl ?_
 simp only [A0]
 repeat' (first
  | refine W ?_
  | (apply T2.regs;(first | exact .inl rfl | exact .inr ⟨_, rfl⟩);rfl;rfl)|(apply T2.region;(first | exact .inl rfl | exact .inr ⟨_, rfl⟩);rfl;rfl)|(apply T2.cT;exact rfl;assumption)|(apply T2.cFn;exact rfl;assumption)|(apply T2.cTn;exact rfl;assumption)|(apply T2.cF;exact rfl;assumption) | apply T2.seq | apply T2.block|(apply T2.skip;first | change T2 _ _ _ _ _ _ _ | change Next _ _ _ _ _ _ | skip)|(apply T2.exit;first | change T2 _ _ _ _ _ _ _ | change Next _ _ _ _ _ _ | skip) | apply T2.ret | refine Y ?_
  | refine V ?_
  | (refine W2 ?_ ?_ <;> intro hc))
 refine T2.rangeFunc (m := l.length) (xs := ovK l d l.length) 1 [(5, .ptr 0 0)] (Nq l d (by omega)) rfl CW (.inl rfl) rfl (X1 _ _) rfl rfl (fun _ => True) (fun vs pre => [.live [.i (pre.length : Nat)], .gho [.ptr 0 0] vs]) (fun _ => rfl) (fun _ _ => rfl) (fun _ _ => rfl) trivial ?_ (fun _ _ => trivial) ?_
 ·intro vs lx pre x _ hpre
  have e : (((pre ++ [x]).length : Nat) : Int) = (pre.length : Nat) + 1 := by simp
  repeat' (first
   | refine W ?_
   | (apply T2.regs;(first | exact .inl rfl | exact .inr ⟨_, rfl⟩);rfl;rfl)|(apply T2.region;(first | exact .inl rfl | exact .inr ⟨_, rfl⟩);rfl;rfl)|(apply T2.cT;exact rfl;assumption)|(apply T2.cFn;exact rfl;assumption)|(apply T2.cTn;exact rfl;assumption)|(apply T2.cF;exact rfl;assumption) | apply T2.seq | apply T2.block|(apply T2.skip;first | change T2 _ _ _ _ _ _ _ | change Next _ _ _ _ _ _ | skip)|(apply T2.exit;first | change T2 _ _ _ _ _ _ _ | change Next _ _ _ _ _ _ | skip) | apply T2.ret | refine Y ?_|refine Za ?_
   | refine V ?_
   | (refine W2 ?_ ?_ <;> intro hc))
  all_goals exact .inl ⟨rfl, trivial, by rw [e];exact .live rfl (.gho rfl .nil)⟩
 ·intro vs
  rw [hlen]
  repeat' (first
   | refine W ?_
   | (apply T2.regs;(first | exact .inl rfl | exact .inr ⟨_, rfl⟩);rfl;rfl)|(apply T2.region;(first | exact .inl rfl | exact .inr ⟨_, rfl⟩);rfl;rfl)|(apply T2.cT;exact rfl;assumption)|(apply T2.cFn;exact rfl;assumption)|(apply T2.cTn;exact rfl;assumption)|(apply T2.cF;exact rfl;assumption) | apply T2.seq | apply T2.block|(apply T2.skip;first | change T2 _ _ _ _ _ _ _ | change Next _ _ _ _ _ _ | skip)|(apply T2.exit;first | change T2 _ _ _ _ _ _ _ | change Next _ _ _ _ _ _ | skip) | apply T2.ret | refine Y ?_
   | refine V ?_
   | (refine W2 ?_ ?_ <;> intro hc))
  all_goals exact ⟨A7 (by simp) Tryz.results169 rfl rfl, rfl⟩
/-! ### slices.Repeat -/
theorem Ky (m : Nat) (hm : m <= 1000) : Fn0 Tryz.prog 225 [.val (.int .u64 1), .val (.int .u64 (m : Nat))] (.tup [.val (.int .u64 0), .val (.int .u64 (m : Nat))]) := by
 have c := Jt 1 m (by decide) (by omega)
 rw [show 1 * m / 18446744073709551616 = 0 by omega, show 1 * m % 18446744073709551616 = m by omega] at c
 refine Fn0.of Tryz.func225 Tryz.ntmps225 rfl rfl rfl ?_
 simp only [A0]
 repeat' (first
  | refine W ?_
  | refine Y ?_
  | refine V ?_
  | (refine W2 ?_ ?_ <;> intro hc))
 all_goals exact D2 rfl rfl rfl
abbrev fz : List Lf := [.i 0, .i 1]
def zl (m q : Nat) : List Lf := (List.replicate q fz).flatten ++ List.replicate ((m - q) * 2) (.i 0)
theorem Ee (q : Nat) : (List.replicate q fz).flatten.length = q * 2 := by
 rw [B6 (n := 2) _ (fun r hr => by rw [List.eq_of_mem_replicate hr];rfl), List.length_replicate]
theorem A11 {m q : Nat} (h : q <= m) : (zl m q).length = m * 2 := by
 unfold zl
 rw [List.length_append, Ee, List.length_replicate]
 omega
theorem A12 (m q : Nat) : (zl m q).all Lf.one = true := by
 rw [List.all_eq_true]
 intro x hx
 rcases List.mem_append.1 hx with h | h
 ·obtain ⟨r, hr, hx2⟩ := List.mem_flatten.1 h
  rw [List.eq_of_mem_replicate hr] at hx2
  simp only [fz, List.mem_cons, List.not_mem_nil, or_false] at hx2
  rcases hx2 with rfl | rfl <;> rfl
 ·rw [List.eq_of_mem_replicate h];rfl
theorem Yg {q c : Nat} (h : c <= q) : ((List.replicate q fz).flatten).take (c * 2) = (List.replicate c fz).flatten := by
 have e : List.replicate q fz = List.replicate c fz ++ List.replicate (q - c) fz := by rw [List.replicate_append_replicate];congr 1;omega
 rw [e, List.flatten_append, List.take_append_of_le_length (by rw [Ee];omega), List.take_of_length_le (by rw [Ee];omega)]
theorem A01 {m q c : Nat} (h1 : q <= m) (h2 : c <= q) (h3 : c <= m - q) : I9 (zl m q) (q * 2) 0 (c * 2) = zl m (q + c) := by
 unfold I9
 rw [List.drop_zero]
 have t1 : (zl m q).take (q * 2) = (List.replicate q fz).flatten := by
  unfold zl
  rw [List.take_append_of_le_length (by rw [Ee];omega), List.take_of_length_le (by rw [Ee];omega)]
 have t2 : (zl m q).take (c * 2) = (List.replicate c fz).flatten := by
  unfold zl
  rw [List.take_append_of_le_length (by rw [Ee];omega), Yg h2]
 have t3 : (zl m q).drop (q * 2 + c * 2) = List.replicate ((m - (q + c)) * 2) (.i 0) := by
  unfold zl
  rw [List.drop_append, Ee, List.drop_of_length_le (by rw [Ee];omega), List.nil_append, List.drop_replicate]
  congr 1
  omega
 rw [t1, t2, t3]
 unfold zl
 rw [<- List.flatten_append, List.replicate_append_replicate]
theorem Ql {m : Nat} (h : 1 <= m) : ([fz].flatten.map AV.lf) ++ (List.replicate (m * 2) (AV.val (.int .i64 0))).drop (1 * 2) = (zl m 1).map .lf := by
 unfold zl
 rw [List.map_append, List.drop_replicate, List.map_replicate]
 have : m * 2 - 1 * 2 = (m - 1) * 2 := by omega
 rw [this]
 rfl
theorem A10 (m : Nat) : zl m m = (List.replicate m fz).flatten := by unfold zl;simp
set_option maxHeartbeats 16000000 in
theorem O0 (m : Nat) (hm : m <= 20) (h0 : 1 <= m) : FnOwn Tryz.prog 167 [.sl [fz], .i (m : Nat)] (List.replicate m fz) 2 := by
 have c := Ky m (by omega)
 have hrl : (List.replicate m fz).length = m := List.length_replicate
 refine FnOwn.of Tryz.func167 Tryz.ntmps167 rfl rfl rfl ?_
 simp only [A0]
 have n1 : ¬ ((m : Nat) : Int) < 0 := by omega
 have n2 : ¬ ((m : Nat) : Int) > 9223372036854775807 := by omega
 have w1 : IntKind.u64.wrap ((m : Nat) : Int) = (m : Nat) := by simp [IntKind.wrap, IntKind.signed, IntKind.bits];omega
 have w2 : IntKind.i64.wrap ((m : Nat) : Int) = (m : Nat) := by rw [IntKind.wrap_i64];omega
 repeat' (first
  | refine W ?_
  | refine Y ?_|(apply S.conv;exact rfl;(first | exact w1 | exact w2 | exact rfl);exact rfl)|(apply S.makeOc (n := m) (cells := List.replicate (m * 2) (.val (.int .i64 0)));exact rfl;exact rfl;exact Lp m;omega;exact rfl;exact rfl)|(apply S.copyO;(iterate 5 exact rfl);(simp only [List.length_cons, List.length_nil];omega);simp;exact Ad rfl;exact rfl)
  | refine V ?_
  | (refine W2 ?_ ?_ <;> intro hc))
 refine T.loopS (fun q => 1 <= q /\ q <= m) (fun q => m - q) (fun q => [(7, .own 0 0 m 2), (8, .i (q : Nat))]) (fun q => [.live ((zl m q).map .lf)]) 1 ⟨Nat.le_refl _, h0⟩ CW (by rw [<- Ql h0];exact .live ((congrArg (fun l => List.all l (AV.under _)) (Ql h0)).trans (Aw _ _)) .nil) ?_
 rintro q ⟨q1, q2⟩
 have hzl := A11 q2
 by_cases hlt : q < m
 ·have h1 : ((q : Nat) : Int) < ((m : Nat) : Int) := by omega
  have e2 : ((q : Nat) : Int).toNat = q := Int.toNat_natCast q
  obtain ⟨c, hc⟩ : ∃ c, c = Nat.min q (m - q) := ⟨_, rfl⟩
  have hc1 : c <= q := by rw [hc];exact Nat.min_le_left _ _
  have hc2 : c <= m - q := by rw [hc];exact Nat.min_le_right _ _
  have hc3 : 1 <= c := by rw [hc];exact Nat.le_min.2 ⟨q1, by omega⟩
  have hcp := A01 q2 hc1 hc2
  repeat' (first
   | refine W ?_
   | refine Y ?_|(refine T.ordersR (id := 9) A3 ?_)|(apply Ords.nil;decide +kernel)|(apply Ords.takeMove 0;exact rfl;decide +kernel;decide +kernel;decide +kernel;exact rfl;exact rfl)|(apply Ords.takeMove 1;exact rfl;decide +kernel;decide +kernel;decide +kernel;exact rfl;exact rfl)|(apply Ords.takeMove 2;exact rfl;decide +kernel;decide +kernel;decide +kernel;exact rfl;exact rfl)|(apply Ords.takeMove 4;exact rfl;decide +kernel;decide +kernel;decide +kernel;exact rfl;exact rfl)|(apply Ords.takeMove 5;exact rfl;decide +kernel;decide +kernel;decide +kernel;exact rfl;exact rfl)|(apply Ords.two (i := 3) (j := 6);decide +kernel;exact rfl;exact rfl)|(apply Ords.one (i := 3);decide +kernel;exact rfl)|(apply Ords.one (i := 6);decide +kernel;exact rfl)|(apply Ords.one (i := 7);decide +kernel;exact rfl)|(apply Ords.one (i := 8);decide +kernel;exact rfl)|(apply Ords.one (i := 9);decide +kernel;exact rfl)|(apply S.sliceFromO (o2 := q * 2) (l2 := m - q);(iterate 4 exact rfl);omega;(rw [e2];omega);(rw [e2]))|(apply S.sliceToO (l2 := q);(iterate 4 exact rfl);omega;exact e2)|(apply S.copyOO (p := q * 2) (s := 0) (ld := m - q) (ls := q) (cs := zl m q);(iterate 4 exact rfl);exact A12 _ _;omega;omega)|refine Za ?_
   | refine V ?_
   | (refine W2 ?_ ?_ <;> intro hc))
  all_goals (change Next _ _ _ _ _ _)
  all_goals exact Next.go (q + c) ⟨by omega, by omega⟩ (by omega) (by rw [show ((q + c : Nat) : Int) = (q : Int) + ((Nat.min q (m - q) : Nat) : Int) by rw [hc, Int.natCast_add]];exact CW) (by rw [<- hcp, hc];exact .live (Aw _ _) .nil)
 ·obtain rfl : q = m := by omega
  have h1 : ¬ ((q : Nat) : Int) < ((q : Nat) : Int) := by omega
  rw [A10]
  repeat' (first
   | refine W ?_
   | refine Y ?_
   | refine V ?_
   | (refine W2 ?_ ?_ <;> intro hc))
  all_goals (apply T.ret;change On _ _ _ _ _ _)
  all_goals exact ⟨.inr rfl, .inr (.inr ⟨0, .cons (.tmp (by rw [hrl];rfl)) .nil, rfl⟩)⟩
end Go.Proofs.YtcfjofhapbkmfaaGreatDoor
