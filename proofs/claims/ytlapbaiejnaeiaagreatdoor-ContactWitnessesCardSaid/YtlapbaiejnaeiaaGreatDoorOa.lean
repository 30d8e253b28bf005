/- Lemmas of the proof. -/
import Derived.Test.YtlapbaiejnaeiaaGreatDoorNz
import Derived.Test.YtlapbaiejnaeiaaGreatDoorNi
import Derived.Test.YtlapbaiejnaeiaaGreatDoorMj
import Derived.Test.YtlapbaiejnaeiaaGreatDoorNh
import Derived.Test.YtlapbaiejnaeiaaGreatDoorPl
import Derived.Test.YtlapbaiejnaeiaaGreatDoorNe
set_option linter.all false
set_option maxHeartbeats 64000000
namespace Go.Proofs.YtlapbaiejnaeiaaGreatDoor
open Go Go.RowKit
def a2n := @List.mem_singleton
def a6b := @List.pairwise_cons
def a8k := @List.mem_iff_getElem?
def b2k := @List.flatten_append
def b2l := @List.getElem_of_mem
def b2m := @List.map_congr_left
theorem Zz : FnGrow Tryz.prog 258 8 1000000 := by
 refine ⟨⟨_, Tryz.func258, by kernel_rfl, rfl⟩, fun m w h0 hm => ?_⟩
 have hS : HasS Tryz.prog 191 8 := inferInstance
 have hB : HasB Tryz.prog 191 64 := inferInstance
 have hZ : HasZ Tryz.prog 191 (.agg #[.int .i64 0, .int .i64 0, .int .i64 0, .int .i64 0, .int .i64 0, .int .i64 0, .int .i64 0, .int .i64 0]) := inferInstance
 obtain ⟨i, hi1, hi2⟩ : ∃ i, Tryz.prog.info? 191 = some i /\ i.size = 8 := by
  have := hS.out
  cases hh : Tryz.prog.info? 191 with
  | none => rw [hh] at this;cases this
  | some i => rw [hh] at this;exact ⟨i, rfl, by simpa using this⟩
 have hi3 : i.bytes = 64 := by have := hB.out;rw [hi1] at this;simpa using this
 have hi4 := hZ.out
 rw [hi1] at hi4
 have h := Go.Proofs.Any8.slices_Grow_grow Tryz.grow i _ hi1 hi4 (by omega) none 0 0 m [] w (a0l _) (by omega) (by rw [hi3];omega) (by omega) (by simp) (fun _ => rfl) (fun a h => by cases h)
 refine h.mono ?_
 rintro e w' ⟨rfl, rfl⟩
 have hge := Hy w (0 + m) 0 191
 refine ⟨w.heap.size, 0, _, _, _, 0, 0, rfl, ⟨rfl, rfl, rfl, by simp, fun k hk => Ai w.drew _ hk⟩, a0l _, B7 w.drew _, a0l _, ?_⟩
 have hz8 : ∀ n, (Builtin.zeroCells (Value.agg #[.int .i64 0, .int .i64 0, .int .i64 0, .int .i64 0, .int .i64 0, .int .i64 0, .int .i64 0, .int .i64 0]).cells n).size = n * 8 := fun n => by simp [Builtin.zeroCells, Value.cells]
 rw [a3i, a3i, hz8, hz8]
 show 0 + grownCap w (0 + m) 0 191 * 8 <= (#[] : Array Value).size + (0 + m - 0) * 8 + (grownCap w (0 + m) 0 191 - (0 + m)) * 8
 generalize grownCap w (0 + m) 0 191 = G at hge ⊢
 simp
 omega
abbrev Bl (l : List PcQ) : List AV := (l.map PcQ.row).flatten.map .lf
theorem L8 (l : List PcQ) : ∀ r ∈ l.map PcQ.row, r.length = 8 := by
 intro r hr
 obtain ⟨n, _, rfl⟩ := a1b.1 hr
 rfl
theorem Ac1 (l : List PcQ) : (l.map PcQ.row).flatten.all Lf.one = true := by
 rw [a0k]
 intro x hx
 obtain ⟨r, hr, hxr⟩ := a5q.1 hx
 obtain ⟨n, _, rfl⟩ := a1b.1 hr
 simp only [PcQ.row, a1j, a2e, or_false] at hxr
 rcases hxr with rfl | rfl | rfl | rfl | rfl | rfl | rfl | rfl <;> rfl
theorem Cc (l : List PcQ) : (Bl l).length = l.length * 8 := by
 rw [a0a, Bi _ (L8 l), a0a]
theorem C9 (x : PcQ) (l : List PcQ) : Bl (x :: l) = (x.row.map .lf) ++ Bl l := by simp [Bl]
theorem Eo (l m : List PcQ) : Bl (l ++ m) = Bl l ++ Bl m := by simp [Bl]
theorem Cw (n : Nat) (l : List PcQ) : (Bl l).all (AV.under n) = true := Aj n _
theorem P7 (l : List PcQ) : OwnRows (Bl l) 0 l.length 8 (l.map PcQ.row) := by
 have := OwnRows.of (l.map PcQ.row).flatten (L8 l) rfl
 rw [a0a] at this
 exact this
abbrev Hs (c : List PcQ) : List Lf := [.sl (c.map PcQ.row)]
theorem V4 {α : Type} (cs : List (List α)) (i : Nat) (c : List α) (h : cs[i]? = some c) : (cs.take (i + 1)).flatten = (cs.take i).flatten ++ c := by
 rw [a0x, h, b2k]
 simp
theorem V3 {α : Type} (cs : List (List α)) (i : Nat) : (cs.take i).flatten.length <= cs.flatten.length := by
 have h : cs.flatten = (cs.take i).flatten ++ (cs.drop i).flatten := by rw [<- b2k, a4i]
 rw [h, a0q]
 omega
theorem N0 (cs : List (List PcQ)) (h0 : 0 < cs.flatten.length) (hn : cs.flatten.length <= 1000) (hm : cs.length <= 1000) : Fn0 Tryz.prog 249 [.sl (cs.map Hs)] (.sl (cs.flatten.map PcQ.row)) := by
 have hle : (cs.map Hs).length = cs.length := a0a _
 have hg := Zz
 refine Fn0.of Tryz.func249 Tryz.ntmps249 rfl rfl rfl ?_
 simp only [A2]
 repeat' (first|refine W ?_|refine V ?_|(refine W2 ?_ ?_<;>intro hc))
 refine p0d (fun i => i <= cs.length) (fun i => cs.length - i) (fun i => [(11, .i i), (3, .i (cs.take i).flatten.length), (10, .i (cs.map Hs).length), (9, .sl (cs.map Hs)), (0, .sl (cs.map Hs))]) (fun i => []) 0 (a0o _) CV .nil ?_
 intro i hi
 by_cases hlt : (i : Int) < ((cs.map Hs).length : Nat)
 ·obtain ⟨c, hc⟩ : ∃ c, cs[i]? = some c := ⟨cs[i], a0b (by omega)⟩
  have hb : (cs.map Hs)[((i : Nat) : Int).toNat]? = some (Hs c) := by rw [a0v, a0e, hc];rfl
  have hfs := V4 cs i c hc
  have hfp := V3 cs (i + 1)
  have hfl : (cs.take (i + 1)).flatten.length = (cs.take i).flatten.length + c.length := by rw [hfs, a0q]
  have hcl : (c.map PcQ.row).length = c.length := a0a _
  have hneg : ¬ ((((cs.take i).flatten.length : Nat) : Int) + ((c.map PcQ.row).length : Nat) < 0) := by omega
  repeat' (first|refine W ?_|refine Za ?_|(apply S.indexR;(iterate 3 exact rfl);exact hb;omega;exact rfl)|refine V ?_|(refine W2 ?_ ?_<;>intro hc))
  change Next _ _ _ _ _ _
  exact Next.go (i + 1) (by omega) (by omega) (.cons (by rw [show (((i + 1 : Nat) : Int)) = (i : Int) + 1 by omega];rfl) rfl (.cons (by rw [hfl, <- hcl, show ((((cs.take i).flatten.length + (c.map PcQ.row).length : Nat) : Int)) = ((cs.take i).flatten.length : Int) + ((c.map PcQ.row).length : Nat) by omega];rfl) rfl CV)) .nil
 ·obtain rfl : i = cs.length := by omega
  rw [a1w]
  repeat' (first|refine W ?_|(apply p3r 0 (mm := cs.flatten.length) hg;(iterate 7 exact rfl);omega)|refine V ?_|(refine W2 ?_ ?_<;>intro hc))
  refine p0d (fun i => i <= cs.length) (fun i => cs.length - i) (fun i => [(27, .i i), (6, .own 0 0 (cs.take i).flatten.length 8), (26, .i (cs.map Hs).length), (25, .sl (cs.map Hs))]) (fun i => [.live (Bl (cs.take i).flatten)]) 0 (a0o _) CV (.live rfl .nil) ?_
  intro i hi
  by_cases hlt : (i : Int) < ((cs.map Hs).length : Nat)
  ·obtain ⟨c, hc⟩ : ∃ c, cs[i]? = some c := ⟨cs[i], a0b (by omega)⟩
   have hb : (cs.map Hs)[((i : Nat) : Int).toNat]? = some (Hs c) := by rw [a0v, a0e, hc];rfl
   have hfs := V4 cs i c hc
   have hfp := V3 cs (i + 1)
   have hfl : (cs.take (i + 1)).flatten.length = (cs.take i).flatten.length + c.length := by rw [hfs, a0q]
   have hcl : (c.map PcQ.row).length = c.length := a0a _
   repeat' (first|refine W ?_|refine Za ?_|(apply S.indexR;(iterate 3 exact rfl);exact hb;omega;exact rfl)|(apply p0p;(iterate 8 exact rfl);exact Cc _;exact L8 c;exact Ac1 c;exact B6 _ _;omega;omega)|refine V ?_|(refine W2 ?_ ?_<;>intro hc))
   change Next _ _ _ _ _ _
   exact Next.go (i + 1) (by omega) (by omega) (.cons (by rw [show (((i + 1 : Nat) : Int)) = (i : Int) + 1 by omega];rfl) rfl (.cons (by rw [hfl, <- hcl];rfl) rfl CV)) (by rw [hfs, Eo];exact .live (by rw [<- Eo];exact Cw _ _) .nil)
  ·obtain rfl : i = cs.length := by omega
   rw [a1w]
   repeat' (first|refine W ?_|(refine T.freeze 6 rfl rfl (P7 _) ?_)|refine V ?_|(refine W2 ?_ ?_<;>intro hc))
   exact H6 (by simp) Tryz.results249 rfl (.one (.one (.lf _)))
def Kq : List Rat -> Rat -> List Rat
 | [], t => [t]
 | x :: l, t => if x < t then x :: Kq l t else if x = t then x :: l else t :: x :: l
theorem Y7 (l : List Rat) (t x : Rat) : x ∈ Kq l t ↔ x = t \/ x ∈ l := by
 induction l with
 | nil => simp [Kq]
 | cons y l ih =>
  unfold Kq
  split
  ·rw [a1j, ih, a1j];grind
  ·split
   ·rename_i h;subst h;simp
   ·simp
theorem A7v (l : List Rat) (t : Rat) (h : l.Pairwise (· < ·)) : (Kq l t).Pairwise (· < ·) := by
 induction l with
 | nil => simp [Kq]
 | cons y l ih =>
  obtain ⟨h1, h2⟩ := a6b.1 h
  unfold Kq
  split
  ·rename_i hlt
   refine a6b.2 ⟨fun z hz => ?_, ih h2⟩
   rcases (Y7 l t z).1 hz with rfl | hz
   ·exact hlt
   ·exact h1 z hz
  ·split
   ·exact h
   ·refine a6b.2 ⟨fun z hz => ?_, h⟩
    rcases a1j.1 hz with rfl | hz
    ·grind
    ·have := h1 z hz
     grind
def Jt (l : List Rat) : List Rat := l.foldl Kq []
theorem A5w (l m : List Rat) (x : Rat) : x ∈ l.foldl Kq m ↔ x ∈ m \/ x ∈ l := by
 induction l generalizing m with
 | nil => simp
 | cons y l ih => rw [a4t, ih, Y7, a1j];grind
theorem A48 (l m : List Rat) (h : m.Pairwise (· < ·)) : (l.foldl Kq m).Pairwise (· < ·) := by
 induction l generalizing m with
 | nil => exact h
 | cons y l ih => exact ih _ (A7v _ _ h)
theorem Ei (l : List Rat) (x : Rat) : x ∈ Jt l ↔ x ∈ l := by unfold Jt;rw [A5w];simp
theorem Ll (l : List Rat) : (Jt l).Pairwise (· < ·) := A48 l [] (by simp)
theorem Wr : ∀ (l m : List Rat), l.Pairwise (· < ·) -> m.Pairwise (· < ·) -> (∀ x, x ∈ l ↔ x ∈ m) -> l = m
 | [], [], _, _, _ => rfl
 | [], y :: m, _, _, h => absurd ((h y).2 (by simp)) (by simp)
 | x :: l, [], _, _, h => absurd ((h x).1 (by simp)) (by simp)
 | x :: l, y :: m, hl, hm, h => by
  obtain ⟨l1, l2⟩ := a6b.1 hl
  obtain ⟨m1, m2⟩ := a6b.1 hm
  have hxy : x = y := by
   rcases a1j.1 ((h x).1 (by simp)) with e | e
   ·exact e
   ·rcases a1j.1 ((h y).2 (by simp)) with e2 | e2
    ·exact e2.symm
    ·have := l1 y e2
     have := m1 x e
     grind
  subst hxy
  refine congrArg (x :: ·) (Wr l m l2 m2 fun z => ⟨fun hz => ?_, fun hz => ?_⟩)
  ·rcases a1j.1 ((h z).1 (a8x _ hz)) with e | e
   ·subst e;exact absurd (l1 z hz) (by grind)
   ·exact e
  ·rcases a1j.1 ((h z).2 (a8x _ hz)) with e | e
   ·subst e;exact absurd (m1 z hz) (by grind)
   ·exact e
theorem A4l (l : List Rat) (hs : l.Pairwise (· <= ·)) : ∀ (n : Nat), n <= l.length -> (cN l n).Pairwise (· < ·) /\ ∀ x, x ∈ cN l n ↔ x ∈ l.take n
 | 0, _ => by simp [cN]
 | n + 1, h => by
  obtain ⟨h1, h2⟩ := A4l l hs n (by omega)
  have hx : l[n]? = some l[n] := a0b (by omega)
  have htk : l.take (n + 1) = l.take n ++ [l[n]] := by rw [a0x, hx];rfl
  by_cases hd : n ≠ 0 /\ l[n - 1]? = some l[n]
  ·rw [Oq hx hd.1 hd.2]
   refine ⟨h1, fun x => ?_⟩
   rw [h2, htk, a0u, a2n]
   refine ⟨.inl, fun hh => hh.elim id fun e => ?_⟩
   rw [a8k]
   exact ⟨n - 1, by rw [a5d, if_pos (by omega), hd.2, e]⟩
  ·rw [Oo hx fun h0 e => hd ⟨h0, e⟩]
   refine ⟨a4p.2 ⟨h1, by simp, fun y hy z hz => ?_⟩, fun x => ?_⟩
   ·rw [a2n] at hz
    subst hz
    have hy' := (h2 y).1 hy
    obtain ⟨j, hj, hjy⟩ := b2l hy'
    rw [a0t] at hj
    rw [List.getElem_take] at hjy
    subst hjy
    have hpw := a4n.1 hs
    have g1 : l[j] <= l[n - 1]'(by omega) := by
     by_cases e : j = n - 1
     ·subst e;exact a3j
     ·exact hpw j (n - 1) _ _ (by omega)
    have g2 : l[n - 1]'(by omega) <= l[n] := hpw (n - 1) n _ _ (by omega)
    have g3 : l[n - 1]'(by omega) ≠ l[n] := fun e => hd ⟨by omega, by rw [a0b (by omega), e]⟩
    grind
   ·rw [a0u, h2, htk, a0u]
theorem Ad6 (L l : List Rat) (hp : l.Perm L) (hs : l.Pairwise (· <= ·)) : cN l l.length = Jt L := by
 obtain ⟨h1, h2⟩ := A4l l hs l.length (a0l _)
 refine Wr _ _ h1 (Ll L) fun x => ?_
 rw [h2, a1w, Ei, hp.mem_iff]
theorem L1 (L l : List Rat) (hp : l.Perm L) (hs : l.Pairwise (· <= ·)) (hn : L.length <= 1000000) : FnMut Tryz.prog 251 2 L.length (C6 l) (Jt L).length (C6 (Jt L)) := by
 have h := W9 l (by rw [hp.length_eq];exact hn)
 rw [Ad6 L l hp hs, hp.length_eq] at h
 exact h
def Ao (a b : List PcQ) : List Rat := Jt ((a ++ b).map (·.f))
def jP (op : Rat -> Rat -> Rat) (a b : List PcQ) (t : Rat) : PcQ := ⟨t, kQ (op (atP a t).a (atP b t).a), kQ (op (atP a t).b (atP b t).b), kQ (op (atP a t).c (atP b t).c)⟩
def jE (op : Rat -> Rat -> Rat) (a b : List PcQ) (t : Rat) (e : Int) : Int := kE (op (atP a t).c (atP b t).c) (kE (op (atP a t).b (atP b t).b) (kE (op (atP a t).a (atP b t).a) (F2 b t (F2 a t e))))
def jEs (op : Rat -> Rat -> Rat) (a b : List PcQ) (l : List Rat) : Int := l.foldl (fun e t => jE op a b t e) 0
def Wn (op : Rat -> Rat -> Rat) (a b : List PcQ) : AV :=
 if 200 < (Ao a b).length then .tup [.sl [], .i 4] else if jEs op a b (Ao a b) = 0 then .tup [.sl (((Ao a b).map (jP op a b)).map PcQ.row), .i 0] else .tup [.sl [], .i (jEs op a b (Ao a b))]
theorem A9r (l : List PcQ) (k : Nat) (hl : okC l) : (A8 l k).ok := by
 unfold A8
 rw [a0p]
 cases h : l[k]? with
 | none => exact ⟨Fits.zero, Fits.zero, Fits.zero, Fits.zero⟩
 | some x => exact hl x (a0c h)
theorem Ol (l : List PcQ) (t : Rat) (hl : okC l) (h0 : l ≠ []) (ht : Fits t) : (atP l t).ok := by
 have hp : ∀ k, (A8 l k).ok := fun k => A9r l k hl
 unfold atP
 split
 ·exact ⟨ht, (hp _).a, Fits.zero, Fits.zero⟩
 ·refine ⟨ht, ?_, ?_, (hp _).c⟩
  ·unfold atQ;split <;> first | exact (hp _).a | exact Cj _
  ·unfold atS;split <;> first | exact Fits.zero | exact Cj _
theorem Kt (a b : List PcQ) (ha : okC a) (hb : okC b) : ∀ t ∈ Ao a b, Fits t := fun t ht => by
 rw [Ao, Ei] at ht
 obtain ⟨p, hp, rfl⟩ := a1b.1 ht
 rcases a0u.1 hp with h | h
 ·exact (ha p h).f
 ·exact (hb p h).f
theorem A66 (l : List Rat) : OwnRows (fa l) 0 l.length 2 (l.map frR) := by
 have := OwnRows.of (l.map frR).flatten (Tz l) rfl
 rw [a0a] at this
 exact this
end Go.Proofs.YtlapbaiejnaeiaaGreatDoor
namespace Go.Proofs.YtlapbaiejnaeiaaGreatDoor
open Go.RowKit
/-! ### Pieces, values -/
def okV (p : PcQ) (u : Rat) : Prop := Fits (p.c * u) /\ Fits (p.b + p.c * u) /\ Fits ((p.b + p.c * u) * u) /\ Fits (p.a + (p.b + p.c * u) * u)
instance (p : PcQ) (u : Rat) : Decidable (okV p u) := by unfold okV;exact inferInstance
def I7 (p : PcQ) (u : Rat) : Rat := p.a + (p.b + p.c * u) * u
def okS (p : PcQ) (u : Rat) : Prop := Fits (p.c * u) /\ Fits (2 * (p.c * u)) /\ Fits (p.b + 2 * (p.c * u))
instance (p : PcQ) (u : Rat) : Decidable (okS p u) := by unfold okS;exact inferInstance
def Yx (p : PcQ) (u : Rat) : Rat := p.b + 2 * (p.c * u)
def okA (x : PcQ) (t : Rat) : Prop := Fits (t - x.f) /\ okV x (t - x.f)
instance (x : PcQ) (t : Rat) : Decidable (okA x t) := by unfold okA;exact inferInstance
theorem Du {r : Rat} (h : Fits r) : kQ r = r := if_pos h
theorem Dt {r : Rat} {e : Int} (h : Fits r) : kE r e = e := if_pos h
theorem E6 {r : Rat} (h : ¬ Fits r) : kE r 0 = 5 := by unfold kE;rw [if_neg h, if_pos rfl]
theorem Az (r : Rat) : kE r 5 = 5 := by
 unfold kE
 split
 ·rfl
 ·rw [if_neg (by decide)]
theorem Oi (p : PcQ) (u : Rat) : Ho p u 5 = 5 := by simp only [Ho, Az]
theorem Kh (p : PcQ) (u : Rat) : Jy p u 5 = 5 := by simp only [Jy, Az]
theorem Acq {p : PcQ} {u : Rat} (h : okV p u) (e : Int) : Kv p u = I7 p u /\ Ho p u e = e := by
 obtain ⟨h1, h2, h3, h4⟩ := h
 unfold Kv Ho A3z Uk Rl F4 I7
 rw [Du h1, Du h2, Du h3, Du h4, Dt h4, Dt h3, Dt h2, Dt h1]
 exact ⟨rfl, rfl⟩
theorem Acp {p : PcQ} {u : Rat} (h : ¬ okV p u) : Ho p u 0 = 5 := by
 unfold Ho A3z Uk Rl F4
 by_cases h1 : Fits (p.c * u)
 ·rw [Dt h1, Du h1]
  by_cases h2 : Fits (p.b + p.c * u)
  ·rw [Dt h2, Du h2]
   by_cases h3 : Fits ((p.b + p.c * u) * u)
   ·rw [Dt h3, Du h3]
    exact E6 fun h4 => h ⟨h1, h2, h3, h4⟩
   ·rw [E6 h3, Az]
  ·rw [E6 h2, Az, Az]
 ·rw [E6 h1, Az, Az, Az]
theorem Aca {p : PcQ} {u : Rat} (h : okS p u) (e : Int) : Oa p u = Yx p u /\ Jy p u e = e := by
 obtain ⟨h1, h2, h3⟩ := h
 unfold Oa Jy A3q O9 F4 Yx
 rw [Du h1, Du h2, Du h3, Dt h3, Dt h2, Dt h1]
 exact ⟨rfl, rfl⟩
theorem Ac9 {p : PcQ} {u : Rat} (h : ¬ okS p u) : Jy p u 0 = 5 := by
 unfold Jy A3q O9 F4
 by_cases h1 : Fits (p.c * u)
 ·rw [Dt h1, Du h1]
  by_cases h2 : Fits (2 * (p.c * u))
  ·rw [Dt h2, Du h2]
   exact E6 fun h3 => h ⟨h1, h2, h3⟩
  ·rw [E6 h2, Az]
 ·rw [E6 h1, Az, Az]
def Be (l : List PcQ) : Prop := ∀ i, i + 1 < l.length -> (A8 l i).f < (A8 l (i + 1)).f
theorem A53 {l : List PieceR} (h : Nj l) : okC (l.map toQ) /\ (l.map toQ).map PcQ.row = l.map PieceR.row /\ l.map toQ ≠ [] /\ Be (l.map toQ) := by
 obtain ⟨h1, h2, h3⟩ := h
 refine ⟨fun p hp => ?_, ?_, fun e => ?_, fun i hi => ?_⟩
 ·obtain ⟨x, hx, rfl⟩ := a1b.1 hp
  exact (h2 x hx).ok.1
 ·rw [a8j]
  exact b2m fun x hx => (h2 x hx).ok.2
 ·have := congrArg List.length e
  rw [a0a, a0n] at this
  omega
 ·rw [a0a] at hi
  have a1 : (l.map toQ)[i]? = some (toQ (l[i]'(by omega))) := by rw [a0e, a0b (by omega)];rfl
  have a2 : (l.map toQ)[i + 1]? = some (toQ (l[i + 1]'(by omega))) := by rw [a0e, a0b (by omega)];rfl
  rw [Ck a1, Ck a2, <- Gm (a0b (by omega)), <- Gm (a0b (by omega))]
  exact h3 i (by omega)
def lsA (l : List PcQ) (fr : Rat) (i : Nat) : Rat := if (A8 l i).f < fr then fr else (A8 l i).f
def Ae5 (l : List PcQ) (fr te : Rat) (i : Nat) : Prop := ptB l te i < lsA l fr i \/ (lsA l fr i = ptB l te i /\ i + 1 < l.length /\ (A8 l (i + 1)).f = lsA l fr i) \/ (A8 l i).c.num <= 0
instance (l : List PcQ) (fr te : Rat) (i : Nat) : Decidable (Ae5 l fr te i) := by unfold Ae5;exact inferInstance
theorem Wt {l : List PcQ} {t : Rat} (hl : okC l) (h0 : l ≠ []) : Fits (atQ l t) := by
 unfold atQ
 split
 ·have h : l[0]? = some (l[0]'(a1n.2 h0)) := a0b _
  rw [Ck h]
  exact (hl _ (a0c h)).a
 ·exact Cj _
end Go.Proofs.YtlapbaiejnaeiaaGreatDoor
