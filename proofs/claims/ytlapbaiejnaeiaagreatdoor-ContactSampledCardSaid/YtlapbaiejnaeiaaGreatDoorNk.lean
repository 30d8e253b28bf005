/- Lemmas of the proof. -/
import Derived.Test.YtlapbaiejnaeiaaGreatDoorNh
import Derived.Test.YtlapbaiejnaeiaaGreatDoorNi
import Derived.Test.YtlapbaiejnaeiaaGreatDoorNz
import Derived.Test.YtlapbaiejnaeiaaGreatDoorMk
import Derived.Test.YtlapbaiejnaeiaaGreatDoorPl
import Derived.Test.YtlapbaiejnaeiaaGreatDoorNe
set_option linter.all false
set_option maxHeartbeats 64000000
namespace Go.Proofs.YtlapbaiejnaeiaaGreatDoor
open Go.RowKit
def a2n := @List.mem_singleton
def a6e := @List.pairwise_cons
def b1l := @List.mem_iff_getElem?
def b2l := @List.flatten_append
def b2m := @List.getElem_of_mem
def b2n := @List.map_congr_left
/-! ### Pieces, values -/
def okV (p : PcQ) (u : Rat) : Prop := Fits (p.c * u) /\ Fits (p.b + p.c * u) /\ Fits ((p.b + p.c * u) * u) /\ Fits (p.a + (p.b + p.c * u) * u)
instance (p : PcQ) (u : Rat) : Decidable (okV p u) := by unfold okV;exact inferInstance
def Kf (p : PcQ) (u : Rat) : Rat := p.a + (p.b + p.c * u) * u
def okS (p : PcQ) (u : Rat) : Prop := Fits (p.c * u) /\ Fits (2 * (p.c * u)) /\ Fits (p.b + 2 * (p.c * u))
instance (p : PcQ) (u : Rat) : Decidable (okS p u) := by unfold okS;exact inferInstance
def Z1 (p : PcQ) (u : Rat) : Rat := p.b + 2 * (p.c * u)
theorem E0 {r : Rat} (h : Fits r) : kQ r = r := if_pos h
theorem Dz {r : Rat} {e : Int} (h : Fits r) : kE r e = e := if_pos h
theorem Ef {r : Rat} (h : ¬ Fits r) : kE r 0 = 5 := by unfold kE;rw [if_neg h, if_pos rfl]
theorem B8 (r : Rat) : kE r 5 = 5 := by
 unfold kE
 split
 ·rfl
 ·rw [if_neg (by decide)]
theorem P7 (p : PcQ) (u : Rat) : I2 p u 5 = 5 := by simp only [I2, B8]
theorem Kv (p : PcQ) (u : Rat) : Kb p u 5 = 5 := by simp only [Kb, B8]
theorem Ae1 {p : PcQ} {u : Rat} (h : okV p u) (e : Int) : La p u = Kf p u /\ I2 p u e = e := by
 obtain ⟨h1, h2, h3, h4⟩ := h
 unfold La I2 A4i Us S6 Fi Kf
 rw [E0 h1, E0 h2, E0 h3, E0 h4, Dz h4, Dz h3, Dz h2, Dz h1]
 exact ⟨rfl, rfl⟩
theorem Ae0 {p : PcQ} {u : Rat} (h : ¬ okV p u) : I2 p u 0 = 5 := by
 unfold I2 A4i Us S6 Fi
 by_cases h1 : Fits (p.c * u)
 ·rw [Dz h1, E0 h1]
  by_cases h2 : Fits (p.b + p.c * u)
  ·rw [Dz h2, E0 h2]
   by_cases h3 : Fits ((p.b + p.c * u) * u)
   ·rw [Dz h3, E0 h3]
    exact Ef fun h4 => h ⟨h1, h2, h3, h4⟩
   ·rw [Ef h3, B8]
  ·rw [Ef h2, B8, B8]
 ·rw [Ef h1, B8, B8, B8]
theorem Adf {p : PcQ} {u : Rat} (h : okS p u) (e : Int) : Oy p u = Z1 p u /\ Kb p u e = e := by
 obtain ⟨h1, h2, h3⟩ := h
 unfold Oy Kb A4a Ox Fi Z1
 rw [E0 h1, E0 h2, E0 h3, Dz h3, Dz h2, Dz h1]
 exact ⟨rfl, rfl⟩
theorem Ade {p : PcQ} {u : Rat} (h : ¬ okS p u) : Kb p u 0 = 5 := by
 unfold Kb A4a Ox Fi
 by_cases h1 : Fits (p.c * u)
 ·rw [Dz h1, E0 h1]
  by_cases h2 : Fits (2 * (p.c * u))
  ·rw [Dz h2, E0 h2]
   exact Ef fun h3 => h ⟨h1, h2, h3⟩
  ·rw [Ef h2, B8]
 ·rw [Ef h1, B8, B8]
def Aj (l : List PcQ) : Prop := ∀ i, i + 1 < l.length -> (Ad l i).f < (Ad l (i + 1)).f
theorem A5r {l : List PieceR} (h : O1 l) : okC (l.map toQ) /\ (l.map toQ).map PcQ.row = l.map PieceR.row /\ l.map toQ ≠ [] /\ Aj (l.map toQ) := by
 obtain ⟨h1, h2, h3⟩ := h
 refine ⟨fun p hp => ?_, ?_, fun e => ?_, fun i hi => ?_⟩
 ·obtain ⟨x, hx, rfl⟩ := a1a.1 hp
  exact (h2 x hx).ok.1
 ·rw [a8l]
  exact b2n fun x hx => (h2 x hx).ok.2
 ·have := congrArg List.length e
  rw [a0a, a0o] at this
  omega
 ·rw [a0a] at hi
  have a1 : (l.map toQ)[i]? = some (toQ (l[i]'(by omega))) := by rw [a0e, a0c (by omega)];rfl
  have a2 : (l.map toQ)[i + 1]? = some (toQ (l[i + 1]'(by omega))) := by rw [a0e, a0c (by omega)];rfl
  rw [C9 a1, C9 a2, <- H2 (a0c (by omega)), <- H2 (a0c (by omega))]
  exact h3 i (by omega)
end Go.Proofs.YtlapbaiejnaeiaaGreatDoor
namespace Go.Proofs.YtlapbaiejnaeiaaGreatDoor
open Go Go.RowKit
theorem A05 : FnGrow Tryz.prog 258 8 1000000 := by
 refine ⟨⟨_, Tryz.func258, by kernel_rfl, rfl⟩, fun m w h0 hm => ?_⟩
 have hS : HasS Tryz.prog 191 8 := inferInstance
 have hB : HasB Tryz.prog 191 64 := inferInstance
 have hZ : HasZ Tryz.prog 191 (.agg #[.int .i64 0, .int .i64 0, .int .i64 0, .int .i64 0, .int .i64 0, .int .i64 0, .int .i64 0, .int .i64 0]) := inferInstance
 obtain ⟨i, hi1, hi2⟩ : ∃ i, Tryz.prog.info? 191 = some i /\ i.size = 8 := by
  have := hS.out
  cases hh : Tryz.prog.info? 191 with
  | none => rw [hh] at this;cases this
  | some i => rw [hh] at this;exact ⟨i, rfl, by simpa using this⟩
 have hi3 : i.bytes = 64 := by have := hB.out;rw [hi1] at this;simpa using this
 have hi4 := hZ.out
 rw [hi1] at hi4
 have h := Go.Proofs.Any8.slices_Grow_grow Tryz.grow i _ hi1 hi4 (by omega) none 0 0 m [] w (a0m _) (by omega) (by rw [hi3];omega) (by omega) (by simp) (fun _ => rfl) (fun a h => by cases h)
 refine h.mono ?_
 rintro e w' ⟨rfl, rfl⟩
 have hge := Ie w (0 + m) 0 191
 refine ⟨w.heap.size, 0, _, _, _, 0, 0, rfl, ⟨rfl, rfl, rfl, by simp, fun k hk => Am w.drew _ hk⟩, a0m _, Bh w.drew _, a0m _, ?_⟩
 have hz8 : ∀ n, (Builtin.zeroCells (Value.agg #[.int .i64 0, .int .i64 0, .int .i64 0, .int .i64 0, .int .i64 0, .int .i64 0, .int .i64 0, .int .i64 0]).cells n).size = n * 8 := fun n => by simp [Builtin.zeroCells, Value.cells]
 rw [a7w, a7w, hz8, hz8]
 show 0 + grownCap w (0 + m) 0 191 * 8 <= (#[] : Array Value).size + (0 + m - 0) * 8 + (grownCap w (0 + m) 0 191 - (0 + m)) * 8
 generalize grownCap w (0 + m) 0 191 = G at hge ⊢
 simp
 omega
abbrev Bk (l : List PcQ) : List AV := (l.map PcQ.row).flatten.map .lf
theorem Lr (l : List PcQ) : ∀ r ∈ l.map PcQ.row, r.length = 8 := by
 intro r hr
 obtain ⟨n, _, rfl⟩ := a1a.1 hr
 rfl
theorem Ad6 (l : List PcQ) : (l.map PcQ.row).flatten.all Lf.one = true := by
 rw [a0k]
 intro x hx
 obtain ⟨r, hr, hxr⟩ := a8h.1 hx
 obtain ⟨n, _, rfl⟩ := a1a.1 hr
 simp only [PcQ.row, a1i, a2r, or_false] at hxr
 rcases hxr with rfl | rfl | rfl | rfl | rfl | rfl | rfl | rfl <;> rfl
theorem Ck (l : List PcQ) : (Bk l).length = l.length * 8 := by
 rw [a0a, Bc _ (Lr l), a0a]
theorem Ci (x : PcQ) (l : List PcQ) : Bk (x :: l) = (x.row.map .lf) ++ Bk l := by simp [Bk]
theorem F0 (l m : List PcQ) : Bk (l ++ m) = Bk l ++ Bk m := by simp [Bk]
theorem Cz (n : Nat) (l : List PcQ) : (Bk l).all (AV.under n) = true := Ah n _
theorem Pv (l : List PcQ) : OwnRows (Bk l) 0 l.length 8 (l.map PcQ.row) := by
 have := OwnRows.of (l.map PcQ.row).flatten (Lr l) rfl
 rw [a0a] at this
 exact this
abbrev I7 (c : List PcQ) : List Lf := [.sl (c.map PcQ.row)]
theorem V9 {α : Type} (cs : List (List α)) (i : Nat) (c : List α) (h : cs[i]? = some c) : (cs.take (i + 1)).flatten = (cs.take i).flatten ++ c := by
 rw [a0w, h, b2l]
 simp
theorem V8 {α : Type} (cs : List (List α)) (i : Nat) : (cs.take i).flatten.length <= cs.flatten.length := by
 have h : cs.flatten = (cs.take i).flatten ++ (cs.drop i).flatten := by rw [<- b2l, a6u]
 rw [h, a0q]
 omega
theorem Nj (cs : List (List PcQ)) (h0 : 0 < cs.flatten.length) (hn : cs.flatten.length <= 1000) (hm : cs.length <= 1000) : Fn0 Tryz.prog 249 [.sl (cs.map I7)] (.sl (cs.flatten.map PcQ.row)) := by
 have hle : (cs.map I7).length = cs.length := a0a _
 have hg := A05
 refine Fn0.of Tryz.func249 Tryz.ntmps249 rfl rfl rfl ?_
 simp only [A1]
 repeat' (first|refine W ?_|refine V ?_|(refine W2 ?_ ?_<;>intro hc))
 refine p0d (fun i => i <= cs.length) (fun i => cs.length - i) (fun i => [(11, .i i), (3, .i (cs.take i).flatten.length), (10, .i (cs.map I7).length), (9, .sl (cs.map I7)), (0, .sl (cs.map I7))]) (fun i => []) 0 (a0n _) CV .nil ?_
 intro i hi
 by_cases hlt : (i : Int) < ((cs.map I7).length : Nat)
 ·obtain ⟨c, hc⟩ : ∃ c, cs[i]? = some c := ⟨cs[i], a0c (by omega)⟩
  have hb : (cs.map I7)[((i : Nat) : Int).toNat]? = some (I7 c) := by rw [a0s, a0e, hc];rfl
  have hfs := V9 cs i c hc
  have hfp := V8 cs (i + 1)
  have hfl : (cs.take (i + 1)).flatten.length = (cs.take i).flatten.length + c.length := by rw [hfs, a0q]
  have hcl : (c.map PcQ.row).length = c.length := a0a _
  have hneg : ¬ ((((cs.take i).flatten.length : Nat) : Int) + ((c.map PcQ.row).length : Nat) < 0) := by omega
  repeat' (first|refine W ?_|refine Za ?_|(apply S.indexR;(iterate 3 exact rfl);exact hb;omega;exact rfl)|refine V ?_|(refine W2 ?_ ?_<;>intro hc))
  change Next _ _ _ _ _ _
  exact Next.go (i + 1) (by omega) (by omega) (.cons (by rw [show (((i + 1 : Nat) : Int)) = (i : Int) + 1 by omega];rfl) rfl (.cons (by rw [hfl, <- hcl, show ((((cs.take i).flatten.length + (c.map PcQ.row).length : Nat) : Int)) = ((cs.take i).flatten.length : Int) + ((c.map PcQ.row).length : Nat) by omega];rfl) rfl CV)) .nil
 ·obtain rfl : i = cs.length := by omega
  rw [a1s]
  repeat' (first|refine W ?_|(apply p3q 0 (mm := cs.flatten.length) hg;(iterate 7 exact rfl);omega)|refine V ?_|(refine W2 ?_ ?_<;>intro hc))
  refine p0d (fun i => i <= cs.length) (fun i => cs.length - i) (fun i => [(27, .i i), (6, .own 0 0 (cs.take i).flatten.length 8), (26, .i (cs.map I7).length), (25, .sl (cs.map I7))]) (fun i => [.live (Bk (cs.take i).flatten)]) 0 (a0n _) CV (.live rfl .nil) ?_
  intro i hi
  by_cases hlt : (i : Int) < ((cs.map I7).length : Nat)
  ·obtain ⟨c, hc⟩ : ∃ c, cs[i]? = some c := ⟨cs[i], a0c (by omega)⟩
   have hb : (cs.map I7)[((i : Nat) : Int).toNat]? = some (I7 c) := by rw [a0s, a0e, hc];rfl
   have hfs := V9 cs i c hc
   have hfp := V8 cs (i + 1)
   have hfl : (cs.take (i + 1)).flatten.length = (cs.take i).flatten.length + c.length := by rw [hfs, a0q]
   have hcl : (c.map PcQ.row).length = c.length := a0a _
   repeat' (first|refine W ?_|refine Za ?_|(apply S.indexR;(iterate 3 exact rfl);exact hb;omega;exact rfl)|(apply p0n;(iterate 8 exact rfl);exact Ck _;exact Lr c;exact Ad6 c;exact Av _ _;omega;omega)|refine V ?_|(refine W2 ?_ ?_<;>intro hc))
   change Next _ _ _ _ _ _
   exact Next.go (i + 1) (by omega) (by omega) (.cons (by rw [show (((i + 1 : Nat) : Int)) = (i : Int) + 1 by omega];rfl) rfl (.cons (by rw [hfl, <- hcl];rfl) rfl CV)) (by rw [hfs, F0];exact .live (by rw [<- F0];exact Cz _ _) .nil)
  ·obtain rfl : i = cs.length := by omega
   rw [a1s]
   repeat' (first|refine W ?_|(refine T.freeze 6 rfl rfl (Pv _) ?_)|refine V ?_|(refine W2 ?_ ?_<;>intro hc))
   exact Hq (by simp) Tryz.results249 rfl (.one (.one (.lf _)))
def H9 : List Rat -> Rat -> List Rat
 | [], t => [t]
 | x :: l, t => if x < t then x :: H9 l t else if x = t then x :: l else t :: x :: l
theorem Ya (l : List Rat) (t x : Rat) : x ∈ H9 l t ↔ x = t \/ x ∈ l := by
 induction l with
 | nil => simp [H9]
 | cons y l ih =>
  unfold H9
  split
  ·rw [a1i, ih, a1i];grind
  ·split
   ·rename_i h;subst h;simp
   ·simp
theorem A8x (l : List Rat) (t : Rat) (h : l.Pairwise (· < ·)) : (H9 l t).Pairwise (· < ·) := by
 induction l with
 | nil => simp [H9]
 | cons y l ih =>
  obtain ⟨h1, h2⟩ := a6e.1 h
  unfold H9
  split
  ·rename_i hlt
   refine a6e.2 ⟨fun z hz => ?_, ih h2⟩
   rcases (Ya l t z).1 hz with rfl | hz
   ·exact hlt
   ·exact h1 z hz
  ·split
   ·exact h
   ·refine a6e.2 ⟨fun z hz => ?_, h⟩
    rcases a1i.1 hz with rfl | hz
    ·grind
    ·have := h1 z hz
     grind
def Iz (l : List Rat) : List Rat := l.foldl H9 []
theorem A6n (l m : List Rat) (x : Rat) : x ∈ l.foldl H9 m ↔ x ∈ m \/ x ∈ l := by
 induction l generalizing m with
 | nil => simp
 | cons y l ih => rw [a3g, ih, Ya, a1i];grind
theorem A4r (l m : List Rat) (h : m.Pairwise (· < ·)) : (l.foldl H9 m).Pairwise (· < ·) := by
 induction l generalizing m with
 | nil => exact h
 | cons y l ih => exact ih _ (A8x _ _ h)
theorem Es (l : List Rat) (x : Rat) : x ∈ Iz l ↔ x ∈ l := by unfold Iz;rw [A6n];simp
theorem M2 (l : List Rat) : (Iz l).Pairwise (· < ·) := A4r l [] (by simp)
theorem Ww : ∀ (l m : List Rat), l.Pairwise (· < ·) -> m.Pairwise (· < ·) -> (∀ x, x ∈ l ↔ x ∈ m) -> l = m
 | [], [], _, _, _ => rfl
 | [], y :: m, _, _, h => absurd ((h y).2 (by simp)) (by simp)
 | x :: l, [], _, _, h => absurd ((h x).1 (by simp)) (by simp)
 | x :: l, y :: m, hl, hm, h => by
  obtain ⟨l1, l2⟩ := a6e.1 hl
  obtain ⟨m1, m2⟩ := a6e.1 hm
  have hxy : x = y := by
   rcases a1i.1 ((h x).1 (by simp)) with e | e
   ·exact e
   ·rcases a1i.1 ((h y).2 (by simp)) with e2 | e2
    ·exact e2.symm
    ·have := l1 y e2
     have := m1 x e
     grind
  subst hxy
  refine congrArg (x :: ·) (Ww l m l2 m2 fun z => ⟨fun hz => ?_, fun hz => ?_⟩)
  ·rcases a1i.1 ((h z).1 (a8x _ hz)) with e | e
   ·subst e;exact absurd (l1 z hz) (by grind)
   ·exact e
  ·rcases a1i.1 ((h z).2 (a8x _ hz)) with e | e
   ·subst e;exact absurd (m1 z hz) (by grind)
   ·exact e
theorem A55 (l : List Rat) (hs : l.Pairwise (· <= ·)) : ∀ (n : Nat), n <= l.length -> (cN l n).Pairwise (· < ·) /\ ∀ x, x ∈ cN l n ↔ x ∈ l.take n
 | 0, _ => by simp [cN]
 | n + 1, h => by
  obtain ⟨h1, h2⟩ := A55 l hs n (by omega)
  have hx : l[n]? = some l[n] := a0c (by omega)
  have htk : l.take (n + 1) = l.take n ++ [l[n]] := by rw [a0w, hx];rfl
  by_cases hd : n ≠ 0 /\ l[n - 1]? = some l[n]
  ·rw [Pe hx hd.1 hd.2]
   refine ⟨h1, fun x => ?_⟩
   rw [h2, htk, a0t, a2n]
   refine ⟨.inl, fun hh => hh.elim id fun e => ?_⟩
   rw [b1l]
   exact ⟨n - 1, by rw [a6b, if_pos (by omega), hd.2, e]⟩
  ·rw [Pd hx fun h0 e => hd ⟨h0, e⟩]
   refine ⟨a4k.2 ⟨h1, by simp, fun y hy z hz => ?_⟩, fun x => ?_⟩
   ·rw [a2n] at hz
    subst hz
    have hy' := (h2 y).1 hy
    obtain ⟨j, hj, hjy⟩ := b2m hy'
    rw [a0z] at hj
    rw [List.getElem_take] at hjy
    subst hjy
    have hpw := a3l.1 hs
    have g1 : l[j] <= l[n - 1]'(by omega) := by
     by_cases e : j = n - 1
     ·subst e;exact a4j
     ·exact hpw j (n - 1) _ _ (by omega)
    have g2 : l[n - 1]'(by omega) <= l[n] := hpw (n - 1) n _ _ (by omega)
    have g3 : l[n - 1]'(by omega) ≠ l[n] := fun e => hd ⟨by omega, by rw [a0c (by omega), e]⟩
    grind
   ·rw [a0t, h2, htk, a0t]
theorem Aee (L l : List Rat) (hp : l.Perm L) (hs : l.Pairwise (· <= ·)) : cN l l.length = Iz L := by
 obtain ⟨h1, h2⟩ := A55 l hs l.length (a0m _)
 refine Ww _ _ h1 (M2 L) fun x => ?_
 rw [h2, a1s, Es, hp.mem_iff]
theorem Li (L l : List Rat) (hp : l.Perm L) (hs : l.Pairwise (· <= ·)) (hn : L.length <= 1000000) : FnMut Tryz.prog 251 2 L.length (Cf l) (Iz L).length (Cf (Iz L)) := by
 have h := Wf l (by rw [hp.length_eq];exact hn)
 rw [Aee L l hp hs, hp.length_eq] at h
 exact h
def Ap (a b : List PcQ) : List Rat := Iz ((a ++ b).map (·.f))
def jP (op : Rat -> Rat -> Rat) (a b : List PcQ) (t : Rat) : PcQ := ⟨t, kQ (op (atP a t).a (atP b t).a), kQ (op (atP a t).b (atP b t).b), kQ (op (atP a t).c (atP b t).c)⟩
def jE (op : Rat -> Rat -> Rat) (a b : List PcQ) (t : Rat) (e : Int) : Int := kE (op (atP a t).c (atP b t).c) (kE (op (atP a t).b (atP b t).b) (kE (op (atP a t).a (atP b t).a) (Fe b t (Fe a t e))))
def jEs (op : Rat -> Rat -> Rat) (a b : List PcQ) (l : List Rat) : Int := l.foldl (fun e t => jE op a b t e) 0
def Ws (op : Rat -> Rat -> Rat) (a b : List PcQ) : AV :=
 if 200 < (Ap a b).length then .tup [.sl [], .i 4] else if jEs op a b (Ap a b) = 0 then .tup [.sl (((Ap a b).map (jP op a b)).map PcQ.row), .i 0] else .tup [.sl [], .i (jEs op a b (Ap a b))]
theorem Aaw (l : List PcQ) (k : Nat) (hl : okC l) : (Ad l k).ok := by
 unfold Ad
 rw [a0j]
 cases h : l[k]? with
 | none => exact ⟨Fits.zero, Fits.zero, Fits.zero, Fits.zero⟩
 | some x => exact hl x (a0b h)
theorem Pa (l : List PcQ) (t : Rat) (hl : okC l) (h0 : l ≠ []) (ht : Fits t) : (atP l t).ok := by
 have hp : ∀ k, (Ad l k).ok := fun k => Aaw l k hl
 unfold atP
 split
 ·exact ⟨ht, (hp _).a, Fits.zero, Fits.zero⟩
 ·refine ⟨ht, ?_, ?_, (hp _).c⟩
  ·unfold atQ;split <;> first | exact (hp _).a | exact Cp _
  ·unfold atS;split <;> first | exact Fits.zero | exact Cp _
theorem L8 (a b : List PcQ) (ha : okC a) (hb : okC b) : ∀ t ∈ Ap a b, Fits t := fun t ht => by
 rw [Ap, Es] at ht
 obtain ⟨p, hp, rfl⟩ := a1a.1 ht
 rcases a0t.1 hp with h | h
 ·exact (ha p h).f
 ·exact (hb p h).f
theorem A72 (l : List Rat) : OwnRows (fa l) 0 l.length 2 (l.map frR) := by
 have := OwnRows.of (l.map frR).flatten (Ub l) rfl
 rw [a0a] at this
 exact this
end Go.Proofs.YtlapbaiejnaeiaaGreatDoor
namespace Go.Proofs.YtlapbaiejnaeiaaGreatDoor
open Go.RowKit
theorem R7 {l : List PcQ} {t : Rat} (hl : okC l) (h0 : l ≠ []) : Fits (atQ l t) := by
 unfold atQ
 split
 ·have h : l[0]? = some (l[0]'(a1j.2 h0)) := a0c _
  rw [C9 h]
  exact (hl _ (a0b h)).a
 ·exact Cp _
end Go.Proofs.YtlapbaiejnaeiaaGreatDoor
