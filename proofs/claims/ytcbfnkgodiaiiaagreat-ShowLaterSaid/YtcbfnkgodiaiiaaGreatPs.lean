/- Plain: a plan with later given times. No conditions but those of each statement. -/
import Derived.Test.YtcbfnkgodiaiiaaGreatPr
set_option linter.unusedSimpArgs false
set_option linter.unusedVariables false
namespace Go.Proofs.YtcbfnkgodiaiiaaGreat
open Go Go.RowKit
abbrev Ae (d : Int) (l : List Int) : List Int := l.map (· + d)
theorem Ia {l : List Int} {i : Nat} (d : Int) (h : i < l.length) : (Ae d l).getD i 0 = l.getD i 0 + d := by
 rw [List.getD_eq_getElem?_getD, List.getD_eq_getElem?_getD, List.getElem?_map, List.getElem?_eq_getElem h];rfl
theorem Vw {l : List CueR} {L G : List Int} (hl : LkP l) (hG : G.length = Bi l) (d : Int) : ∀ k, k <= l.length -> stK l L (Ae d G) k = Ae d (stK l L G k)
 | 0, _ => rfl
 | k + 1, hk => by
  have ih := Vw (L := L) hl hG d k (by omega)
  obtain ⟨q, hq⟩ := A9 (l := l) (k := k) (by omega)
  rw [stK, stK, ih, Ae, Ae, Ae, List.map_append]
  congr 1
  show [stV l L (Ae d G) (Ae d (stK l L G k)) k] = [stV l L G (stK l L G k) k + d]
  congr 1
  unfold stV
  rw [hq]
  dsimp only
  obtain ⟨_, _, _, _, _, ha⟩ := hl k q hq
  by_cases h1 : q.link = 1
  ·rw [if_pos h1, if_pos h1, Ia d (by rw [hG];exact U2 hq h1)];omega
  ·rw [if_neg h1, if_neg h1]
   have h2 := (ha h1).2
   rw [Ia d (by rw [Dk];exact h2)]
   split <;> omega
theorem Oy {h : HouseR} {c : SheetR} {G : List Int} (p : PlanOk h c G) (d : Int) : stL h c (Ae d G) = Ae d (stL h c G) := Vw p.v.lk p.man d _ (Nat.le_refl _)
theorem A99 {h : HouseR} {c : SheetR} {G : List Int} (p : PlanOk h c G) (d : Int) : alE h c (Ae d G) = 0 \/ alE h c (Ae d G) = 2 := by
 unfold alE
 rw [if_pos p.v]
 unfold mdE
 rw [if_neg p.fit]
 unfold stE
 have h1 : (Br h c).length = c.cues.length := E9 _ _ _
 rw [if_neg (by rw [List.length_map];have := p.man;omega)]
 split
 ·exact .inr rfl
 ·exact .inl rfl
theorem Nr (d : Int) : ∀ (l : List Int) (a : Int), (l.map (· + d)).foldl max (a + d) = l.foldl max a + d
 | [], a => rfl
 | x :: l, a => by
  rw [List.map_cons, List.foldl_cons, List.foldl_cons, show max (a + d) (x + d) = max a x + d by omega]
  exact Nr d l _
theorem I5 : ∀ (l : List Int) (a : Int), (l ++ [0]).foldl max a = max (l.foldl max a) 0
 | [], a => rfl
 | x :: l, a => by rw [List.cons_append, List.foldl_cons, List.foldl_cons];exact I5 l _
theorem O9 : ∀ (l : List Int) (a : Int), a <= l.foldl max a
 | [], a => Int.le_refl _
 | x :: l, a => by rw [List.foldl_cons];have := O9 l (max a x);omega
theorem Ab3 {l : List Int} (d : Int) (h0 : l ≠ []) (hp : ∀ x ∈ l, 0 <= x) (hd : 0 <= d) : mxL (Ae d l ++ [0]) = mxL (l ++ [0]) + d := by
 cases l with
 | nil => exact absurd rfl h0
 | cons x l =>
  show (l.map (· + d) ++ [0]).foldl max (x + d) = (l ++ [0]).foldl max x + d
  rw [I5, I5, Nr]
  have := O9 l x
  have := hp x (by simp)
  omega
theorem A2v {h : HouseR} {c : SheetR} {G : List Int} (p : PlanOk h c G) (d : Int) : Dl h c (Ae d G) = Ae d (Dl h c G) := by
 unfold Dl Dn Ae
 rw [List.map_map]
 refine List.map_congr_left fun k hk => ?_
 have hk := List.mem_range.1 hk
 show G7 h c (Ae d G) k = G7 h c G k + d
 unfold G7
 rw [Oy p, Ia d (by rw [Dg];exact hk)]
 omega
theorem Sq {h : HouseR} {c : SheetR} {G : List Int} (p : PlanOk h c G) {d : Int} (hd : 0 <= d) (hn : ¬ c.cues.length = 0) : endI h c (Ae d G) = endI h c G + d := by
 unfold endI
 rw [A2v p]
 refine Ab3 d (fun e => hn ?_) (fun x hx => ?_) hd
 ·have := congrArg List.length e
  unfold Dl Dn at this
  rw [List.length_map, List.length_range] at this
  exact this
 ·obtain ⟨i, _, rfl⟩ := List.mem_map.1 hx
  exact (p.end_ i).1
theorem W0 {h : HouseR} {c : SheetR} {G : List Int} (p : PlanOk h c G) (d : Int) : Ig c (stL h c (Ae d G)) (Br h c) ↔ Ig c (stL h c G) (Br h c) := by
 rw [Oy p]
 have hlen := Dg h c G
 refine forall_congr' fun i => forall_congr' fun q => forall_congr' fun hq => forall_congr' fun k => forall_congr' fun r => forall_congr' fun hk => forall_congr' fun hr => forall_congr' fun m => forall_congr' fun hm => ?_
 unfold Mj
 have hi := (List.getElem?_eq_some_iff.1 hq).1
 rw [Ia d (by omega), Ia d (by omega)]
 refine forall_congr' fun _ => ⟨fun _ => by omega, fun _ => by omega⟩
def Bu (u : Rat) (p : PcQ) : PcQ := ⟨p.f + u, p.a, p.b, p.c⟩
abbrev Au (u : Rat) (l : List PcQ) : List PcQ := l.map (Bu u)
theorem A6q (s d z : Int) (up : Prop) [Decidable up] (x : PcQ) : Ag (s + d) z up x = Bu (mil d) (Ag s z up x) := by
 have h : A8 (s + d) 1000 = A8 s 1000 + mil d := Hp s d
 unfold Ag Bu
 split
 ·simp only [h, PcQ.mk.injEq];grind
 ·simp only [h, PcQ.mk.injEq];grind
theorem Abr (s d z : Int) (m : MoveR) : G6 (s + d) z m = Au (mil d) (G6 s z m) := by
 unfold G6 Au
 split
 ·rfl
 ·rw [List.map_map]
  exact List.map_congr_left fun x _ => A6q s d z _ x
theorem A81 {h : HouseR} {c : SheetR} {S : List Int} (hS : S.length = c.cues.length) (d : Int) (k : Nat) (n : ByteArray) (i : Nat) : C5 h c (Ae d S) k n i = Au (mil d) (C5 h c S k n i) := by
 unfold C5
 cases e : c.cues[i]? with
 | none => rfl
 | some q =>
  dsimp only
  cases e2 : mvO q n with
  | none => rfl
  | some m =>
   dsimp only
   rw [Ia d (by have := (List.getElem?_eq_some_iff.1 e).1;omega), Abr]
def U9 (u : Rat) (z : PcQ) (P P' : List PcQ) : Prop := ∃ R, P' = z :: Au u R /\ (P = z :: R \/ (P = R /\ ∃ y Z, R = y :: Z /\ y.f = 0))
theorem P1 {A B : List PcQ} (y : PcQ) (hB : B ≠ []) : Ar (A ++ B) y = A ++ Ar B y := by
 obtain ⟨C, l, rfl⟩ : ∃ C l, B = C ++ [l] := ⟨B.dropLast, B.getLast hB, (List.dropLast_concat_getLast hB).symm⟩
 rw [<- List.append_assoc]
 by_cases h : l.f = y.f
 ·rw [E4 _ l y h, E4 C l y h, List.append_assoc]
 ·rw [Ef _ l y h, Ef C l y h, List.append_assoc, List.append_assoc, List.append_assoc]
theorem A9e (u : Rat) {B : List PcQ} (y : PcQ) (hB : B ≠ []) : Ar (Au u B) (Bu u y) = Au u (Ar B y) := by
 obtain ⟨C, l, rfl⟩ : ∃ C l, B = C ++ [l] := ⟨B.dropLast, B.getLast hB, (List.dropLast_concat_getLast hB).symm⟩
 unfold Au
 rw [List.map_append, List.map_cons, List.map_nil]
 by_cases h : l.f = y.f
 ·rw [E4 C l y h, E4 _ (Bu u l) (Bu u y) (by unfold Bu;rw [h]), List.map_append];rfl
 ·rw [Ef C l y h, Ef _ (Bu u l) (Bu u y) (by unfold Bu;intro e;exact h (by have e : l.f + u = y.f + u := e;grind)), List.map_append, List.map_append];rfl
theorem A8x {u : Rat} (hu : 0 < u) {z : PcQ} (hz : z.f = 0) {P P' : List PcQ} (h : U9 u z P P') (y : PcQ) (hy : 0 <= y.f) : U9 u z (Ar P y) (Ar P' (Bu u y)) := by
 obtain ⟨R, rfl, hP⟩ := h
 by_cases hR : R = []
 ·subst hR
  have hP : P = [z] := by
   rcases hP with hP | ⟨_, y, Z, e, _⟩
   ·exact hP
   ·cases e
  subst hP
  have e1 : Ar (z :: Au u []) (Bu u y) = [z, Bu u y] := Ef [] z _ (by show ¬ z.f = y.f + u;rw [hz];grind)
  refine ⟨[y], e1, ?_⟩
  by_cases e : z.f = y.f
  ·exact .inr ⟨E4 [] z y e, y, [], rfl, by rw [<- e];exact hz⟩
  ·exact .inl (Ef [] z y e)
 ·have hne : Au u R ≠ [] := fun e => hR (List.map_eq_nil_iff.1 e)
  refine ⟨Ar R y, ?_, ?_⟩
  ·rw [<- A9e u y hR]
   exact P1 (A := [z]) _ hne
  ·rcases hP with rfl | ⟨rfl, y0, Z, e, h0⟩
   ·exact .inl (P1 (A := [z]) y hR)
   ·refine .inr ⟨rfl, ?_⟩
    subst e
    by_cases hZ : Z = []
    ·subst hZ
     by_cases e : y0.f = y.f
     ·exact ⟨y, [], E4 [] y0 y e, by rw [<- e];exact h0⟩
     ·exact ⟨y0, [y], Ef [] y0 y e, h0⟩
    ·exact ⟨y0, Ar Z y, P1 (A := [y0]) y hZ, h0⟩
theorem Vo {u : Rat} (hu : 0 < u) {z : PcQ} (hz : z.f = 0) : ∀ (Y : List PcQ) {P P' : List PcQ}, U9 u z P P' -> (∀ y ∈ Y, 0 <= y.f) -> U9 u z (Y.foldl Ar P) ((Au u Y).foldl Ar P')
 | [], _, _, h, _ => h
 | y :: Y, P, P', h, hy => Vo hu hz Y (A8x hu hz h y (hy y (by simp))) fun x hx => hy x (by simp [hx])
theorem Ir : ∀ {Y : List PcQ} {y : PcQ}, Ah (y :: Y) -> ∀ p ∈ y :: Y, y.f <= p.f
 | [], y, _, p, hp => by obtain rfl := List.mem_singleton.1 hp;exact Rat.le_refl
 | x :: Y, y, h, p, hp => by
  rcases List.mem_cons.1 hp with rfl | hp
  ·exact Rat.le_refl
  ·have h1 : y.f < x.f := h 0 (by simp only [List.length_cons];omega)
   exact Rat.le_trans (Rat.le_of_lt h1) (Ir (L7 h) p hp)
theorem Acm {h : HouseR} {c : SheetR} {S : List Int} (v : validP h c) (hS : ∀ i, 0 <= S.getD i 0) {k : Nat} {s : SetR} (hs : h.sets[k]? = some s) (i : Nat) : ∀ y ∈ C5 h c S k s.name i, 0 <= y.f := by
 intro x hx
 unfold C5 at hx
 cases hq : c.cues[i]? with
 | none => rw [hq] at hx;cases hx
 | some q =>
  rw [hq] at hx
  dsimp only at hx
  cases e : mvO q s.name with
  | none => rw [e] at hx;cases hx
  | some m =>
   rw [e] at hx
   dsimp only at hx
   unfold G6 at hx
   split at hx
   ·cases hx
   ·rename_i ez
    have g := Er v hq
    obtain ⟨hmq, hms⟩ := mvO_spec.1 m e
    obtain ⟨_, _, _, _, _, hmv, _⟩ := g.right
    have hmi := hmv m hmq
    have hmr := hmi.range v.1
    have hlk : k < h.sets.length := (List.getElem?_eq_some_iff.1 hs).1
    obtain ⟨z, hz⟩ := A9 (l := Ax h c i) (k := k) (by rw [g.len];exact hlk)
    have hz1 := g.trims k z s hz hs
    have hgz : (Ax h c i).getD k 0 = z := by rw [List.getD_eq_getElem?_getD, hz];rfl
    obtain ⟨⟨_, _, s1, s2, s3, _⟩, _⟩ := v.1.2.2.2.2.2.1 s (List.mem_of_getElem? hs)
    rw [hgz] at hx ez
    have hcs := Ry hmi.1 (d := max (m.to - z) (z - m.to)) (by omega)
    obtain ⟨y, Y, hy, hy0, hlast⟩ := L9 (max (m.to - z) (z - m.to)) m
    have hyf : y.f = 0 := by
     have : (Cm (max (m.to - z) (z - m.to)) m).head? = some y := by rw [hy];rfl
     unfold Cm at this
     split at this <;> (simp only [List.head?_cons, Option.some.injEq] at this;rw [<- this])
    obtain ⟨w, hw, rfl⟩ := List.mem_map.1 hx
    rw [hy] at hw hcs
    have h1 := Ir hcs w hw
    have h2 := K0 (hS i)
    rw [Re] at h2
    have hsf : (Ag (S.getD i 0) z (z < m.to) w).f = mil (S.getD i 0) + w.f := by unfold Ag;split <;> rfl
    rw [hsf]
    grind
theorem A14 {h : HouseR} {c : SheetR} {S : List Int} (v : validP h c) (hl : S.length = c.cues.length) (hS : ∀ i, 0 <= S.getD i 0) {d : Int} (hd : 0 < d) {k : Nat} {s : SetR} (hs : h.sets[k]? = some s) : ∀ i, U9 (mil d) ⟨0, (s.high : Rat), 0, 0⟩ (Bh h c S k s i) (Bh h c (Ae d S) k s i)
 | 0 => ⟨[], rfl, .inl rfl⟩
 | i + 1 => by
  have ih := A14 v hl hS hd hs i
  show U9 _ _ ((C5 h c S k s.name i).foldl Ar _) ((C5 h c (Ae d S) k s.name i).foldl Ar _)
  rw [A81 hl]
  exact Vo (Q3 hd) rfl _ ih (Acm v hS hs i)
theorem Sf (u : Rat) (p : PcQ) (t : Rat) : vR (Bu u p) (t + u) = vR p t := by
 unfold vR Bu
 simp only [show t + u - (p.f + u) = t - p.f by grind]
theorem Yc (u : Rat) (p : PcQ) (t : Rat) : sR (Bu u p) (t + u) = sR p t := by
 unfold sR Bu
 simp only [show t + u - (p.f + u) = t - p.f by grind]
theorem J6 {a b : Rat} (u : Rat) : a + u < b + u ↔ a < b := ⟨fun h => by grind, fun h => by grind⟩
theorem Kc {a b : Rat} (u : Rat) : a + u <= b + u ↔ a <= b := ⟨fun h => by grind, fun h => by grind⟩
theorem Rn (u : Rat) (p : PcQ) (a b : Rat) : Cd (Bu u p) (a + u) (b + u) ↔ Cd p a b := by
 unfold Cd
 rw [Sf, Sf, Yc, Yc, J6]
 rfl
theorem Ug {B C : Int -> Prop} [DecidablePred B] [DecidablePred C] (d : Int) (h : ∀ m, C (m + d) ↔ B m) : ∀ n lo hi, bis C n (lo + d) (hi + d) = bis B n lo hi + d
 | 0, lo, hi => rfl
 | n + 1, lo, hi => by
  rw [bis, bis, show hi + d - (lo + d) = hi - lo by omega, show lo + d + (hi - lo) / 2 = (lo + (hi - lo) / 2) + d by omega]
  by_cases h1 : 1 < hi - lo
  ·rw [if_pos h1, if_pos h1]
   by_cases h2 : B (lo + (hi - lo) / 2)
   ·rw [if_pos h2, if_pos ((h _).2 h2)];exact Ug d h n _ _
   ·rw [if_neg h2, if_neg fun k => h2 ((h _).1 k)];exact Ug d h n _ _
  ·rw [if_neg h1, if_neg h1]
theorem Abq (u b t : Rat) : Em (b + u) (t + u) = Em b t + u := by
 unfold Em
 by_cases h : b < t
 ·rw [if_pos h, if_pos ((J6 u).2 h)]
 ·rw [if_neg h, if_neg fun k => h ((J6 u).1 k)]
theorem Ng (d : Int) (q : Rat) : Aj (q + mil d) = Aj q + d := by
 have h1 := mil_le (m := Aj q) (q := q) |>.2 (Int.le_refl _)
 have h2 := Yp q
 refine (A3l (r := Aj q + d) ?_ fun h => ?_).symm
 ·rw [Hp];grind
 ·rw [show Aj q + d + 1 = (Aj q + 1) + d by omega, Hp] at h
  grind
theorem Ws (d : Int) (q : Rat) : Gp (q + mil d) ↔ Gp q := by
 rw [Xc, Xc, Ng, Hp]
 exact ⟨fun h => by grind, fun h => by grind⟩
def Xs (d : Int) : List Lf -> List Lf
 | [.val (.int .i64 x), .val (.int .i64 y)] => [.i (x + d), .i (y + d)]
 | r => r
theorem Ac4 (d : Int) (q : Rat) : enQ (q + mil d) = Xs d (enQ q) := by
 unfold enQ
 rw [Ng]
 by_cases h : Gp q
 ·rw [if_pos h, if_pos ((Ws d q).2 h)];rfl
 ·rw [if_neg h, if_neg fun k => h ((Ws d q).1 k)]
  show [Lf.i _, Lf.i _] = [Lf.i (Aj q + d), Lf.i (Aj q + 1 + d)]
  rw [show Aj q + d + 1 = Aj q + 1 + d by omega]
theorem A4v (d : Int) (p : PcQ) (a b : Rat) : Cs (Bu (mil d) p) (a + mil d) (b + mil d) = Cs p a b + d := by
 unfold Cs
 rw [Ng, Ng, show Aj b + d + 2 = Aj b + 2 + d by omega]
 refine Ug d (fun m => ?_) _ _ _
 show Cd _ _ (Em _ (mil (m + d))) ↔ Cd _ _ (Em b (mil m))
 rw [Hp, Abq, Rn]
theorem Ze (d : Int) (p : PcQ) (a : Rat) (m : Int) : N6 (Bu (mil d) p) (a + mil d) (m + d) ↔ N6 p a m := by
 unfold N6
 rw [Hp, Sf, Yc, Kc]
 rfl
theorem A8k (d : Int) (p : PcQ) (a b : Rat) : H6 (Bu (mil d) p) (a + mil d) (b + mil d) = Xs d (H6 p a b) := by
 unfold H6
 rw [A4v]
 by_cases h : N6 p a (Cs p a b)
 ·rw [if_pos h, if_pos ((Ze d p a _).2 h)];rfl
 ·rw [if_neg h, if_neg fun k => h ((Ze d p a _).1 k)]
  show [Lf.i _, Lf.i _] = [Lf.i (Cs p a b + d), Lf.i (Cs p a b + 1 + d)]
  rw [show Cs p a b + d + 1 = Cs p a b + 1 + d by omega]
theorem Gl (A B : List PcQ) (i : Nat) : A6 (A ++ B) (A.length + i) = A6 B i := by
 unfold A6
 rw [List.getD_eq_getElem?_getD, List.getD_eq_getElem?_getD, List.getElem?_append_right (by omega), show A.length + i - A.length = i by omega]
theorem Eb (u : Rat) {R : List PcQ} {i : Nat} (h : i < R.length) : A6 (Au u R) i = Bu u (A6 R i) := by
 have h1 : R[i]? = some R[i] := List.getElem?_eq_getElem h
 rw [Bb h1, Bb (show (Au u R)[i]? = some (Bu u R[i]) by rw [List.getElem?_map, h1];rfl)]
set_option maxHeartbeats 1600000 in
theorem Aa3 {d : Int} (hd : 0 < d) {X Y R : List PcQ} (hX : X ≠ []) (hY : Y ≠ []) (hR : ∀ p ∈ R, 0 <= p.f) (te : Rat) {i : Nat} (hi : i < R.length) : B5 (Y ++ Au (mil d) R) 0 (te + mil d) (Y.length + i) = (B5 (X ++ R) 0 te (X.length + i)).map (Xs d) := by
 have hm := Q3 hd
 have x0 := List.length_pos_iff.2 hX
 have y0 := List.length_pos_iff.2 hY
 have nn : ∀ j, j < R.length -> 0 <= (A6 R j).f := fun j hj => by
  rw [Bb (List.getElem?_eq_getElem hj)];exact hR _ (List.getElem_mem hj)
 have f0 := nn i hi
 have a1 : ptA (X ++ R) 0 (X.length + i) = (A6 R i).f := by
  unfold ptA
  rw [Gl]
  by_cases h : (0 : Rat) < (A6 R i).f
  ·rw [if_pos ⟨by omega, h⟩]
  ·rw [if_neg fun k => h k.2];grind
 have a2 : ptA (Y ++ Au (mil d) R) 0 (Y.length + i) = (A6 R i).f + mil d := by
  unfold ptA
  rw [Gl, Eb _ hi, if_pos ⟨by omega, by show (0 : Rat) < (A6 R i).f + mil d;grind⟩]
  rfl
 have l1 : X.length + i + 1 < (X ++ R).length ↔ i + 1 < R.length := by rw [List.length_append];omega
 have l2 : Y.length + i + 1 < (Y ++ Au (mil d) R).length ↔ i + 1 < R.length := by rw [List.length_append, List.length_map];omega
 have p1 : A6 (X ++ R) (X.length + i + 1) = A6 R (i + 1) := by rw [Nat.add_assoc];exact Gl _ _ _
 have p2 : i + 1 < R.length -> A6 (Y ++ Au (mil d) R) (Y.length + i + 1) = Bu (mil d) (A6 R (i + 1)) := fun h => by rw [Nat.add_assoc, Gl, Eb _ h]
 have b2 : ptB (Y ++ Au (mil d) R) (te + mil d) (Y.length + i) = ptB (X ++ R) te (X.length + i) + mil d := by
  unfold ptB
  rw [p1]
  by_cases h : i + 1 < R.length
  ·rw [p2 h]
   by_cases h2 : (A6 R (i + 1)).f < te
   ·rw [if_pos ⟨l2.2 h, (J6 _).2 h2⟩, if_pos ⟨l1.2 h, h2⟩];rfl
   ·rw [if_neg fun k => h2 ((J6 _).1 k.2), if_neg fun k => h2 k.2]
  ·rw [if_neg fun k => h (l2.1 k.1), if_neg fun k => h (l1.1 k.1)]
 have o2 : Av (Y ++ Au (mil d) R) 0 (te + mil d) (Y.length + i) ↔ Av (X ++ R) 0 te (X.length + i) := by
  unfold Av
  rw [a1, a2, p1, J6]
  refine or_congr Iff.rfl ⟨fun ⟨h1, h2⟩ => ?_, fun ⟨h1, h2⟩ => ?_⟩
  ·have h := l2.1 h1
   rw [p2 h] at h2
   exact ⟨l1.2 h, (Kc _).1 h2⟩
  ·have h := l1.1 h1
   exact ⟨l2.2 h, by rw [p2 h];exact (Kc _).2 h2⟩
 unfold B5
 rw [b2, a1, a2, Gl, Gl, Eb _ hi, Sf]
 by_cases h1 : Av (X ++ R) 0 te (X.length + i)
 ·rw [if_pos (o2.2 h1), if_pos h1];rfl
 ·rw [if_neg fun k => h1 (o2.1 k), if_neg h1]
  by_cases h2 : vR (A6 R i) (A6 R i).f < 0
  ·rw [if_pos h2, if_pos h2, Ac4];rfl
  ·rw [if_neg h2, if_neg h2]
   by_cases h3 : Cd (A6 R i) (A6 R i).f (ptB (X ++ R) te (X.length + i))
   ·rw [if_pos ((Rn _ _ _ _).2 h3), if_pos h3, A8k];rfl
   ·rw [if_neg fun k => h3 ((Rn _ _ _ _).1 k), if_neg h3];rfl
theorem R6 {d : Int} (hd : 0 < d) {X Y R : List PcQ} (hX : X ≠ []) (hY : Y ≠ []) (hR : ∀ p ∈ R, 0 <= p.f) (te : Rat) (hx : Bc (X ++ R) 0 te X.length = none) (hy : Bc (Y ++ Au (mil d) R) 0 (te + mil d) Y.length = none) : ∀ i, i <= R.length -> Bc (Y ++ Au (mil d) R) 0 (te + mil d) (Y.length + i) = (Bc (X ++ R) 0 te (X.length + i)).map (Xs d)
 | 0, _ => by rw [Nat.add_zero, Nat.add_zero, hx, hy];rfl
 | i + 1, hi => by
  have ih := R6 hd hX hY hR te hx hy i (by omega)
  rw [<- Nat.add_assoc, <- Nat.add_assoc, Bc, Bc, ih]
  cases Bc (X ++ R) 0 te (X.length + i) with
  | none => exact Aa3 hd hX hY hR te (by omega)
  | some r => rfl
theorem Tw {y : PcQ} {Z : List PcQ} (hy : y.f = 0) (te : Rat) : Bc (A4 (y :: Z) 0) 0 te 1 = none := by
 show (match (none : Option (List Lf)) with | some r => some r | none => B5 _ 0 te 0) = none
 show B5 (A4 (y :: Z) 0) 0 te 0 = none
 unfold B5
 rw [if_pos]
 unfold Av ptA
 rw [if_neg fun k => absurd k.1 (by omega)]
 refine .inr ⟨by simp only [A4, List.length_cons];omega, ?_⟩
 show y.f <= 0
 rw [hy];exact Rat.le_refl
theorem Ace {p : PcQ} (h : p.f = 0) : vR p 0 = p.a := by
 unfold vR
 rw [h, show (0 : Rat) - 0 = 0 by grind, Rat.mul_zero, Rat.add_zero]
theorem Oa {y : PcQ} {Z : List PcQ} (hs : Ah (y :: Z)) (hy : y.f = 0) (ha : y.a < 0) {te : Rat} (ht : 0 <= te) : Bc (A4 (y :: Z) 0) 0 te (A4 (y :: Z) 0).length = some (enQ 0) := by
 refine F6 (k := 2) ?_ _ (by simp only [A4, List.length_cons];omega)
 rw [Bc, Tw hy]
 show B5 (A4 (y :: Z) 0) 0 te 1 = _
 have hp : A6 (A4 (y :: Z) 0) 1 = y := rfl
 have hA : ptA (A4 (y :: Z) 0) 0 1 = 0 := by
  unfold ptA
  rw [hp, hy]
  split <;> rfl
 unfold B5
 rw [if_neg, hA, hp, Ace hy, if_pos ha]
 unfold Av
 rw [hA]
 rintro (k | ⟨k1, k2⟩)
 ·exact absurd ht (Rat.not_le.2 k)
 ·simp only [A4, List.length_cons] at k1
  have h1 : (A6 (y :: Z) 0).f < (A6 (y :: Z) 1).f := hs 0 (by simp only [List.length_cons];omega)
  have h2 : (A6 (y :: Z) 0).f = 0 := hy
  rw [h2] at h1
  have h3 : A6 (A4 (y :: Z) 0) (1 + 1) = A6 (y :: Z) 1 := rfl
  rw [h3] at k2
  exact absurd k2 (Rat.not_le.2 h1)
theorem Tn {a : Rat} (ha : ¬ a < 0) (Z : List PcQ) (te : Rat) : Bc (A4 (⟨0, a, 0, 0⟩ :: Z) 0) 0 te 2 = none := by
 rw [Bc, Tw rfl]
 show B5 (A4 (⟨0, a, 0, 0⟩ :: Z) 0) 0 te 1 = none
 have hp : A6 (A4 (⟨0, a, 0, 0⟩ :: Z) 0) 1 = ⟨0, a, 0, 0⟩ := rfl
 have hv : ∀ t, vR ⟨0, a, 0, 0⟩ t = a := fun t => by unfold vR;dsimp only;grind
 unfold B5
 rw [hp]
 split
 ·rfl
 ·rw [hv, if_neg ha, if_neg]
  unfold Cd
  rw [hv, hv]
  rintro ⟨_, (k | k) | k⟩
  ·exact ha k
  ·exact ha k
  ·exact absurd k.1 (by show ¬ (0 : Rat) < 0;decide +kernel)
theorem A8g {u a : Rat} (hu : 0 < u) {R : List PcQ} (hs : Ah R) (hR : ∀ p ∈ R, 0 <= p.f) : Ah (⟨0, a, 0, 0⟩ :: Au u R) := fun i hi => by
 simp only [List.length_cons, List.length_map] at hi
 cases i with
 | zero =>
  show (0 : Rat) < (A6 (Au u R) 0).f
  rw [Eb _ (by omega), Bb (List.getElem?_eq_getElem (show 0 < R.length by omega))]
  have := hR _ (List.getElem_mem (show 0 < R.length by omega))
  show (0 : Rat) < R[0].f + u
  grind
 | succ i =>
  show (A6 (Au u R) i).f < (A6 (Au u R) (i + 1)).f
  rw [Eb _ (by omega), Eb _ (by omega)]
  exact (J6 u).2 (hs i (by omega))
theorem A4r {d : Int} (hd : 0 < d) {R l : List PcQ} {a te : Rat} (ht : 0 <= te) (hs : Ah l) (hl : l = ⟨0, a, 0, 0⟩ :: R \/ (l = R /\ ∃ y Z, R = y :: Z /\ y.f = 0 /\ y.a = a)) :
  ∃ o, Bc (A4 l 0) 0 te (A4 l 0).length = o /\ (Bc (A4 (⟨0, a, 0, 0⟩ :: Au (mil d) R) 0) 0 (te + mil d) (A4 (⟨0, a, 0, 0⟩ :: Au (mil d) R) 0).length = o.map (Xs d) \/ (o = some (enQ 0) /\ Bc (A4 (⟨0, a, 0, 0⟩ :: Au (mil d) R) 0) 0 (te + mil d) (A4 (⟨0, a, 0, 0⟩ :: Au (mil d) R) 0).length = some (enQ 0))) := by
 have hm := Q3 hd
 have hsR : Ah R /\ ∀ p ∈ R, 0 <= p.f := by
  rcases hl with rfl | ⟨rfl, y, Z, rfl, hy, _⟩
  ·exact ⟨L7 hs, fun p hp => Ir hs p (by simp [hp])⟩
  ·exact ⟨hs, fun p hp => by have := Ir hs p hp;rw [hy] at this;exact this⟩
 have hs' := A8g (a := a) hm hsR.1 hsR.2
 by_cases ha : a < 0
 ·refine ⟨some (enQ 0), ?_, .inr ⟨rfl, Oa hs' rfl ha (by grind)⟩⟩
  rcases hl with rfl | ⟨rfl, y, Z, rfl, hy, hya⟩
  ·exact Oa hs rfl ha ht
  ·exact Oa hs hy (by rw [hya];exact ha) ht
 ·refine ⟨_, rfl, .inl ?_⟩
  have hn := Tn ha (Au (mil d) R) (te + mil d)
  rcases hl with rfl | ⟨rfl, y, Z, rfl, hy, hya⟩
  ·have := R6 hd (X := [⟨0, a, 0, 0⟩, ⟨0, a, 0, 0⟩]) (Y := [⟨0, a, 0, 0⟩, ⟨0, a, 0, 0⟩]) (R := R) (by simp) (by simp) hsR.2 te (Tn ha R te) hn R.length (Nat.le_refl _)
   have e1 : (A4 (⟨0, a, 0, 0⟩ :: R) 0).length = 2 + R.length := by simp only [A4, List.length_cons];omega
   have e2 : (A4 (⟨0, a, 0, 0⟩ :: Au (mil d) R) 0).length = 2 + R.length := by simp only [A4, List.length_cons, List.length_map];omega
   rw [e1, e2]
   exact this
  ·have := R6 hd (X := [⟨0, y.a, 0, 0⟩]) (Y := [⟨0, a, 0, 0⟩, ⟨0, a, 0, 0⟩]) (R := y :: Z) (by simp) (by simp) hsR.2 te (Tw hy te) hn (y :: Z).length (Nat.le_refl _)
   have e1 : (A4 (y :: Z) 0).length = 1 + (y :: Z).length := by simp only [A4, List.length_cons];omega
   have e2 : (A4 (⟨0, a, 0, 0⟩ :: Au (mil d) (y :: Z)) 0).length = 2 + (y :: Z).length := by simp only [A4, List.length_cons, List.length_map];omega
   rw [e1, e2]
   exact this
theorem A1i {u t : Rat} (hu : 0 < u) (ht : 0 <= t) {z : PcQ} (hz : z.f = 0) {R : List PcQ} : ∀ n, n <= R.length -> pcK (z :: Au u R) (t + u) (n + 1) = pcK (z :: R) t (n + 1)
 | 0, _ => by
  show (if (A6 (z :: Au u R) 0).f <= t + u then ((0 : Nat) : Int) else -1) = (if (A6 (z :: R) 0).f <= t then ((0 : Nat) : Int) else -1)
  rw [if_pos (by show z.f <= t + u;rw [hz];grind), if_pos (by show z.f <= t;rw [hz];exact ht)]
 | n + 1, h => by
  have ih := A1i (R := R) hu ht hz n (by omega)
  have e1 : A6 (z :: Au u R) (n + 1) = Bu u (A6 R n) := Eb u (R := R) (i := n) (by omega)
  have e2 : A6 (z :: R) (n + 1) = A6 R n := rfl
  show (if (A6 (z :: Au u R) (n + 1)).f <= t + u then ((n + 1 : Nat) : Int) else pcK (z :: Au u R) (t + u) (n + 1)) = (if (A6 (z :: R) (n + 1)).f <= t then ((n + 1 : Nat) : Int) else pcK (z :: R) t (n + 1))
  rw [ih, e1, e2, show (Bu u (A6 R n)).f = (A6 R n).f + u from rfl]
  by_cases h1 : (A6 R n).f <= t
  ·rw [if_pos h1, if_pos ((Kc u).2 h1)]
  ·rw [if_neg h1, if_neg fun k => h1 ((Kc u).1 k)]
theorem Xj {u t : Rat} (hu : 0 < u) (ht : 0 <= t) {z : PcQ} (hz : z.f = 0) {R : List PcQ} : ∀ n, n <= R.length -> pcK (z :: Au u R) (t + u) (n + 1) = pcK R t n + 1
 | 0, _ => by
  show (if (A6 (z :: Au u R) 0).f <= t + u then ((0 : Nat) : Int) else -1) = -1 + 1
  rw [if_pos (by show z.f <= t + u;rw [hz];grind)];rfl
 | n + 1, h => by
  have ih := Xj (R := R) hu ht hz n (by omega)
  have e1 : A6 (z :: Au u R) (n + 1) = Bu u (A6 R n) := Eb u (R := R) (i := n) (by omega)
  rw [pcK, ih, e1, pcK, show (Bu u (A6 R n)).f = (A6 R n).f + u from rfl]
  by_cases h1 : (A6 R n).f <= t
  ·rw [if_pos h1, if_pos ((Kc u).2 h1)];omega
  ·rw [if_neg h1, if_neg fun k => h1 ((Kc u).1 k)]
theorem Y6 {l : List PcQ} {t : Rat} (h0 : (A6 l 0).f <= t) : ∀ n, 0 <= pcK l t (n + 1)
 | 0 => by
  show 0 <= (if (A6 l 0).f <= t then ((0 : Nat) : Int) else -1)
  rw [if_pos h0];exact Int.le_refl _
 | n + 1 => by
  rw [pcK]
  split
  ·omega
  ·exact Y6 h0 n
theorem J8 {z : PcQ} (hb : z.b = 0) (hc : z.c = 0) (w : Rat) : Fk z w = kQ z.a /\ I6 z w = 0 := by
 have k0 : kQ 0 = 0 := by unfold kQ;split <;> rfl
 have v1 : Ec z w = 0 := by unfold Ec;rw [hc];grind
 constructor
 ·unfold Fk Ts Oc Mt
  rw [v1, k0, hb, show (0 : Rat) + 0 = 0 by grind, k0, show (0 : Rat) * w = 0 by grind, k0, show z.a + 0 = z.a by grind]
 ·unfold I6 Xu Nb
  rw [v1, k0, hb, show (2 : Rat) * 0 = 0 by grind, k0, show (0 : Rat) + 0 = 0 by grind, k0]
theorem K7 {l : List PcQ} {t : Rat} {k : Nat} {p : PcQ} (hk : pcI l t = k) (hp : A6 l k = p) : atP l t = ⟨t, Fk p (kQ (t - p.f)), I6 p (kQ (t - p.f)), p.c⟩ := by
 have h0 : ¬ pcI l t < 0 := by omega
 have h1 : A6 l (pcI l t).toNat = p := by rw [hk];exact hp
 unfold atP atQ atS
 rw [if_neg h0, if_neg h0, if_neg h0, h1]
def Lb (z : PcQ) (R x : List PcQ) : Prop := x = z :: R \/ (x = R /\ ∃ y Z, R = y :: Z /\ y.f = 0)
theorem A18 {u t : Rat} (hu : 0 < u) (ht : 0 <= t) {z : PcQ} (hz : z.f = 0) (hb : z.b = 0) (hc : z.c = 0) {R x : List PcQ} (h : Lb z R x) : atP (z :: Au u R) (t + u) = Bu u (atP x t) := by
 have hI : pcI (z :: Au u R) (t + u) = pcK (z :: Au u R) (t + u) (R.length + 1) := by unfold pcI;rw [List.length_cons, List.length_map]
 rcases h with rfl | ⟨rfl, y, Z, hyZ, hy⟩
 ·have h1 := A1i (z := z) hu ht hz (R := R) R.length (Nat.le_refl _)
  have h2 : pcI (z :: R) t = pcK (z :: R) t (R.length + 1) := by unfold pcI;rw [List.length_cons]
  have h3 := Y6 (l := z :: R) (t := t) (by show z.f <= t;rw [hz];exact ht) R.length
  have h4 := (Hc (z :: R) t (R.length + 1)).2
  obtain ⟨k, hk⟩ : ∃ k : Nat, pcK (z :: R) t (R.length + 1) = k := ⟨_, (Int.toNat_of_nonneg h3).symm⟩
  rw [hk] at h1 h2 h4
  rw [h1] at hI
  cases k with
  | zero =>
   rw [K7 hI (p := z) rfl, K7 h2 (p := z) rfl, (J8 hb hc _).1, (J8 hb hc _).2, (J8 hb hc _).1, (J8 hb hc _).2]
   rfl
  | succ k =>
   rw [K7 hI (p := Bu u (A6 R k)) (Eb u (R := R) (i := k) (by omega)), K7 h2 (p := A6 R k) rfl]
   show PcQ.mk _ (Fk _ (kQ (t + u - ((A6 R k).f + u)))) (I6 _ (kQ (t + u - ((A6 R k).f + u)))) _ = _
   rw [show t + u - ((A6 R k).f + u) = t - (A6 R k).f by grind]
   rfl
 ·have h1 := Xj (z := z) hu ht hz (R := x) x.length (Nat.le_refl _)
  have h2 : pcI x t = pcK x t x.length := rfl
  have h3 : 0 <= pcK x t x.length := by
   rw [hyZ, List.length_cons]
   exact Y6 (by show y.f <= t;rw [hy];exact ht) _
  have h4 := (Hc x t x.length).2
  obtain ⟨k, hk⟩ : ∃ k : Nat, pcK x t x.length = k := ⟨_, (Int.toNat_of_nonneg h3).symm⟩
  rw [hk] at h1 h2 h4
  rw [h1] at hI
  rw [K7 (k := k + 1) hI (p := Bu u (A6 x k)) (Eb u (R := x) (i := k) (by omega)), K7 h2 (p := A6 x k) rfl]
  show PcQ.mk _ (Fk _ (kQ (t + u - ((A6 x k).f + u)))) (I6 _ (kQ (t + u - ((A6 x k).f + u)))) _ = _
  rw [show t + u - ((A6 x k).f + u) = t - (A6 x k).f by grind]
  rfl
theorem Ad9 {u t : Rat} (hu : 0 < u) (ht : 0 <= t) {z w : PcQ} (hz : z.f = 0) (hb : z.b = 0) (hc : z.c = 0) (hw : w.f = 0) (hwb : w.b = 0) (hwc : w.c = 0) {R Q x y : List PcQ} (h : Lb z R x) (k : Lb w Q y) (op : Rat -> Rat -> Rat) : jP op (z :: Au u R) (w :: Au u Q) (t + u) = Bu u (jP op x y t) := by
 unfold jP
 rw [A18 hu ht hz hb hc h, A18 hu ht hw hwb hwc k]
 rfl
theorem mem_times {a b : List PcQ} {t : Rat} : t ∈ Af a b ↔ ∃ p, (p ∈ a \/ p ∈ b) /\ p.f = t := by
 unfold Af
 rw [E6, List.mem_map]
 exact ⟨fun ⟨p, h, e⟩ => ⟨p, List.mem_append.1 h, e⟩, fun ⟨p, h, e⟩ => ⟨p, List.mem_append.2 h, e⟩⟩
theorem Et (a b : List PcQ) : (Af a b).Pairwise (· < ·) := Ji _
theorem A5o {u : Rat} (hu : 0 < u) {z w : PcQ} (hz : z.f = 0) (hw : w.f = 0) {R Q : List PcQ} (hR : ∀ p ∈ R, 0 <= p.f) (hQ : ∀ p ∈ Q, 0 <= p.f) : Af (z :: Au u R) (w :: Au u Q) = 0 :: (Af R Q).map (· + u) := by
 refine K8 _ _ (Et _ _) (List.pairwise_cons.2 ⟨fun t ht => ?_, List.pairwise_map.2 ((Et R Q).imp fun h => (J6 u).2 h)⟩) fun t => ?_
 ·obtain ⟨s, hs, rfl⟩ := List.mem_map.1 ht
  obtain ⟨p, hp, rfl⟩ := mem_times.1 hs
  have : 0 <= p.f := hp.elim (hR p) (hQ p)
  grind
 ·rw [mem_times, List.mem_cons, List.mem_map]
  constructor
  ·rintro ⟨p, hp, rfl⟩
   rcases hp with hp | hp
   ·rcases List.mem_cons.1 hp with rfl | hp
    ·exact .inl hz
    ·obtain ⟨q, hq, rfl⟩ := List.mem_map.1 hp
     exact .inr ⟨q.f, mem_times.2 ⟨q, .inl hq, rfl⟩, rfl⟩
   ·rcases List.mem_cons.1 hp with rfl | hp
    ·exact .inl hw
    ·obtain ⟨q, hq, rfl⟩ := List.mem_map.1 hp
     exact .inr ⟨q.f, mem_times.2 ⟨q, .inr hq, rfl⟩, rfl⟩
  ·rintro (rfl | ⟨s, hs, rfl⟩)
   ·exact ⟨z, .inl (by simp), hz⟩
   ·obtain ⟨p, hp, rfl⟩ := mem_times.1 hs
    rcases hp with hp | hp
    ·exact ⟨Bu u p, .inl (List.mem_cons_of_mem _ (List.mem_map.2 ⟨p, hp, rfl⟩)), rfl⟩
    ·exact ⟨Bu u p, .inr (List.mem_cons_of_mem _ (List.mem_map.2 ⟨p, hp, rfl⟩)), rfl⟩
theorem A2o {z w : PcQ} (hz : z.f = 0) (hw : w.f = 0) {R Q x y : List PcQ} (hR : ∀ p ∈ R, 0 <= p.f) (hQ : ∀ p ∈ Q, 0 <= p.f) (h : Lb z R x) (k : Lb w Q y) : Af x y = 0 :: Af R Q \/ (Af x y = Af R Q /\ ∃ Y, Af R Q = 0 :: Y) := by
 have nn : ∀ t ∈ Af R Q, 0 <= t := fun t ht => by
  obtain ⟨p, hp, rfl⟩ := mem_times.1 ht
  exact hp.elim (hR p) (hQ p)
 have hx : ∀ t, (∃ p, p ∈ x /\ p.f = t) ↔ (t = 0 \/ ∃ p, p ∈ R /\ p.f = t) := fun t => by
  rcases h with rfl | ⟨rfl, y0, Z, e, h0⟩
  ·constructor
   ·rintro ⟨p, hp, rfl⟩
    rcases List.mem_cons.1 hp with rfl | hp
    ·exact .inl hz
    ·exact .inr ⟨p, hp, rfl⟩
   ·rintro (rfl | ⟨p, hp, rfl⟩)
    ·exact ⟨z, by simp, hz⟩
    ·exact ⟨p, by simp [hp], rfl⟩
  ·exact ⟨.inr, fun k => k.elim (fun e2 => ⟨y0, by rw [e];simp, by rw [h0, e2]⟩) id⟩
 have hy : ∀ t, (∃ p, p ∈ y /\ p.f = t) ↔ (t = 0 \/ ∃ p, p ∈ Q /\ p.f = t) := fun t => by
  rcases k with rfl | ⟨rfl, y0, Z, e, h0⟩
  ·constructor
   ·rintro ⟨p, hp, rfl⟩
    rcases List.mem_cons.1 hp with rfl | hp
    ·exact .inl hw
    ·exact .inr ⟨p, hp, rfl⟩
   ·rintro (rfl | ⟨p, hp, rfl⟩)
    ·exact ⟨w, by simp, hw⟩
    ·exact ⟨p, by simp [hp], rfl⟩
  ·exact ⟨.inr, fun k => k.elim (fun e2 => ⟨y0, by rw [e];simp, by rw [h0, e2]⟩) id⟩
 have hm : ∀ t, t ∈ Af x y ↔ t = 0 \/ t ∈ Af R Q := fun t => by
  rw [mem_times, mem_times]
  constructor
  ·rintro ⟨p, hp | hp, e⟩
   ·rcases (hx t).1 ⟨p, hp, e⟩ with e | ⟨q, hq, e⟩
    ·exact .inl e
    ·exact .inr ⟨q, .inl hq, e⟩
   ·rcases (hy t).1 ⟨p, hp, e⟩ with e | ⟨q, hq, e⟩
    ·exact .inl e
    ·exact .inr ⟨q, .inr hq, e⟩
  ·rintro (e | ⟨p, hp | hp, e⟩)
   ·obtain ⟨p, hp, e⟩ := (hx t).2 (.inl e);exact ⟨p, .inl hp, e⟩
   ·obtain ⟨p, hp, e⟩ := (hx t).2 (.inr ⟨p, hp, e⟩);exact ⟨p, .inl hp, e⟩
   ·obtain ⟨p, hp, e⟩ := (hy t).2 (.inr ⟨p, hp, e⟩);exact ⟨p, .inr hp, e⟩
 by_cases h0 : (0 : Rat) ∈ Af R Q
 ·refine .inr ⟨K8 _ _ (Et _ _) (Et _ _) fun t => ?_, ?_⟩
  ·rw [hm]
   exact ⟨fun k => k.elim (fun e => e ▸ h0) id, .inr⟩
  ·have ha := Et R Q
   cases hT : Af R Q with
   | nil => rw [hT] at h0;cases h0
   | cons t T =>
    rw [hT] at h0 ha nn
    rcases List.mem_cons.1 h0 with e | e
    ·exact ⟨T, by rw [<- e]⟩
    ·have h1 := (List.pairwise_cons.1 ha).1 0 e
     have h2 := nn t (by simp)
     grind
 ·refine .inl (K8 _ _ (Et _ _) (List.pairwise_cons.2 ⟨fun t ht => ?_, Et _ _⟩) fun t => ?_)
  ·exact Rat.lt_of_le_of_ne (nn t ht) fun e => h0 (e ▸ ht)
  ·rw [hm, List.mem_cons]
end Go.Proofs.YtcbfnkgodiaiiaaGreat
