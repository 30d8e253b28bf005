/- Plain: the lowered difference of later paths. No conditions but those of each statement. -/
import Derived.Test.YtcbfnkgodiaiiaaGreatPs
import Derived.Test.YtcbfnkgodiaiiaaGreatPh
import Derived.Test.YtcbfnkgodiaiiaaGreatPi
import Derived.Test.YtcbfnkgodiaiiaaGreatNn
set_option linter.unusedSimpArgs false
set_option linter.unusedVariables false
namespace Go.Proofs.YtcbfnkgodiaiiaaGreat
open Go Go.RowKit
theorem Q4 : kQ 0 = 0 := by unfold kQ;split <;> rfl
theorem Uf (y : PcQ) : Fk y (kQ (0 - 0)) = kQ y.a := by
 rw [show (0 : Rat) - 0 = 0 by grind, Q4]
 unfold Fk Ts Oc Mt Ec
 rw [show y.c * 0 = 0 by grind, Q4, show kQ (y.b + 0) * 0 = 0 by grind, Q4, show y.a + 0 = y.a by grind]
theorem A0k {y : PcQ} {Z : List PcQ} (hs : Ah (y :: Z)) (hy : y.f = 0) : pcI (y :: Z) 0 = ((0 : Nat) : Int) := by
 have key : ∀ n, n <= Z.length -> pcK (y :: Z) 0 (n + 1) = ((0 : Nat) : Int) := fun n => by
  induction n with
  | zero =>
   intro _
   show (if (A6 (y :: Z) 0).f <= 0 then ((0 : Nat) : Int) else -1) = _
   rw [if_pos (by show y.f <= 0;rw [hy];exact Rat.le_refl)]
  | succ n ih =>
   intro hn
   show (if (A6 (y :: Z) (n + 1)).f <= 0 then ((n + 1 : Nat) : Int) else pcK (y :: Z) 0 (n + 1)) = _
   rw [ih (by omega), if_neg]
   intro k
   have h1 : A6 (y :: Z) (n + 1) = Z[n] := Bb (show (y :: Z)[n + 1]? = some Z[n] by simp)
   rw [h1] at k
   have h2 : ∀ p ∈ Z, y.f < p.f := fun p hp => by
    cases Z with
    | nil => cases hp
    | cons x Z =>
     have h3 : y.f < x.f := hs 0 (by simp only [List.length_cons];omega)
     have h4 := Ir (L7 hs) p hp
     grind
   have := h2 _ (List.getElem_mem (show n < Z.length by omega))
   rw [hy] at this
   exact absurd k (Rat.not_le.2 this)
 have := key Z.length (Nat.le_refl _)
 unfold pcI
 rw [List.length_cons]
 exact this
theorem Lv {y : PcQ} {Z : List PcQ} (hs : Ah (y :: Z)) (hy : y.f = 0) : (atP (y :: Z) 0).a = kQ y.a /\ (y.b = 0 -> y.c = 0 -> atP (y :: Z) 0 = ⟨0, kQ y.a, 0, 0⟩) := by
 have h := K7 (A0k hs hy) (p := y) rfl
 rw [h, hy]
 refine ⟨Uf y, fun hb hc => ?_⟩
 rw [Uf, (J8 hb hc _).2, hc]
structure Con0 (z : PcQ) : Prop where
 f : z.f = 0
 b : z.b = 0
 c : z.c = 0
def hdA (z : PcQ) (R : List PcQ) : Prop := ∀ y Z, R = y :: Z -> y.a = z.a
theorem Yt {z : PcQ} (hz : Con0 z) {R x : List PcQ} (hs : Ah x) (h : Lb z R x) (ha : hdA z R) : (atP x 0).a = kQ z.a := by
 rcases h with rfl | ⟨rfl, y, Z, rfl, hy⟩
 ·exact (Lv hs hz.f).1
 ·rw [(Lv hs hy).1, ha y Z rfl]
theorem Abt (u h : Rat) (p : PcQ) : Cr h (Bu u p) = Bu u (Cr h p) := rfl
abbrev sdL (h : Rat) (x y : List PcQ) : List PcQ := (sbL x y).map (Cr h)
theorem Ad6 {u h : Rat} (hu : 0 < u) {z w : PcQ} (hz : Con0 z) (hw : Con0 w) {R Q x y : List PcQ} (hx : Ah x) (hy : Ah y) (hR : ∀ p ∈ R, 0 <= p.f) (hQ : ∀ p ∈ Q, 0 <= p.f) (hxs : Ah (z :: Au u R)) (hys : Ah (w :: Au u Q)) (l : Lb z R x) (k : Lb w Q y) (lz : hdA z R) (kw : hdA w Q) :
  ∃ a D, sdL h (z :: Au u R) (w :: Au u Q) = ⟨0, a, 0, 0⟩ :: Au u D /\ (sdL h x y = ⟨0, a, 0, 0⟩ :: D \/ (sdL h x y = D /\ ∃ p Z, D = p :: Z /\ p.f = 0 /\ p.a = a)) := by
 have k0 : kQ ((0 : Rat) - 0) = 0 := by rw [show (0 : Rat) - 0 = 0 by grind, Q4]
 refine ⟨kQ (kQ z.a - kQ w.a) - h, ((Af R Q).map (jP (· - ·) x y)).map (Cr h), ?_, ?_⟩
 ·show ((Af _ _).map (jP _ _ _)).map (Cr h) = _
  rw [A5o hu hz.f hw.f hR hQ, List.map_cons, List.map_cons]
  congr 1
  ·unfold jP
   rw [(Lv hxs hz.f).2 hz.b hz.c, (Lv hys hw.f).2 hw.b hw.c]
   unfold Cr
   simp only [k0]
  ·unfold Au
   rw [List.map_map, List.map_map, List.map_map, List.map_map]
   refine List.map_congr_left fun t ht => ?_
   have ht0 : 0 <= t := by
    obtain ⟨p, hp, rfl⟩ := mem_times.1 ht
    exact hp.elim (hR p) (hQ p)
   show Cr h (jP _ _ _ (t + u)) = Bu u (Cr h (jP _ x y t))
   rw [Ad9 hu ht0 hz.f hz.b hz.c hw.f hw.b hw.c l k, Abt]
 ·have ea : (jP (· - ·) x y 0).a = kQ (kQ z.a - kQ w.a) := by
   unfold jP
   dsimp only
   rw [Yt hz hx l lz, Yt hw hy k kw]
  rcases A2o hz.f hw.f hR hQ l k with e | ⟨e, Y, eY⟩
  ·have hn : (0 : Rat) ∉ Af R Q := fun hm => by
    have := Et x y
    rw [e] at this
    have := (List.pairwise_cons.1 this).1 0 hm
    exact absurd this Rat.lt_irrefl
   have lx : x = z :: R := l.resolve_right fun ⟨_, y0, Z, eR, h0⟩ => hn (mem_times.2 ⟨y0, .inl (by rw [eR];simp), h0⟩)
   have ly : y = w :: Q := k.resolve_right fun ⟨_, y0, Z, eR, h0⟩ => hn (mem_times.2 ⟨y0, .inr (by rw [eR];simp), h0⟩)
   left
   show ((Af x y).map (jP _ _ _)).map (Cr h) = _
   rw [e, List.map_cons, List.map_cons]
   congr 1
   subst lx ly
   unfold jP
   rw [(Lv hx hz.f).2 hz.b hz.c, (Lv hy hw.f).2 hw.b hw.c]
   unfold Cr
   simp only [k0]
  ·right
   refine ⟨?_, Cr h (jP (· - ·) x y 0), (Y.map (jP (· - ·) x y)).map (Cr h), ?_, rfl, ?_⟩
   ·show ((Af x y).map (jP _ _ _)).map (Cr h) = _
    rw [e]
   ·rw [eY];rfl
   ·show (jP (· - ·) x y 0).a - h = _
    rw [ea]
theorem U1 {A : List PcQ} {fr te : Rat} : ∀ {n : Nat} {r : List Lf}, Bc A fr te n = some r -> sp2 r
 | 0, r, h => by cases h
 | n + 1, r, h => by
  rw [Bc] at h
  cases e : Bc A fr te n with
  | some q =>
   rw [e] at h
   obtain rfl : q = r := by simpa using h
   exact U1 e
  | none =>
   rw [e] at h
   replace h : B5 A fr te n = some r := h
   unfold B5 at h
   split at h
   ·cases h
   ·split at h
    ·obtain rfl := Option.some.inj h;exact Oj _
    ·split at h
     ·obtain rfl := Option.some.inj h;exact M1 _ _ _
     ·cases h
def Ada (d : Int) (v v' : AV) : Prop := (v = spE 12 /\ v' = spE 12) \/ ∃ lo hi : Int, v = .tup [A1 [.i lo, .i hi], .i 0] /\ (v' = .tup [A1 [.i (lo + d), .i (hi + d)], .i 0] \/ (lo = 0 /\ hi = 0 /\ v' = v))
theorem A3c {d : Int} (hd : 0 < d) {R l : List PcQ} {a te : Rat} (ht : 0 <= te) (hs : Ah l) (hl : l = ⟨0, a, 0, 0⟩ :: R \/ (l = R /\ ∃ y Z, R = y :: Z /\ y.f = 0 /\ y.a = a)) : Ada d (B9 l 0 te) (B9 (⟨0, a, 0, 0⟩ :: Au (mil d) R) 0 (te + mil d)) := by
 obtain ⟨o, h1, h2⟩ := A4r hd ht hs hl
 unfold B9
 rw [h1]
 rcases h2 with h2 | ⟨rfl, h2⟩
 ·rw [h2]
  cases o with
  | none => exact .inl ⟨rfl, rfl⟩
  | some r =>
   obtain ⟨x, y, rfl⟩ := U1 h1
   exact .inr ⟨x, y, rfl, .inl rfl⟩
 ·rw [h2]
  have e : enQ 0 = [.i 0, .i 0] := by
   unfold enQ
   rw [if_pos (show Gp 0 by decide +kernel), show Aj 0 = 0 by decide +kernel]
  rw [e]
  exact .inr ⟨0, 0, rfl, .inr ⟨rfl, rfl, rfl⟩⟩
structure Lat2 (u : Rat) (z : PcQ) (R x x' : List PcQ) : Prop where
 eq : x' = z :: Au u R
 path : Lb z R x
 hd : hdA z R
 sx : Ah x
 sx' : Ah x'
 nn : ∀ p ∈ R, 0 <= p.f
 con : Con0 z
theorem Ub {y : PcQ} {Z : List PcQ} (hs : Ah (y :: Z)) (hy : y.f = 0) : atQ (y :: Z) 0 = kQ y.a := by
 have h := A0k hs hy
 unfold atQ
 rw [h, if_neg (by omega)]
 show Fk y (kQ (0 - y.f)) = _
 rw [hy, Uf]
theorem Lat2.now {u : Rat} {z : PcQ} {R x x' : List PcQ} (h : Lat2 u z R x x') : atQ x 0 = kQ z.a /\ atQ x' 0 = kQ z.a := by
 have hs' := h.sx'
 have hs := h.sx
 refine ⟨?_, ?_⟩
 ·rcases h.path with e | ⟨e, y, Z, eR, hy⟩
  ·rw [e] at hs ⊢;exact Ub hs h.con.f
  ·rw [e, eR] at hs ⊢
   rw [Ub hs hy, h.hd y Z eR]
 ·rw [h.eq] at hs' ⊢
  exact Ub hs' h.con.f
theorem Lat2.sd {u : Rat} (hu : 0 < u) {z w : PcQ} {R x x' Q y y' : List PcQ} (h : Lat2 u z R x x') (k : Lat2 u w Q y y') (b : Rat) : ∃ a D, sdL b x' y' = ⟨0, a, 0, 0⟩ :: Au u D /\ (sdL b x y = ⟨0, a, 0, 0⟩ :: D \/ (sdL b x y = D /\ ∃ p Z, D = p :: Z /\ p.f = 0 /\ p.a = a)) := by
 have h1 := h.sx'
 have k1 := k.sx'
 rw [h.eq] at h1 ⊢
 rw [k.eq] at k1 ⊢
 exact Ad6 hu h.con k.con h.sx k.sx h.nn k.nn h1 k1 h.path k.path h.hd k.hd
theorem Ru {x y : List PcQ} {b : Rat} (h : lwE x y b = 0) : lwL x y b = sdL b x y := if_pos h
theorem Ad3 {u : Rat} (hu : 0 < u) {z w : PcQ} {R x x' Q y y' : List PcQ} (h : Lat2 u z R x x') (k : Lat2 u w Q y y') {ha hb : Rat} (e : dsE ha hb x y = 0) (e' : dsE ha hb x' y' = 0) : ∃ a D, dsL ha hb x' y' = ⟨0, a, 0, 0⟩ :: Au u D /\ (dsL ha hb x y = ⟨0, a, 0, 0⟩ :: D \/ (dsL ha hb x y = D /\ ∃ p Z, D = p :: Z /\ p.f = 0 /\ p.a = a)) := by
 obtain ⟨n1, n2⟩ := h.now
 obtain ⟨m1, m2⟩ := k.now
 unfold dsE at e e'
 unfold dsL
 rw [n1, m1] at e ⊢
 rw [n2, m2] at e' ⊢
 split at e
 ·rename_i a1
  rw [if_pos a1]
  split at e
  ·rename_i a2
   rw [if_pos a2]
   split at e
   ·rename_i a3
    rw [if_pos a3, if_pos a3]
    rw [if_pos a3] at e'
    split at e
    ·rename_i a4
     rw [if_pos a4, if_pos a4]
     rw [if_pos a4] at e'
     split at e'
     ·rename_i b1
      rw [if_pos b1]
      split at e'
      ·rename_i b2
       rw [if_pos b2]
       split at e
       ·rename_i a5
        rw [if_pos a5, if_pos a5]
        rw [if_pos a5] at e'
        rw [Ru e, Ru e']
        exact h.sd hu k ha
       ·rename_i a5
        rw [if_neg a5, if_neg a5]
        rw [if_neg a5] at e'
        rw [Ru e, Ru e']
        exact k.sd hu h hb
      ·rename_i b2;exact absurd e' b2
     ·rename_i b1;exact absurd e' b1
    ·cases e
   ·cases e
  ·rename_i a2;exact absurd e a2
 ·rename_i a1;exact absurd e a1
theorem A93 {d : Int} (hd : 0 < d) {z w : PcQ} {R x x' Q y y' : List PcQ} (h : Lat2 (mil d) z R x x') (k : Lat2 (mil d) w Q y y') {a b : SetR} {te : Rat} (ht : 0 <= te) (hs : Da a b /\ ¬ (Bv a = 0 /\ Bv b = 0) -> dsE (Aw a) (Aw b) x y = 0 /\ dsE (Aw a) (Aw b) x' y' = 0 /\ Ah (dsL (Aw a) (Aw b) x y)) : Ada d (Ee a b x y te) (Ee a b x' y' (te + mil d)) := by
 unfold Ee
 by_cases hc : Da a b /\ ¬ (Bv a = 0 /\ Bv b = 0)
 ·obtain ⟨e, e', so⟩ := hs hc
  rw [if_pos hc, if_pos hc, if_pos e, if_pos e']
  obtain ⟨c, D, h1, h2⟩ := Ad3 (Q3 hd) h k e e'
  rw [h1]
  exact A3c hd ht so h2
 ·rw [if_neg hc, if_neg hc]
  exact .inl ⟨rfl, rfl⟩
theorem Ad8 {h : HouseR} {c : SheetR} {G : List Int} {d : Int} (hd : 0 < d) (p : PlanOk h c G) (p' : PlanOk h c (Ae d G)) (ho : Ig c (stL h c G) (Br h c)) {k : Nat} {s : SetR} (hs : h.sets[k]? = some s) : ∃ R, Lat2 (mil d) ⟨0, (s.high : Rat), 0, 0⟩ R (Db h c (stL h c G) k s) (Db h c (stL h c (Ae d G)) k s) := by
 have ho' := (W0 p d).2 ho
 have s1 := (Kp p.v (fun i => (p.st i).1) ho hs c.cues.length (Nat.le_refl _)).1
 have s2 := (Kp p'.v (fun i => (p'.st i).1) ho' hs c.cues.length (Nat.le_refl _)).1
 have c2 := (Z2 p.v (stL h c (Ae d G)) hs c.cues.length (Nat.le_refl _)).1
 obtain ⟨R, e, hp⟩ := A14 p.v (Dg h c G) (fun i => (p.st i).1) hd hs c.cues.length
 rw [<- Oy p] at e
 change Db h c (stL h c (Ae d G)) k s = _ at e
 change Ah (Db h c (stL h c G) k s) at s1
 change Ah (Db h c (stL h c (Ae d G)) k s) at s2
 change Dr (Db h c (stL h c (Ae d G)) k s) at c2
 have hpth : Lb ⟨0, (s.high : Rat), 0, 0⟩ R (Db h c (stL h c G) k s) := hp
 refine ⟨R, e, hpth, fun y Z eR => ?_, s1, s2, ?_, ⟨rfl, rfl, rfl⟩⟩
 ·rw [e, eR] at c2
  have h1 := c2 0 (by simp only [Au, List.map_cons, List.length_cons];omega)
  have h2 : vR ⟨0, (s.high : Rat), 0, 0⟩ (y.f + mil d) = y.a := h1
  unfold vR at h2
  dsimp only at h2 ⊢
  grind
 ·rcases hpth with hx | ⟨hx, y, Z, eR, hy⟩
  ·rw [hx] at s1
   exact fun q hq => Ir s1 q (by simp [hq])
  ·rw [hx, eR] at s1
   rw [eR]
   exact fun q hq => by have := Ir s1 q hq;rw [hy] at this;exact this
theorem X5 {h : HouseR} {c : SheetR} {G : List Int} {n : ByteArray} {s : SetR} (hs : Gn h n = some s) (e : Bj h c G n = 0) : Ig c (stL h c G) (Br h c) := by
 unfold Bj at e
 rw [hs] at e
 dsimp only at e
 split at e
 ·assumption
 ·cases e
def Acs (d : Int) (o o' : Option ConR) : Prop := (o = none /\ o' = none) \/ ∃ y : ConR, o = some y /\ (o' = some ⟨y.a, y.b, y.lo + d, y.hi + d⟩ \/ (y.lo = 0 /\ y.hi = 0 /\ o' = some y))
theorem Um {h : HouseR} {c : SheetR} {G : List Int} {p : ByteArray × ByteArray} {a b : SetR} (q : PairP h c G p a b) (g : Bp h c G p) (hc : Da a b /\ ¬ (Bv a = 0 /\ Bv b = 0)) : dsE (Aw a) (Aw b) (B8 h c G p.1) (B8 h c G p.2) = 0 := Classical.not_not.1 fun k => by
 have hct := q.ct
 unfold Ee at hct
 rw [if_pos hc, if_neg k] at hct
 have h2 : (ctR h c G p).2.2 = dsE (Aw a) (Aw b) (B8 h c G p.1) (B8 h c G p.2) := by rw [hct];rfl
 unfold Bp at g
 rw [h2] at g
 exact g.elim k (A8w _ _ _ _)
theorem A9w {h : HouseR} {c : SheetR} {G : List Int} {d : Int} (hd : 0 < d) (hf : h.fits) (po : PlanOk h c G) (po' : PlanOk h c (Ae d G)) (hn : ¬ c.cues.length = 0) {p : ByteArray × ByteArray} (hm : p ∈ Cz h) (g : Bp h c G p) (g' : Bp h c (Ae d G) p) : Acs d (Hu h c G p) (Hu h c (Ae d G) p) := by
 obtain ⟨a, b, q⟩ := Ox hf po hm g
 obtain ⟨a', b', q'⟩ := Ox hf po' hm g'
 obtain rfl : a = a' := Option.some.inj (q.ha.symm.trans q'.ha)
 obtain rfl : b = b' := Option.some.inj (q.hb.symm.trans q'.hb)
 have ho := X5 q.ha q.e1
 have ea : ∀ G, B8 h c G p.1 = Db h c (stL h c G) (Du h p.1) a := fun G => by unfold B8;rw [q.ha]
 have eb : ∀ G, B8 h c G p.2 = Db h c (stL h c G) (Du h p.2) b := fun G => by unfold B8;rw [q.hb]
 obtain ⟨R, hR⟩ := Ad8 hd po po' ho (k := Du h p.1) (s := a) q.ha
 obtain ⟨Q, hQ⟩ := Ad8 hd po po' ho (k := Du h p.2) (s := b) q.hb
 rw [<- ea, <- ea] at hR
 rw [<- eb, <- eb] at hQ
 have hu : Ds h c (Ae d G) = Ds h c G + mil d := by
  show mil (endI h c (Ae d G)) = mil (endI h c G) + mil d
  rw [Sq po (by omega) hn, Hp]
 have h0 : 0 <= Ds h c G := by
  have := K0 po.endI.1
  rw [Re] at this
  exact this
 have key := A93 hd hR hQ (a := a) (b := b) h0 fun hc => ⟨Um q g hc, Um q' g' hc, by
  have t := q.two
  rcases A7f t.ox t.oy t.x0 t.y0 t.sx t.sy (Um q g hc) with e | e
  ·exact e.sort
  ·exact e.sort⟩
 rw [<- hu] at key
 have h1 := q.ct
 have h2 := q'.ct
 rcases key with ⟨k1, k2⟩ | ⟨lo, hi, k1, k2⟩
 ·rw [k1] at h1
  rw [k2] at h2
  left
  unfold Hu
  rw [h1, h2]
  exact ⟨if_neg (by decide), if_neg (by decide)⟩
 ·rw [k1] at h1
  right
  refine ⟨⟨p.1, p.2, lo, hi⟩, ?_, ?_⟩
  ·unfold Hu
   rw [h1]
   exact if_pos rfl
  ·rcases k2 with k2 | ⟨rfl, rfl, k2⟩
   ·rw [k2] at h2
    left
    unfold Hu
    rw [h2]
    exact if_pos rfl
   ·rw [k2, k1] at h2
    right
    refine ⟨rfl, rfl, ?_⟩
    unfold Hu
    rw [h2]
    exact if_pos rfl
theorem Acj {α β : Type} {f g : α -> Option β} {r : β -> β -> Prop} (l : List α) (hl : ∀ p ∈ l, (f p = none /\ g p = none) \/ ∃ y z, f p = some y /\ g p = some z /\ r y z) : (l.filterMap g).length = (l.filterMap f).length /\ ∀ (k : Nat) (x : β), (l.filterMap f)[k]? = some x -> ∃ y, (l.filterMap g)[k]? = some y /\ r x y := by
 induction l with
 | nil => exact ⟨rfl, fun k x e => by cases e⟩
 | cons p l ih =>
  obtain ⟨i1, i2⟩ := ih fun q hq => hl q (List.mem_cons_of_mem _ hq)
  rcases hl p List.mem_cons_self with ⟨e, e'⟩ | ⟨y, z, e, e', h⟩
  ·rw [List.filterMap_cons_none e, List.filterMap_cons_none e']
   exact ⟨i1, i2⟩
  ·rw [List.filterMap_cons_some e, List.filterMap_cons_some e']
   refine ⟨by rw [List.length_cons, List.length_cons, i1], fun k x hk => ?_⟩
   cases k with
   | zero => exact ⟨z, rfl, Option.some.inj hk ▸ h⟩
   | succ k => exact i2 k x hk
def A7t (d : Int) (x y : ConR) : Prop := y = ⟨x.a, x.b, x.lo + d, x.hi + d⟩ \/ (x.lo = 0 /\ x.hi = 0 /\ y = x)
theorem A91 {d : Int} {o o' : Option ConR} (h : Acs d o o') : (o = none /\ o' = none) \/ ∃ y z, o = some y /\ o' = some z /\ A7t d y z := by
 rcases h with h | ⟨y, e, h⟩
 ·exact .inl h
 ·rcases h with h | ⟨z1, z2, h⟩
  ·exact .inr ⟨y, _, e, h, .inl rfl⟩
  ·exact .inr ⟨y, y, e, h, .inr ⟨z1, z2, rfl⟩⟩
theorem Adj {h : HouseR} {c : SheetR} {G : List Int} {d : Int} (hd : 0 < d) (hf : h.fits) (hn : ¬ c.cues.length = 0) (e : ckE h c G = 0) (e' : ckE h c (Ae d G) = 0) : (ckL h c (Ae d G)).length = (ckL h c G).length /\ ∀ (k : Nat) (x : ConR), (ckL h c G)[k]? = some x -> ∃ y, (ckL h c (Ae d G))[k]? = some y /\ A7t d x y := by
 obtain ⟨a0, el⟩ := Kx e
 obtain ⟨a0', el'⟩ := Kx e'
 have po := (Gx a0).1
 have po' := (Gx a0').1
 unfold ckE at e e'
 rw [if_pos a0] at e
 rw [if_pos a0'] at e'
 have g := L0 e
 have g' := L0 e'
 rw [el, el']
 exact Acj (Cz h) fun p hp => A91 (A9w hd hf po po' hn hp (g p hp) (g' p hp))
theorem Vh {h : HouseR} {c : SheetR} (h6 : c.cues.length <= 6) (S : List Int) (k : Nat) (s : SetR) : Fh h c S k s = 0 \/ Fh h c S k s = 5 := by
 have := O5 h c S k s h6
 unfold Fh
 split
 ·exact .inr rfl
 ·rw [if_neg (by omega)];exact .inl rfl
theorem A9c {a b : SetR} {x y : List PcQ} (hn : x.length + y.length <= 200) (te : Rat) : (pr3 (Ee a b x y te)).2.2 = 0 \/ (pr3 (Ee a b x y te)).2.2 = 12 \/ (pr3 (Ee a b x y te)).2.2 = 5 := by
 unfold Ee
 split
 ·split
  ·unfold B9
   cases e : Bc (A4 (dsL (Aw a) (Aw b) x y) 0) 0 te (A4 (dsL (Aw a) (Aw b) x y) 0).length with
   | none => exact .inr (.inl rfl)
   | some r =>
    obtain ⟨u, v, rfl⟩ := U1 e
    exact .inl rfl
  ·rename_i hd
   rw [(Ach hn).resolve_left hd]
   exact .inr (.inr rfl)
 ·exact .inr (.inl rfl)
theorem Uu {h : HouseR} {c : SheetR} {G : List Int} : ∀ {l : List (ByteArray × ByteArray)}, (∀ p ∈ l, Bp h c G p \/ (ctR h c G p).2.2 = 5) -> F2 h c G l = 0 \/ F2 h c G l = 5
 | [], _ => .inl rfl
 | p :: r, hl => by
  rw [F2]
  split
  ·exact Uu fun q hq => hl q (List.mem_cons_of_mem _ hq)
  ·rename_i hg
   exact .inr ((hl p List.mem_cons_self).resolve_left hg)
theorem A9v {h : HouseR} {c : SheetR} {G : List Int} {d : Int} (h6 : c.cues.length <= 6) (hf : h.fits) (po : PlanOk h c G) (po' : PlanOk h c (Ae d G)) {p : ByteArray × ByteArray} (hm : p ∈ Cz h) (g : Bp h c G p) : Bp h c (Ae d G) p \/ (ctR h c (Ae d G) p).2.2 = 5 := by
 obtain ⟨a, b, q⟩ := Ox hf po hm g
 have ho := (W0 po d).2 (X5 q.ha q.e1)
 have ea : Bj h c (Ae d G) p.1 = Fh h c (stL h c (Ae d G)) (Du h p.1) a := by unfold Bj;rw [q.ha];exact if_pos ho
 have eb : Bj h c (Ae d G) p.2 = Fh h c (stL h c (Ae d G)) (Du h p.2) b := by unfold Bj;rw [q.hb];exact if_pos ho
 have la : B8 h c (Ae d G) p.1 = Db h c (stL h c (Ae d G)) (Du h p.1) a := by unfold B8;rw [q.ha]
 have lb : B8 h c (Ae d G) p.2 = Db h c (stL h c (Ae d G)) (Du h p.2) b := by unfold B8;rw [q.hb]
 have sa := (Kp po'.v (fun i => (po'.st i).1) ho (k := Du h p.1) (s := a) q.ha c.cues.length (Nat.le_refl _)).1
 have sb := (Kp po'.v (fun i => (po'.st i).1) ho (k := Du h p.2) (s := b) q.hb c.cues.length (Nat.le_refl _)).1
 have na := O5 h c (stL h c (Ae d G)) (Du h p.1) a h6
 have nb := O5 h c (stL h c (Ae d G)) (Du h p.2) b h6
 have hct : ctR h c (Ae d G) p = if Bj h c (Ae d G) p.1 = 0 then (if Bj h c (Ae d G) p.2 = 0 then frT a b (B8 h c (Ae d G) p.1) (B8 h c (Ae d G) p.2) (Ds h c (Ae d G)) else (0, 0, Bj h c (Ae d G) p.2)) else (0, 0, Bj h c (Ae d G) p.1) := by unfold ctR;rw [q.ha, q.hb]
 unfold Bp
 rw [hct]
 split
 ·split
  ·unfold frT
   rw [la, lb, if_pos ⟨sa, sb⟩]
   rcases A9c (a := a) (b := b) (x := Db h c (stL h c (Ae d G)) (Du h p.1) a) (y := Db h c (stL h c (Ae d G)) (Du h p.2) b) (by omega) (Ds h c (Ae d G)) with k | k | k
   ·exact .inl (.inl k)
   ·exact .inl (.inr k)
   ·exact .inr k
  ·rename_i k
   rw [eb] at k ⊢
   exact .inr ((Vh h6 _ _ _).resolve_left k)
 ·rename_i k
  rw [ea] at k ⊢
  exact .inr ((Vh h6 _ _ _).resolve_left k)
theorem A71 {h : HouseR} {c : SheetR} {G : List Int} {d : Int} (h6 : c.cues.length <= 6) (hf : h.fits) (e : ckE h c G = 0) : ckE h c (Ae d G) = 0 \/ ckE h c (Ae d G) = 2 \/ ckE h c (Ae d G) = 5 := by
 obtain ⟨a0, _⟩ := Kx e
 have po := (Gx a0).1
 unfold ckE at e ⊢
 rw [if_pos a0] at e
 rcases A99 po d with a1 | a1
 ·rw [if_pos a1]
  have po' := (Gx a1).1
  rcases Uu (G := Ae d G) fun p hp => A9v h6 hf po po' hp (L0 e p hp) with k | k
  ·exact .inl k
  ·exact .inr (.inr k)
 ·rw [a1]
  exact .inr (.inl (if_neg (by decide)))
theorem A5s (l : List Int) : Ae 0 l = l := by
 unfold Ae
 rw [show (fun x : Int => x + 0) = id from funext fun x => Int.add_zero x, List.map_id]
theorem Abn {h : HouseR} {c : SheetR} (v : validP h c) (hn : ¬ c.cues.length = 0) : 0 < Bi c.cues := by
 obtain ⟨q, hq⟩ := A9 (l := c.cues) (k := 0) (by omega)
 have hl := v.lk 0 q hq
 have h1 : q.link = 1 := Classical.not_not.1 fun k => by have := (hl.aft k).2;omega
 have := U2 hq h1
 omega
def Fg (d : Int) (G : List Int) (k : Nat) : List Int := Ae d (G.take k) ++ G.drop k
theorem A6e (d : Int) (G : List Int) : Fg d G G.length = Ae d G := by unfold Fg;rw [List.take_length, List.drop_length, List.append_nil]
theorem X7 (d : Int) (G : List Int) (k : Nat) : (Fg d G k).length = G.length := by
 unfold Fg Ae
 rw [List.length_append, List.length_map, List.length_take, List.length_drop];omega
theorem Aat {d : Int} {G : List Int} {k : Nat} {x : Int} (h : G[k]? = some x) : (Fg d G k)[k]? = some x /\ Fg d G (k + 1) = (Fg d G k).set k (x + d) := by
 have hk := (List.getElem?_eq_some_iff.1 h).1
 have hx := (List.getElem?_eq_some_iff.1 h).2
 have hl : (Ae d (G.take k)).length = k := by unfold Ae;rw [List.length_map, List.length_take];omega
 have hd : G.drop k = x :: G.drop (k + 1) := by rw [List.drop_eq_getElem_cons hk, hx]
 unfold Fg
 constructor
 ·rw [List.getElem?_append_right (by omega), hl, Nat.sub_self, hd];rfl
 ·rw [hd, Pg _ _ _ _ hl, Bn h, Ae, List.map_append, List.append_assoc];rfl
theorem A97 (d : Int) (G : List Int) (k : Nat) : OwnRows (Aa (Fg d G k)) 0 (G.map A3).length 1 ((Fg d G k).map A3) := by
 have := OwnRows.of ((Fg d G k).map A3).flatten (C9 (Fg d G k)) rfl
 rw [List.length_map, X7] at this
 rw [List.length_map]
 exact this
theorem Abh {h : HouseR} {c : SheetR} {G : List Int} {d : Int} (hd : 0 <= d) (hf : h.fits) (hn : ¬ c.cues.length = 0) (e : ckE h c G = 0) (e' : ckE h c (Ae d G) = 0) : (ckL h c (Ae d G)).length = (ckL h c G).length /\ ∀ (k : Nat) (x : ConR), (ckL h c G)[k]? = some x -> ∃ y, (ckL h c (Ae d G))[k]? = some y /\ A7t d x y := by
 by_cases h0 : d = 0
 ·subst h0
  rw [A5s]
  exact ⟨rfl, fun k x hx => ⟨x, hx, .inl (by rw [Int.add_zero, Int.add_zero])⟩⟩
 ·exact Adj (by omega) hf hn e e'
theorem A2l {l : List Int} {k : Nat} {x : Int} (h : l[k]? = some x) : (Aa l)[k]? = some (.i x) := by
 have : Aa l = l.map fun x => (.i x : AV) := by
  clear h
  induction l with
  | nil => rfl
  | cons a l ih => simp only [Aa, A3, List.map_cons, List.flatten_cons, List.cons_append, List.nil_append] at ih ⊢;rw [ih]
 rw [this, List.getElem?_map, h];rfl
theorem A67 {h : HouseR} {c : SheetR} {G : List Int} (po : PlanOk h c G) {x : Int} (hx : x ∈ G) : 0 <= x /\ x <= 1099511627776 := by
 have h1 : ¬ Ek x := fun k => po.given ⟨x, hx, k⟩
 unfold Ek at h1
 omega
set_option maxHeartbeats 64000000 in
theorem Wh (h : HouseR) (c : SheetR) (hf : h.fits) (hc : c.fits) (G : List Int) (hG : G.length <= 4611686018427387904) (w : Int) (w0 : 0 <= w) (w1 : w <= 65535) : Fn0 Tryz.prog 3 [A1 h.row, A1 c.row, .sl (G.map A3), .val (.int .u16 w)] (.b true) := by
 have aw := A63
 have lg := A77 h c hf hc G
 have hlc : (c.cues.map CueR.row).length = c.cues.length := List.length_map _
 by_cases hl : Jx h c G
 ·rw [decide_eq_true hl] at lg
  refine Fn0.of Tryz.func3 Tryz.ntmps3 rfl rfl rfl ?_
  simp only [A2]
  repeat' (first
   | refine W ?_
   | refine Y ?_
   | refine V ?_
   | (refine W2 ?_ ?_ <;> intro hc))
  all_goals exact A5 (by simp) Tryz.results3 rfl rfl
 rw [decide_eq_false hl] at lg
 by_cases hn : c.cues.length = 0
 ·have h1 : (((c.cues.map CueR.row).length : Nat) : Int) = 0 := by omega
  refine Fn0.of Tryz.func3 Tryz.ntmps3 rfl rfl rfl ?_
  simp only [A2]
  repeat' (first
   | refine W ?_
   | refine Y ?_
   | refine V ?_
   | (refine W2 ?_ ?_ <;> intro hc))
  all_goals exact A5 (by simp) Tryz.results3 rfl rfl
 have h1 : ¬ (((c.cues.map CueR.row).length : Nat) : Int) = 0 := by omega
 have hw : IntKind.i64.wrap w = w := Fs (by omega) (by omega)
 have ck := Iz h c hf hc G hG
 by_cases e : ckE h c G = 0
 ·obtain ⟨a0, el⟩ := Kx e
  obtain ⟨po, _⟩ := Gx a0
  have ce := Is h c hf hc G hG a0
  have hei := po.endI
  have hg1 : G.length <= 100 := (Classical.not_not.1 hl).2.2
  have hg0 : 0 < G.length := by rw [po.man];exact Abn po.v hn
  have hle : (G.map A3).length = G.length := List.length_map _
  have h6 : c.cues.length <= 6 := by have := (Classical.not_not.1 hl).2.1.1;omega
  rw [e] at ck
  have ck2 := Iz h c hf hc (Ae w G) (by rw [List.length_map];exact hG)
  have n0 : ¬ ¬ (0 : Int) = 0 := fun k => k rfl
  refine Fn0.of Tryz.func3 Tryz.ntmps3 rfl rfl rfl ?_
  simp only [A2]
  repeat' (first
   | refine W ?_
   | refine Y ?_|(apply S.callOwn 2;exact Sv G (by omega);(iterate 6 exact rfl);exact C9 G;intro hnil;rotate_left;rotate_right)
   | refine V ?_
   | (refine W2 ?_ ?_ <;> intro hc))
  ·exact absurd hnil (by intro hz;rw [List.map_eq_nil_iff] at hz;rw [hz] at hg0;exact absurd hg0 (by decide))
  refine T.loopS (fun k => k <= G.length) (fun k => G.length - k) (fun k => [(61, .i k), (60, .i (G.map A3).length), (13, .own 2 0 (G.map A3).length 1), (3, .val (.int .u16 w)), (4, .ptr 0 0), (5, .ptr 1 0), (9, .sl ((ckL h c G).map ConR.row)), (11, .i (endI h c G))]) (fun k => [.live (h.row.map .lf), .live (c.row.map .lf), .live (Aa (Fg w G k))]) 0 (Nat.zero_le _) CW (.live rfl (.live rfl (.live (Jg _ _) .nil))) ?_
  intro k hk
  by_cases hlt : k < G.length
  ·have h2 : (k : Int) < ((G.map A3).length : Nat) := by omega
   obtain ⟨x, hx⟩ := A9 hlt
   obtain ⟨hx1, hx2⟩ := Aat (d := w) hx
   have hxr : 0 <= x /\ x <= 1099511627776 := A67 po (List.mem_of_getElem? hx)
   have hln := X7 w G k
   have hcl : (Aa (Fg w G k)).length = G.length := by rw [Cy, hln]
   have hcell : (Aa (Fg w G k))[0 + ((k : Nat) : Int).toNat * 1]? = some (.i x) := by
    rw [Nat.zero_add, Nat.mul_one, Int.toNat_natCast];exact A2l hx1
   repeat' (first
    | refine W ?_
    | refine Y ?_|(apply S.indexO;(iterate 4 exact rfl);omega;exact rfl)|(apply S.loadP;exact rfl;exact rfl;exact hcell;exact rfl)|(apply S.conv;exact rfl;exact hw;exact rfl)|(apply S.storeW;(iterate 6 exact rfl);(rw [hcl];simp only [Int.toNat_natCast];omega))
    | refine V ?_
    | (refine W2 ?_ ?_ <;> intro hc))
   change Next _ _ _ _ _ _
   exact Next.go (k + 1) (by omega) (by omega) CW (by
    show CovH _ _ [_, _, .live (Aa (Fg w G (k + 1)))]
    have hlt2 : k < (Fg w G k).length := by omega
    have hu := Jg 3 ((Fg w G k).set k (x + w))
    rw [Iv hlt2] at hu
    rw [hx2, Iv hlt2]
    exact .live rfl (.live rfl (.live hu .nil)))
  obtain rfl : k = G.length := by omega
  have h2 : ¬ ((G.length : Nat) : Int) < ((G.map A3).length : Nat) := by omega
  have hown := A97 w G G.length
  rw [A6e] at hown ⊢
  refine T.freeze 13 rfl rfl hown ?_
  rcases A71 (d := w) h6 hf e with e' | e' | e'
  ·obtain ⟨a0', _⟩ := Kx e'
   have ce2 := Is h c hf hc (Ae w G) (by unfold Ae;rw [List.length_map];exact hG) a0'
   rw [Sq po w0 hn] at ce2
   rw [e'] at ck2
   obtain ⟨hll, hel⟩ := Abh w0 hf hn e e'
   have hl1 : ((ckL h c (Ae w G)).map ConR.row).length = (ckL h c G).length := by rw [List.length_map];exact hll
   have hl2 : ((ckL h c G).map ConR.row).length = (ckL h c G).length := List.length_map _
   have hl3 : ((((ckL h c (Ae w G)).map ConR.row).length : Nat) : Int) = ((((ckL h c G).map ConR.row).length : Nat) : Int) := by rw [hl1, hl2]
   have he0 : endI h c G + w = endI h c G + w := rfl
   have hcs : (ckL h c G).length <= (Cz h).length := by rw [el];exact List.length_filterMap_le _ _
   have hlp := A7v po.v.1
   repeat' (first
    | refine W ?_
    | refine Y ?_|(apply S.conv;exact rfl;exact hw;exact rfl)
    | refine V ?_
    | (refine W2 ?_ ?_ <;> intro hc))
   refine T.loopS (fun k => k <= (ckL h c G).length) (fun k => (ckL h c G).length - k) (fun k => [(114, .i k), (113, .i ((ckL h c G).map ConR.row).length), (112, .sl ((ckL h c G).map ConR.row)), (15, .sl ((ckL h c (Ae w G)).map ConR.row)), (3, .val (.int .u16 w))]) (fun k => []) 0 (Nat.zero_le _) CW CG ?_
   intro k hk
   by_cases hlt : k < (ckL h c G).length
   ·have h3 : (k : Int) < (((ckL h c G).map ConR.row).length : Nat) := by omega
    obtain ⟨x, hx⟩ := A9 hlt
    obtain ⟨y, hy, hxy⟩ := hel k x hx
    have hsp := A9y po (l := Cz h) (x := x) (by rw [<- el];exact List.mem_of_getElem? hx)
    have hb : ((ckL h c G).map ConR.row)[((k : Nat) : Int).toNat]? = some [.s x.a, .s x.b, .i x.lo, .i x.hi] := Ac (R := ConR.row) hx
    have hb2 : ((ckL h c (Ae w G)).map ConR.row)[((k : Nat) : Int).toNat]? = some [.s y.a, .s y.b, .i y.lo, .i y.hi] := Ac (R := ConR.row) hy
    have v1 : x.a = x.a := rfl
    have v2 : x.b = x.b := rfl
    have v3 : x.lo + w = x.lo + w := rfl
    have v4 : x.hi + w = x.hi + w := rfl
    have v5 : x.lo = x.lo /\ x.hi = x.hi := ⟨rfl, rfl⟩
    clear hel hx hy ck2 ce2 ck ce aw lg hown
    rcases hxy with rfl | ⟨x0, x1, rfl⟩
    ·change ((ckL h c (Ae w G)).map ConR.row)[((k : Nat) : Int).toNat]? = some [.s x.a, .s x.b, .i (x.lo + w), .i (x.hi + w)] at hb2
     by_cases hp : 0 < x.hi
     ·have v6 : ¬ x.hi = 0 := by omega
      repeat' (first
       | refine W ?_
       | refine Y ?_|(apply S.conv;exact rfl;exact hw;exact rfl)|refine Zi hb ?_|refine Zi hb2 ?_|(apply S.ne2;exact rfl;exact rfl;exact rfl)
       | refine V ?_
       | (refine W2 ?_ ?_ <;> intro hc))
      all_goals (change Next _ _ _ _ _ _)
      all_goals exact Next.go (k + 1) (by omega) (by omega) CW CG
     ·have v6 : x.hi = 0 := by omega
      have v7 : x.lo + w = w /\ x.hi + w = w := by omega
      repeat' (first
       | refine W ?_
       | refine Y ?_|(apply S.conv;exact rfl;exact hw;exact rfl)|refine Zi hb ?_|refine Zi hb2 ?_|(apply S.ne2;exact rfl;exact rfl;exact rfl)
       | refine V ?_
       | (refine W2 ?_ ?_ <;> intro hc))
      all_goals (change Next _ _ _ _ _ _)
      all_goals exact Next.go (k + 1) (by omega) (by omega) CW CG
    ·have hp : ¬ 0 < y.hi := by omega
     repeat' (first
      | refine W ?_
      | refine Y ?_|(apply S.conv;exact rfl;exact hw;exact rfl)|refine Zi hb ?_|refine Zi hb2 ?_|(apply S.ne2;exact rfl;exact rfl;exact rfl)
      | refine V ?_
      | (refine W2 ?_ ?_ <;> intro hc))
     all_goals (change Next _ _ _ _ _ _)
     all_goals exact Next.go (k + 1) (by omega) (by omega) CW CG
   ·have h3 : ¬ (k : Int) < (((ckL h c G).map ConR.row).length : Nat) := by omega
    repeat' (first
     | refine W ?_
     | refine Y ?_
     | refine V ?_
     | (refine W2 ?_ ?_ <;> intro hc))
    all_goals exact A5 (by simp) Tryz.results3 rfl rfl
  ·rw [e'] at ck2
   obtain ⟨z, f, ce2⟩ : ∃ z f : Int, Fn0 Tryz.prog 9 [A1 h.row, A1 c.row, .sl ((Ae w G).map A3)] (.tup [.i z, .i f]) := by
    by_cases a0 : alE h c (Ae w G) = 0
    ·exact ⟨_, _, Is h c hf hc _ (by unfold Ae;rw [List.length_map];exact hG) a0⟩
    ·exact ⟨_, _, Hw h c hf hc _ (by unfold Ae;rw [List.length_map];exact hG) a0⟩
   repeat' (first
    | refine W ?_
    | refine Y ?_
    | refine V ?_
    | (refine W2 ?_ ?_ <;> intro hc))
   all_goals exact A5 (by simp) Tryz.results3 rfl rfl
  ·rw [e'] at ck2
   obtain ⟨z, f, ce2⟩ : ∃ z f : Int, Fn0 Tryz.prog 9 [A1 h.row, A1 c.row, .sl ((Ae w G).map A3)] (.tup [.i z, .i f]) := by
    by_cases a0 : alE h c (Ae w G) = 0
    ·exact ⟨_, _, Is h c hf hc _ (by unfold Ae;rw [List.length_map];exact hG) a0⟩
    ·exact ⟨_, _, Hw h c hf hc _ (by unfold Ae;rw [List.length_map];exact hG) a0⟩
   repeat' (first
    | refine W ?_
    | refine Y ?_
    | refine V ?_
    | (refine W2 ?_ ?_ <;> intro hc))
   all_goals exact A5 (by simp) Tryz.results3 rfl rfl
 ·rw [Acc e] at ck
  obtain ⟨z, f, ce⟩ : ∃ z f : Int, Fn0 Tryz.prog 9 [A1 h.row, A1 c.row, .sl (G.map A3)] (.tup [.i z, .i f]) := by
   by_cases a0 : alE h c G = 0
   ·exact ⟨_, _, Is h c hf hc G hG a0⟩
   ·exact ⟨_, _, Hw h c hf hc G hG a0⟩
  generalize ckE h c G = x at *
  refine Fn0.of Tryz.func3 Tryz.ntmps3 rfl rfl rfl ?_
  simp only [A2]
  repeat' (first
   | refine W ?_
   | refine Y ?_
   | refine V ?_
   | (refine W2 ?_ ?_ <;> intro hc))
  all_goals exact A5 (by simp) Tryz.results3 rfl rfl
end Go.Proofs.YtcbfnkgodiaiiaaGreat
