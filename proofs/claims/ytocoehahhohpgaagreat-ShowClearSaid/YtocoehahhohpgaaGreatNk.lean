/- Contracts: Least. No conditions but those of each statement. -/
import Derived.Test.YtocoehahhohpgaaGreatPa
import Derived.Test.YtocoehahhohpgaaGreatPl
import Derived.Test.YtocoehahhohpgaaGreatNe
import Derived.Test.YtocoehahhohpgaaGreatNh
import Derived.Test.YtocoehahhohpgaaGreatNi
set_option linter.unusedSimpArgs false
set_option linter.unusedVariables false
namespace Go.Proofs.YtocoehahhohpgaaGreat
open Go.RowKit
structure LS where
 m : Rat
 e : Int
def bef (l : List PcQ) (i : Nat) : Rat := if 0 < i then Ej (A5 l (i - 1)) (kQ ((A5 l i).f - (A5 l (i - 1)).f)) else (A5 l 0).a
def Oh (l : List PcQ) (i : Nat) (e : Int) : Int := if 0 < i then Ei (A5 l (i - 1)) (kQ ((A5 l i).f - (A5 l (i - 1)).f)) (kE ((A5 l i).f - (A5 l (i - 1)).f) e) else e
def ls1 (l : List PcQ) (fr te : Rat) (i : Nat) (s : LS) : LS := if fr < (A5 l i).f /\ (A5 l i).f <= te then ⟨Cd (Cd s.m (A5 l i).a) (bef l i), Oh l i s.e⟩ else s
def lsA (l : List PcQ) (fr : Rat) (i : Nat) : Rat := if (A5 l i).f < fr then fr else (A5 l i).f
def G8 (l : List PcQ) (fr te : Rat) (i : Nat) : Prop := ptB l te i < lsA l fr i \/ (lsA l fr i = ptB l te i /\ i + 1 < l.length /\ (A5 l (i + 1)).f = lsA l fr i) \/ (A5 l i).c.num <= 0
instance (l : List PcQ) (fr te : Rat) (i : Nat) : Decidable (G8 l fr te i) := by unfold G8;exact inferInstance
def lsV (p : PcQ) : Rat := if kQ (2 * p.c) = 0 then 0 else kQ (-p.b / kQ (2 * p.c))
def C8 (p : PcQ) (e : Int) : Int := if kQ (2 * p.c) = 0 then kE (2 * p.c) e else kE (-p.b / kQ (2 * p.c)) (kE (2 * p.c) e)
def ls3 (p : PcQ) (a b : Rat) (s : LS) (e : Int) : LS := if kQ (a - p.f) < lsV p then (if lsV p < kQ (b - p.f) then ⟨Cd s.m (Ej p (lsV p)), Ei p (lsV p) (kE (b - p.f) (kE (a - p.f) e))⟩ else ⟨s.m, kE (b - p.f) (kE (a - p.f) e)⟩) else ⟨s.m, kE (a - p.f) e⟩
def ls2 (l : List PcQ) (fr te : Rat) (i : Nat) (s : LS) : LS × Bool := if G8 l fr te i then (s, false) else if C8 (A5 l i) s.e ≠ 0 then (⟨s.m, C8 (A5 l i) s.e⟩, true) else (ls3 (A5 l i) (lsA l fr i) (ptB l te i) s (C8 (A5 l i) s.e), false)
def ls0 (l : List PcQ) (fr te : Rat) : LS := ⟨Cd (atQ l fr) (atQ l te), atE l te (atE l fr 0)⟩
def lsK (l : List PcQ) (fr te : Rat) : Nat -> LS × Bool
 | 0 => (ls0 l fr te, false)
 | k + 1 => match lsK l fr te k with
  | (s, true) => (s, true)
  | (s, false) => ls2 l fr te k (ls1 l fr te k s)
theorem A4w {l : List PcQ} {fr te : Rat} {k : Nat} {s : LS} (h : lsK l fr te k = (s, true)) : ∀ n, k <= n -> lsK l fr te n = (s, true) := by
 intro n hn
 induction n with
 | zero => obtain rfl : k = 0 := by omega
           exact h
 | succ n ih =>
  by_cases e : k = n + 1
  ·subst e;exact h
  ·rw [lsK, ih (by omega)]
def Fi (l : List PcQ) (fr te : Rat) : AV := D1 (lsK l fr te l.length).1.m (lsK l fr te l.length).1.e
theorem A38 (e e2 : Int) (h2 : e2 ≠ 0) : FnW Tryz.prog 169 [.i e] [A1 [.i 0, .i 0], .i e2] [.i (if e = 0 then e2 else e)] (A1 (frR 0)) := by
 by_cases he : e = 0
 ·rw [if_pos he]
  refine FnW.of Tryz.func169 Tryz.ntmps169 rfl rfl rfl ?_
  intro k o
  simp only [A2]
  repeat' (first | refine W ?_|(apply S.fieldH;exact rfl;exact rfl;exact rfl)|(apply S.nilCheckH;exact rfl;exact rfl;exact rfl)|(apply S.loadH;(iterate 5 exact rfl))|(apply S.storeH;(iterate 5 exact rfl))|(apply T.ret;change Da _ _ _ _ _ _ _ _)|refine Zc Hu ?_ | refine V ?_|(refine W2 ?_ ?_ <;> intro hc))
  exact Dy [A1 (frR 0)] (.inr rfl) (.cons (Res.row (frR 0) rfl rfl rfl rfl rfl) .nil) rfl rfl rfl
 ·rw [if_neg he]
  refine FnW.of Tryz.func169 Tryz.ntmps169 rfl rfl rfl ?_
  intro k o
  simp only [A2]
  repeat' (first | refine W ?_|(apply S.fieldH;exact rfl;exact rfl;exact rfl)|(apply S.nilCheckH;exact rfl;exact rfl;exact rfl)|(apply S.loadH;(iterate 5 exact rfl))|(apply S.storeH;(iterate 5 exact rfl))|(apply T.ret;change Da _ _ _ _ _ _ _ _)|refine Zc Hu ?_ | refine V ?_|(refine W2 ?_ ?_ <;> intro hc))
  exact Dy [A1 (frR 0)] (.inr rfl) (.cons (Res.row (frR 0) rfl rfl rfl rfl rfl) .nil) rfl rfl rfl
theorem A26 (p : Rat) (hp : Fits p) : Fn0 Tryz.prog 166 [A1 (frR p), A1 (frR 0)] (.tup [A1 [.i 0, .i 0], .i 16]) := A8y p hp
theorem Fits.neg {q : Rat} (h : Fits q) : Fits (-q) := by
 obtain ⟨h1, h2⟩ := h
 exact ⟨by show (-q.num).natAbs <= _;rw [Int.natAbs_neg];exact h1, h2⟩
theorem Abt {r : Rat} {e : Int} (h : ¬ Fits r) : kE r e ≠ 0 := by
 unfold kE
 rw [if_neg h]
 split
 ·decide
 ·assumption
theorem Rf (p : PcQ) : Fits (lsV p) := by
 unfold lsV
 split
 ·exact Fits.zero
 ·exact Az _
theorem Wp (p : PcQ) (e : Int) (hp : p.ok) (hc : 0 < p.c.num) : ∃ n d e2, Fn0 Tryz.prog 166 [A1 [.i (-p.b.num), .i p.b.den], A1 (frR (kQ (2 * p.c)))] (.tup [A1 [.i n, .i d], .i e2]) /\
  FnW Tryz.prog 169 [.i (kE (2 * p.c) e)] [A1 [.i n, .i d], .i e2] [.i (C8 p e)] (A1 (frR (lsV p))) := by
 by_cases h0 : kQ (2 * p.c) = 0
 ·refine ⟨0, 0, 16, by rw [h0];exact A26 (-p.b) hp.b.neg, ?_⟩
  have hn : ¬ Fits (2 * p.c) := fun h => by
   unfold kQ at h0
   rw [if_pos h] at h0
   have : p.c = 0 := by grind
   rw [this] at hc
   exact absurd hc (by decide)
  have := A38 (kE (2 * p.c) e) 16 (by decide)
  rw [if_neg (Abt hn)] at this
  unfold lsV C8
  rw [if_pos h0, if_pos h0]
  exact this
 ·have hd := A1f (-p.b) (kQ (2 * p.c)) hp.b.neg (Az _) h0
  unfold D8 at hd
  unfold lsV C8
  rw [if_neg h0, if_neg h0]
  by_cases hf : Fits (-p.b / kQ (2 * p.c))
  ·rw [if_pos hf] at hd
   refine ⟨_, _, 0, hd, ?_⟩
   rw [show kQ (-p.b / kQ (2 * p.c)) = -p.b / kQ (2 * p.c) from if_pos hf, show kE (-p.b / kQ (2 * p.c)) (kE (2 * p.c) e) = kE (2 * p.c) e from if_pos hf]
   exact K3 _ _ _
  ·rw [if_neg hf] at hd
   refine ⟨_, _, 5, hd, ?_⟩
   rw [show kQ (-p.b / kQ (2 * p.c)) = 0 from if_neg hf, show kE (-p.b / kQ (2 * p.c)) (kE (2 * p.c) e) = if kE (2 * p.c) e = 0 then 5 else kE (2 * p.c) e from if_neg hf]
   exact K4 _
theorem Fc {p q : Rat} (hp : Fits p) (hq : Fits q) : Fits (Cd p q) := by
 unfold Cd
 split
 ·exact hq
 ·exact hp
theorem Hz {l : List PcQ} {t : Rat} (hl : okC l) (h0 : l ≠ []) : Fits (atQ l t) := by
 unfold atQ
 split
 ·have h : l[0]? = some (l[0]'(List.length_pos_iff.2 h0)) := List.getElem?_eq_getElem _
  rw [Bf h]
  exact (hl _ (List.mem_of_getElem? h)).a
 ·exact Az _
set_option maxHeartbeats 64000000 in
theorem A4y (l : List PcQ) (fr te : Rat) (hl : okC l) (h0 : l ≠ []) (hn : l.length <= 200) (hf : Fits fr) (ht : Fits te) (hv : Fn0 Tryz.prog 95 [.sl (l.map PcQ.row)] (.b true)) (hle : fr <= te) :
  Fn0 Tryz.prog 117 [.sl (l.map PcQ.row), A1 (frR fr), A1 (frR te)] (Fi l fr te) := by
 have v1 : Fn0 Tryz.prog 49 [A1 (frR fr)] (.b true) := by
  have := E4 fr.num fr.den
  rwa [hf.valid] at this
 have v2 : Fn0 Tryz.prog 49 [A1 (frR te)] (.b true) := by
  have := E4 te.num te.den
  rwa [ht.valid] at this
 have c := An fr te hf ht
 have k0 : ¬ 0 < Ao fr te := fun h => Rat.not_lt.2 hle ((Gx _ _).1 h)
 have a1 := A09 l fr 0 hl h0 (by omega) hf
 have a2 := A09 l te (atE l fr 0) hl h0 (by omega) ht
 have a3 := Ho (atQ l fr) (atQ l te) (Hz hl h0) (Hz hl h0)
 have hll : (l.map PcQ.row).length = l.length := List.length_map _
 have hpos : 0 < l.length := List.length_pos_iff.2 h0
 obtain ⟨x0, hx0⟩ : ∃ x, l[0]? = some x := ⟨l[0]'hpos, List.getElem?_eq_getElem _⟩
 have hb0 : (l.map PcQ.row)[(0 : Int).toNat]? = some x0.row := by rw [show (0 : Int).toNat = 0 from rfl, List.getElem?_map, hx0];rfl
 have hp0 : A5 l 0 = x0 := Bf hx0
 have ok0 := hl x0 (List.mem_of_getElem? hx0)
 refine Fn0.of Tryz.func117 Tryz.ntmps117 rfl rfl rfl ?_
 simp only [A2]
 repeat' (first | refine W ?_|(refine T.heat 3 [.i 0] rfl rfl ?_;intro k o)|refine Zc hv ?_|refine Zc v1 ?_|refine Zc v2 ?_|refine Zc c ?_|(apply S.callW;(iterate 5 exact rfl);exact a1;exact rfl)|(apply S.callWD;(iterate 6 exact rfl);exact a1;exact rfl)|(apply S.callW;(iterate 5 exact rfl);exact a2;exact rfl)|(apply S.callWD;(iterate 6 exact rfl);exact a2;exact rfl)|refine Zc a3 ?_|(apply T.drawAll A0 (by decide +kernel)) | refine V ?_|(refine W2 ?_ ?_ <;> intro hc))
 refine T.loopS (fun i => i <= l.length /\ (lsK l fr te i).2 = false /\ Fits (lsK l fr te i).1.m) (fun i => l.length - i) (fun i => [(50, .i (i : Int)), (49, .i (((l.map PcQ.row).length : Nat) : Int)), (48, .sl (l.map PcQ.row)), (0, .sl (l.map PcQ.row)), (4, .ptr 0 0), (5, .ptr 1 0), (6, .ptr 2 0), (8, .ptr 3 0), (9, .ptr 4 0)]) (fun i => [.live ((frR fr).map .lf), .live ((frR te).map .lf), .live [.i 0, .i 0], .hot k o [.i ((lsK l fr te i).1.e)], .live ((frR ((lsK l fr te i).1.m)).map .lf)]) 0 ⟨Nat.zero_le _, rfl, Fc (Hz hl h0) (Hz hl h0)⟩ CW (.live rfl (.live rfl (.live rfl (.hot (.live rfl .nil))))) ?_
 rintro i ⟨hi, hd, hfm⟩
 obtain ⟨s, hs⟩ : ∃ s, s = (lsK l fr te i).1 := ⟨_, rfl⟩
 have hK : lsK l fr te i = (s, false) := by rw [hs, <- hd]
 rw [<- hs] at hfm ⊢
 by_cases hlt : i < l.length
 ·have h1 : (i : Int) < (((l.map PcQ.row).length : Nat) : Int) := by omega
  obtain ⟨x, hx⟩ := A9 hlt
  have hbx := Ac (R := PcQ.row) hx
  have okx := hl x (List.mem_of_getElem? hx)
  have px : A5 l i = x := Bf hx
  obtain ⟨y0, hy0⟩ : ∃ y, l[i - 1]? = some y := ⟨l[i - 1]'(by omega), List.getElem?_eq_getElem _⟩
  have hbp : (l.map PcQ.row)[((i : Int) - 1).toNat]? = some y0.row := by rw [show ((i : Int) - 1).toNat = i - 1 by omega, List.getElem?_map, hy0];rfl
  have ok1 := hl y0 (List.mem_of_getElem? hy0)
  have pp : A5 l (i - 1) = y0 := Bf hy0
  have hsn : lsK l fr te (i + 1) = ls2 l fr te i (ls1 l fr te i s) := by rw [lsK, hK]
  have ca := An x.f fr okx.f hf
  have ka := Gx x.f fr
  have kl := Cx x.f fr
  have cb := An x.f te okx.f ht
  have kb := Hp x.f te
  have m1 := Ho s.m x.a hfm okx.a
  have u1 := Gs x.f y0.f s.e okx.f ok1.f
  have u2 := Ik y0 (kQ (x.f - y0.f)) (kE (x.f - y0.f) s.e) ok1 (Az _)
  have m2 := Ho (Cd s.m x.a) (Ej y0 (kQ (x.f - y0.f))) (Fc hfm okx.a) (Az _)
  have m3 := Ho (Cd s.m x.a) x0.a (Fc hfm okx.a) ok0.a
  obtain ⟨s1, hs1⟩ : ∃ s1, s1 = ls1 l fr te i s := ⟨_, rfl⟩
  have e1 : 0 < Ao x.f fr -> Ao x.f te <= 0 -> (0 : Int) < (i : Int) -> s1 = ⟨Cd (Cd s.m x.a) (Ej y0 (kQ (x.f - y0.f))), Ei y0 (kQ (x.f - y0.f)) (kE (x.f - y0.f) s.e)⟩ := fun p q r => by
   rw [hs1, ls1, px, if_pos ⟨ka.1 p, kb.1 q⟩, bef, Oh, if_pos (by omega), if_pos (by omega), px, pp]
  have e2 : 0 < Ao x.f fr -> Ao x.f te <= 0 -> ¬ (0 : Int) < (i : Int) -> s1 = ⟨Cd (Cd s.m x.a) x0.a, s.e⟩ := fun p q r => by
   rw [hs1, ls1, px, if_pos ⟨ka.1 p, kb.1 q⟩, bef, Oh, if_neg (by omega), if_neg (by omega), hp0]
  have e3 : ¬ 0 < Ao x.f fr -> s1 = s := fun p => by rw [hs1, ls1, px, if_neg fun h => p (ka.2 h.1)]
  have e4 : ¬ Ao x.f te <= 0 -> s1 = s := fun p => by rw [hs1, ls1, px, if_neg fun h => p (kb.2 h.2)]
  have hf1 : Fits s1.m := by
   rw [hs1, ls1]
   split
   ·refine Fc (Fc hfm (by rw [px];exact okx.a)) ?_
    unfold bef
    split
    ·exact Az _
    ·rw [hp0];exact ok0.a
   ·exact hfm
  obtain ⟨a, ha⟩ : ∃ a, a = lsA l fr i := ⟨_, rfl⟩
  obtain ⟨b, hb⟩ : ∃ b, b = ptB l te i := ⟨_, rfl⟩
  have hA : Ao x.f fr < 0 -> a = fr := fun p => by rw [ha, lsA, px, if_pos (kl.1 p)]
  have hA' : ¬ Ao x.f fr < 0 -> a = x.f := fun p => by rw [ha, lsA, px, if_neg fun h => p (kl.2 h)]
  have hfa : Fits a := by
   rw [ha, lsA]
   split
   ·exact hf
   ·rw [px];exact okx.f
  have hfb : Fits b := by
   rw [hb];unfold ptB
   split
   ·rename_i h
    obtain ⟨y, hy⟩ := A9 h.1
    rw [Bf hy];exact (hl y (List.mem_of_getElem? hy)).f
   ·exact ht
  have cab := An a b hfa hfb
  have kab := Gx a b
  have kab0 : Ao a b = 0 ↔ a = b := by
   have q1 := Hp a b
   have q2 := Oy a b
   constructor
   ·intro h
    exact Rat.le_antisymm (q1.1 (by omega)) (q2.1 (by omega))
   ·intro h
    have := q1.2 (by rw [h];exact Rat.le_refl)
    have := q2.2 (by rw [h];exact Rat.le_refl)
    omega
  have d1 : FnW Tryz.prog 168 [.i s1.e] [A1 [.i 2, .i 1], A1 (frR x.c)] [.i (kE (2 * x.c) s1.e)] (A1 (frR (kQ (2 * x.c)))) := Lg 2 x.c s1.e (by decide) okx.c
  have hbn : -9223372036854775808 < x.b.num /\ x.b.num <= 9223372036854775807 := by have := okx.b.1;omega
  have f1 := Gs a x.f (C8 x s1.e) hfa okx.f
  have f2 := Gs b x.f (kE (a - x.f) (C8 x s1.e)) hfb okx.f
  have f3 := Ik x (lsV x) (kE (b - x.f) (kE (a - x.f) (C8 x s1.e))) okx (Rf x)
  have f4 := Ho s1.m (Ej x (lsV x)) hf1 (Az _)
  have g1 := An (lsV x) (kQ (a - x.f)) (Rf x) (Az _)
  have g2 := An (lsV x) (kQ (b - x.f)) (Rf x) (Az _)
  have k1 := Gx (lsV x) (kQ (a - x.f))
  have k2 := Cx (lsV x) (kQ (b - x.f))
  by_cases hlast : i + 1 < l.length
  ·have h2 : (i : Int) + 1 < (((l.map PcQ.row).length : Nat) : Int) := by omega
   obtain ⟨y, hy⟩ := A9 hlast
   have hby : (l.map PcQ.row)[((i : Int) + 1).toNat]? = some y.row := by rw [show ((i : Int) + 1).toNat = i + 1 by omega, List.getElem?_map, hy];rfl
   have oky := hl y (List.mem_of_getElem? hy)
   have py : A5 l (i + 1) = y := Bf hy
   have cy := An y.f te oky.f ht
   have ky := Cx y.f te
   have cya := An y.f a oky.f hfa
   have kya : Ao y.f a = 0 ↔ y.f = a := by
    have q1 := Hp y.f a
    have q2 := Oy y.f a
    constructor
    ·intro h
     exact Rat.le_antisymm (q1.1 (by omega)) (q2.1 (by omega))
    ·intro h
     have := q1.2 (by rw [h];exact Rat.le_refl)
     have := q2.2 (by rw [h];exact Rat.le_refl)
     omega
   have hB : Ao y.f te < 0 -> b = y.f := fun h => by rw [hb, ptB, if_pos ⟨hlast, by rw [py];exact ky.1 h⟩, py]
   have hB' : ¬ Ao y.f te < 0 -> b = te := fun h => by rw [hb, ptB, if_neg fun e => h (ky.2 (by rw [<- py];exact e.2))]
   have hO : G8 l fr te i ↔ 0 < Ao a b \/ (Ao a b = 0 /\ Ao y.f a = 0) \/ x.c.num <= 0 := by rw [G8, <- ha, <- hb, px, py, kab, kab0, kya];simp only [hlast, true_and]
   repeat' (first | refine W ?_|(apply S.fieldH;exact rfl;exact rfl;exact rfl)|(apply S.nilCheckH;exact rfl;exact rfl;exact rfl)|(apply S.loadH;(iterate 5 exact rfl))|(apply S.storeH;(iterate 5 exact rfl))|refine Za ?_|(apply S.loadRW;(iterate 4 exact rfl))|refine Zi hbx ?_|refine Zi hbp ?_|refine Zi hb0 ?_|refine Zc ca ?_|refine Zc cb ?_|refine Zc m1 ?_|(apply S.callW;(iterate 5 exact rfl);exact u1;exact rfl)|(apply S.callWD;(iterate 6 exact rfl);exact u1;exact rfl)|(apply S.callW;(iterate 5 exact rfl);exact u2;exact rfl)|(apply S.callWD;(iterate 6 exact rfl);exact u2;exact rfl)|refine Zc m2 ?_|refine Zc m3 ?_|refine Zi hby ?_|refine Zc cy ?_|refine Zc cya ?_|(refine T.meetR 10 ([(10, .i (i : Int)), (11, .ptr 5 0), (50, .i (i : Int)), (49, .i (((l.map PcQ.row).length : Nat) : Int)), (48, .sl (l.map PcQ.row)), (0, .sl (l.map PcQ.row)), (4, .ptr 0 0), (5, .ptr 1 0), (6, .ptr 2 0), (8, .ptr 3 0), (9, .ptr 4 0)]) ([.live ((frR fr).map .lf), .live ((frR te).map .lf), .live [.i 0, .i 0], .hot k o [.i (s1.e)], .live ((frR (s1.m)).map .lf), .live (x.row.map .lf)]) ?_ ?_)|(refine T.meetR 17 ([(13, .ptr 6 0), (14, .ptr 7 0), (10, .i (i : Int)), (11, .ptr 5 0), (50, .i (i : Int)), (49, .i (((l.map PcQ.row).length : Nat) : Int)), (48, .sl (l.map PcQ.row)), (0, .sl (l.map PcQ.row)), (4, .ptr 0 0), (5, .ptr 1 0), (6, .ptr 2 0), (8, .ptr 3 0), (9, .ptr 4 0)]) ([.live ((frR fr).map .lf), .live ((frR te).map .lf), .live [.i 0, .i 0], .hot k o [.i (s1.e)], .live ((frR (s1.m)).map .lf), .live (x.row.map .lf), .live ((frR (a)).map .lf), .live ((frR (te)).map .lf)]) ?_ ?_)|(refine T.meetS 19 ([(13, .ptr 6 0), (14, .ptr 7 0), (10, .i (i : Int)), (11, .ptr 5 0), (50, .i (i : Int)), (49, .i (((l.map PcQ.row).length : Nat) : Int)), (48, .sl (l.map PcQ.row)), (0, .sl (l.map PcQ.row)), (4, .ptr 0 0), (5, .ptr 1 0), (6, .ptr 2 0), (8, .ptr 3 0), (9, .ptr 4 0)]) ([.live ((frR fr).map .lf), .live ((frR te).map .lf), .live [.i 0, .i 0], .hot k o [.i (s1.e)], .live ((frR (s1.m)).map .lf), .live (x.row.map .lf), .live ((frR (a)).map .lf), .live ((frR (b)).map .lf)]) ?_ ?_)|(apply T.draw 17 A0 (by decide +kernel);simp only [td])|(apply T.drawR 17 A0 (by decide +kernel);simp only [td])|(apply T.drawR 16 A0 (by decide +kernel);simp only [td])|(apply T.drawAll A0 (by decide +kernel)) | refine V ?_|(refine W2 ?_ ?_ <;> intro hc))
   all_goals try first
    | exact T.met CW (by rw [e1 (by assumption) (by assumption) (by assumption)];exact (.live rfl (.live rfl (.live rfl (.hot CG)))))
    | exact T.met CW (by rw [e2 (by assumption) (by assumption) (by assumption)];exact (.live rfl (.live rfl (.live rfl (.hot CG)))))
    | exact T.met CW (by rw [e3 (by assumption)];exact (.live rfl (.live rfl (.live rfl (.hot CG)))))
    | exact T.met CW (by rw [e4 (by assumption)];exact (.live rfl (.live rfl (.live rfl (.hot CG)))))
    | exact T.met CW (by rw [hA (by assumption)];exact (.live rfl (.live rfl (.live rfl (.hot CG)))))
    | exact T.met CW (by rw [hA' (by assumption)];exact (.live rfl (.live rfl (.live rfl (.hot CG)))))
    | exact T.met CW (by rw [hB (by assumption)];exact (.live rfl (.live rfl (.live rfl (.hot CG)))))
    | exact T.met CW (by rw [hB' (by assumption)];exact (.live rfl (.live rfl (.live rfl (.hot CG)))))
   refine ⟨?_⟩
   clear m1 u1 u2 m2 m3 ca cb e1 e2 e3 e4 hA hA' a1 a2 a3 v1 v2 c hbp hb0
   by_cases hO1 : G8 l fr te i
   ·have hE : lsK l fr te (i + 1) = (s1, false) := by rw [hsn, <- hs1, ls2, if_pos hO1]
    repeat' (first | refine W ?_|(apply S.fieldH;exact rfl;exact rfl;exact rfl)|(apply S.nilCheckH;exact rfl;exact rfl;exact rfl)|(apply S.loadH;(iterate 5 exact rfl))|(apply S.storeH;(iterate 5 exact rfl))|refine Za ?_|(apply S.loadRW;(iterate 4 exact rfl))|refine Zc cab ?_|refine Zi hby ?_|refine Zc cy ?_|refine Zc cya ?_|(apply T.drawR 34 A0 (by decide +kernel);simp only [td])|(apply T.drawAll A0 (by decide +kernel)) | refine V ?_|(refine W2 ?_ ?_ <;> intro hc))
    all_goals first
     | (change Next _ _ _ _ _ _;exact Next.go (i + 1) ⟨by omega, by rw [hE], by rw [hE];exact hf1⟩ (by omega) CW (by rw [hE];exact (.live rfl (.live rfl (.live rfl (.hot (.live rfl .nil)))))))
     | (exfalso;have := hO.1 hO1;omega)
   ·have hO2 := fun h => hO1 (hO.2 h)
    have hcn : 0 < x.c.num := by rcases Int.lt_or_le 0 x.c.num with h | h;exact h;exact absurd (.inr (.inr h)) hO2
    obtain ⟨n, d, e2', d2, d3⟩ := Wp x s1.e okx hcn
    have q1 : ¬ 0 < Ao a b := fun e => hO2 (.inl e)
    have q2 : Ao a b = 0 -> ¬ Ao y.f a = 0 := fun e e' => hO2 (.inr (.inl ⟨e, e'⟩))
    have q3 : ¬ x.c.num <= 0 := by omega
    clear hO2
    by_cases hve : C8 x s1.e = 0
    ·by_cases hv1 : kQ (a - x.f) < lsV x
     ·have hv1' := k1.2 hv1
      by_cases hv2 : lsV x < kQ (b - x.f)
      ·have hv2' := k2.2 hv2
       have hE : lsK l fr te (i + 1) = (⟨Cd s1.m (Ej x (lsV x)), Ei x (lsV x) (kE (b - x.f) (kE (a - x.f) (C8 x s1.e)))⟩, false) := by rw [hsn, <- hs1, ls2, if_neg hO1, px, if_neg (fun h => h hve), <- ha, <- hb, ls3, if_pos hv1, if_pos hv2]
       repeat' (first | refine W ?_|(apply S.fieldH;exact rfl;exact rfl;exact rfl)|(apply S.nilCheckH;exact rfl;exact rfl;exact rfl)|(apply S.loadH;(iterate 5 exact rfl))|(apply S.storeH;(iterate 5 exact rfl))|refine Za ?_|(apply S.loadRW;(iterate 4 exact rfl))|refine Zc cab ?_|refine Zi hby ?_|refine Zc cy ?_|refine Zc cya ?_|(apply T.drawR 34 A0 (by decide +kernel);simp only [td])|(apply S.neg;exact rfl;exact rfl;omega)|(apply S.callW;(iterate 5 exact rfl);exact d1;exact rfl)|(apply S.callWD;(iterate 6 exact rfl);exact d1;exact rfl)|refine Zc d2 ?_|(apply S.callW;(iterate 5 exact rfl);exact d3;exact rfl)|(apply S.callWD;(iterate 6 exact rfl);exact d3;exact rfl)|(apply S.callW;(iterate 5 exact rfl);exact f1;exact rfl)|(apply S.callWD;(iterate 6 exact rfl);exact f1;exact rfl)|(apply S.callW;(iterate 5 exact rfl);exact f2;exact rfl)|(apply S.callWD;(iterate 6 exact rfl);exact f2;exact rfl)|(apply S.callW;(iterate 5 exact rfl);exact f3;exact rfl)|(apply S.callWD;(iterate 6 exact rfl);exact f3;exact rfl)|refine Zc f4 ?_|refine Zc g1 ?_|refine Zc g2 ?_|(apply T.draw 18 A0 (by decide +kernel);simp only [td])|(apply T.drawR 18 A0 (by decide +kernel);simp only [td])|(apply T.draw 6 A0 (by decide +kernel);simp only [td])|(apply T.drawR 6 A0 (by decide +kernel);simp only [td])|(apply T.drawAll A0 (by decide +kernel)) | refine V ?_|(refine W2 ?_ ?_ <;> intro hc))
       all_goals first
        | (change Next _ _ _ _ _ _;exact Next.go (i + 1) ⟨by omega, by rw [hE], by rw [hE];exact Fc hf1 (Az _)⟩ (by omega) CW (by rw [hE];exact (.live rfl (.live rfl (.live rfl (.hot (.live rfl .nil)))))))
        | (exfalso;exact q2 (by assumption) (by assumption))
      ·have hv2' : ¬ Ao (lsV x) (kQ (b - x.f)) < 0 := fun e => hv2 (k2.1 e)
       have hE : lsK l fr te (i + 1) = (⟨s1.m, kE (b - x.f) (kE (a - x.f) (C8 x s1.e))⟩, false) := by rw [hsn, <- hs1, ls2, if_neg hO1, px, if_neg (fun h => h hve), <- ha, <- hb, ls3, if_pos hv1, if_neg hv2]
       repeat' (first | refine W ?_|(apply S.fieldH;exact rfl;exact rfl;exact rfl)|(apply S.nilCheckH;exact rfl;exact rfl;exact rfl)|(apply S.loadH;(iterate 5 exact rfl))|(apply S.storeH;(iterate 5 exact rfl))|refine Za ?_|(apply S.loadRW;(iterate 4 exact rfl))|refine Zc cab ?_|refine Zi hby ?_|refine Zc cy ?_|refine Zc cya ?_|(apply T.drawR 34 A0 (by decide +kernel);simp only [td])|(apply S.neg;exact rfl;exact rfl;omega)|(apply S.callW;(iterate 5 exact rfl);exact d1;exact rfl)|(apply S.callWD;(iterate 6 exact rfl);exact d1;exact rfl)|refine Zc d2 ?_|(apply S.callW;(iterate 5 exact rfl);exact d3;exact rfl)|(apply S.callWD;(iterate 6 exact rfl);exact d3;exact rfl)|(apply S.callW;(iterate 5 exact rfl);exact f1;exact rfl)|(apply S.callWD;(iterate 6 exact rfl);exact f1;exact rfl)|(apply S.callW;(iterate 5 exact rfl);exact f2;exact rfl)|(apply S.callWD;(iterate 6 exact rfl);exact f2;exact rfl)|(apply S.callW;(iterate 5 exact rfl);exact f3;exact rfl)|(apply S.callWD;(iterate 6 exact rfl);exact f3;exact rfl)|refine Zc f4 ?_|refine Zc g1 ?_|refine Zc g2 ?_|(apply T.draw 18 A0 (by decide +kernel);simp only [td])|(apply T.drawR 18 A0 (by decide +kernel);simp only [td])|(apply T.draw 6 A0 (by decide +kernel);simp only [td])|(apply T.drawR 6 A0 (by decide +kernel);simp only [td])|(apply T.drawAll A0 (by decide +kernel)) | refine V ?_|(refine W2 ?_ ?_ <;> intro hc))
       all_goals first
        | (change Next _ _ _ _ _ _;exact Next.go (i + 1) ⟨by omega, by rw [hE], by rw [hE];exact hf1⟩ (by omega) CW (by rw [hE];exact (.live rfl (.live rfl (.live rfl (.hot (.live rfl .nil)))))))
        | (exfalso;exact q2 (by assumption) (by assumption))
     ·have hv1' : ¬ 0 < Ao (lsV x) (kQ (a - x.f)) := fun e => hv1 (k1.1 e)
      have hE : lsK l fr te (i + 1) = (⟨s1.m, kE (a - x.f) (C8 x s1.e)⟩, false) := by rw [hsn, <- hs1, ls2, if_neg hO1, px, if_neg (fun h => h hve), <- ha, <- hb, ls3, if_neg hv1]
      repeat' (first | refine W ?_|(apply S.fieldH;exact rfl;exact rfl;exact rfl)|(apply S.nilCheckH;exact rfl;exact rfl;exact rfl)|(apply S.loadH;(iterate 5 exact rfl))|(apply S.storeH;(iterate 5 exact rfl))|refine Za ?_|(apply S.loadRW;(iterate 4 exact rfl))|refine Zc cab ?_|refine Zi hby ?_|refine Zc cy ?_|refine Zc cya ?_|(apply T.drawR 34 A0 (by decide +kernel);simp only [td])|(apply S.neg;exact rfl;exact rfl;omega)|(apply S.callW;(iterate 5 exact rfl);exact d1;exact rfl)|(apply S.callWD;(iterate 6 exact rfl);exact d1;exact rfl)|refine Zc d2 ?_|(apply S.callW;(iterate 5 exact rfl);exact d3;exact rfl)|(apply S.callWD;(iterate 6 exact rfl);exact d3;exact rfl)|(apply S.callW;(iterate 5 exact rfl);exact f1;exact rfl)|(apply S.callWD;(iterate 6 exact rfl);exact f1;exact rfl)|(apply S.callW;(iterate 5 exact rfl);exact f2;exact rfl)|(apply S.callWD;(iterate 6 exact rfl);exact f2;exact rfl)|(apply S.callW;(iterate 5 exact rfl);exact f3;exact rfl)|(apply S.callWD;(iterate 6 exact rfl);exact f3;exact rfl)|refine Zc f4 ?_|refine Zc g1 ?_|refine Zc g2 ?_|(apply T.draw 18 A0 (by decide +kernel);simp only [td])|(apply T.drawR 18 A0 (by decide +kernel);simp only [td])|(apply T.draw 6 A0 (by decide +kernel);simp only [td])|(apply T.drawR 6 A0 (by decide +kernel);simp only [td])|(apply T.drawAll A0 (by decide +kernel)) | refine V ?_|(refine W2 ?_ ?_ <;> intro hc))
      all_goals first
       | (change Next _ _ _ _ _ _;exact Next.go (i + 1) ⟨by omega, by rw [hE], by rw [hE];exact hf1⟩ (by omega) CW (by rw [hE];exact (.live rfl (.live rfl (.live rfl (.hot (.live rfl .nil)))))))
       | (exfalso;exact q2 (by assumption) (by assumption))
    ·have hE : lsK l fr te (i + 1) = (⟨s1.m, C8 x s1.e⟩, true) := by rw [hsn, <- hs1, ls2, if_neg hO1, px, if_pos hve]
     have c9 := Ie s1.m (C8 x s1.e)
     rw [show Fi l fr te = D1 s1.m (C8 x s1.e) by rw [Fi, A4w hE _ (by omega)]]
     unfold D1 at c9 ⊢
     rw [if_neg hve] at c9 ⊢
     repeat' (first | refine W ?_|(apply S.fieldH;exact rfl;exact rfl;exact rfl)|(apply S.nilCheckH;exact rfl;exact rfl;exact rfl)|(apply S.loadH;(iterate 5 exact rfl))|(apply S.storeH;(iterate 5 exact rfl))|refine Za ?_|(apply S.loadRW;(iterate 4 exact rfl))|refine Zc cab ?_|refine Zi hby ?_|refine Zc cy ?_|refine Zc cya ?_|(apply T.drawR 34 A0 (by decide +kernel);simp only [td])|(apply S.neg;exact rfl;exact rfl;omega)|(apply S.callW;(iterate 5 exact rfl);exact d1;exact rfl)|(apply S.callWD;(iterate 6 exact rfl);exact d1;exact rfl)|refine Zc d2 ?_|(apply S.callW;(iterate 5 exact rfl);exact d3;exact rfl)|(apply S.callWD;(iterate 6 exact rfl);exact d3;exact rfl)|(apply S.callW;(iterate 5 exact rfl);exact f1;exact rfl)|(apply S.callWD;(iterate 6 exact rfl);exact f1;exact rfl)|(apply S.callW;(iterate 5 exact rfl);exact f2;exact rfl)|(apply S.callWD;(iterate 6 exact rfl);exact f2;exact rfl)|(apply S.callW;(iterate 5 exact rfl);exact f3;exact rfl)|(apply S.callWD;(iterate 6 exact rfl);exact f3;exact rfl)|refine Zc f4 ?_|refine Zc g1 ?_|refine Zc g2 ?_|(apply T.draw 18 A0 (by decide +kernel);simp only [td])|(apply T.drawR 18 A0 (by decide +kernel);simp only [td])|(apply T.draw 6 A0 (by decide +kernel);simp only [td])|(apply T.drawR 6 A0 (by decide +kernel);simp only [td])|(apply T.drawAll A0 (by decide +kernel))|(apply S.callW;(iterate 5 exact rfl);exact c9;exact rfl)|(apply S.callWD;(iterate 6 exact rfl);exact c9;exact rfl) | refine V ?_|(refine W2 ?_ ?_ <;> intro hc))
     all_goals first
      | exact ⟨.inr rfl, [A1 [.i 0, .i 0], .i (C8 x s1.e)], .cons (Res.row [.i 0, .i 0] rfl rfl rfl rfl rfl) (.cons (.tmp rfl) .nil), .tup (.cons (.agg (A7 [.i 0, .i 0])) (.cons (.one (.lf _)) .nil))⟩
      | (exfalso;exact q2 (by assumption) (by assumption))
  ·have h2 : ¬ (i : Int) + 1 < (((l.map PcQ.row).length : Nat) : Int) := by omega
   have hB' : b = te := by rw [hb, ptB, if_neg fun e => hlast e.1]
   have hO : G8 l fr te i ↔ 0 < Ao a b \/ x.c.num <= 0 := by rw [G8, <- ha, <- hb, px, kab];simp only [hlast, false_and, and_false, false_or]
   repeat' (first | refine W ?_|(apply S.fieldH;exact rfl;exact rfl;exact rfl)|(apply S.nilCheckH;exact rfl;exact rfl;exact rfl)|(apply S.loadH;(iterate 5 exact rfl))|(apply S.storeH;(iterate 5 exact rfl))|refine Za ?_|(apply S.loadRW;(iterate 4 exact rfl))|refine Zi hbx ?_|refine Zi hbp ?_|refine Zi hb0 ?_|refine Zc ca ?_|refine Zc cb ?_|refine Zc m1 ?_|(apply S.callW;(iterate 5 exact rfl);exact u1;exact rfl)|(apply S.callWD;(iterate 6 exact rfl);exact u1;exact rfl)|(apply S.callW;(iterate 5 exact rfl);exact u2;exact rfl)|(apply S.callWD;(iterate 6 exact rfl);exact u2;exact rfl)|refine Zc m2 ?_|refine Zc m3 ?_|(refine T.meetR 10 ([(10, .i (i : Int)), (11, .ptr 5 0), (50, .i (i : Int)), (49, .i (((l.map PcQ.row).length : Nat) : Int)), (48, .sl (l.map PcQ.row)), (0, .sl (l.map PcQ.row)), (4, .ptr 0 0), (5, .ptr 1 0), (6, .ptr 2 0), (8, .ptr 3 0), (9, .ptr 4 0)]) ([.live ((frR fr).map .lf), .live ((frR te).map .lf), .live [.i 0, .i 0], .hot k o [.i (s1.e)], .live ((frR (s1.m)).map .lf), .live (x.row.map .lf)]) ?_ ?_)|(refine T.meetR 17 ([(13, .ptr 6 0), (14, .ptr 7 0), (10, .i (i : Int)), (11, .ptr 5 0), (50, .i (i : Int)), (49, .i (((l.map PcQ.row).length : Nat) : Int)), (48, .sl (l.map PcQ.row)), (0, .sl (l.map PcQ.row)), (4, .ptr 0 0), (5, .ptr 1 0), (6, .ptr 2 0), (8, .ptr 3 0), (9, .ptr 4 0)]) ([.live ((frR fr).map .lf), .live ((frR te).map .lf), .live [.i 0, .i 0], .hot k o [.i (s1.e)], .live ((frR (s1.m)).map .lf), .live (x.row.map .lf), .live ((frR (a)).map .lf), .live ((frR (te)).map .lf)]) ?_ ?_)|(refine T.meetS 19 ([(13, .ptr 6 0), (14, .ptr 7 0), (10, .i (i : Int)), (11, .ptr 5 0), (50, .i (i : Int)), (49, .i (((l.map PcQ.row).length : Nat) : Int)), (48, .sl (l.map PcQ.row)), (0, .sl (l.map PcQ.row)), (4, .ptr 0 0), (5, .ptr 1 0), (6, .ptr 2 0), (8, .ptr 3 0), (9, .ptr 4 0)]) ([.live ((frR fr).map .lf), .live ((frR te).map .lf), .live [.i 0, .i 0], .hot k o [.i (s1.e)], .live ((frR (s1.m)).map .lf), .live (x.row.map .lf), .live ((frR (a)).map .lf), .live ((frR (b)).map .lf)]) ?_ ?_)|(apply T.draw 17 A0 (by decide +kernel);simp only [td])|(apply T.drawR 17 A0 (by decide +kernel);simp only [td])|(apply T.drawR 16 A0 (by decide +kernel);simp only [td])|(apply T.drawAll A0 (by decide +kernel)) | refine V ?_|(refine W2 ?_ ?_ <;> intro hc))
   all_goals try first
    | exact T.met CW (by rw [e1 (by assumption) (by assumption) (by assumption)];exact (.live rfl (.live rfl (.live rfl (.hot CG)))))
    | exact T.met CW (by rw [e2 (by assumption) (by assumption) (by assumption)];exact (.live rfl (.live rfl (.live rfl (.hot CG)))))
    | exact T.met CW (by rw [e3 (by assumption)];exact (.live rfl (.live rfl (.live rfl (.hot CG)))))
    | exact T.met CW (by rw [e4 (by assumption)];exact (.live rfl (.live rfl (.live rfl (.hot CG)))))
    | exact T.met CW (by rw [hA (by assumption)];exact (.live rfl (.live rfl (.live rfl (.hot CG)))))
    | exact T.met CW (by rw [hA' (by assumption)];exact (.live rfl (.live rfl (.live rfl (.hot CG)))))
    | exact T.met CW (by rw [hB'];exact (.live rfl (.live rfl (.live rfl (.hot CG)))))
   refine ⟨?_⟩
   clear m1 u1 u2 m2 m3 ca cb e1 e2 e3 e4 hA hA' a1 a2 a3 v1 v2 c hbp hb0
   by_cases hO1 : G8 l fr te i
   ·have hE : lsK l fr te (i + 1) = (s1, false) := by rw [hsn, <- hs1, ls2, if_pos hO1]
    repeat' (first | refine W ?_|(apply S.fieldH;exact rfl;exact rfl;exact rfl)|(apply S.nilCheckH;exact rfl;exact rfl;exact rfl)|(apply S.loadH;(iterate 5 exact rfl))|(apply S.storeH;(iterate 5 exact rfl))|refine Za ?_|(apply S.loadRW;(iterate 4 exact rfl))|refine Zc cab ?_|(apply T.drawR 34 A0 (by decide +kernel);simp only [td])|(apply T.drawAll A0 (by decide +kernel)) | refine V ?_|(refine W2 ?_ ?_ <;> intro hc))
    all_goals first
     | (change Next _ _ _ _ _ _;exact Next.go (i + 1) ⟨by omega, by rw [hE], by rw [hE];exact hf1⟩ (by omega) CW (by rw [hE];exact (.live rfl (.live rfl (.live rfl (.hot (.live rfl .nil)))))))
     | (exfalso;have := hO.1 hO1;omega)
   ·have hO2 := fun h => hO1 (hO.2 h)
    have hcn : 0 < x.c.num := by rcases Int.lt_or_le 0 x.c.num with h | h;exact h;exact absurd (.inr h) hO2
    obtain ⟨n, d, e2', d2, d3⟩ := Wp x s1.e okx hcn
    have q1 : ¬ 0 < Ao a b := fun e => hO2 (.inl e)
    have q3 : ¬ x.c.num <= 0 := by omega
    clear hO2
    by_cases hve : C8 x s1.e = 0
    ·by_cases hv1 : kQ (a - x.f) < lsV x
     ·have hv1' := k1.2 hv1
      by_cases hv2 : lsV x < kQ (b - x.f)
      ·have hv2' := k2.2 hv2
       have hE : lsK l fr te (i + 1) = (⟨Cd s1.m (Ej x (lsV x)), Ei x (lsV x) (kE (b - x.f) (kE (a - x.f) (C8 x s1.e)))⟩, false) := by rw [hsn, <- hs1, ls2, if_neg hO1, px, if_neg (fun h => h hve), <- ha, <- hb, ls3, if_pos hv1, if_pos hv2]
       repeat' (first | refine W ?_|(apply S.fieldH;exact rfl;exact rfl;exact rfl)|(apply S.nilCheckH;exact rfl;exact rfl;exact rfl)|(apply S.loadH;(iterate 5 exact rfl))|(apply S.storeH;(iterate 5 exact rfl))|refine Za ?_|(apply S.loadRW;(iterate 4 exact rfl))|refine Zc cab ?_|(apply T.drawR 34 A0 (by decide +kernel);simp only [td])|(apply S.neg;exact rfl;exact rfl;omega)|(apply S.callW;(iterate 5 exact rfl);exact d1;exact rfl)|(apply S.callWD;(iterate 6 exact rfl);exact d1;exact rfl)|refine Zc d2 ?_|(apply S.callW;(iterate 5 exact rfl);exact d3;exact rfl)|(apply S.callWD;(iterate 6 exact rfl);exact d3;exact rfl)|(apply S.callW;(iterate 5 exact rfl);exact f1;exact rfl)|(apply S.callWD;(iterate 6 exact rfl);exact f1;exact rfl)|(apply S.callW;(iterate 5 exact rfl);exact f2;exact rfl)|(apply S.callWD;(iterate 6 exact rfl);exact f2;exact rfl)|(apply S.callW;(iterate 5 exact rfl);exact f3;exact rfl)|(apply S.callWD;(iterate 6 exact rfl);exact f3;exact rfl)|refine Zc f4 ?_|refine Zc g1 ?_|refine Zc g2 ?_|(apply T.draw 18 A0 (by decide +kernel);simp only [td])|(apply T.drawR 18 A0 (by decide +kernel);simp only [td])|(apply T.draw 6 A0 (by decide +kernel);simp only [td])|(apply T.drawR 6 A0 (by decide +kernel);simp only [td])|(apply T.drawAll A0 (by decide +kernel)) | refine V ?_|(refine W2 ?_ ?_ <;> intro hc))
       all_goals first
        | (change Next _ _ _ _ _ _;exact Next.go (i + 1) ⟨by omega, by rw [hE], by rw [hE];exact Fc hf1 (Az _)⟩ (by omega) CW (by rw [hE];exact (.live rfl (.live rfl (.live rfl (.hot (.live rfl .nil)))))))
      ·have hv2' : ¬ Ao (lsV x) (kQ (b - x.f)) < 0 := fun e => hv2 (k2.1 e)
       have hE : lsK l fr te (i + 1) = (⟨s1.m, kE (b - x.f) (kE (a - x.f) (C8 x s1.e))⟩, false) := by rw [hsn, <- hs1, ls2, if_neg hO1, px, if_neg (fun h => h hve), <- ha, <- hb, ls3, if_pos hv1, if_neg hv2]
       repeat' (first | refine W ?_|(apply S.fieldH;exact rfl;exact rfl;exact rfl)|(apply S.nilCheckH;exact rfl;exact rfl;exact rfl)|(apply S.loadH;(iterate 5 exact rfl))|(apply S.storeH;(iterate 5 exact rfl))|refine Za ?_|(apply S.loadRW;(iterate 4 exact rfl))|refine Zc cab ?_|(apply T.drawR 34 A0 (by decide +kernel);simp only [td])|(apply S.neg;exact rfl;exact rfl;omega)|(apply S.callW;(iterate 5 exact rfl);exact d1;exact rfl)|(apply S.callWD;(iterate 6 exact rfl);exact d1;exact rfl)|refine Zc d2 ?_|(apply S.callW;(iterate 5 exact rfl);exact d3;exact rfl)|(apply S.callWD;(iterate 6 exact rfl);exact d3;exact rfl)|(apply S.callW;(iterate 5 exact rfl);exact f1;exact rfl)|(apply S.callWD;(iterate 6 exact rfl);exact f1;exact rfl)|(apply S.callW;(iterate 5 exact rfl);exact f2;exact rfl)|(apply S.callWD;(iterate 6 exact rfl);exact f2;exact rfl)|(apply S.callW;(iterate 5 exact rfl);exact f3;exact rfl)|(apply S.callWD;(iterate 6 exact rfl);exact f3;exact rfl)|refine Zc f4 ?_|refine Zc g1 ?_|refine Zc g2 ?_|(apply T.draw 18 A0 (by decide +kernel);simp only [td])|(apply T.drawR 18 A0 (by decide +kernel);simp only [td])|(apply T.draw 6 A0 (by decide +kernel);simp only [td])|(apply T.drawR 6 A0 (by decide +kernel);simp only [td])|(apply T.drawAll A0 (by decide +kernel)) | refine V ?_|(refine W2 ?_ ?_ <;> intro hc))
       all_goals first
        | (change Next _ _ _ _ _ _;exact Next.go (i + 1) ⟨by omega, by rw [hE], by rw [hE];exact hf1⟩ (by omega) CW (by rw [hE];exact (.live rfl (.live rfl (.live rfl (.hot (.live rfl .nil)))))))
     ·have hv1' : ¬ 0 < Ao (lsV x) (kQ (a - x.f)) := fun e => hv1 (k1.1 e)
      have hE : lsK l fr te (i + 1) = (⟨s1.m, kE (a - x.f) (C8 x s1.e)⟩, false) := by rw [hsn, <- hs1, ls2, if_neg hO1, px, if_neg (fun h => h hve), <- ha, <- hb, ls3, if_neg hv1]
      repeat' (first | refine W ?_|(apply S.fieldH;exact rfl;exact rfl;exact rfl)|(apply S.nilCheckH;exact rfl;exact rfl;exact rfl)|(apply S.loadH;(iterate 5 exact rfl))|(apply S.storeH;(iterate 5 exact rfl))|refine Za ?_|(apply S.loadRW;(iterate 4 exact rfl))|refine Zc cab ?_|(apply T.drawR 34 A0 (by decide +kernel);simp only [td])|(apply S.neg;exact rfl;exact rfl;omega)|(apply S.callW;(iterate 5 exact rfl);exact d1;exact rfl)|(apply S.callWD;(iterate 6 exact rfl);exact d1;exact rfl)|refine Zc d2 ?_|(apply S.callW;(iterate 5 exact rfl);exact d3;exact rfl)|(apply S.callWD;(iterate 6 exact rfl);exact d3;exact rfl)|(apply S.callW;(iterate 5 exact rfl);exact f1;exact rfl)|(apply S.callWD;(iterate 6 exact rfl);exact f1;exact rfl)|(apply S.callW;(iterate 5 exact rfl);exact f2;exact rfl)|(apply S.callWD;(iterate 6 exact rfl);exact f2;exact rfl)|(apply S.callW;(iterate 5 exact rfl);exact f3;exact rfl)|(apply S.callWD;(iterate 6 exact rfl);exact f3;exact rfl)|refine Zc f4 ?_|refine Zc g1 ?_|refine Zc g2 ?_|(apply T.draw 18 A0 (by decide +kernel);simp only [td])|(apply T.drawR 18 A0 (by decide +kernel);simp only [td])|(apply T.draw 6 A0 (by decide +kernel);simp only [td])|(apply T.drawR 6 A0 (by decide +kernel);simp only [td])|(apply T.drawAll A0 (by decide +kernel)) | refine V ?_|(refine W2 ?_ ?_ <;> intro hc))
      all_goals first
       | (change Next _ _ _ _ _ _;exact Next.go (i + 1) ⟨by omega, by rw [hE], by rw [hE];exact hf1⟩ (by omega) CW (by rw [hE];exact (.live rfl (.live rfl (.live rfl (.hot (.live rfl .nil)))))))
    ·have hE : lsK l fr te (i + 1) = (⟨s1.m, C8 x s1.e⟩, true) := by rw [hsn, <- hs1, ls2, if_neg hO1, px, if_pos hve]
     have c9 := Ie s1.m (C8 x s1.e)
     rw [show Fi l fr te = D1 s1.m (C8 x s1.e) by rw [Fi, A4w hE _ (by omega)]]
     unfold D1 at c9 ⊢
     rw [if_neg hve] at c9 ⊢
     repeat' (first | refine W ?_|(apply S.fieldH;exact rfl;exact rfl;exact rfl)|(apply S.nilCheckH;exact rfl;exact rfl;exact rfl)|(apply S.loadH;(iterate 5 exact rfl))|(apply S.storeH;(iterate 5 exact rfl))|refine Za ?_|(apply S.loadRW;(iterate 4 exact rfl))|refine Zc cab ?_|(apply T.drawR 34 A0 (by decide +kernel);simp only [td])|(apply S.neg;exact rfl;exact rfl;omega)|(apply S.callW;(iterate 5 exact rfl);exact d1;exact rfl)|(apply S.callWD;(iterate 6 exact rfl);exact d1;exact rfl)|refine Zc d2 ?_|(apply S.callW;(iterate 5 exact rfl);exact d3;exact rfl)|(apply S.callWD;(iterate 6 exact rfl);exact d3;exact rfl)|(apply S.callW;(iterate 5 exact rfl);exact f1;exact rfl)|(apply S.callWD;(iterate 6 exact rfl);exact f1;exact rfl)|(apply S.callW;(iterate 5 exact rfl);exact f2;exact rfl)|(apply S.callWD;(iterate 6 exact rfl);exact f2;exact rfl)|(apply S.callW;(iterate 5 exact rfl);exact f3;exact rfl)|(apply S.callWD;(iterate 6 exact rfl);exact f3;exact rfl)|refine Zc f4 ?_|refine Zc g1 ?_|refine Zc g2 ?_|(apply T.draw 18 A0 (by decide +kernel);simp only [td])|(apply T.drawR 18 A0 (by decide +kernel);simp only [td])|(apply T.draw 6 A0 (by decide +kernel);simp only [td])|(apply T.drawR 6 A0 (by decide +kernel);simp only [td])|(apply T.drawAll A0 (by decide +kernel))|(apply S.callW;(iterate 5 exact rfl);exact c9;exact rfl)|(apply S.callWD;(iterate 6 exact rfl);exact c9;exact rfl) | refine V ?_|(refine W2 ?_ ?_ <;> intro hc))
     all_goals first
      | exact ⟨.inr rfl, [A1 [.i 0, .i 0], .i (C8 x s1.e)], .cons (Res.row [.i 0, .i 0] rfl rfl rfl rfl rfl) (.cons (.tmp rfl) .nil), .tup (.cons (.agg (A7 [.i 0, .i 0])) (.cons (.one (.lf _)) .nil))⟩
 ·have h1 : ¬ (i : Int) < (((l.map PcQ.row).length : Nat) : Int) := by omega
  obtain rfl : i = l.length := by omega
  rw [show Fi l fr te = D1 s.m s.e by rw [Fi, hK]]
  have c9 := Ie s.m s.e
  unfold D1 at c9 ⊢
  by_cases he : s.e = 0
  ·rw [if_pos he] at c9 ⊢
   repeat' (first | refine W ?_|(apply S.fieldH;exact rfl;exact rfl;exact rfl)|(apply S.nilCheckH;exact rfl;exact rfl;exact rfl)|(apply S.loadH;(iterate 5 exact rfl))|(apply S.storeH;(iterate 5 exact rfl))|(apply S.callW;(iterate 5 exact rfl);exact c9;exact rfl)|(apply S.callWD;(iterate 6 exact rfl);exact c9;exact rfl) | refine V ?_|(refine W2 ?_ ?_ <;> intro hc))
   exact ⟨.inr rfl, [A1 (frR s.m), .i 0], .cons (Res.row (frR s.m) rfl rfl rfl rfl rfl) (.cons (.tmp rfl) .nil), .tup (.cons (.agg (A7 (frR s.m))) (.cons (.one (.lf _)) .nil))⟩
  ·rw [if_neg he] at c9 ⊢
   repeat' (first | refine W ?_|(apply S.fieldH;exact rfl;exact rfl;exact rfl)|(apply S.nilCheckH;exact rfl;exact rfl;exact rfl)|(apply S.loadH;(iterate 5 exact rfl))|(apply S.storeH;(iterate 5 exact rfl))|(apply S.callW;(iterate 5 exact rfl);exact c9;exact rfl)|(apply S.callWD;(iterate 6 exact rfl);exact c9;exact rfl) | refine V ?_|(refine W2 ?_ ?_ <;> intro hc))
   exact ⟨.inr rfl, [A1 [.i 0, .i 0], .i s.e], .cons (Res.row [.i 0, .i 0] rfl rfl rfl rfl rfl) (.cons (.tmp rfl) .nil), .tup (.cons (.agg (A7 [.i 0, .i 0])) (.cons (.one (.lf _)) .nil))⟩
/-! ### Pieces, values -/
def rpN (l : List PcQ) (t : Rat) : Nat -> Nat
 | 0 => 0
 | k + 1 => if rpN l t k = k /\ (A5 l k).f <= t then k + 1 else rpN l t k
def rpI (l : List PcQ) (t : Rat) : Int := (rpN l t l.length : Int) - 1
theorem Yq (l : List PcQ) (t : Rat) : ∀ k, rpN l t k <= k
 | 0 => Nat.le_refl _
 | k + 1 => by
  have := Yq l t k
  rw [rpN]
  split <;> omega
def okV (p : PcQ) (u : Rat) : Prop := Fits (p.c * u) /\ Fits (p.b + p.c * u) /\ Fits ((p.b + p.c * u) * u) /\ Fits (p.a + (p.b + p.c * u) * u)
instance (p : PcQ) (u : Rat) : Decidable (okV p u) := by unfold okV;exact inferInstance
def Gg (p : PcQ) (u : Rat) : Rat := p.a + (p.b + p.c * u) * u
def okS (p : PcQ) (u : Rat) : Prop := Fits (p.c * u) /\ Fits (2 * (p.c * u)) /\ Fits (p.b + 2 * (p.c * u))
instance (p : PcQ) (u : Rat) : Decidable (okS p u) := by unfold okS;exact inferInstance
def Xa (p : PcQ) (u : Rat) : Rat := p.b + 2 * (p.c * u)
def okA (x : PcQ) (t : Rat) : Prop := Fits (t - x.f) /\ okV x (t - x.f)
instance (x : PcQ) (t : Rat) : Decidable (okA x t) := by unfold okA;exact inferInstance
theorem C5 {r : Rat} (h : Fits r) : kQ r = r := if_pos h
theorem C7 {r : Rat} {e : Int} (h : Fits r) : kE r e = e := if_pos h
theorem Cp {r : Rat} (h : ¬ Fits r) : kE r 0 = 5 := by unfold kE;rw [if_neg h, if_pos rfl]
theorem Ap (r : Rat) : kE r 5 = 5 := by
 unfold kE
 split
 ·rfl
 ·rw [if_neg (by decide)]
theorem Dx (p : PcQ) (u : Rat) : Ei p u 5 = 5 := by simp only [Ei, Ap]
theorem Kf (p : PcQ) (u : Rat) : Jz p u 5 = 5 := by simp only [Jz, Ap]
theorem I5 {p : PcQ} {u : Rat} (h : okV p u) (e : Int) : Ej p u = Gg p u /\ Ei p u e = e := by
 obtain ⟨h1, h2, h3, h4⟩ := h
 unfold Ej Ei A1d Tg Ql F2 Gg
 rw [C5 h1, C5 h2, C5 h3, C5 h4, C7 h4, C7 h3, C7 h2, C7 h1]
 exact ⟨rfl, rfl⟩
theorem P5 {p : PcQ} {u : Rat} (h : ¬ okV p u) : Ei p u 0 = 5 := by
 unfold Ei A1d Tg Ql F2
 by_cases h1 : Fits (p.c * u)
 ·rw [C7 h1, C5 h1]
  by_cases h2 : Fits (p.b + p.c * u)
  ·rw [C7 h2, C5 h2]
   by_cases h3 : Fits ((p.b + p.c * u) * u)
   ·rw [C7 h3, C5 h3]
    exact Cp fun h4 => h ⟨h1, h2, h3, h4⟩
   ·rw [Cp h3, Ap]
  ·rw [Cp h2, Ap, Ap]
 ·rw [Cp h1, Ap, Ap, Ap]
theorem A9s {p : PcQ} {u : Rat} (h : okS p u) (e : Int) : Nt p u = Xa p u /\ Jz p u e = e := by
 obtain ⟨h1, h2, h3⟩ := h
 unfold Nt Jz A1q Nu F2 Xa
 rw [C5 h1, C5 h2, C5 h3, C7 h3, C7 h2, C7 h1]
 exact ⟨rfl, rfl⟩
theorem Aag {p : PcQ} {u : Rat} (h : ¬ okS p u) : Jz p u 0 = 5 := by
 unfold Jz A1q Nu F2
 by_cases h1 : Fits (p.c * u)
 ·rw [C7 h1, C5 h1]
  by_cases h2 : Fits (2 * (p.c * u))
  ·rw [C7 h2, C5 h2]
   exact Cp fun h3 => h ⟨h1, h2, h3⟩
  ·rw [Cp h2, Ap]
 ·rw [Cp h1, Ap, Ap]
def As (l : List PcQ) : Prop := ∀ i, i + 1 < l.length -> (A5 l i).f < (A5 l (i + 1)).f
theorem A5m {l : List PieceR} (h : O9 l) : okC (l.map toQ) /\ (l.map toQ).map PcQ.row = l.map PieceR.row /\ l.map toQ ≠ [] /\ As (l.map toQ) := by
 obtain ⟨h1, h2, h3⟩ := h
 refine ⟨fun p hp => ?_, ?_, fun e => ?_, fun i hi => ?_⟩
 ·obtain ⟨x, hx, rfl⟩ := List.mem_map.1 hp
  exact (h2 x hx).ok.1
 ·rw [List.map_map]
  exact List.map_congr_left fun x hx => (h2 x hx).ok.2
 ·have := congrArg List.length e
  rw [List.length_map, List.length_nil] at this
  omega
 ·rw [List.length_map] at hi
  have a1 : (l.map toQ)[i]? = some (toQ (l[i]'(by omega))) := by rw [List.getElem?_map, List.getElem?_eq_getElem (by omega)];rfl
  have a2 : (l.map toQ)[i + 1]? = some (toQ (l[i + 1]'(by omega))) := by rw [List.getElem?_map, List.getElem?_eq_getElem (by omega)];rfl
  rw [Bf a1, Bf a2, <- Gd (List.getElem?_eq_getElem (by omega)), <- Gd (List.getElem?_eq_getElem (by omega))]
  exact h3 i (by omega)
theorem R4 {l : List PcQ} (hs : As l) (t : Rat) : ∀ k : Nat, k < l.length -> (A5 l k).f <= t -> rpN l t (k + 1) = k + 1
 | 0, _, h => by rw [rpN, if_pos ⟨rfl, h⟩]
 | k + 1, hk, h => by
  have h1 : (A5 l k).f <= t := Rat.le_trans (Rat.le_of_lt (hs k hk)) h
  rw [rpN, if_pos ⟨R4 hs t k (by omega) h1, h⟩]
theorem A01 {l : List PcQ} (hs : As l) (t : Rat) : ∀ k : Nat, k <= l.length -> pcK l t k = (rpN l t k : Int) - 1
 | 0, _ => rfl
 | k + 1, hk => by
  have ih := A01 hs t k (by omega)
  by_cases h : (A5 l k).f <= t
  ·rw [R4 hs t k hk h, pcK, if_pos h];omega
  ·rw [pcK, if_neg h, ih, rpN, if_neg fun e => h e.2]
theorem Aam {l : List PcQ} (hs : As l) (t : Rat) : pcI l t = rpI l t := A01 hs t l.length (Nat.le_refl _)
end Go.Proofs.YtocoehahhohpgaaGreat
