/- Contracts: Least. No conditions but those of each statement. | Contracts: Least of a valid curve between two times. No conditions but those of each statement. -/
import Derived.Test.YtlncmkafjjomgaaGreatNj
import Derived.Test.YtlncmkafjjomgaaGreatNe
set_option linter.unusedSimpArgs false
namespace Go.Proofs.YtlncmkafjjomgaaGreat
set_option linter.unusedVariables false
open Go.RowKit
structure LS where
 m : Rat
 e : Int
def bef (l : List PcQ) (i : Nat) : Rat := if 0 < i then valQ (pcAt l (i - 1)) (kQ ((pcAt l i).f - (pcAt l (i - 1)).f)) else (pcAt l 0).a
def befE (l : List PcQ) (i : Nat) (e : Int) : Int := if 0 < i then valE (pcAt l (i - 1)) (kQ ((pcAt l i).f - (pcAt l (i - 1)).f)) (kE ((pcAt l i).f - (pcAt l (i - 1)).f) e) else e
def ls1 (l : List PcQ) (fr te : Rat) (i : Nat) (s : LS) : LS := if fr < (pcAt l i).f ∧ (pcAt l i).f ≤ te then ⟨minQ (minQ s.m (pcAt l i).a) (bef l i), befE l i s.e⟩ else s
def lsA (l : List PcQ) (fr : Rat) (i : Nat) : Rat := if (pcAt l i).f < fr then fr else (pcAt l i).f
def lsOut (l : List PcQ) (fr te : Rat) (i : Nat) : Prop := ptB l te i < lsA l fr i ∨ (lsA l fr i = ptB l te i ∧ i + 1 < l.length ∧ (pcAt l (i + 1)).f = lsA l fr i) ∨ (pcAt l i).c.num ≤ 0
instance (l : List PcQ) (fr te : Rat) (i : Nat) : Decidable (lsOut l fr te i) := by unfold lsOut;exact inferInstance
def lsV (p : PcQ) : Rat := if kQ (2 * p.c) = 0 then 0 else kQ (-p.b / kQ (2 * p.c))
def lsVE (p : PcQ) (e : Int) : Int := if kQ (2 * p.c) = 0 then kE (2 * p.c) e else kE (-p.b / kQ (2 * p.c)) (kE (2 * p.c) e)
def ls3 (p : PcQ) (a b : Rat) (s : LS) (e : Int) : LS := if kQ (a - p.f) < lsV p then (if lsV p < kQ (b - p.f) then ⟨minQ s.m (valQ p (lsV p)), valE p (lsV p) (kE (b - p.f) (kE (a - p.f) e))⟩ else ⟨s.m, kE (b - p.f) (kE (a - p.f) e)⟩) else ⟨s.m, kE (a - p.f) e⟩
def ls2 (l : List PcQ) (fr te : Rat) (i : Nat) (s : LS) : LS × Bool := if lsOut l fr te i then (s, false) else if lsVE (pcAt l i) s.e ≠ 0 then (⟨s.m, lsVE (pcAt l i) s.e⟩, true) else (ls3 (pcAt l i) (lsA l fr i) (ptB l te i) s (lsVE (pcAt l i) s.e), false)
def ls0 (l : List PcQ) (fr te : Rat) : LS := ⟨minQ (atQ l fr) (atQ l te), atE l te (atE l fr 0)⟩
def lsK (l : List PcQ) (fr te : Rat) : Nat → LS × Bool
 | 0 => (ls0 l fr te, false)
 | k + 1 => match lsK l fr te k with
  | (s, true) => (s, true)
  | (s, false) => ls2 l fr te k (ls1 l fr te k s)
theorem lsK_up {l : List PcQ} {fr te : Rat} {k : Nat} {s : LS} (h : lsK l fr te k = (s, true)) : ∀ n, k ≤ n → lsK l fr te n = (s, true) := by
 intro n hn
 induction n with
 | zero => obtain rfl : k = 0 := by omega
           exact h
 | succ n ih =>
  by_cases e : k = n + 1
  ·subst e;exact h
  ·rw [lsK, ih (by omega)]
def leastA (l : List PcQ) (fr te : Rat) : AV := resA (lsK l fr te l.length).1.m (lsK l fr te l.length).1.e
end Go.Proofs.YtlncmkafjjomgaaGreat
set_option linter.unusedSimpArgs false
namespace Go.Proofs.YtlncmkafjjomgaaGreat
set_option linter.unusedVariables false
open Go.RowKit
theorem sum_keepE (e e2 : Int) (h2 : e2 ≠ 0) : FnW Tryz.prog 76 [.i e] [rowA [.i 0, .i 0], .i e2] [.i (if e = 0 then e2 else e)] (rowA (frR 0)) := by
 by_cases he : e = 0
 ·rw [if_pos he]
  refine FnW.of Tryz.func76 Tryz.ntmps76 rfl rfl rfl ?_
  intro k o
  simp only [entryTm]
  repeat' (first|(apply S.move;exact rfl;exact rfl)|(apply S.fieldH;exact rfl;exact rfl;exact rfl)|(apply S.nilCheckH;exact rfl;exact rfl;exact rfl)|(apply S.loadH;(iterate 5 exact rfl))|(apply S.storeH;(iterate 5 exact rfl))|(apply T.ret;change DoneW _ _ _ _ _ _ _ _)|(apply S.call;exact rfl;exact rfl;exact qua_zero;exact rfl)|(apply S.box;(iterate 6 exact rfl))|(apply S.alloc;(iterate 5 exact rfl))|(apply S.store;(iterate 7 exact rfl))|(apply S.cmp;(iterate 4 exact rfl)) | apply S.nil | apply T.regs | apply T.reg|(apply T.cT;exact rfl;assumption) | apply T.seq)
  exact doneW [rowA (frR 0)] (.inr rfl) (.cons (Res.row (frR 0) rfl rfl rfl rfl rfl) .nil) rfl rfl rfl
 ·rw [if_neg he]
  refine FnW.of Tryz.func76 Tryz.ntmps76 rfl rfl rfl ?_
  intro k o
  simp only [entryTm]
  repeat' (first|(apply S.move;exact rfl;exact rfl)|(apply S.fieldH;exact rfl;exact rfl;exact rfl)|(apply S.nilCheckH;exact rfl;exact rfl;exact rfl)|(apply S.loadH;(iterate 5 exact rfl))|(apply T.ret;change DoneW _ _ _ _ _ _ _ _)|(apply S.call;exact rfl;exact rfl;exact qua_zero;exact rfl)|(apply S.box;(iterate 6 exact rfl))|(apply S.alloc;(iterate 5 exact rfl))|(apply S.store;(iterate 7 exact rfl))|(apply S.cmp;(iterate 4 exact rfl)) | apply S.nil | apply T.regs|(apply T.cT;exact rfl;assumption)|(apply T.cF;exact rfl;assumption) | apply T.seq|(apply T.skip;first | change T _ _ _ _ _ | change Done _ _ _ _ _ | change Next _ _ _ _ _ _ | skip))
  exact doneW [rowA (frR 0)] (.inr rfl) (.cons (Res.row (frR 0) rfl rfl rfl rfl rfl) .nil) rfl rfl rfl
theorem ratio_div0 (p : Rat) (hp : Fits p) : Fn0 Tryz.prog 95 [rowA (frR p), rowA (frR 0)] (.tup [rowA [.i 0, .i 0], .i 16]) := by
 refine Fn0.of_calls (us := [.agg #[.int .i64 p.num, .int .i64 p.den], .agg #[.int .i64 0, .int .i64 1]]) ⟨_, Tryz.func95, rfl, rfl⟩ rfl (fun w L => relV_fracE w L noPl 0 0 16) fun w => ?_
 have := div_any p.num p.den 0 1 w
 rw [show divS p.num p.den 0 1 = (0, 0, 16) by unfold divS;simp [hp.valid, show validB 0 1 = true by decide]] at this
 exact this
theorem Fits.neg {q : Rat} (h : Fits q) : Fits (-q) := by
 obtain ⟨h1, h2⟩ := h
 exact ⟨by show (-q.num).natAbs ≤ _;rw [Int.natAbs_neg];exact h1, h2⟩
theorem kE_ne {r : Rat} {e : Int} (h : ¬ Fits r) : kE r e ≠ 0 := by
 unfold kE
 rw [if_neg h]
 split
 ·decide
 ·assumption
theorem lsV_fits (p : PcQ) : Fits (lsV p) := by
 unfold lsV
 split
 ·exact Fits.zero
 ·exact kQ_fits _
theorem div_keep (p : PcQ) (e : Int) (hp : p.ok) (hc : 0 < p.c.num) : ∃ n d e2, Fn0 Tryz.prog 95 [rowA [.i (-p.b.num), .i p.b.den], rowA (frR (kQ (2 * p.c)))] (.tup [rowA [.i n, .i d], .i e2]) ∧
  FnW Tryz.prog 76 [.i (kE (2 * p.c) e)] [rowA [.i n, .i d], .i e2] [.i (lsVE p e)] (rowA (frR (lsV p))) := by
 by_cases h0 : kQ (2 * p.c) = 0
 ·refine ⟨0, 0, 16, by rw [h0];exact ratio_div0 (-p.b) hp.b.neg, ?_⟩
  have hn : ¬ Fits (2 * p.c) := fun h => by
   unfold kQ at h0
   rw [if_pos h] at h0
   have : p.c = 0 := by grind
   rw [this] at hc
   exact absurd hc (by decide)
  have := sum_keepE (kE (2 * p.c) e) 16 (by decide)
  rw [if_neg (kE_ne hn)] at this
  unfold lsV lsVE
  rw [if_pos h0, if_pos h0]
  exact this
 ·have hd := ratio_divA (-p.b) (kQ (2 * p.c)) hp.b.neg (kQ_fits _) h0
  unfold outA at hd
  unfold lsV lsVE
  rw [if_neg h0, if_neg h0]
  by_cases hf : Fits (-p.b / kQ (2 * p.c))
  ·rw [if_pos hf] at hd
   refine ⟨_, _, 0, hd, ?_⟩
   rw [show kQ (-p.b / kQ (2 * p.c)) = -p.b / kQ (2 * p.c) from if_pos hf, show kE (-p.b / kQ (2 * p.c)) (kE (2 * p.c) e) = kE (2 * p.c) e from if_pos hf]
   exact sum_keep0 _ _ _
  ·rw [if_neg hf] at hd
   refine ⟨_, _, 5, hd, ?_⟩
   rw [show kQ (-p.b / kQ (2 * p.c)) = 0 from if_neg hf, show kE (-p.b / kQ (2 * p.c)) (kE (2 * p.c) e) = if kE (2 * p.c) e = 0 then 5 else kE (2 * p.c) e from if_neg hf]
   exact sum_keep5 _
theorem minQ_fits {p q : Rat} (hp : Fits p) (hq : Fits q) : Fits (minQ p q) := by
 unfold minQ
 split
 ·exact hq
 ·exact hp
theorem atQ_fits {l : List PcQ} {t : Rat} (hl : okC l) (h0 : l ≠ []) : Fits (atQ l t) := by
 unfold atQ
 split
 ·have h : l[0]? = some (l[0]'(List.length_pos_iff.2 h0)) := List.getElem?_eq_getElem _
  rw [pcAt_of h]
  exact (hl _ (List.mem_of_getElem? h)).a
 ·exact kQ_fits _
set_option maxHeartbeats 64000000 in
theorem qua_least (l : List PcQ) (fr te : Rat) (hl : okC l) (h0 : l ≠ []) (hn : l.length ≤ 200) (hf : Fits fr) (ht : Fits te) (hv : Fn0 Tryz.prog 38 [.sl (l.map PcQ.row)] (.b true)) (hle : fr ≤ te) :
  Fn0 Tryz.prog 56 [.sl (l.map PcQ.row), rowA (frR fr), rowA (frR te)] (leastA l fr te) := by
 have v1 : Fn0 Tryz.prog 36 [rowA (frR fr)] (.b true) := by
  have := ratio_valid fr.num fr.den
  rwa [hf.valid] at this
 have v2 : Fn0 Tryz.prog 36 [rowA (frR te)] (.b true) := by
  have := ratio_valid te.num te.den
  rwa [ht.valid] at this
 have c := qua_compare fr te hf ht
 have k0 : ¬ 0 < cmpQ fr te := fun h => Rat.not_lt.2 hle ((cmpQ_gt _ _).1 h)
 have a1 := sum_at0 l fr 0 hl h0 (by omega) hf
 have a2 := sum_at0 l te (atE l fr 0) hl h0 (by omega) ht
 have a3 := qua_lesser (atQ l fr) (atQ l te) (atQ_fits hl h0) (atQ_fits hl h0)
 have hll : (l.map PcQ.row).length = l.length := List.length_map _
 have hpos : 0 < l.length := List.length_pos_iff.2 h0
 obtain ⟨x0, hx0⟩ : ∃ x, l[0]? = some x := ⟨l[0]'hpos, List.getElem?_eq_getElem _⟩
 have hb0 : (l.map PcQ.row)[(0 : Int).toNat]? = some x0.row := by rw [show (0 : Int).toNat = 0 from rfl, List.getElem?_map, hx0];rfl
 have hp0 : pcAt l 0 = x0 := pcAt_of hx0
 have ok0 := hl x0 (List.mem_of_getElem? hx0)
 refine Fn0.of Tryz.func56 Tryz.ntmps56 rfl rfl rfl ?_
 simp only [entryTm]
 repeat' (first|(apply S.move;exact rfl;exact rfl)|(apply S.assign;exact rfl;exact rfl)|(apply S.gC;exact rfl;exact rfl;exact rfl)|(apply S.pCN;exact rfl;exact rfl;exact rfl)|(refine T.heat 3 [.i 0] rfl rfl ?_;intro k o)|(apply S.call;exact rfl;exact rfl;exact hv;exact rfl)|(apply S.call;exact rfl;exact rfl;exact v1;exact rfl)|(apply S.call;exact rfl;exact rfl;exact v2;exact rfl)|(apply S.call;exact rfl;exact rfl;exact c;exact rfl)|(apply S.callWD;(iterate 6 exact rfl);exact a1;exact rfl)|(apply S.callWD;(iterate 6 exact rfl);exact a2;exact rfl)|(apply S.call;exact rfl;exact rfl;exact a3;exact rfl)|(apply T.drawAll anyOrder (by decide +kernel))|(apply S.loadPA;(iterate 4 exact rfl))|(apply S.box;(iterate 6 exact rfl))|(apply S.alloc;(iterate 5 exact rfl))|(apply S.storeD;(iterate 8 exact rfl))|(apply S.cmp;(iterate 4 exact rfl))|(apply S.not;exact rfl;exact rfl;exact rfl)|(apply S.lenR;exact rfl;exact rfl)|(apply S.build;exact rfl;exact rfl;exact rfl) | apply S.nil | apply T.regs|(apply T.cCN;exact rfl)|(apply T.cF;exact rfl;assumption) | apply T.seq|(apply T.skip;first | change T _ _ _ _ _ | change Done _ _ _ _ _ | change Next _ _ _ _ _ _ | skip) | apply T.block)
 refine T.loopS (fun i => i ≤ l.length ∧ (lsK l fr te i).2 = false ∧ Fits (lsK l fr te i).1.m) (fun i => l.length - i) (fun i => [(50, .i (i : Int)), (49, .i (((l.map PcQ.row).length : Nat) : Int)), (48, .sl (l.map PcQ.row)), (0, .sl (l.map PcQ.row)), (4, .ptr 0 0), (5, .ptr 1 0), (6, .ptr 2 0), (8, .ptr 3 0), (9, .ptr 4 0)]) (fun i => [.live ((frR fr).map .lf), .live ((frR te).map .lf), .live [.i 0, .i 0], .hot k o [.i ((lsK l fr te i).1.e)], .live ((frR ((lsK l fr te i).1.m)).map .lf)]) 0 ⟨Nat.zero_le _, rfl, minQ_fits (atQ_fits hl h0) (atQ_fits hl h0)⟩ (.cons rfl rfl (.cons rfl rfl (.cons rfl rfl (.cons rfl rfl (.cons rfl rfl (.cons rfl rfl (.cons rfl rfl (.cons rfl rfl (.cons rfl rfl .nil))))))))) (.live rfl (.live rfl (.live rfl (.hot (.live rfl .nil))))) ?_
 rintro i ⟨hi, hd, hfm⟩
 obtain ⟨s, hs⟩ : ∃ s, s = (lsK l fr te i).1 := ⟨_, rfl⟩
 have hK : lsK l fr te i = (s, false) := by rw [hs, ← hd]
 rw [← hs] at hfm ⊢
 by_cases hlt : i < l.length
 ·have h1 : (i : Int) < (((l.map PcQ.row).length : Nat) : Int) := by omega
  obtain ⟨x, hx⟩ := get_at hlt
  have hbx := row_at (R := PcQ.row) hx
  have okx := hl x (List.mem_of_getElem? hx)
  have px : pcAt l i = x := pcAt_of hx
  obtain ⟨y0, hy0⟩ : ∃ y, l[i - 1]? = some y := ⟨l[i - 1]'(by omega), List.getElem?_eq_getElem _⟩
  have hbp : (l.map PcQ.row)[((i : Int) - 1).toNat]? = some y0.row := by rw [show ((i : Int) - 1).toNat = i - 1 by omega, List.getElem?_map, hy0];rfl
  have ok1 := hl y0 (List.mem_of_getElem? hy0)
  have pp : pcAt l (i - 1) = y0 := pcAt_of hy0
  have hsn : lsK l fr te (i + 1) = ls2 l fr te i (ls1 l fr te i s) := by rw [lsK, hK]
  have ca := qua_compare x.f fr okx.f hf
  have ka := cmpQ_gt x.f fr
  have kl := cmpQ_lt x.f fr
  have cb := qua_compare x.f te okx.f ht
  have kb := cmpQ_le x.f te
  have m1 := qua_lesser s.m x.a hfm okx.a
  have u1 := sum_sub x.f y0.f s.e okx.f ok1.f
  have u2 := sum_value y0 (kQ (x.f - y0.f)) (kE (x.f - y0.f) s.e) ok1 (kQ_fits _)
  have m2 := qua_lesser (minQ s.m x.a) (valQ y0 (kQ (x.f - y0.f))) (minQ_fits hfm okx.a) (kQ_fits _)
  have m3 := qua_lesser (minQ s.m x.a) x0.a (minQ_fits hfm okx.a) ok0.a
  obtain ⟨s1, hs1⟩ : ∃ s1, s1 = ls1 l fr te i s := ⟨_, rfl⟩
  have e1 : 0 < cmpQ x.f fr → cmpQ x.f te ≤ 0 → (0 : Int) < (i : Int) → s1 = ⟨minQ (minQ s.m x.a) (valQ y0 (kQ (x.f - y0.f))), valE y0 (kQ (x.f - y0.f)) (kE (x.f - y0.f) s.e)⟩ := fun p q r => by
   rw [hs1, ls1, px, if_pos ⟨ka.1 p, kb.1 q⟩, bef, befE, if_pos (by omega), if_pos (by omega), px, pp]
  have e2 : 0 < cmpQ x.f fr → cmpQ x.f te ≤ 0 → ¬ (0 : Int) < (i : Int) → s1 = ⟨minQ (minQ s.m x.a) x0.a, s.e⟩ := fun p q r => by
   rw [hs1, ls1, px, if_pos ⟨ka.1 p, kb.1 q⟩, bef, befE, if_neg (by omega), if_neg (by omega), hp0]
  have e3 : ¬ 0 < cmpQ x.f fr → s1 = s := fun p => by rw [hs1, ls1, px, if_neg fun h => p (ka.2 h.1)]
  have e4 : ¬ cmpQ x.f te ≤ 0 → s1 = s := fun p => by rw [hs1, ls1, px, if_neg fun h => p (kb.2 h.2)]
  have hf1 : Fits s1.m := by
   rw [hs1, ls1]
   split
   ·refine minQ_fits (minQ_fits hfm (by rw [px];exact okx.a)) ?_
    unfold bef
    split
    ·exact kQ_fits _
    ·rw [hp0];exact ok0.a
   ·exact hfm
  obtain ⟨a, ha⟩ : ∃ a, a = lsA l fr i := ⟨_, rfl⟩
  obtain ⟨b, hb⟩ : ∃ b, b = ptB l te i := ⟨_, rfl⟩
  have hA : cmpQ x.f fr < 0 → a = fr := fun p => by rw [ha, lsA, px, if_pos (kl.1 p)]
  have hA' : ¬ cmpQ x.f fr < 0 → a = x.f := fun p => by rw [ha, lsA, px, if_neg fun h => p (kl.2 h)]
  have hfa : Fits a := by
   rw [ha, lsA]
   split
   ·exact hf
   ·rw [px];exact okx.f
  have hfb : Fits b := by
   rw [hb];unfold ptB
   split
   ·rename_i h
    obtain ⟨y, hy⟩ := get_at h.1
    rw [pcAt_of hy];exact (hl y (List.mem_of_getElem? hy)).f
   ·exact ht
  have cab := qua_compare a b hfa hfb
  have kab := cmpQ_gt a b
  have kab0 : cmpQ a b = 0 ↔ a = b := by
   have q1 := cmpQ_le a b
   have q2 := cmpQ_ge a b
   constructor
   ·intro h
    exact Rat.le_antisymm (q1.1 (by omega)) (q2.1 (by omega))
   ·intro h
    have := q1.2 (by rw [h];exact Rat.le_refl)
    have := q2.2 (by rw [h];exact Rat.le_refl)
    omega
  have d1 : FnW Tryz.prog 75 [.i s1.e] [rowA [.i 2, .i 1], rowA (frR x.c)] [.i (kE (2 * x.c) s1.e)] (rowA (frR (kQ (2 * x.c)))) := sum_mul 2 x.c s1.e (by decide) okx.c
  have hbn : -9223372036854775808 < x.b.num ∧ x.b.num ≤ 9223372036854775807 := by have := okx.b.1;omega
  have f1 := sum_sub a x.f (lsVE x s1.e) hfa okx.f
  have f2 := sum_sub b x.f (kE (a - x.f) (lsVE x s1.e)) hfb okx.f
  have f3 := sum_value x (lsV x) (kE (b - x.f) (kE (a - x.f) (lsVE x s1.e))) okx (lsV_fits x)
  have f4 := qua_lesser s1.m (valQ x (lsV x)) hf1 (kQ_fits _)
  have g1 := qua_compare (lsV x) (kQ (a - x.f)) (lsV_fits x) (kQ_fits _)
  have g2 := qua_compare (lsV x) (kQ (b - x.f)) (lsV_fits x) (kQ_fits _)
  have k1 := cmpQ_gt (lsV x) (kQ (a - x.f))
  have k2 := cmpQ_lt (lsV x) (kQ (b - x.f))
  by_cases hlast : i + 1 < l.length
  ·have h2 : (i : Int) + 1 < (((l.map PcQ.row).length : Nat) : Int) := by omega
   obtain ⟨y, hy⟩ := get_at hlast
   have hby : (l.map PcQ.row)[((i : Int) + 1).toNat]? = some y.row := by rw [show ((i : Int) + 1).toNat = i + 1 by omega, List.getElem?_map, hy];rfl
   have oky := hl y (List.mem_of_getElem? hy)
   have py : pcAt l (i + 1) = y := pcAt_of hy
   have cy := qua_compare y.f te oky.f ht
   have ky := cmpQ_lt y.f te
   have cya := qua_compare y.f a oky.f hfa
   have kya : cmpQ y.f a = 0 ↔ y.f = a := by
    have q1 := cmpQ_le y.f a
    have q2 := cmpQ_ge y.f a
    constructor
    ·intro h
     exact Rat.le_antisymm (q1.1 (by omega)) (q2.1 (by omega))
    ·intro h
     have := q1.2 (by rw [h];exact Rat.le_refl)
     have := q2.2 (by rw [h];exact Rat.le_refl)
     omega
   have hB : cmpQ y.f te < 0 → b = y.f := fun h => by rw [hb, ptB, if_pos ⟨hlast, by rw [py];exact ky.1 h⟩, py]
   have hB' : ¬ cmpQ y.f te < 0 → b = te := fun h => by rw [hb, ptB, if_neg fun e => h (ky.2 (by rw [← py];exact e.2))]
   have hO : lsOut l fr te i ↔ 0 < cmpQ a b ∨ (cmpQ a b = 0 ∧ cmpQ y.f a = 0) ∨ x.c.num ≤ 0 := by rw [lsOut, ← ha, ← hb, px, py, kab, kab0, kya];simp only [hlast, true_and]
   repeat' (first|(apply S.move;exact rfl;exact rfl)|(apply S.assign;exact rfl;exact rfl)|(apply S.gTT;exact rfl;exact rfl;assumption)|(apply S.gTF;exact rfl;exact rfl;assumption;exact rfl)|(apply S.fieldP;exact rfl;exact rfl;exact rfl)|(apply S.fieldR;exact rfl;exact rfl)|(apply S.pTp;exact rfl;assumption;exact rfl;exact rfl)|(apply S.pFp;exact rfl;assumption;exact rfl;exact rfl)|(apply S.arith;(iterate 4 exact rfl);omega)|(apply S.loadRW;(iterate 4 exact rfl))|(apply S.indexR;exact rfl;exact rfl;exact rfl;exact hbx;omega;exact rfl)|(apply S.indexR;exact rfl;exact rfl;exact rfl;exact hbp;omega;exact rfl)|(apply S.indexR;exact rfl;exact rfl;exact rfl;exact hb0;omega;exact rfl)|(apply S.call;exact rfl;exact rfl;exact ca;exact rfl)|(apply S.call;exact rfl;exact rfl;exact cb;exact rfl)|(apply S.call;exact rfl;exact rfl;exact m1;exact rfl)|(apply S.callWD;(iterate 6 exact rfl);exact u1;exact rfl)|(apply S.callWD;(iterate 6 exact rfl);exact u2;exact rfl)|(apply S.call;exact rfl;exact rfl;exact m2;exact rfl)|(apply S.call;exact rfl;exact rfl;exact m3;exact rfl)|(apply S.indexR;exact rfl;exact rfl;exact rfl;exact hby;omega;exact rfl)|(apply S.call;exact rfl;exact rfl;exact cy;exact rfl)|(refine T.meetR 10 ([(10, .i (i : Int)), (11, .ptr 5 0), (50, .i (i : Int)), (49, .i (((l.map PcQ.row).length : Nat) : Int)), (48, .sl (l.map PcQ.row)), (0, .sl (l.map PcQ.row)), (4, .ptr 0 0), (5, .ptr 1 0), (6, .ptr 2 0), (8, .ptr 3 0), (9, .ptr 4 0)]) ([.live ((frR fr).map .lf), .live ((frR te).map .lf), .live [.i 0, .i 0], .hot k o [.i (s1.e)], .live ((frR (s1.m)).map .lf), .live (x.row.map .lf)]) ?_ ?_)|(refine T.meetR 17 ([(13, .ptr 6 0), (14, .ptr 7 0), (10, .i (i : Int)), (11, .ptr 5 0), (50, .i (i : Int)), (49, .i (((l.map PcQ.row).length : Nat) : Int)), (48, .sl (l.map PcQ.row)), (0, .sl (l.map PcQ.row)), (4, .ptr 0 0), (5, .ptr 1 0), (6, .ptr 2 0), (8, .ptr 3 0), (9, .ptr 4 0)]) ([.live ((frR fr).map .lf), .live ((frR te).map .lf), .live [.i 0, .i 0], .hot k o [.i (s1.e)], .live ((frR (s1.m)).map .lf), .live (x.row.map .lf), .live ((frR (a)).map .lf), .live ((frR (te)).map .lf)]) ?_ ?_)|(refine T.meetS 19 ([(13, .ptr 6 0), (14, .ptr 7 0), (10, .i (i : Int)), (11, .ptr 5 0), (50, .i (i : Int)), (49, .i (((l.map PcQ.row).length : Nat) : Int)), (48, .sl (l.map PcQ.row)), (0, .sl (l.map PcQ.row)), (4, .ptr 0 0), (5, .ptr 1 0), (6, .ptr 2 0), (8, .ptr 3 0), (9, .ptr 4 0)]) ([.live ((frR fr).map .lf), .live ((frR te).map .lf), .live [.i 0, .i 0], .hot k o [.i (s1.e)], .live ((frR (s1.m)).map .lf), .live (x.row.map .lf), .live ((frR (a)).map .lf), .live ((frR (b)).map .lf)]) ?_ ?_)|(apply T.drawR 17 anyOrder (by decide +kernel);simp only [List.take_succ_cons, List.take_zero, List.drop_succ_cons, List.drop_zero])|(apply T.drawAll anyOrder (by decide +kernel))|(apply S.loadPA;(iterate 4 exact rfl))|(apply S.loadRA;(iterate 4 exact rfl))|(apply S.alloc;(iterate 5 exact rfl))|(apply S.store;(iterate 7 exact rfl))|(apply S.storeD;(iterate 8 exact rfl))|(apply S.cmp;(iterate 4 exact rfl))|(apply S.lenR;exact rfl;exact rfl)|(apply S.gsT;exact rfl;exact rfl;exact rfl;intro hc;rotate_left;intro hc;rotate_right) | apply S.nil | apply T.regs | apply T.reg|(apply T.cCN;exact rfl)|(apply T.cT;exact rfl;assumption)|(apply T.cS;exact rfl;intro hc;rotate_left;intro hc;rotate_right) | apply T.seq|(apply T.skip;first | change T _ _ _ _ _ | change Done _ _ _ _ _ | change Next _ _ _ _ _ _ | skip) | apply T.block)
   all_goals try first
    | exact T.met (.cons rfl rfl (.cons rfl rfl (.cons rfl rfl (.cons rfl rfl (.cons rfl rfl (.cons rfl rfl (.cons rfl rfl (.cons rfl rfl (.cons rfl rfl (.cons rfl rfl (.cons rfl rfl .nil))))))))))) (by rw [e1 (by assumption) (by assumption) (by assumption)];exact (.live rfl (.live rfl (.live rfl (.hot (.live rfl (.live rfl .nil)))))))
    | exact T.met (.cons rfl rfl (.cons rfl rfl (.cons rfl rfl (.cons rfl rfl (.cons rfl rfl (.cons rfl rfl (.cons rfl rfl (.cons rfl rfl (.cons rfl rfl (.cons rfl rfl (.cons rfl rfl .nil))))))))))) (by rw [e2 (by assumption) (by assumption) (by assumption)];exact (.live rfl (.live rfl (.live rfl (.hot (.live rfl (.live rfl .nil)))))))
    | exact T.met (.cons rfl rfl (.cons rfl rfl (.cons rfl rfl (.cons rfl rfl (.cons rfl rfl (.cons rfl rfl (.cons rfl rfl (.cons rfl rfl (.cons rfl rfl (.cons rfl rfl (.cons rfl rfl .nil))))))))))) (by rw [e3 (by assumption)];exact (.live rfl (.live rfl (.live rfl (.hot (.live rfl (.live rfl .nil)))))))
    | exact T.met (.cons rfl rfl (.cons rfl rfl (.cons rfl rfl (.cons rfl rfl (.cons rfl rfl (.cons rfl rfl (.cons rfl rfl (.cons rfl rfl (.cons rfl rfl (.cons rfl rfl (.cons rfl rfl .nil))))))))))) (by rw [e4 (by assumption)];exact (.live rfl (.live rfl (.live rfl (.hot (.live rfl (.live rfl .nil)))))))
    | exact T.met (.cons rfl rfl (.cons rfl rfl (.cons rfl rfl (.cons rfl rfl (.cons rfl rfl (.cons rfl rfl (.cons rfl rfl (.cons rfl rfl (.cons rfl rfl (.cons rfl rfl (.cons rfl rfl (.cons rfl rfl (.cons rfl rfl .nil))))))))))))) (by rw [hA (by assumption)];exact (.live rfl (.live rfl (.live rfl (.hot (.live rfl (.live rfl (.live rfl (.live rfl .nil)))))))))
    | exact T.met (.cons rfl rfl (.cons rfl rfl (.cons rfl rfl (.cons rfl rfl (.cons rfl rfl (.cons rfl rfl (.cons rfl rfl (.cons rfl rfl (.cons rfl rfl (.cons rfl rfl (.cons rfl rfl (.cons rfl rfl (.cons rfl rfl .nil))))))))))))) (by rw [hA' (by assumption)];exact (.live rfl (.live rfl (.live rfl (.hot (.live rfl (.live rfl (.live rfl (.live rfl .nil)))))))))
    | exact T.met (.cons rfl rfl (.cons rfl rfl (.cons rfl rfl (.cons rfl rfl (.cons rfl rfl (.cons rfl rfl (.cons rfl rfl (.cons rfl rfl (.cons rfl rfl (.cons rfl rfl (.cons rfl rfl (.cons rfl rfl (.cons rfl rfl .nil))))))))))))) (by rw [hB (by assumption)];exact (.live rfl (.live rfl (.live rfl (.hot (.live rfl (.live rfl (.live rfl (.live rfl .nil)))))))))
    | exact T.met (.cons rfl rfl (.cons rfl rfl (.cons rfl rfl (.cons rfl rfl (.cons rfl rfl (.cons rfl rfl (.cons rfl rfl (.cons rfl rfl (.cons rfl rfl (.cons rfl rfl (.cons rfl rfl (.cons rfl rfl (.cons rfl rfl .nil))))))))))))) (by rw [hB' (by assumption)];exact (.live rfl (.live rfl (.live rfl (.hot (.live rfl (.live rfl (.live rfl (.live rfl .nil)))))))))
   refine ⟨?_⟩
   clear m1 u1 u2 m2 m3 ca cb e1 e2 e3 e4 hA hA' a1 a2 a3 v1 v2 c hbp hb0
   by_cases hO1 : lsOut l fr te i
   ·have hE : lsK l fr te (i + 1) = (s1, false) := by rw [hsn, ← hs1, ls2, if_pos hO1]
    repeat' (first|(apply S.move;exact rfl;exact rfl)|(apply S.gC;exact rfl;exact rfl;exact rfl)|(apply S.gCN;(iterate 4 exact rfl))|(apply S.gU;exact rfl;exact rfl;exact rfl)|(apply S.gTT;exact rfl;exact rfl;assumption)|(apply S.gTF;exact rfl;exact rfl;assumption;exact rfl)|(apply S.gFF;exact rfl;exact rfl;assumption)|(apply S.gFT;exact rfl;exact rfl;assumption;exact rfl)|(apply S.fieldP;exact rfl;exact rfl;exact rfl)|(apply S.loadP;(iterate 4 exact rfl))|(apply S.fieldR;exact rfl;exact rfl)|(apply S.pC;exact rfl;exact rfl;exact rfl)|(apply S.pCN;exact rfl;exact rfl;exact rfl)|(apply S.pTp;exact rfl;assumption;exact rfl;exact rfl)|(apply S.pFp;exact rfl;assumption;exact rfl;exact rfl)|(apply S.arith;(iterate 4 exact rfl);omega)|(apply S.call;exact rfl;exact rfl;exact cab;exact rfl)|(apply S.indexR;exact rfl;exact rfl;exact rfl;exact hby;omega;exact rfl)|(apply S.call;exact rfl;exact rfl;exact cya;exact rfl)|(apply T.drawAll anyOrder (by decide +kernel))|(apply S.loadPA;(iterate 4 exact rfl))|(apply S.loadRA;(iterate 4 exact rfl))|(apply S.cmp;(iterate 4 exact rfl))|(apply S.lenR;exact rfl;exact rfl)|(apply S.gsT;exact rfl;exact rfl;exact rfl;intro hc;rotate_left;intro hc;rotate_right)|(apply S.gsF;exact rfl;exact rfl;exact rfl;intro hc;rotate_left;intro hc;rotate_right) | apply S.nil | apply T.reg|(apply T.cC;exact rfl)|(apply T.cS;exact rfl;intro hc;rotate_left;intro hc;rotate_right) | apply T.seq|(apply T.skip;first | change T _ _ _ _ _ | change Done _ _ _ _ _ | change Next _ _ _ _ _ _ | skip)|(apply T.exit;first | change T _ _ _ _ _ | change Done _ _ _ _ _ | change Next _ _ _ _ _ _ | skip))
    all_goals first
     | (change Next _ _ _ _ _ _;exact Next.go (i + 1) ⟨by omega, by rw [hE], by rw [hE];exact hf1⟩ (by omega) (.cons rfl rfl (.cons rfl rfl (.cons rfl rfl (.cons rfl rfl (.cons rfl rfl (.cons rfl rfl (.cons rfl rfl (.cons rfl rfl (.cons rfl rfl .nil))))))))) (by rw [hE];exact (.live rfl (.live rfl (.live rfl (.hot (.live rfl .nil)))))))
     | (exfalso;have := hO.1 hO1;omega)
   ·have hO2 := fun h => hO1 (hO.2 h)
    have hcn : 0 < x.c.num := by rcases Int.lt_or_le 0 x.c.num with h | h;exact h;exact absurd (.inr (.inr h)) hO2
    obtain ⟨n, d, e2', d2, d3⟩ := div_keep x s1.e okx hcn
    have q1 : ¬ 0 < cmpQ a b := fun e => hO2 (.inl e)
    have q2 : cmpQ a b = 0 → ¬ cmpQ y.f a = 0 := fun e e' => hO2 (.inr (.inl ⟨e, e'⟩))
    have q3 : ¬ x.c.num ≤ 0 := by omega
    clear hO2
    by_cases hve : lsVE x s1.e = 0
    ·by_cases hv1 : kQ (a - x.f) < lsV x
     ·have hv1' := k1.2 hv1
      by_cases hv2 : lsV x < kQ (b - x.f)
      ·have hv2' := k2.2 hv2
       have hE : lsK l fr te (i + 1) = (⟨minQ s1.m (valQ x (lsV x)), valE x (lsV x) (kE (b - x.f) (kE (a - x.f) (lsVE x s1.e)))⟩, false) := by rw [hsn, ← hs1, ls2, if_neg hO1, px, if_neg (fun h => h hve), ← ha, ← hb, ls3, if_pos hv1, if_pos hv2]
       repeat' (first|(apply S.move;exact rfl;exact rfl)|(apply S.gC;exact rfl;exact rfl;exact rfl)|(apply S.gCN;(iterate 4 exact rfl))|(apply S.gTT;exact rfl;exact rfl;assumption)|(apply S.gTF;exact rfl;exact rfl;assumption;exact rfl)|(apply S.gFF;exact rfl;exact rfl;assumption)|(apply S.gFT;exact rfl;exact rfl;assumption;exact rfl)|(apply S.fieldP;exact rfl;exact rfl;exact rfl)|(apply S.loadP;(iterate 4 exact rfl))|(apply S.fieldR;exact rfl;exact rfl)|(apply S.pCN;exact rfl;exact rfl;exact rfl)|(apply S.pTp;exact rfl;assumption;exact rfl;exact rfl)|(apply S.pFp;exact rfl;assumption;exact rfl;exact rfl)|(apply S.fieldH;exact rfl;exact rfl;exact rfl)|(apply S.nilCheckH;exact rfl;exact rfl;exact rfl)|(apply S.loadH;(iterate 5 exact rfl))|(apply S.arith;(iterate 4 exact rfl);omega)|(apply S.call;exact rfl;exact rfl;exact cab;exact rfl)|(apply S.indexR;exact rfl;exact rfl;exact rfl;exact hby;omega;exact rfl)|(apply S.call;exact rfl;exact rfl;exact cya;exact rfl)|(apply S.neg;exact rfl;exact rfl;omega)|(apply S.callWD;(iterate 6 exact rfl);exact d1;exact rfl)|(apply S.call;exact rfl;exact rfl;exact d2;exact rfl)|(apply S.callWD;(iterate 6 exact rfl);exact d3;exact rfl)|(apply S.callWD;(iterate 6 exact rfl);exact f1;exact rfl)|(apply S.callWD;(iterate 6 exact rfl);exact f2;exact rfl)|(apply S.callWD;(iterate 6 exact rfl);exact f3;exact rfl)|(apply S.call;exact rfl;exact rfl;exact f4;exact rfl)|(apply S.call;exact rfl;exact rfl;exact g1;exact rfl)|(apply S.call;exact rfl;exact rfl;exact g2;exact rfl)|(apply T.draw 18 anyOrder (by decide +kernel);simp only [List.take_succ_cons, List.take_zero, List.drop_succ_cons, List.drop_zero])|(apply T.drawR 6 anyOrder (by decide +kernel);simp only [List.take_succ_cons, List.take_zero, List.drop_succ_cons, List.drop_zero])|(apply T.drawAll anyOrder (by decide +kernel))|(apply S.loadPA;(iterate 4 exact rfl))|(apply S.loadRA;(iterate 4 exact rfl))|(apply S.alloc;(iterate 5 exact rfl))|(apply S.store;(iterate 7 exact rfl))|(apply S.storeD;(iterate 8 exact rfl))|(apply S.cmp;(iterate 4 exact rfl))|(apply S.extract;exact rfl;exact rfl;exact rfl)|(apply S.lenR;exact rfl;exact rfl)|(apply S.build;exact rfl;exact rfl;exact rfl)|(apply S.gsT;exact rfl;exact rfl;exact rfl;intro hc;rotate_left;intro hc;rotate_right)|(apply S.gsF;exact rfl;exact rfl;exact rfl;intro hc;rotate_left;intro hc;rotate_right) | apply S.nil | apply T.regs | apply T.reg|(apply T.cC;exact rfl)|(apply T.cT;exact rfl;assumption)|(apply T.cF;exact rfl;assumption)|(apply T.cFn;exact rfl;assumption) | apply T.seq|(apply T.skip;first | change T _ _ _ _ _ | change Done _ _ _ _ _ | change Next _ _ _ _ _ _ | skip)|(apply T.exit;first | change T _ _ _ _ _ | change Done _ _ _ _ _ | change Next _ _ _ _ _ _ | skip))
       all_goals first
        | (change Next _ _ _ _ _ _;exact Next.go (i + 1) ⟨by omega, by rw [hE], by rw [hE];exact minQ_fits hf1 (kQ_fits _)⟩ (by omega) (.cons rfl rfl (.cons rfl rfl (.cons rfl rfl (.cons rfl rfl (.cons rfl rfl (.cons rfl rfl (.cons rfl rfl (.cons rfl rfl (.cons rfl rfl .nil))))))))) (by rw [hE];exact (.live rfl (.live rfl (.live rfl (.hot (.live rfl .nil)))))))
        | (exfalso;exact q2 (by assumption) (by assumption))
      ·have hv2' : ¬ cmpQ (lsV x) (kQ (b - x.f)) < 0 := fun e => hv2 (k2.1 e)
       have hE : lsK l fr te (i + 1) = (⟨s1.m, kE (b - x.f) (kE (a - x.f) (lsVE x s1.e))⟩, false) := by rw [hsn, ← hs1, ls2, if_neg hO1, px, if_neg (fun h => h hve), ← ha, ← hb, ls3, if_pos hv1, if_neg hv2]
       repeat' (first|(apply S.move;exact rfl;exact rfl)|(apply S.gC;exact rfl;exact rfl;exact rfl)|(apply S.gCN;(iterate 4 exact rfl))|(apply S.gTT;exact rfl;exact rfl;assumption)|(apply S.gTF;exact rfl;exact rfl;assumption;exact rfl)|(apply S.gFF;exact rfl;exact rfl;assumption)|(apply S.gFT;exact rfl;exact rfl;assumption;exact rfl)|(apply S.fieldP;exact rfl;exact rfl;exact rfl)|(apply S.loadP;(iterate 4 exact rfl))|(apply S.fieldR;exact rfl;exact rfl)|(apply S.pCN;exact rfl;exact rfl;exact rfl)|(apply S.pTp;exact rfl;assumption;exact rfl;exact rfl)|(apply S.pFp;exact rfl;assumption;exact rfl;exact rfl)|(apply S.fieldH;exact rfl;exact rfl;exact rfl)|(apply S.nilCheckH;exact rfl;exact rfl;exact rfl)|(apply S.loadH;(iterate 5 exact rfl))|(apply S.arith;(iterate 4 exact rfl);omega)|(apply S.call;exact rfl;exact rfl;exact cab;exact rfl)|(apply S.indexR;exact rfl;exact rfl;exact rfl;exact hby;omega;exact rfl)|(apply S.call;exact rfl;exact rfl;exact cya;exact rfl)|(apply S.neg;exact rfl;exact rfl;omega)|(apply S.callWD;(iterate 6 exact rfl);exact d1;exact rfl)|(apply S.call;exact rfl;exact rfl;exact d2;exact rfl)|(apply S.callWD;(iterate 6 exact rfl);exact d3;exact rfl)|(apply S.callWD;(iterate 6 exact rfl);exact f1;exact rfl)|(apply S.callWD;(iterate 6 exact rfl);exact f2;exact rfl)|(apply S.call;exact rfl;exact rfl;exact g1;exact rfl)|(apply S.call;exact rfl;exact rfl;exact g2;exact rfl)|(apply T.draw 18 anyOrder (by decide +kernel);simp only [List.take_succ_cons, List.take_zero, List.drop_succ_cons, List.drop_zero])|(apply T.drawAll anyOrder (by decide +kernel))|(apply S.loadPA;(iterate 4 exact rfl))|(apply S.loadRA;(iterate 4 exact rfl))|(apply S.alloc;(iterate 5 exact rfl))|(apply S.storeD;(iterate 8 exact rfl))|(apply S.cmp;(iterate 4 exact rfl))|(apply S.extract;exact rfl;exact rfl;exact rfl)|(apply S.lenR;exact rfl;exact rfl)|(apply S.build;exact rfl;exact rfl;exact rfl)|(apply S.gsT;exact rfl;exact rfl;exact rfl;intro hc;rotate_left;intro hc;rotate_right)|(apply S.gsF;exact rfl;exact rfl;exact rfl;intro hc;rotate_left;intro hc;rotate_right) | apply S.nil | apply T.regs | apply T.reg|(apply T.cC;exact rfl)|(apply T.cF;exact rfl;assumption)|(apply T.cFn;exact rfl;assumption) | apply T.seq|(apply T.skip;first | change T _ _ _ _ _ | change Done _ _ _ _ _ | change Next _ _ _ _ _ _ | skip)|(apply T.exit;first | change T _ _ _ _ _ | change Done _ _ _ _ _ | change Next _ _ _ _ _ _ | skip))
       all_goals first
        | (change Next _ _ _ _ _ _;exact Next.go (i + 1) ⟨by omega, by rw [hE], by rw [hE];exact hf1⟩ (by omega) (.cons rfl rfl (.cons rfl rfl (.cons rfl rfl (.cons rfl rfl (.cons rfl rfl (.cons rfl rfl (.cons rfl rfl (.cons rfl rfl (.cons rfl rfl .nil))))))))) (by rw [hE];exact (.live rfl (.live rfl (.live rfl (.hot (.live rfl .nil)))))))
        | (exfalso;exact q2 (by assumption) (by assumption))
     ·have hv1' : ¬ 0 < cmpQ (lsV x) (kQ (a - x.f)) := fun e => hv1 (k1.1 e)
      have hE : lsK l fr te (i + 1) = (⟨s1.m, kE (a - x.f) (lsVE x s1.e)⟩, false) := by rw [hsn, ← hs1, ls2, if_neg hO1, px, if_neg (fun h => h hve), ← ha, ← hb, ls3, if_neg hv1]
      repeat' (first|(apply S.move;exact rfl;exact rfl)|(apply S.gC;exact rfl;exact rfl;exact rfl)|(apply S.gCN;(iterate 4 exact rfl))|(apply S.gTT;exact rfl;exact rfl;assumption)|(apply S.gTF;exact rfl;exact rfl;assumption;exact rfl)|(apply S.gFF;exact rfl;exact rfl;assumption)|(apply S.gFT;exact rfl;exact rfl;assumption;exact rfl)|(apply S.fieldP;exact rfl;exact rfl;exact rfl)|(apply S.loadP;(iterate 4 exact rfl))|(apply S.fieldR;exact rfl;exact rfl)|(apply S.pCN;exact rfl;exact rfl;exact rfl)|(apply S.pTp;exact rfl;assumption;exact rfl;exact rfl)|(apply S.pFp;exact rfl;assumption;exact rfl;exact rfl)|(apply S.fieldH;exact rfl;exact rfl;exact rfl)|(apply S.nilCheckH;exact rfl;exact rfl;exact rfl)|(apply S.loadH;(iterate 5 exact rfl))|(apply S.arith;(iterate 4 exact rfl);omega)|(apply S.call;exact rfl;exact rfl;exact cab;exact rfl)|(apply S.indexR;exact rfl;exact rfl;exact rfl;exact hby;omega;exact rfl)|(apply S.call;exact rfl;exact rfl;exact cya;exact rfl)|(apply S.neg;exact rfl;exact rfl;omega)|(apply S.callWD;(iterate 6 exact rfl);exact d1;exact rfl)|(apply S.call;exact rfl;exact rfl;exact d2;exact rfl)|(apply S.callWD;(iterate 6 exact rfl);exact d3;exact rfl)|(apply S.callWD;(iterate 6 exact rfl);exact f1;exact rfl)|(apply S.call;exact rfl;exact rfl;exact g1;exact rfl)|(apply T.draw 18 anyOrder (by decide +kernel);simp only [List.take_succ_cons, List.take_zero, List.drop_succ_cons, List.drop_zero])|(apply T.drawAll anyOrder (by decide +kernel))|(apply S.loadPA;(iterate 4 exact rfl))|(apply S.loadRA;(iterate 4 exact rfl))|(apply S.alloc;(iterate 5 exact rfl))|(apply S.storeD;(iterate 8 exact rfl))|(apply S.cmp;(iterate 4 exact rfl))|(apply S.extract;exact rfl;exact rfl;exact rfl)|(apply S.lenR;exact rfl;exact rfl)|(apply S.build;exact rfl;exact rfl;exact rfl)|(apply S.gsT;exact rfl;exact rfl;exact rfl;intro hc;rotate_left;intro hc;rotate_right)|(apply S.gsF;exact rfl;exact rfl;exact rfl;intro hc;rotate_left;intro hc;rotate_right) | apply S.nil | apply T.regs | apply T.reg|(apply T.cC;exact rfl)|(apply T.cCN;exact rfl)|(apply T.cF;exact rfl;assumption)|(apply T.cFn;exact rfl;assumption) | apply T.seq|(apply T.skip;first | change T _ _ _ _ _ | change Done _ _ _ _ _ | change Next _ _ _ _ _ _ | skip)|(apply T.exit;first | change T _ _ _ _ _ | change Done _ _ _ _ _ | change Next _ _ _ _ _ _ | skip))
      all_goals first
       | (change Next _ _ _ _ _ _;exact Next.go (i + 1) ⟨by omega, by rw [hE], by rw [hE];exact hf1⟩ (by omega) (.cons rfl rfl (.cons rfl rfl (.cons rfl rfl (.cons rfl rfl (.cons rfl rfl (.cons rfl rfl (.cons rfl rfl (.cons rfl rfl (.cons rfl rfl .nil))))))))) (by rw [hE];exact (.live rfl (.live rfl (.live rfl (.hot (.live rfl .nil)))))))
       | (exfalso;exact q2 (by assumption) (by assumption))
    ·have hE : lsK l fr te (i + 1) = (⟨s1.m, lsVE x s1.e⟩, true) := by rw [hsn, ← hs1, ls2, if_neg hO1, px, if_pos hve]
     have c9 := sum_resultW s1.m (lsVE x s1.e)
     rw [show leastA l fr te = resA s1.m (lsVE x s1.e) by rw [leastA, lsK_up hE _ (by omega)]]
     unfold resA at c9 ⊢
     rw [if_neg hve] at c9 ⊢
     repeat' (first|(apply S.move;exact rfl;exact rfl)|(apply S.assign;exact rfl;exact rfl)|(apply S.gC;exact rfl;exact rfl;exact rfl)|(apply S.gCN;(iterate 4 exact rfl))|(apply S.gTT;exact rfl;exact rfl;assumption)|(apply S.gTF;exact rfl;exact rfl;assumption;exact rfl)|(apply S.gFF;exact rfl;exact rfl;assumption)|(apply S.gFT;exact rfl;exact rfl;assumption;exact rfl)|(apply S.fieldP;exact rfl;exact rfl;exact rfl)|(apply S.loadP;(iterate 4 exact rfl))|(apply S.fieldR;exact rfl;exact rfl)|(apply S.pCN;exact rfl;exact rfl;exact rfl)|(apply S.pTp;exact rfl;assumption;exact rfl;exact rfl)|(apply S.pFp;exact rfl;assumption;exact rfl;exact rfl)|(apply S.fieldH;exact rfl;exact rfl;exact rfl)|(apply S.nilCheckH;exact rfl;exact rfl;exact rfl)|(apply S.loadH;(iterate 5 exact rfl))|(apply S.arith;(iterate 4 exact rfl);omega)|(apply S.call;exact rfl;exact rfl;exact cab;exact rfl)|(apply S.indexR;exact rfl;exact rfl;exact rfl;exact hby;omega;exact rfl)|(apply S.call;exact rfl;exact rfl;exact cya;exact rfl)|(apply S.neg;exact rfl;exact rfl;omega)|(apply S.callWD;(iterate 6 exact rfl);exact d1;exact rfl)|(apply S.call;exact rfl;exact rfl;exact d2;exact rfl)|(apply S.callWD;(iterate 6 exact rfl);exact d3;exact rfl)|(apply T.drawAll anyOrder (by decide +kernel))|(apply S.callW;(iterate 5 exact rfl);exact c9;exact rfl)|(apply S.loadPA;(iterate 4 exact rfl))|(apply S.loadRA;(iterate 4 exact rfl))|(apply S.alloc;(iterate 5 exact rfl))|(apply S.store;(iterate 7 exact rfl))|(apply S.storeD;(iterate 8 exact rfl))|(apply S.cmp;(iterate 4 exact rfl))|(apply S.extract;exact rfl;exact rfl;exact rfl)|(apply S.lenR;exact rfl;exact rfl)|(apply S.build;exact rfl;exact rfl;exact rfl)|(apply S.gsT;exact rfl;exact rfl;exact rfl;intro hc;rotate_left;intro hc;rotate_right)|(apply S.gsF;exact rfl;exact rfl;exact rfl;intro hc;rotate_left;intro hc;rotate_right) | apply S.nil | apply T.regs | apply T.reg|(apply T.cC;exact rfl)|(apply T.cT;exact rfl;assumption)|(apply T.cF;exact rfl;assumption) | apply T.seq|(apply T.skip;first | change T _ _ _ _ _ | change Done _ _ _ _ _ | change Next _ _ _ _ _ _ | skip)|(apply T.ret;change Done _ _ _ _ _)|(apply T.exit;first | change T _ _ _ _ _ | change Done _ _ _ _ _ | change Next _ _ _ _ _ _ | skip))
     all_goals first
      | exact ⟨.inr rfl, [rowA [.i 0, .i 0], .i (lsVE x s1.e)], .cons (Res.row [.i 0, .i 0] rfl rfl rfl rfl rfl) (.cons (.tmp rfl) .nil), .tup (.cons (.agg (outL_refl [.i 0, .i 0])) (.cons (.one (.lf _)) .nil))⟩
      | (exfalso;exact q2 (by assumption) (by assumption))
  ·have h2 : ¬ (i : Int) + 1 < (((l.map PcQ.row).length : Nat) : Int) := by omega
   have hB' : b = te := by rw [hb, ptB, if_neg fun e => hlast e.1]
   have hO : lsOut l fr te i ↔ 0 < cmpQ a b ∨ x.c.num ≤ 0 := by rw [lsOut, ← ha, ← hb, px, kab];simp only [hlast, false_and, and_false, false_or]
   repeat' (first|(apply S.move;exact rfl;exact rfl)|(apply S.assign;exact rfl;exact rfl)|(apply S.gTT;exact rfl;exact rfl;assumption)|(apply S.gTF;exact rfl;exact rfl;assumption;exact rfl)|(apply S.fieldP;exact rfl;exact rfl;exact rfl)|(apply S.fieldR;exact rfl;exact rfl)|(apply S.pTp;exact rfl;assumption;exact rfl;exact rfl)|(apply S.pFp;exact rfl;assumption;exact rfl;exact rfl)|(apply S.arith;(iterate 4 exact rfl);omega)|(apply S.loadRW;(iterate 4 exact rfl))|(apply S.indexR;exact rfl;exact rfl;exact rfl;exact hbx;omega;exact rfl)|(apply S.indexR;exact rfl;exact rfl;exact rfl;exact hbp;omega;exact rfl)|(apply S.indexR;exact rfl;exact rfl;exact rfl;exact hb0;omega;exact rfl)|(apply S.call;exact rfl;exact rfl;exact ca;exact rfl)|(apply S.call;exact rfl;exact rfl;exact cb;exact rfl)|(apply S.call;exact rfl;exact rfl;exact m1;exact rfl)|(apply S.callWD;(iterate 6 exact rfl);exact u1;exact rfl)|(apply S.callWD;(iterate 6 exact rfl);exact u2;exact rfl)|(apply S.call;exact rfl;exact rfl;exact m2;exact rfl)|(apply S.call;exact rfl;exact rfl;exact m3;exact rfl)|(refine T.meetR 10 ([(10, .i (i : Int)), (11, .ptr 5 0), (50, .i (i : Int)), (49, .i (((l.map PcQ.row).length : Nat) : Int)), (48, .sl (l.map PcQ.row)), (0, .sl (l.map PcQ.row)), (4, .ptr 0 0), (5, .ptr 1 0), (6, .ptr 2 0), (8, .ptr 3 0), (9, .ptr 4 0)]) ([.live ((frR fr).map .lf), .live ((frR te).map .lf), .live [.i 0, .i 0], .hot k o [.i (s1.e)], .live ((frR (s1.m)).map .lf), .live (x.row.map .lf)]) ?_ ?_)|(refine T.meetR 17 ([(13, .ptr 6 0), (14, .ptr 7 0), (10, .i (i : Int)), (11, .ptr 5 0), (50, .i (i : Int)), (49, .i (((l.map PcQ.row).length : Nat) : Int)), (48, .sl (l.map PcQ.row)), (0, .sl (l.map PcQ.row)), (4, .ptr 0 0), (5, .ptr 1 0), (6, .ptr 2 0), (8, .ptr 3 0), (9, .ptr 4 0)]) ([.live ((frR fr).map .lf), .live ((frR te).map .lf), .live [.i 0, .i 0], .hot k o [.i (s1.e)], .live ((frR (s1.m)).map .lf), .live (x.row.map .lf), .live ((frR (a)).map .lf), .live ((frR (te)).map .lf)]) ?_ ?_)|(refine T.meetS 19 ([(13, .ptr 6 0), (14, .ptr 7 0), (10, .i (i : Int)), (11, .ptr 5 0), (50, .i (i : Int)), (49, .i (((l.map PcQ.row).length : Nat) : Int)), (48, .sl (l.map PcQ.row)), (0, .sl (l.map PcQ.row)), (4, .ptr 0 0), (5, .ptr 1 0), (6, .ptr 2 0), (8, .ptr 3 0), (9, .ptr 4 0)]) ([.live ((frR fr).map .lf), .live ((frR te).map .lf), .live [.i 0, .i 0], .hot k o [.i (s1.e)], .live ((frR (s1.m)).map .lf), .live (x.row.map .lf), .live ((frR (a)).map .lf), .live ((frR (b)).map .lf)]) ?_ ?_)|(apply T.drawR 17 anyOrder (by decide +kernel);simp only [List.take_succ_cons, List.take_zero, List.drop_succ_cons, List.drop_zero])|(apply T.drawAll anyOrder (by decide +kernel))|(apply S.loadPA;(iterate 4 exact rfl))|(apply S.loadRA;(iterate 4 exact rfl))|(apply S.alloc;(iterate 5 exact rfl))|(apply S.store;(iterate 7 exact rfl))|(apply S.storeD;(iterate 8 exact rfl))|(apply S.cmp;(iterate 4 exact rfl))|(apply S.lenR;exact rfl;exact rfl)|(apply S.gsT;exact rfl;exact rfl;exact rfl;intro hc;rotate_left;intro hc;rotate_right) | apply S.nil | apply T.regs | apply T.reg|(apply T.cCN;exact rfl)|(apply T.cT;exact rfl;assumption)|(apply T.cS;exact rfl;intro hc;rotate_left;intro hc;rotate_right) | apply T.seq|(apply T.skip;first | change T _ _ _ _ _ | change Done _ _ _ _ _ | change Next _ _ _ _ _ _ | skip) | apply T.block)
   all_goals try first
    | exact T.met (.cons rfl rfl (.cons rfl rfl (.cons rfl rfl (.cons rfl rfl (.cons rfl rfl (.cons rfl rfl (.cons rfl rfl (.cons rfl rfl (.cons rfl rfl (.cons rfl rfl (.cons rfl rfl .nil))))))))))) (by rw [e1 (by assumption) (by assumption) (by assumption)];exact (.live rfl (.live rfl (.live rfl (.hot (.live rfl (.live rfl .nil)))))))
    | exact T.met (.cons rfl rfl (.cons rfl rfl (.cons rfl rfl (.cons rfl rfl (.cons rfl rfl (.cons rfl rfl (.cons rfl rfl (.cons rfl rfl (.cons rfl rfl (.cons rfl rfl (.cons rfl rfl .nil))))))))))) (by rw [e2 (by assumption) (by assumption) (by assumption)];exact (.live rfl (.live rfl (.live rfl (.hot (.live rfl (.live rfl .nil)))))))
    | exact T.met (.cons rfl rfl (.cons rfl rfl (.cons rfl rfl (.cons rfl rfl (.cons rfl rfl (.cons rfl rfl (.cons rfl rfl (.cons rfl rfl (.cons rfl rfl (.cons rfl rfl (.cons rfl rfl .nil))))))))))) (by rw [e3 (by assumption)];exact (.live rfl (.live rfl (.live rfl (.hot (.live rfl (.live rfl .nil)))))))
    | exact T.met (.cons rfl rfl (.cons rfl rfl (.cons rfl rfl (.cons rfl rfl (.cons rfl rfl (.cons rfl rfl (.cons rfl rfl (.cons rfl rfl (.cons rfl rfl (.cons rfl rfl (.cons rfl rfl .nil))))))))))) (by rw [e4 (by assumption)];exact (.live rfl (.live rfl (.live rfl (.hot (.live rfl (.live rfl .nil)))))))
    | exact T.met (.cons rfl rfl (.cons rfl rfl (.cons rfl rfl (.cons rfl rfl (.cons rfl rfl (.cons rfl rfl (.cons rfl rfl (.cons rfl rfl (.cons rfl rfl (.cons rfl rfl (.cons rfl rfl (.cons rfl rfl (.cons rfl rfl .nil))))))))))))) (by rw [hA (by assumption)];exact (.live rfl (.live rfl (.live rfl (.hot (.live rfl (.live rfl (.live rfl (.live rfl .nil)))))))))
    | exact T.met (.cons rfl rfl (.cons rfl rfl (.cons rfl rfl (.cons rfl rfl (.cons rfl rfl (.cons rfl rfl (.cons rfl rfl (.cons rfl rfl (.cons rfl rfl (.cons rfl rfl (.cons rfl rfl (.cons rfl rfl (.cons rfl rfl .nil))))))))))))) (by rw [hA' (by assumption)];exact (.live rfl (.live rfl (.live rfl (.hot (.live rfl (.live rfl (.live rfl (.live rfl .nil)))))))))
    | exact T.met (.cons rfl rfl (.cons rfl rfl (.cons rfl rfl (.cons rfl rfl (.cons rfl rfl (.cons rfl rfl (.cons rfl rfl (.cons rfl rfl (.cons rfl rfl (.cons rfl rfl (.cons rfl rfl (.cons rfl rfl (.cons rfl rfl .nil))))))))))))) (by rw [hB'];exact (.live rfl (.live rfl (.live rfl (.hot (.live rfl (.live rfl (.live rfl (.live rfl .nil)))))))))
   refine ⟨?_⟩
   clear m1 u1 u2 m2 m3 ca cb e1 e2 e3 e4 hA hA' a1 a2 a3 v1 v2 c hbp hb0
   by_cases hO1 : lsOut l fr te i
   ·have hE : lsK l fr te (i + 1) = (s1, false) := by rw [hsn, ← hs1, ls2, if_pos hO1]
    repeat' (first|(apply S.move;exact rfl;exact rfl)|(apply S.gC;exact rfl;exact rfl;exact rfl)|(apply S.gCN;(iterate 4 exact rfl))|(apply S.gU;exact rfl;exact rfl;exact rfl)|(apply S.gTT;exact rfl;exact rfl;assumption)|(apply S.gTF;exact rfl;exact rfl;assumption;exact rfl)|(apply S.gFF;exact rfl;exact rfl;assumption)|(apply S.gFT;exact rfl;exact rfl;assumption;exact rfl)|(apply S.fieldP;exact rfl;exact rfl;exact rfl)|(apply S.loadP;(iterate 4 exact rfl))|(apply S.pC;exact rfl;exact rfl;exact rfl)|(apply S.pCN;exact rfl;exact rfl;exact rfl)|(apply S.pTp;exact rfl;assumption;exact rfl;exact rfl)|(apply S.pFp;exact rfl;assumption;exact rfl;exact rfl)|(apply S.arith;(iterate 4 exact rfl);omega)|(apply S.call;exact rfl;exact rfl;exact cab;exact rfl)|(apply T.drawAll anyOrder (by decide +kernel))|(apply S.loadPA;(iterate 4 exact rfl))|(apply S.cmp;(iterate 4 exact rfl))|(apply S.lenR;exact rfl;exact rfl)|(apply S.gsT;exact rfl;exact rfl;exact rfl;intro hc;rotate_left;intro hc;rotate_right)|(apply S.gsF;exact rfl;exact rfl;exact rfl;intro hc;rotate_left;intro hc;rotate_right) | apply S.nil | apply T.reg|(apply T.cC;exact rfl)|(apply T.cS;exact rfl;intro hc;rotate_left;intro hc;rotate_right) | apply T.seq|(apply T.skip;first | change T _ _ _ _ _ | change Done _ _ _ _ _ | change Next _ _ _ _ _ _ | skip)|(apply T.exit;first | change T _ _ _ _ _ | change Done _ _ _ _ _ | change Next _ _ _ _ _ _ | skip))
    all_goals first
     | (change Next _ _ _ _ _ _;exact Next.go (i + 1) ⟨by omega, by rw [hE], by rw [hE];exact hf1⟩ (by omega) (.cons rfl rfl (.cons rfl rfl (.cons rfl rfl (.cons rfl rfl (.cons rfl rfl (.cons rfl rfl (.cons rfl rfl (.cons rfl rfl (.cons rfl rfl .nil))))))))) (by rw [hE];exact (.live rfl (.live rfl (.live rfl (.hot (.live rfl .nil)))))))
     | (exfalso;have := hO.1 hO1;omega)
   ·have hO2 := fun h => hO1 (hO.2 h)
    have hcn : 0 < x.c.num := by rcases Int.lt_or_le 0 x.c.num with h | h;exact h;exact absurd (.inr h) hO2
    obtain ⟨n, d, e2', d2, d3⟩ := div_keep x s1.e okx hcn
    have q1 : ¬ 0 < cmpQ a b := fun e => hO2 (.inl e)
    have q3 : ¬ x.c.num ≤ 0 := by omega
    clear hO2
    by_cases hve : lsVE x s1.e = 0
    ·by_cases hv1 : kQ (a - x.f) < lsV x
     ·have hv1' := k1.2 hv1
      by_cases hv2 : lsV x < kQ (b - x.f)
      ·have hv2' := k2.2 hv2
       have hE : lsK l fr te (i + 1) = (⟨minQ s1.m (valQ x (lsV x)), valE x (lsV x) (kE (b - x.f) (kE (a - x.f) (lsVE x s1.e)))⟩, false) := by rw [hsn, ← hs1, ls2, if_neg hO1, px, if_neg (fun h => h hve), ← ha, ← hb, ls3, if_pos hv1, if_pos hv2]
       repeat' (first|(apply S.move;exact rfl;exact rfl)|(apply S.gC;exact rfl;exact rfl;exact rfl)|(apply S.gCN;(iterate 4 exact rfl))|(apply S.gTT;exact rfl;exact rfl;assumption)|(apply S.gTF;exact rfl;exact rfl;assumption;exact rfl)|(apply S.gFF;exact rfl;exact rfl;assumption)|(apply S.fieldP;exact rfl;exact rfl;exact rfl)|(apply S.loadP;(iterate 4 exact rfl))|(apply S.pCN;exact rfl;exact rfl;exact rfl)|(apply S.pTp;exact rfl;assumption;exact rfl;exact rfl)|(apply S.pFp;exact rfl;assumption;exact rfl;exact rfl)|(apply S.fieldH;exact rfl;exact rfl;exact rfl)|(apply S.nilCheckH;exact rfl;exact rfl;exact rfl)|(apply S.loadH;(iterate 5 exact rfl))|(apply S.arith;(iterate 4 exact rfl);omega)|(apply S.call;exact rfl;exact rfl;exact cab;exact rfl)|(apply S.neg;exact rfl;exact rfl;omega)|(apply S.callWD;(iterate 6 exact rfl);exact d1;exact rfl)|(apply S.call;exact rfl;exact rfl;exact d2;exact rfl)|(apply S.callWD;(iterate 6 exact rfl);exact d3;exact rfl)|(apply S.callWD;(iterate 6 exact rfl);exact f1;exact rfl)|(apply S.callWD;(iterate 6 exact rfl);exact f2;exact rfl)|(apply S.callWD;(iterate 6 exact rfl);exact f3;exact rfl)|(apply S.call;exact rfl;exact rfl;exact f4;exact rfl)|(apply S.call;exact rfl;exact rfl;exact g1;exact rfl)|(apply S.call;exact rfl;exact rfl;exact g2;exact rfl)|(apply T.draw 18 anyOrder (by decide +kernel);simp only [List.take_succ_cons, List.take_zero, List.drop_succ_cons, List.drop_zero])|(apply T.drawR 6 anyOrder (by decide +kernel);simp only [List.take_succ_cons, List.take_zero, List.drop_succ_cons, List.drop_zero])|(apply T.drawAll anyOrder (by decide +kernel))|(apply S.loadPA;(iterate 4 exact rfl))|(apply S.alloc;(iterate 5 exact rfl))|(apply S.store;(iterate 7 exact rfl))|(apply S.storeD;(iterate 8 exact rfl))|(apply S.cmp;(iterate 4 exact rfl))|(apply S.extract;exact rfl;exact rfl;exact rfl)|(apply S.lenR;exact rfl;exact rfl)|(apply S.build;exact rfl;exact rfl;exact rfl)|(apply S.gsT;exact rfl;exact rfl;exact rfl;intro hc;rotate_left;intro hc;rotate_right) | apply S.nil | apply T.regs | apply T.reg|(apply T.cT;exact rfl;assumption)|(apply T.cF;exact rfl;assumption)|(apply T.cFn;exact rfl;assumption) | apply T.seq|(apply T.skip;first | change T _ _ _ _ _ | change Done _ _ _ _ _ | change Next _ _ _ _ _ _ | skip))
       all_goals first
        | (change Next _ _ _ _ _ _;exact Next.go (i + 1) ⟨by omega, by rw [hE], by rw [hE];exact minQ_fits hf1 (kQ_fits _)⟩ (by omega) (.cons rfl rfl (.cons rfl rfl (.cons rfl rfl (.cons rfl rfl (.cons rfl rfl (.cons rfl rfl (.cons rfl rfl (.cons rfl rfl (.cons rfl rfl .nil))))))))) (by rw [hE];exact (.live rfl (.live rfl (.live rfl (.hot (.live rfl .nil)))))))
      ·have hv2' : ¬ cmpQ (lsV x) (kQ (b - x.f)) < 0 := fun e => hv2 (k2.1 e)
       have hE : lsK l fr te (i + 1) = (⟨s1.m, kE (b - x.f) (kE (a - x.f) (lsVE x s1.e))⟩, false) := by rw [hsn, ← hs1, ls2, if_neg hO1, px, if_neg (fun h => h hve), ← ha, ← hb, ls3, if_pos hv1, if_neg hv2]
       repeat' (first|(apply S.move;exact rfl;exact rfl)|(apply S.gC;exact rfl;exact rfl;exact rfl)|(apply S.gCN;(iterate 4 exact rfl))|(apply S.gTT;exact rfl;exact rfl;assumption)|(apply S.gTF;exact rfl;exact rfl;assumption;exact rfl)|(apply S.gFF;exact rfl;exact rfl;assumption)|(apply S.fieldP;exact rfl;exact rfl;exact rfl)|(apply S.loadP;(iterate 4 exact rfl))|(apply S.pCN;exact rfl;exact rfl;exact rfl)|(apply S.pTp;exact rfl;assumption;exact rfl;exact rfl)|(apply S.pFp;exact rfl;assumption;exact rfl;exact rfl)|(apply S.fieldH;exact rfl;exact rfl;exact rfl)|(apply S.nilCheckH;exact rfl;exact rfl;exact rfl)|(apply S.loadH;(iterate 5 exact rfl))|(apply S.arith;(iterate 4 exact rfl);omega)|(apply S.call;exact rfl;exact rfl;exact cab;exact rfl)|(apply S.neg;exact rfl;exact rfl;omega)|(apply S.callWD;(iterate 6 exact rfl);exact d1;exact rfl)|(apply S.call;exact rfl;exact rfl;exact d2;exact rfl)|(apply S.callWD;(iterate 6 exact rfl);exact d3;exact rfl)|(apply S.callWD;(iterate 6 exact rfl);exact f1;exact rfl)|(apply S.callWD;(iterate 6 exact rfl);exact f2;exact rfl)|(apply S.call;exact rfl;exact rfl;exact g1;exact rfl)|(apply S.call;exact rfl;exact rfl;exact g2;exact rfl)|(apply T.draw 18 anyOrder (by decide +kernel);simp only [List.take_succ_cons, List.take_zero, List.drop_succ_cons, List.drop_zero])|(apply T.drawAll anyOrder (by decide +kernel))|(apply S.loadPA;(iterate 4 exact rfl))|(apply S.alloc;(iterate 5 exact rfl))|(apply S.storeD;(iterate 8 exact rfl))|(apply S.cmp;(iterate 4 exact rfl))|(apply S.extract;exact rfl;exact rfl;exact rfl)|(apply S.lenR;exact rfl;exact rfl)|(apply S.build;exact rfl;exact rfl;exact rfl)|(apply S.gsT;exact rfl;exact rfl;exact rfl;intro hc;rotate_left;intro hc;rotate_right) | apply S.nil | apply T.regs | apply T.reg|(apply T.cF;exact rfl;assumption)|(apply T.cFn;exact rfl;assumption) | apply T.seq|(apply T.skip;first | change T _ _ _ _ _ | change Done _ _ _ _ _ | change Next _ _ _ _ _ _ | skip))
       all_goals first
        | (change Next _ _ _ _ _ _;exact Next.go (i + 1) ⟨by omega, by rw [hE], by rw [hE];exact hf1⟩ (by omega) (.cons rfl rfl (.cons rfl rfl (.cons rfl rfl (.cons rfl rfl (.cons rfl rfl (.cons rfl rfl (.cons rfl rfl (.cons rfl rfl (.cons rfl rfl .nil))))))))) (by rw [hE];exact (.live rfl (.live rfl (.live rfl (.hot (.live rfl .nil)))))))
     ·have hv1' : ¬ 0 < cmpQ (lsV x) (kQ (a - x.f)) := fun e => hv1 (k1.1 e)
      have hE : lsK l fr te (i + 1) = (⟨s1.m, kE (a - x.f) (lsVE x s1.e)⟩, false) := by rw [hsn, ← hs1, ls2, if_neg hO1, px, if_neg (fun h => h hve), ← ha, ← hb, ls3, if_neg hv1]
      repeat' (first|(apply S.move;exact rfl;exact rfl)|(apply S.gC;exact rfl;exact rfl;exact rfl)|(apply S.gCN;(iterate 4 exact rfl))|(apply S.gTT;exact rfl;exact rfl;assumption)|(apply S.gTF;exact rfl;exact rfl;assumption;exact rfl)|(apply S.gFF;exact rfl;exact rfl;assumption)|(apply S.fieldP;exact rfl;exact rfl;exact rfl)|(apply S.loadP;(iterate 4 exact rfl))|(apply S.pCN;exact rfl;exact rfl;exact rfl)|(apply S.pTp;exact rfl;assumption;exact rfl;exact rfl)|(apply S.pFp;exact rfl;assumption;exact rfl;exact rfl)|(apply S.fieldH;exact rfl;exact rfl;exact rfl)|(apply S.nilCheckH;exact rfl;exact rfl;exact rfl)|(apply S.loadH;(iterate 5 exact rfl))|(apply S.arith;(iterate 4 exact rfl);omega)|(apply S.call;exact rfl;exact rfl;exact cab;exact rfl)|(apply S.neg;exact rfl;exact rfl;omega)|(apply S.callWD;(iterate 6 exact rfl);exact d1;exact rfl)|(apply S.call;exact rfl;exact rfl;exact d2;exact rfl)|(apply S.callWD;(iterate 6 exact rfl);exact d3;exact rfl)|(apply S.callWD;(iterate 6 exact rfl);exact f1;exact rfl)|(apply S.call;exact rfl;exact rfl;exact g1;exact rfl)|(apply T.draw 18 anyOrder (by decide +kernel);simp only [List.take_succ_cons, List.take_zero, List.drop_succ_cons, List.drop_zero])|(apply T.drawAll anyOrder (by decide +kernel))|(apply S.loadPA;(iterate 4 exact rfl))|(apply S.alloc;(iterate 5 exact rfl))|(apply S.storeD;(iterate 8 exact rfl))|(apply S.cmp;(iterate 4 exact rfl))|(apply S.extract;exact rfl;exact rfl;exact rfl)|(apply S.lenR;exact rfl;exact rfl)|(apply S.build;exact rfl;exact rfl;exact rfl)|(apply S.gsT;exact rfl;exact rfl;exact rfl;intro hc;rotate_left;intro hc;rotate_right) | apply S.nil | apply T.regs | apply T.reg|(apply T.cCN;exact rfl)|(apply T.cF;exact rfl;assumption)|(apply T.cFn;exact rfl;assumption) | apply T.seq|(apply T.skip;first | change T _ _ _ _ _ | change Done _ _ _ _ _ | change Next _ _ _ _ _ _ | skip))
      all_goals first
       | (change Next _ _ _ _ _ _;exact Next.go (i + 1) ⟨by omega, by rw [hE], by rw [hE];exact hf1⟩ (by omega) (.cons rfl rfl (.cons rfl rfl (.cons rfl rfl (.cons rfl rfl (.cons rfl rfl (.cons rfl rfl (.cons rfl rfl (.cons rfl rfl (.cons rfl rfl .nil))))))))) (by rw [hE];exact (.live rfl (.live rfl (.live rfl (.hot (.live rfl .nil)))))))
    ·have hE : lsK l fr te (i + 1) = (⟨s1.m, lsVE x s1.e⟩, true) := by rw [hsn, ← hs1, ls2, if_neg hO1, px, if_pos hve]
     have c9 := sum_resultW s1.m (lsVE x s1.e)
     rw [show leastA l fr te = resA s1.m (lsVE x s1.e) by rw [leastA, lsK_up hE _ (by omega)]]
     unfold resA at c9 ⊢
     rw [if_neg hve] at c9 ⊢
     repeat' (first|(apply S.move;exact rfl;exact rfl)|(apply S.assign;exact rfl;exact rfl)|(apply S.gC;exact rfl;exact rfl;exact rfl)|(apply S.gCN;(iterate 4 exact rfl))|(apply S.gTT;exact rfl;exact rfl;assumption)|(apply S.gTF;exact rfl;exact rfl;assumption;exact rfl)|(apply S.gFF;exact rfl;exact rfl;assumption)|(apply S.fieldP;exact rfl;exact rfl;exact rfl)|(apply S.loadP;(iterate 4 exact rfl))|(apply S.pCN;exact rfl;exact rfl;exact rfl)|(apply S.pTp;exact rfl;assumption;exact rfl;exact rfl)|(apply S.pFp;exact rfl;assumption;exact rfl;exact rfl)|(apply S.fieldH;exact rfl;exact rfl;exact rfl)|(apply S.nilCheckH;exact rfl;exact rfl;exact rfl)|(apply S.loadH;(iterate 5 exact rfl))|(apply S.arith;(iterate 4 exact rfl);omega)|(apply S.call;exact rfl;exact rfl;exact cab;exact rfl)|(apply S.neg;exact rfl;exact rfl;omega)|(apply S.callWD;(iterate 6 exact rfl);exact d1;exact rfl)|(apply S.call;exact rfl;exact rfl;exact d2;exact rfl)|(apply S.callWD;(iterate 6 exact rfl);exact d3;exact rfl)|(apply T.drawAll anyOrder (by decide +kernel))|(apply S.callW;(iterate 5 exact rfl);exact c9;exact rfl)|(apply S.loadPA;(iterate 4 exact rfl))|(apply S.alloc;(iterate 5 exact rfl))|(apply S.store;(iterate 7 exact rfl))|(apply S.storeD;(iterate 8 exact rfl))|(apply S.cmp;(iterate 4 exact rfl))|(apply S.extract;exact rfl;exact rfl;exact rfl)|(apply S.lenR;exact rfl;exact rfl)|(apply S.build;exact rfl;exact rfl;exact rfl)|(apply S.gsT;exact rfl;exact rfl;exact rfl;intro hc;rotate_left;intro hc;rotate_right) | apply S.nil | apply T.regs|(apply T.cT;exact rfl;assumption)|(apply T.cF;exact rfl;assumption) | apply T.seq|(apply T.skip;first | change T _ _ _ _ _ | change Done _ _ _ _ _ | change Next _ _ _ _ _ _ | skip)|(apply T.ret;change Done _ _ _ _ _)|(apply T.exit;first | change T _ _ _ _ _ | change Done _ _ _ _ _ | change Next _ _ _ _ _ _ | skip))
     all_goals first
      | exact ⟨.inr rfl, [rowA [.i 0, .i 0], .i (lsVE x s1.e)], .cons (Res.row [.i 0, .i 0] rfl rfl rfl rfl rfl) (.cons (.tmp rfl) .nil), .tup (.cons (.agg (outL_refl [.i 0, .i 0])) (.cons (.one (.lf _)) .nil))⟩
 ·have h1 : ¬ (i : Int) < (((l.map PcQ.row).length : Nat) : Int) := by omega
  obtain rfl : i = l.length := by omega
  rw [show leastA l fr te = resA s.m s.e by rw [leastA, hK]]
  have c9 := sum_resultW s.m s.e
  unfold resA at c9 ⊢
  by_cases he : s.e = 0
  ·rw [if_pos he] at c9 ⊢
   repeat' (first|(apply S.move;exact rfl;exact rfl)|(apply S.assign;exact rfl;exact rfl)|(apply S.callW;(iterate 5 exact rfl);exact c9;exact rfl)|(apply S.loadPA;(iterate 4 exact rfl))|(apply S.store;(iterate 7 exact rfl))|(apply S.cmp;(iterate 4 exact rfl))|(apply S.extract;exact rfl;exact rfl;exact rfl) | apply S.nil | apply T.regs|(apply T.cF;exact rfl;assumption) | apply T.seq|(apply T.ret;change Done _ _ _ _ _)|(apply T.exit;first | change T _ _ _ _ _ | change Done _ _ _ _ _ | change Next _ _ _ _ _ _ | skip))
   exact ⟨.inr rfl, [rowA (frR s.m), .i 0], .cons (Res.row (frR s.m) rfl rfl rfl rfl rfl) (.cons (.tmp rfl) .nil), .tup (.cons (.agg (outL_refl (frR s.m))) (.cons (.one (.lf _)) .nil))⟩
  ·rw [if_neg he] at c9 ⊢
   repeat' (first|(apply S.move;exact rfl;exact rfl)|(apply S.assign;exact rfl;exact rfl)|(apply S.callW;(iterate 5 exact rfl);exact c9;exact rfl)|(apply S.loadPA;(iterate 4 exact rfl))|(apply S.store;(iterate 7 exact rfl))|(apply S.cmp;(iterate 4 exact rfl))|(apply S.extract;exact rfl;exact rfl;exact rfl) | apply S.nil | apply T.regs|(apply T.cF;exact rfl;assumption) | apply T.seq|(apply T.ret;change Done _ _ _ _ _)|(apply T.exit;first | change T _ _ _ _ _ | change Done _ _ _ _ _ | change Next _ _ _ _ _ _ | skip))
   exact ⟨.inr rfl, [rowA [.i 0, .i 0], .i s.e], .cons (Res.row [.i 0, .i 0] rfl rfl rfl rfl rfl) (.cons (.tmp rfl) .nil), .tup (.cons (.agg (outL_refl [.i 0, .i 0])) (.cons (.one (.lf _)) .nil))⟩
end Go.Proofs.YtlncmkafjjomgaaGreat
