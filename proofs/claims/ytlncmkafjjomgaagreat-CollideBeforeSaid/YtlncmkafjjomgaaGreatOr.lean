/- Contracts: collide's Closest and Touch, of valid sets and paths. No conditions but those of each statement. | Contracts: the law's of, line, example, awake (layer collide). No conditions but those of each statement. -/
import Derived.Test.YtlncmkafjjomgaaGreatOq
import Derived.Test.YtlncmkafjjomgaaGreatNn
set_option linter.unusedSimpArgs false
namespace Go.Proofs.YtlncmkafjjomgaaGreat
set_option linter.unusedVariables false
open Go Go.RowKit
theorem leastA_is (l : List PcQ) (fr te : Rat) : ∃ u v e : Int, leastA l fr te = .tup [rowA [.i u, .i v], .i e] := by
 unfold leastA resA
 split
 ·exact ⟨_, _, 0, rfl⟩
 ·exact ⟨_, _, _, rfl⟩
set_option maxHeartbeats 16000000 in
theorem col_closest (a b : SetR) (x y : List PcQ) (h : Two a b x y) (te : Rat) (ht : Fits te) (h0 : 0 ≤ te) (h1 : te ≤ 1099511627776) :
  Fn0 Tryz.prog 23 [rowA a.row, rowA b.row, .sl (x.map PcQ.row), .sl (y.map PcQ.row), rowA (frR te)] (cloC a b x y te) := by
 have cg := col_given a b x y h te ht h0 h1
 have cn := sweep_near a b h.pa h.pb h.fa h.fb
 have cd := col_distance a b x y h
 unfold cloC
 by_cases e1 : nearP a b
 ·rw [decide_eq_true e1] at cn
  rw [if_pos e1]
  by_cases e3 : dsE (hangQ a) (hangQ b) x y = 0
  ·rw [if_pos e3]
   rw [e3] at cd
   obtain ⟨d1, d2, d3, d4⟩ := ds_all h.ox h.oy h.x0 h.y0 h.sx h.sy e3
   generalize dsL (hangQ a) (hangQ b) x y = l at *
   have cf := qua_least l 0 te d1 d3 d4 zero_fits ht (qua_validQ l d1 d2 (List.length_pos_iff.2 d3) d4) h0
   rw [nat_zero_row] at cf
   obtain ⟨u1, u2, u3, hu⟩ := leastA_is l 0 te
   rw [hu] at cf ⊢
   refine Fn0.of Tryz.func23 Tryz.ntmps23 rfl rfl rfl ?_
   simp only [entryTm]
   repeat' (first|(apply S.move;exact rfl;exact rfl)|(apply S.assign;exact rfl;exact rfl)|(apply S.call;exact rfl;exact rfl;exact cg;exact rfl)|(apply S.call;exact rfl;exact rfl;exact cn;exact rfl)|(apply S.call;exact rfl;exact rfl;exact cd;exact rfl)|(apply S.call;exact rfl;exact rfl;exact cf;exact rfl)|(apply S.buildN;exact rfl;exact rfl;exact rfl)|(apply S.loadPA;(iterate 4 exact rfl))|(apply S.box;(iterate 6 exact rfl))|(apply S.alloc;(iterate 5 exact rfl))|(apply S.store;(iterate 7 exact rfl))|(apply S.cmp;(iterate 4 exact rfl))|(apply S.not;exact rfl;exact rfl;exact rfl)|(apply S.extract;exact rfl;exact rfl;exact rfl) | apply S.nil | apply T.regs|(apply T.cCN;exact rfl) | apply T.seq|(apply T.skip;first | change T _ _ _ _ _ | change Done _ _ _ _ _ | change Next _ _ _ _ _ _ | skip)|(apply T.ret;change Done _ _ _ _ _) | apply T.block)
   all_goals exact ⟨.inr rfl, [rowA [.i u1, .i u2], .i u3], .cons (Res.row [.i u1, .i u2] rfl rfl rfl rfl rfl) (.cons (.tmp rfl) .nil), .tup (.cons (.agg (outL_refl [.i u1, .i u2])) (.cons (.one (.lf _)) .nil))⟩
  ·rw [if_neg e3]
   generalize dsL (hangQ a) (hangQ b) x y = l at *
   generalize dsE (hangQ a) (hangQ b) x y = e at *
   refine Fn0.of Tryz.func23 Tryz.ntmps23 rfl rfl rfl ?_
   simp only [entryTm]
   repeat' (first|(apply S.move;exact rfl;exact rfl)|(apply S.assign;exact rfl;exact rfl)|(apply S.call;exact rfl;exact rfl;exact cg;exact rfl)|(apply S.call;exact rfl;exact rfl;exact cn;exact rfl)|(apply S.call;exact rfl;exact rfl;exact cd;exact rfl)|(apply S.buildN;exact rfl;exact rfl;exact rfl)|(apply S.loadPA;(iterate 4 exact rfl))|(apply S.box;(iterate 6 exact rfl))|(apply S.alloc;(iterate 5 exact rfl))|(apply S.store;(iterate 7 exact rfl))|(apply S.cmp;(iterate 4 exact rfl))|(apply S.not;exact rfl;exact rfl;exact rfl)|(apply S.extract;exact rfl;exact rfl;exact rfl) | apply S.nil | apply T.regs|(apply T.cCN;exact rfl)|(apply T.cT;exact rfl;assumption) | apply T.seq|(apply T.skip;first | change T _ _ _ _ _ | change Done _ _ _ _ _ | change Next _ _ _ _ _ _ | skip)|(apply T.ret;change Done _ _ _ _ _) | apply T.block)
   all_goals exact ⟨.inr rfl, [rowA [.i 0, .i 0], .i e], .cons (Res.row [.i 0, .i 0] rfl rfl rfl rfl rfl) (.cons (.tmp rfl) .nil), .tup (.cons (.agg (outL_refl [.i 0, .i 0])) (.cons (.one (.lf _)) .nil))⟩
 ·rw [if_neg e1]
  rw [decide_eq_false e1] at cn
  refine Fn0.of Tryz.func23 Tryz.ntmps23 rfl rfl rfl ?_
  simp only [entryTm]
  repeat' (first|(apply S.move;exact rfl;exact rfl)|(apply S.assign;exact rfl;exact rfl)|(apply S.call;exact rfl;exact rfl;exact cg;exact rfl)|(apply S.call;exact rfl;exact rfl;exact cn;exact rfl)|(apply S.buildN;exact rfl;exact rfl;exact rfl)|(apply S.loadPA;(iterate 4 exact rfl))|(apply S.box;(iterate 6 exact rfl))|(apply S.alloc;(iterate 5 exact rfl))|(apply S.store;(iterate 7 exact rfl))|(apply S.cmp;(iterate 4 exact rfl))|(apply S.not;exact rfl;exact rfl;exact rfl)|(apply S.extract;exact rfl;exact rfl;exact rfl) | apply S.nil | apply T.regs|(apply T.cC;exact rfl)|(apply T.cCN;exact rfl) | apply T.seq|(apply T.skip;first | change T _ _ _ _ _ | change Done _ _ _ _ _ | change Next _ _ _ _ _ _ | skip)|(apply T.ret;change Done _ _ _ _ _) | apply T.block)
  all_goals exact ⟨.inr rfl, [rowA [.i 0, .i 0], .i 12], .cons (Res.row [.i 0, .i 0] rfl rfl rfl rfl rfl) (.cons (.tmp rfl) .nil), .tup (.cons (.agg (outL_refl [.i 0, .i 0])) (.cons (.one (.lf _)) .nil))⟩
set_option maxHeartbeats 16000000 in
theorem col_touch (a b : SetR) (ha : setP a) (hb : setP b) (hfa : a.fits) (hfb : b.fits) (p q : Rat) (hp : Fits p) (hq : Fits q) :
  Fn0 Tryz.prog 13 [rowA a.row, rowA b.row, rowA (frR p), rowA (frR q)] (touC a b p q) := by
 have va := bat_valid a hfa
 have vb := bat_valid b hfb
 rw [decide_eq_true ha] at va
 rw [decide_eq_true hb] at vb
 have vp : Fn0 Tryz.prog 36 [rowA (frR p)] (.b true) := by
  have := ratio_valid p.num p.den
  rwa [hp.valid] at this
 have vq : Fn0 Tryz.prog 36 [rowA (frR q)] (.b true) := by
  have := ratio_valid q.num q.den
  rwa [hq.valid] at this
 have cn := sweep_near a b ha hb hfa hfb
 have gA := col_hang a hfa.2.1
 have gB := col_hang b hfb.2.1
 rw [← hangQ_row] at gA gB
 have fA := hangQ_fits ha
 have fB := hangQ_fits hb
 have c1 := ratio_subA p (hangQ a) hp fA
 have c2 := ratio_subA q (hangQ b) hq fB
 unfold touC
 generalize hangQ a = u at *
 generalize hangQ b = v at *
 by_cases e1 : nearP a b
 ·rw [decide_eq_true e1] at cn
  rw [if_pos e1]
  unfold outA at c1 c2
  by_cases e2 : Fits (p - u)
  ·rw [if_pos e2] at c1 ⊢
   by_cases e3 : Fits (q - v)
   ·rw [if_pos e3] at c2 ⊢
    have m1 := ratio_cmp (p - u) q e2 hq
    have m2 := ratio_cmp (q - v) p e3 hp
    have k1 := cmpQ_lt (p - u) q
    have k2 := cmpQ_lt (q - v) p
    rw [show decide (p - u < q ∧ q - v < p) = decide (cmpQ (p - u) q < 0 ∧ cmpQ (q - v) p < 0) from decide_eq_decide.2 (by rw [k1, k2])]
    generalize cmpQ (p - u) q = x1 at *
    generalize cmpQ (q - v) p = x2 at *
    skip
    refine Fn0.of Tryz.func13 Tryz.ntmps13 rfl rfl rfl ?_
    simp only [entryTm]
    repeat' (first|(apply S.move;exact rfl;exact rfl)|(apply S.assign;exact rfl;exact rfl)|(apply S.gC;exact rfl;exact rfl;exact rfl)|(apply S.gTT;exact rfl;exact rfl;assumption)|(apply S.gTF;exact rfl;exact rfl;assumption;exact rfl)|(apply S.pCN;exact rfl;exact rfl;exact rfl)|(apply S.pTp;exact rfl;assumption;exact rfl;exact rfl)|(apply S.pFp;exact rfl;assumption;exact rfl;exact rfl)|(apply S.call;exact rfl;exact rfl;exact va;exact rfl)|(apply S.call;exact rfl;exact rfl;exact vb;exact rfl)|(apply S.call;exact rfl;exact rfl;exact vp;exact rfl)|(apply S.call;exact rfl;exact rfl;exact vq;exact rfl)|(apply S.call;exact rfl;exact rfl;exact cn;exact rfl)|(apply S.call;exact rfl;exact rfl;exact gA;exact rfl)|(apply S.call;exact rfl;exact rfl;exact gB;exact rfl)|(apply S.call;exact rfl;exact rfl;exact c1;exact rfl)|(apply S.call;exact rfl;exact rfl;exact c2;exact rfl)|(apply S.call;exact rfl;exact rfl;exact m1;exact rfl)|(apply S.call;exact rfl;exact rfl;exact m2;exact rfl)|(apply T.drawAll anyOrder (by decide +kernel))|(apply S.loadPA;(iterate 4 exact rfl))|(apply S.box;(iterate 6 exact rfl))|(apply S.alloc;(iterate 5 exact rfl))|(apply S.storeD;(iterate 8 exact rfl))|(apply S.cmp;(iterate 4 exact rfl))|(apply S.not;exact rfl;exact rfl;exact rfl)|(apply S.extract;exact rfl;exact rfl;exact rfl)|(apply S.gsT;exact rfl;exact rfl;exact rfl;intro hc;rotate_left;intro hc;rotate_right) | apply S.nil | apply T.regs|(apply T.cCN;exact rfl) | apply T.seq|(apply T.skip;first | change T _ _ _ _ _ | change Done _ _ _ _ _ | change Next _ _ _ _ _ _ | skip)|(apply T.ret;change Done _ _ _ _ _))
    all_goals refine ⟨.inr rfl, [.b (decide (x1 < 0 ∧ x2 < 0)), .i 0], .cons (Res.tmpE rfl (congrArg (fun q : Bool => AV.val (.bool q)) ?_)) (.cons (.tmp rfl) .nil), .tup (.cons (.one (.lf _)) (.cons (.one (.lf _)) .nil))⟩
    all_goals first
     | exact (decide_eq_false (fun h => by obtain ⟨h1, h2⟩ := h;omega)).symm
     | exact decide_eq_decide.2 ⟨fun h => ⟨by assumption, h⟩, fun h => h.2⟩
   ·rw [if_neg e3] at c2 ⊢
    skip
    refine Fn0.of Tryz.func13 Tryz.ntmps13 rfl rfl rfl ?_
    simp only [entryTm]
    repeat' (first|(apply S.move;exact rfl;exact rfl)|(apply S.assign;exact rfl;exact rfl)|(apply S.gC;exact rfl;exact rfl;exact rfl)|(apply S.pCN;exact rfl;exact rfl;exact rfl)|(apply S.call;exact rfl;exact rfl;exact va;exact rfl)|(apply S.call;exact rfl;exact rfl;exact vb;exact rfl)|(apply S.call;exact rfl;exact rfl;exact vp;exact rfl)|(apply S.call;exact rfl;exact rfl;exact vq;exact rfl)|(apply S.call;exact rfl;exact rfl;exact cn;exact rfl)|(apply S.call;exact rfl;exact rfl;exact gA;exact rfl)|(apply S.call;exact rfl;exact rfl;exact gB;exact rfl)|(apply S.call;exact rfl;exact rfl;exact c1;exact rfl)|(apply S.call;exact rfl;exact rfl;exact c2;exact rfl)|(apply T.drawAll anyOrder (by decide +kernel))|(apply S.loadPA;(iterate 4 exact rfl))|(apply S.box;(iterate 6 exact rfl))|(apply S.alloc;(iterate 5 exact rfl))|(apply S.storeD;(iterate 8 exact rfl))|(apply S.cmp;(iterate 4 exact rfl))|(apply S.not;exact rfl;exact rfl;exact rfl)|(apply S.extract;exact rfl;exact rfl;exact rfl) | apply S.nil | apply T.regs|(apply T.cC;exact rfl)|(apply T.cCN;exact rfl) | apply T.seq|(apply T.skip;first | change T _ _ _ _ _ | change Done _ _ _ _ _ | change Next _ _ _ _ _ _ | skip)|(apply T.ret;change Done _ _ _ _ _))
    all_goals exact ⟨.inr rfl, [.b false, .i 5], .cons (.tmp rfl) (.cons (.tmp rfl) .nil), .tup (.cons (.one (.lf _)) (.cons (.one (.lf _)) .nil))⟩
  ·rw [if_neg e2] at c1 ⊢
   skip
   refine Fn0.of Tryz.func13 Tryz.ntmps13 rfl rfl rfl ?_
   simp only [entryTm]
   repeat' (first|(apply S.move;exact rfl;exact rfl)|(apply S.assign;exact rfl;exact rfl)|(apply S.gC;exact rfl;exact rfl;exact rfl)|(apply S.pCN;exact rfl;exact rfl;exact rfl)|(apply S.call;exact rfl;exact rfl;exact va;exact rfl)|(apply S.call;exact rfl;exact rfl;exact vb;exact rfl)|(apply S.call;exact rfl;exact rfl;exact vp;exact rfl)|(apply S.call;exact rfl;exact rfl;exact vq;exact rfl)|(apply S.call;exact rfl;exact rfl;exact cn;exact rfl)|(apply S.call;exact rfl;exact rfl;exact gA;exact rfl)|(apply S.call;exact rfl;exact rfl;exact c1;exact rfl)|(apply T.drawAll anyOrder (by decide +kernel))|(apply S.loadPA;(iterate 4 exact rfl))|(apply S.box;(iterate 6 exact rfl))|(apply S.alloc;(iterate 5 exact rfl))|(apply S.storeD;(iterate 8 exact rfl))|(apply S.cmp;(iterate 4 exact rfl))|(apply S.not;exact rfl;exact rfl;exact rfl)|(apply S.extract;exact rfl;exact rfl;exact rfl) | apply S.nil | apply T.regs|(apply T.cC;exact rfl)|(apply T.cCN;exact rfl) | apply T.seq|(apply T.skip;first | change T _ _ _ _ _ | change Done _ _ _ _ _ | change Next _ _ _ _ _ _ | skip)|(apply T.ret;change Done _ _ _ _ _))
   all_goals exact ⟨.inr rfl, [.b false, .i 5], .cons (.tmp rfl) (.cons (.tmp rfl) .nil), .tup (.cons (.one (.lf _)) (.cons (.one (.lf _)) .nil))⟩
 ·rw [decide_eq_false e1] at cn
  rw [if_neg e1]
  refine Fn0.of Tryz.func13 Tryz.ntmps13 rfl rfl rfl ?_
  simp only [entryTm]
  repeat' (first|(apply S.move;exact rfl;exact rfl)|(apply S.assign;exact rfl;exact rfl)|(apply S.gC;exact rfl;exact rfl;exact rfl)|(apply S.pCN;exact rfl;exact rfl;exact rfl)|(apply S.call;exact rfl;exact rfl;exact va;exact rfl)|(apply S.call;exact rfl;exact rfl;exact vb;exact rfl)|(apply S.call;exact rfl;exact rfl;exact vp;exact rfl)|(apply S.call;exact rfl;exact rfl;exact vq;exact rfl)|(apply S.call;exact rfl;exact rfl;exact cn;exact rfl)|(apply S.loadPA;(iterate 4 exact rfl))|(apply S.box;(iterate 6 exact rfl))|(apply S.cmp;(iterate 4 exact rfl))|(apply S.not;exact rfl;exact rfl;exact rfl)|(apply S.extract;exact rfl;exact rfl;exact rfl) | apply S.nil | apply T.regs|(apply T.cC;exact rfl)|(apply T.cCN;exact rfl) | apply T.seq|(apply T.skip;first | change T _ _ _ _ _ | change Done _ _ _ _ _ | change Next _ _ _ _ _ _ | skip)|(apply T.ret;change Done _ _ _ _ _))
  all_goals exact ⟨.inr rfl, [.b false, .i 0], .cons (.tmp rfl) (.cons (.tmp rfl) .nil), .tup (.cons (.one (.lf _)) (.cons (.one (.lf _)) .nil))⟩
end Go.Proofs.YtlncmkafjjomgaaGreat
set_option linter.unusedSimpArgs false
namespace Go.Proofs.YtlncmkafjjomgaaGreat
set_option linter.unusedVariables false
open Go Go.RowKit
theorem l40_of (n : Int) : Fn0 Tryz.prog 11 [.i n] (rowA [.i n, .i 1]) := by
 refine Fn0.of Tryz.func11 Tryz.ntmps11 rfl rfl rfl ?_
 simp only [entryTm]
 repeat' (first|(apply S.move;exact rfl;exact rfl)|(apply S.buildN;exact rfl;exact rfl;exact rfl)|(apply S.alloc;(iterate 5 exact rfl))|(apply S.store;(iterate 7 exact rfl)) | apply S.nil | apply T.regs|(apply T.ret;change Done _ _ _ _ _))
 exact ⟨.inr rfl, [rowA [.i n, .i 1]], .cons (Res.row [.i n, .i 1] rfl rfl rfl rfl rfl) .nil, .one (.agg (outL_refl _))⟩
def lnP (h s : Int) : List PieceR := [⟨0, 1, h, 1, s, 1, 0, 1⟩]
def lnL (h s : Rat) : List PcQ := [⟨0, h, s, 0⟩]
set_option maxHeartbeats 4000000 in
theorem l40_line (h s : Int) : Fn0 Tryz.prog 22 [.i h, .i s] (.sl ((lnP h s).map PieceR.row)) := by
 have c0 := l40_of 0
 have c1 := l40_of h
 have c2 := l40_of s
 refine Fn0.of Tryz.func22 Tryz.ntmps22 rfl rfl rfl ?_
 simp only [entryTm]
 repeat' (first|(apply S.move;exact rfl;exact rfl)|(apply S.assign;exact rfl;exact rfl)|(apply S.call;exact rfl;exact rfl;exact c0;exact rfl)|(apply S.call;exact rfl;exact rfl;exact c1;exact rfl)|(apply S.call;exact rfl;exact rfl;exact c2;exact rfl)|(apply S.buildSliceF;(iterate 8 exact rfl))|(apply S.build;exact rfl;exact rfl;exact rfl) | apply S.nil | apply T.regs|(apply T.ret;change Done _ _ _ _ _))
 exact done1 (by simp) Tryz.results22 rfl (.one (.one (.lf _)))
def exA : SetR := ⟨⟨#[115]⟩, 0, 0, 6000, 2000, [0, 2000], 0, 0, 1, 500, 0, [⟨⟨#[105]⟩, 0, 2000, 0, 1000, 10, 10⟩], []⟩
def exB : SetR := ⟨⟨#[116]⟩, 0, 0, 6000, 2000, [0, 2000], 0, 0, 1, 500, 0, [⟨⟨#[105]⟩, 0, 2000, 0, 0, 10, 10⟩], []⟩
theorem exA_ok : setP exA := by
 refine ⟨by decide +kernel, by decide, by decide, by decide, by decide, by decide, by decide, ?_, by decide, by decide, by decide, by decide, by decide, ?_, ?_⟩
 ·exact ⟨by decide, by decide, by decide⟩
 ·refine ⟨by decide, by decide, fun x hx => ?_, by simp [exA]⟩
  simp only [exA, List.mem_cons, List.not_mem_nil, or_false] at hx
  subst hx
  exact ⟨⟨by decide +kernel, by decide, by decide, by decide, by decide⟩, by decide, by decide, by decide⟩
 ·exact ⟨by decide, by decide, by simp [exA], by decide⟩
theorem exB_ok : setP exB := by
 refine ⟨by decide +kernel, by decide, by decide, by decide, by decide, by decide, by decide, ?_, by decide, by decide, by decide, by decide, by decide, ?_, ?_⟩
 ·exact ⟨by decide, by decide, by decide⟩
 ·refine ⟨by decide, by decide, fun x hx => ?_, by simp [exB]⟩
  simp only [exB, List.mem_cons, List.not_mem_nil, or_false] at hx
  subst hx
  exact ⟨⟨by decide +kernel, by decide, by decide, by decide, by decide⟩, by decide, by decide, by decide⟩
 ·exact ⟨by decide, by decide, by simp [exB], by decide⟩
set_option maxHeartbeats 8000000 in
theorem l40_example : Fn0 Tryz.prog 21 [] (.tup [rowA exA.row, rowA exB.row]) := by
 refine Fn0.of Tryz.func21 Tryz.ntmps21 rfl rfl rfl ?_
 simp only [entryTm]
 repeat' (first|(apply S.fieldP;exact rfl;exact rfl;exact rfl)|(apply T.orders anyOrder)|(apply Ords.nil;decide +kernel)|(apply Ords.one (i := 0);decide +kernel;exact rfl)|(apply Ords.one (i := 1);decide +kernel;exact rfl)|(apply Ords.one (i := 2);decide +kernel;exact rfl)|(apply Ords.one (i := 3);decide +kernel;exact rfl)|(apply Ords.two (i := 0) (j := 1);decide +kernel;exact rfl;exact rfl)|(apply Ords.two (i := 1) (j := 2);decide +kernel;exact rfl;exact rfl)|(apply S.buildSliceF;(iterate 8 exact rfl))|(apply S.buildN;exact rfl;exact rfl;exact rfl)|(apply S.loadPA;(iterate 4 exact rfl))|(apply S.alloc;(iterate 5 exact rfl))|(apply S.store;(iterate 7 exact rfl)) | apply S.nil | apply T.regs|(apply T.ret;change Done _ _ _ _ _))
 all_goals exact ⟨.inr rfl, [rowA exA.row, rowA exB.row], .cons (Res.row exA.row rfl rfl rfl rfl rfl) (.cons (Res.row exB.row rfl rfl rfl rfl rfl) .nil), .tup (.cons (.agg (show OutL _ _ (exA.row.map .lf) from outL_refl exA.row)) (.cons (.agg (show OutL _ _ (exB.row.map .lf) from outL_refl exB.row)) .nil))⟩
theorem lnL_ok (h s : Rat) (hh : Fits h) (hs : Fits s) : okC (lnL h s) := fun p hp => by
 simp only [lnL, List.mem_cons, List.not_mem_nil, or_false] at hp
 subst hp
 exact ⟨zero_fits, hh, hs, zero_fits⟩
theorem lnL_sort (h s : Rat) : sortC (lnL h s) := fun i hi => by simp [lnL] at hi
theorem ex_two : Two exA exB (lnL 6000 (-500)) (lnL 2000 0) := ⟨exA_ok, exB_ok, ⟨by decide, by decide, by decide⟩, ⟨by decide, by decide, by decide⟩, lnL_ok _ _ (by decide) (by decide), lnL_ok _ _ (by decide) (by decide), by simp [lnL], by simp [lnL], lnL_sort _ _, lnL_sort _ _, by decide, by decide⟩
theorem ex_near : nearP exA exB ∧ ¬ (hangI exA = 0 ∧ hangI exB = 0) := ⟨by decide +kernel, by decide +kernel⟩
theorem ex_ds : dsE (hangQ exA) (hangQ exB) (lnL 6000 (-500)) (lnL 2000 0) = 0 := by decide +kernel
theorem ex_fir : firstA (dsL (hangQ exA) (hangQ exB) (lnL 6000 (-500)) (lnL 2000 0)) 0 10 = .tup [rowA [.i 6000, .i 6000], .i 0] := by kernel_rfl
theorem ex_clo : (lsK (dsL (hangQ exA) (hangQ exB) (lnL 6000 (-500)) (lnL 2000 0)) 0 10 (dsL (hangQ exA) (hangQ exB) (lnL 6000 (-500)) (lnL 2000 0)).length).1.e = 0 ∧ (lsK (dsL (hangQ exA) (hangQ exB) (lnL 6000 (-500)) (lnL 2000 0)) 0 10 (dsL (hangQ exA) (hangQ exB) (lnL 6000 (-500)) (lnL 2000 0)).length).1.m = -2000 := by decide +kernel
set_option maxHeartbeats 16000000 in
theorem l40_awake : Fn0 Tryz.prog 5 [] (.b true) := by
 have c1 := col_first exA exB _ _ ex_two 10 (by decide) (by decide) (by decide)
 have c2 := col_closest exA exB _ _ ex_two 10 (by decide) (by decide) (by decide)
 unfold firC at c1
 rw [if_pos ex_near, if_pos ex_ds, ex_fir] at c1
 unfold cloC at c2
 rw [if_pos ex_near.1, if_pos ex_ds, leastA, resA, if_pos ex_clo.1, ex_clo.2] at c2
 have x1 := l40_line 6000 (-500)
 have x2 := l40_line 2000 0
 have o1 := l40_of 10
 have o2 := l40_of (-2000)
 have ex := l40_example
 change Fn0 _ _ _ (.sl ((lnL 6000 (-500)).map PcQ.row)) at x1
 change Fn0 _ _ _ (.sl ((lnL 2000 0).map PcQ.row)) at x2
 refine Fn0.of Tryz.func5 Tryz.ntmps5 rfl rfl rfl ?_
 simp only [entryTm]
 repeat' (first|(apply S.move;exact rfl;exact rfl)|(apply S.assign;exact rfl;exact rfl)|(apply S.gC;exact rfl;exact rfl;exact rfl)|(apply S.pC;exact rfl;exact rfl;exact rfl)|(apply S.call;exact rfl;exact rfl;exact ex;exact rfl)|(apply S.call;exact rfl;exact rfl;exact x1;exact rfl)|(apply S.call;exact rfl;exact rfl;exact x2;exact rfl)|(apply S.call;exact rfl;exact rfl;exact o1;exact rfl)|(apply S.call;exact rfl;exact rfl;exact o2;exact rfl)|(apply S.call;exact rfl;exact rfl;exact c1;exact rfl)|(apply S.call;exact rfl;exact rfl;exact c2;exact rfl)|(apply S.eq2;exact rfl;exact rfl;exact rfl)|(apply S.buildN;exact rfl;exact rfl;exact rfl)|(apply T.drawAll anyOrder (by decide +kernel))|(apply S.loadPA;(iterate 4 exact rfl))|(apply S.alloc;(iterate 5 exact rfl))|(apply S.store;(iterate 7 exact rfl))|(apply S.storeD;(iterate 8 exact rfl))|(apply S.cmp;(iterate 4 exact rfl))|(apply S.extract;exact rfl;exact rfl;exact rfl) | apply S.nil | apply T.regs|(apply T.ret;change Done _ _ _ _ _))
 all_goals exact doneV (by simp) Tryz.results5 rfl rfl
end Go.Proofs.YtlncmkafjjomgaaGreat
