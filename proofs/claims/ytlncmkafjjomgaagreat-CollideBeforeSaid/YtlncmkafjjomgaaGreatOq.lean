/- Contracts: collide's given, distance, First, Closest, Touch, of valid sets and paths. No conditions but those of each statement. -/
import Derived.Test.YtlncmkafjjomgaaGreatOp
set_option linter.unusedSimpArgs false
namespace Go.Proofs.YtlncmkafjjomgaaGreat
set_option linter.unusedVariables false
open Go Go.RowKit
structure Two (a b : SetR) (x y : List PcQ) : Prop where
 pa : setP a
 pb : setP b
 fa : a.fits
 fb : b.fits
 ox : okC x
 oy : okC y
 x0 : x ≠ []
 y0 : y ≠ []
 sx : sortC x
 sy : sortC y
 nx : x.length ≤ 200
 ny : y.length ≤ 200
def vPath (x : List PcQ) : Prop := Fn0 Tryz.prog 38 [.sl (x.map PcQ.row)] (.b true)
theorem Two.vx {a b : SetR} {x y : List PcQ} (h : Two a b x y) : vPath x := qua_validQ x h.ox h.sx (List.length_pos_iff.2 h.x0) h.nx
theorem Two.vy {a b : SetR} {x y : List PcQ} (h : Two a b x y) : vPath y := qua_validQ y h.oy h.sy (List.length_pos_iff.2 h.y0) h.ny
theorem lims_fits : Fits (1099511627776 : Rat) := by decide +kernel
theorem zero_fits : Fits (0 : Rat) := by decide +kernel
set_option maxHeartbeats 8000000 in
theorem col_given (a b : SetR) (x y : List PcQ) (h : Two a b x y) (te : Rat) (ht : Fits te) (h0 : 0 ≤ te) (h1 : te ≤ 1099511627776) :
  Fn0 Tryz.prog 26 [rowA a.row, rowA b.row, .sl (x.map PcQ.row), .sl (y.map PcQ.row), rowA (frR te)] (.i 0) := by
 have va := bat_valid a h.fa
 have vb := bat_valid b h.fb
 rw [decide_eq_true h.pa] at va
 rw [decide_eq_true h.pb] at vb
 have vx := h.vx
 have vy := h.vy
 unfold vPath at vx vy
 have vt : Fn0 Tryz.prog 36 [rowA (frR te)] (.b true) := by
  have := ratio_valid te.num te.den
  rwa [ht.valid] at this
 have cm := ratio_cmp te 1099511627776 ht lims_fits
 change Fn0 _ _ [_, rowA [.i 1099511627776, .i 1]] _ at cm
 have k0 : ¬ 0 < cmpQ te 1099511627776 := fun h => Rat.not_lt.2 h1 ((cmpQ_gt _ _).1 h)
 have k1 : ¬ te.num < 0 := by have := Rat.num_nonneg.2 h0;omega
 generalize cmpQ te 1099511627776 = c at cm k0
 refine Fn0.of Tryz.func26 Tryz.ntmps26 rfl rfl rfl ?_
 simp only [entryTm]
 repeat' (first|(apply S.move;exact rfl;exact rfl)|(apply S.assign;exact rfl;exact rfl)|(apply S.gC;exact rfl;exact rfl;exact rfl)|(apply S.gFF;exact rfl;exact rfl;assumption)|(apply S.fieldP;exact rfl;exact rfl;exact rfl)|(apply S.loadP;(iterate 4 exact rfl))|(apply S.pCN;exact rfl;exact rfl;exact rfl)|(apply S.pFp;exact rfl;assumption;exact rfl;exact rfl)|(apply S.call;exact rfl;exact rfl;exact va;exact rfl)|(apply S.call;exact rfl;exact rfl;exact vb;exact rfl)|(apply S.call;exact rfl;exact rfl;exact vx;exact rfl)|(apply S.call;exact rfl;exact rfl;exact vy;exact rfl)|(apply S.call;exact rfl;exact rfl;exact vt;exact rfl)|(apply S.call;exact rfl;exact rfl;exact cm;exact rfl)|(apply S.buildN;exact rfl;exact rfl;exact rfl)|(apply S.loadPA;(iterate 4 exact rfl))|(apply S.box;(iterate 6 exact rfl))|(apply S.cmp;(iterate 4 exact rfl))|(apply S.not;exact rfl;exact rfl;exact rfl)|(apply S.extract;exact rfl;exact rfl;exact rfl) | apply S.nil | apply T.regs|(apply T.cCN;exact rfl)|(apply T.cF;exact rfl;assumption) | apply T.seq|(apply T.skip;first | change T _ _ _ _ _ | change Done _ _ _ _ _ | change Next _ _ _ _ _ _ | skip)|(apply T.ret;change Done _ _ _ _ _))
 all_goals exact doneV (by simp) Tryz.results26 rfl rfl
theorem firstA_is (l : List PcQ) (fr te : Rat) : ∃ u v e : Int, firstA l fr te = .tup [rowA [.i u, .i v], .i e] := by
 unfold firstA
 cases e : scanF (allQ l fr) fr te (allQ l fr).length with
 | none => exact ⟨0, 0, 12, rfl⟩
 | some r =>
  obtain ⟨j, _, hst, _⟩ := scanF_out e
  have key : ∃ u v : Int, r = [.i u, .i v] := by
   unfold stepF at hst
   split at hst
   ·cases hst
   ·split at hst
    ·injection hst with hst;subst hst;unfold enQ;split <;> exact ⟨_, _, rfl⟩
    ·split at hst
     ·injection hst with hst;subst hst;unfold firR;split <;> exact ⟨_, _, rfl⟩
     ·cases hst
  obtain ⟨u, v, rfl⟩ := key
  exact ⟨u, v, 0, rfl⟩
theorem nat_zero_row : rowA (frR 0) = rowA [.i 0, .i 1] := rfl
set_option maxHeartbeats 16000000 in
theorem col_distance (a b : SetR) (x y : List PcQ) (h : Two a b x y) :
  Fn0 Tryz.prog 28 [rowA a.row, rowA b.row, .sl (x.map PcQ.row), .sl (y.map PcQ.row)] (.tup [.sl ((dsL (hangQ a) (hangQ b) x y).map PcQ.row), .i (dsE (hangQ a) (hangQ b) x y)]) := by
 have cu := qua_at x 0 h.ox h.x0 (by have := h.nx;omega) zero_fits h.vx
 have cv := qua_at y 0 h.oy h.y0 (by have := h.ny;omega) zero_fits h.vy
 rw [nat_zero_row] at cu cv
 have gA := col_hang a h.fa.2.1
 have gB := col_hang b h.fb.2.1
 rw [← hangQ_row] at gA gB
 have fA := hangQ_fits h.pa
 have fB := hangQ_fits h.pb
 have fu := atQ_fits (t := 0) h.ox h.x0
 have fv := atQ_fits (t := 0) h.oy h.y0
 have lA := col_lowered x y (hangQ a) h.ox h.oy h.x0 h.y0 h.nx h.ny fA h.vx h.vy
 have lB := col_lowered y x (hangQ b) h.oy h.ox h.y0 h.x0 h.ny h.nx fB h.vy h.vx
 unfold dsL dsE
 generalize hangQ a = ha at *
 generalize hangQ b = hb at *
 generalize lwL x y ha = LA at *
 generalize lwE x y ha = EA at *
 generalize lwL y x hb = LB at *
 generalize lwE y x hb = EB at *
 unfold resA at cu cv
 by_cases e1 : atE x 0 0 = 0
 ·rw [if_pos e1] at cu
  by_cases e2 : atE y 0 0 = 0
  ·rw [if_pos e2] at cv
   have c1 := ratio_subA (atQ x 0) (atQ y 0) fu fv
   generalize atQ x 0 = u at *
   generalize atQ y 0 = v at *
   unfold outA at c1
   by_cases e3 : Fits (u - v)
   ·rw [if_pos e3] at c1
    have c2 := ratio_subA (u - v) ha e3 fA
    unfold outA at c2
    by_cases e4 : Fits (u - v - ha)
    ·rw [if_pos e4] at c2
     simp only [e1, e2, e3, e4, if_true]
     generalize u - v = w at *
     by_cases e5 : 0 ≤ w - ha
     ·have e6 : (w - ha).num ≥ 0 := Rat.num_nonneg.2 e5
      generalize w - ha = z at *
      simp only [e5, if_true]
      skip
      refine Fn0.of Tryz.func28 Tryz.ntmps28 rfl rfl rfl ?_
      simp only [entryTm]
      repeat' (first|(apply S.move;exact rfl;exact rfl)|(apply S.assign;exact rfl;exact rfl)|(apply S.fieldP;exact rfl;exact rfl;exact rfl)|(apply S.loadP;(iterate 4 exact rfl))|(apply S.call;exact rfl;exact rfl;exact cu;exact rfl)|(apply S.call;exact rfl;exact rfl;exact cv;exact rfl)|(apply S.call;exact rfl;exact rfl;exact gA;exact rfl)|(apply S.call;exact rfl;exact rfl;exact c1;exact rfl)|(apply S.call;exact rfl;exact rfl;exact c2;exact rfl)|(apply S.call;exact rfl;exact rfl;exact lA;exact rfl)|(apply S.buildN;exact rfl;exact rfl;exact rfl)|(apply T.drawAll anyOrder (by decide +kernel))|(apply S.loadPA;(iterate 4 exact rfl))|(apply S.box;(iterate 6 exact rfl))|(apply S.alloc;(iterate 5 exact rfl))|(apply S.store;(iterate 7 exact rfl))|(apply S.storeD;(iterate 8 exact rfl))|(apply S.cmp;(iterate 4 exact rfl))|(apply S.extract;exact rfl;exact rfl;exact rfl) | apply S.nil | apply T.regs|(apply T.cCN;exact rfl)|(apply T.cT;exact rfl;assumption) | apply T.seq|(apply T.skip;first | change T _ _ _ _ _ | change Done _ _ _ _ _ | change Next _ _ _ _ _ _ | skip)|(apply T.ret;change Done _ _ _ _ _))
      all_goals exact ⟨.inr rfl, [.sl (LA.map PcQ.row), .i EA], .cons (.tmp rfl) (.cons (.tmp rfl) .nil), .tup (.cons (.one (.lf _)) (.cons (.one (.lf _)) .nil))⟩
     ·have e6 : ¬ (w - ha).num ≥ 0 := fun k => e5 (Rat.num_nonneg.1 k)
      generalize w - ha = z at *
      simp only [e5, if_false]
      skip
      refine Fn0.of Tryz.func28 Tryz.ntmps28 rfl rfl rfl ?_
      simp only [entryTm]
      repeat' (first|(apply S.move;exact rfl;exact rfl)|(apply S.assign;exact rfl;exact rfl)|(apply S.fieldP;exact rfl;exact rfl;exact rfl)|(apply S.loadP;(iterate 4 exact rfl))|(apply S.call;exact rfl;exact rfl;exact cu;exact rfl)|(apply S.call;exact rfl;exact rfl;exact cv;exact rfl)|(apply S.call;exact rfl;exact rfl;exact gA;exact rfl)|(apply S.call;exact rfl;exact rfl;exact gB;exact rfl)|(apply S.call;exact rfl;exact rfl;exact c1;exact rfl)|(apply S.call;exact rfl;exact rfl;exact c2;exact rfl)|(apply S.call;exact rfl;exact rfl;exact lB;exact rfl)|(apply S.buildN;exact rfl;exact rfl;exact rfl)|(apply T.drawAll anyOrder (by decide +kernel))|(apply S.loadPA;(iterate 4 exact rfl))|(apply S.box;(iterate 6 exact rfl))|(apply S.alloc;(iterate 5 exact rfl))|(apply S.store;(iterate 7 exact rfl))|(apply S.storeD;(iterate 8 exact rfl))|(apply S.cmp;(iterate 4 exact rfl))|(apply S.extract;exact rfl;exact rfl;exact rfl) | apply S.nil | apply T.regs|(apply T.cCN;exact rfl)|(apply T.cF;exact rfl;assumption) | apply T.seq|(apply T.skip;first | change T _ _ _ _ _ | change Done _ _ _ _ _ | change Next _ _ _ _ _ _ | skip)|(apply T.ret;change Done _ _ _ _ _))
      all_goals exact ⟨.inr rfl, [.sl (LB.map PcQ.row), .i EB], .cons (.tmp rfl) (.cons (.tmp rfl) .nil), .tup (.cons (.one (.lf _)) (.cons (.one (.lf _)) .nil))⟩
    ·rw [if_neg e4] at c2
     simp only [e1, e2, e3, e4, if_true, if_false]
     skip
     refine Fn0.of Tryz.func28 Tryz.ntmps28 rfl rfl rfl ?_
     simp only [entryTm]
     repeat' (first|(apply S.move;exact rfl;exact rfl)|(apply S.assign;exact rfl;exact rfl)|(apply S.call;exact rfl;exact rfl;exact cu;exact rfl)|(apply S.call;exact rfl;exact rfl;exact cv;exact rfl)|(apply S.call;exact rfl;exact rfl;exact gA;exact rfl)|(apply S.call;exact rfl;exact rfl;exact c1;exact rfl)|(apply S.call;exact rfl;exact rfl;exact c2;exact rfl)|(apply S.buildN;exact rfl;exact rfl;exact rfl)|(apply T.drawAll anyOrder (by decide +kernel))|(refine T.nilU 8 rfl ?_;apply T.ret;change Done _ _ _ _ _)|(apply S.loadPA;(iterate 4 exact rfl))|(apply S.box;(iterate 6 exact rfl))|(apply S.alloc;(iterate 5 exact rfl))|(apply S.store;(iterate 7 exact rfl))|(apply S.storeD;(iterate 8 exact rfl))|(apply S.cmp;(iterate 4 exact rfl))|(apply S.extract;exact rfl;exact rfl;exact rfl) | apply S.nil | apply T.regs|(apply T.cC;exact rfl)|(apply T.cCN;exact rfl) | apply T.seq|(apply T.skip;first | change T _ _ _ _ _ | change Done _ _ _ _ _ | change Next _ _ _ _ _ _ | skip))
     all_goals exact ⟨.inr rfl, [.sl [], .i 5], .cons (.tmp rfl) (.cons (.tmp rfl) .nil), .tup (.cons (.one (.lf _)) (.cons (.one (.lf _)) .nil))⟩
   ·rw [if_neg e3] at c1
    simp only [e1, e2, e3, if_true, if_false]
    skip
    refine Fn0.of Tryz.func28 Tryz.ntmps28 rfl rfl rfl ?_
    simp only [entryTm]
    repeat' (first|(apply S.move;exact rfl;exact rfl)|(apply S.assign;exact rfl;exact rfl)|(apply S.call;exact rfl;exact rfl;exact cu;exact rfl)|(apply S.call;exact rfl;exact rfl;exact cv;exact rfl)|(apply S.call;exact rfl;exact rfl;exact c1;exact rfl)|(apply S.buildN;exact rfl;exact rfl;exact rfl)|(refine T.nilU 8 rfl ?_;apply T.ret;change Done _ _ _ _ _)|(apply S.loadPA;(iterate 4 exact rfl))|(apply S.box;(iterate 6 exact rfl))|(apply S.alloc;(iterate 5 exact rfl))|(apply S.store;(iterate 7 exact rfl))|(apply S.cmp;(iterate 4 exact rfl))|(apply S.extract;exact rfl;exact rfl;exact rfl) | apply S.nil | apply T.regs|(apply T.cC;exact rfl)|(apply T.cCN;exact rfl) | apply T.seq|(apply T.skip;first | change T _ _ _ _ _ | change Done _ _ _ _ _ | change Next _ _ _ _ _ _ | skip))
    all_goals exact ⟨.inr rfl, [.sl [], .i 5], .cons (.tmp rfl) (.cons (.tmp rfl) .nil), .tup (.cons (.one (.lf _)) (.cons (.one (.lf _)) .nil))⟩
  ·rw [if_neg e2] at cv
   simp only [e1, e2, if_true, if_false]
   generalize atE y 0 0 = e at *
   skip
   refine Fn0.of Tryz.func28 Tryz.ntmps28 rfl rfl rfl ?_
   simp only [entryTm]
   repeat' (first|(apply S.move;exact rfl;exact rfl)|(apply S.assign;exact rfl;exact rfl)|(apply S.call;exact rfl;exact rfl;exact cu;exact rfl)|(apply S.call;exact rfl;exact rfl;exact cv;exact rfl)|(apply S.buildN;exact rfl;exact rfl;exact rfl)|(refine T.nilU 8 rfl ?_;apply T.ret;change Done _ _ _ _ _)|(apply S.loadPA;(iterate 4 exact rfl))|(apply S.box;(iterate 6 exact rfl))|(apply S.alloc;(iterate 5 exact rfl))|(apply S.store;(iterate 7 exact rfl))|(apply S.cmp;(iterate 4 exact rfl))|(apply S.extract;exact rfl;exact rfl;exact rfl) | apply S.nil | apply T.regs|(apply T.cCN;exact rfl)|(apply T.cT;exact rfl;assumption) | apply T.seq|(apply T.skip;first | change T _ _ _ _ _ | change Done _ _ _ _ _ | change Next _ _ _ _ _ _ | skip))
   all_goals exact ⟨.inr rfl, [.sl [], .i e], .cons (.tmp rfl) (.cons (.tmp rfl) .nil), .tup (.cons (.one (.lf _)) (.cons (.one (.lf _)) .nil))⟩
 ·rw [if_neg e1] at cu
  simp only [e1, if_false]
  generalize atE x 0 0 = e at *
  skip
  refine Fn0.of Tryz.func28 Tryz.ntmps28 rfl rfl rfl ?_
  simp only [entryTm]
  repeat' (first|(apply S.move;exact rfl;exact rfl)|(apply S.assign;exact rfl;exact rfl)|(apply S.call;exact rfl;exact rfl;exact cu;exact rfl)|(apply S.buildN;exact rfl;exact rfl;exact rfl)|(refine T.nilU 8 rfl ?_;apply T.ret;change Done _ _ _ _ _)|(apply S.loadPA;(iterate 4 exact rfl))|(apply S.box;(iterate 6 exact rfl))|(apply S.alloc;(iterate 5 exact rfl))|(apply S.store;(iterate 7 exact rfl))|(apply S.cmp;(iterate 4 exact rfl))|(apply S.extract;exact rfl;exact rfl;exact rfl) | apply S.nil | apply T.regs|(apply T.cT;exact rfl;assumption) | apply T.seq)
  all_goals exact ⟨.inr rfl, [.sl [], .i e], .cons (.tmp rfl) (.cons (.tmp rfl) .nil), .tup (.cons (.one (.lf _)) (.cons (.one (.lf _)) .nil))⟩
set_option maxHeartbeats 16000000 in
theorem col_first (a b : SetR) (x y : List PcQ) (h : Two a b x y) (te : Rat) (ht : Fits te) (h0 : 0 ≤ te) (h1 : te ≤ 1099511627776) :
  Fn0 Tryz.prog 7 [rowA a.row, rowA b.row, .sl (x.map PcQ.row), .sl (y.map PcQ.row), rowA (frR te)] (firC a b x y te) := by
 have cg := col_given a b x y h te ht h0 h1
 have cn := sweep_near a b h.pa h.pb h.fa h.fb
 have gA := col_hang a h.fa.2.1
 have gB := col_hang b h.fb.2.1
 have cd := col_distance a b x y h
 unfold firC
 by_cases e1 : nearP a b
 ·rw [decide_eq_true e1] at cn
  by_cases e2 : hangI a = 0 ∧ hangI b = 0
  ·obtain ⟨e2, e3⟩ := e2
   have hc : ¬ (nearP a b ∧ ¬ (hangI a = 0 ∧ hangI b = 0)) := fun k => k.2 ⟨e2, e3⟩
   rw [if_neg hc]
   rw [e2] at gA
   rw [e3] at gB
   refine Fn0.of Tryz.func7 Tryz.ntmps7 rfl rfl rfl ?_
   simp only [entryTm]
   repeat' (first|(apply S.move;exact rfl;exact rfl)|(apply S.assign;exact rfl;exact rfl)|(apply S.gC;exact rfl;exact rfl;exact rfl)|(apply S.pC;exact rfl;exact rfl;exact rfl)|(apply S.pCN;exact rfl;exact rfl;exact rfl)|(apply S.call;exact rfl;exact rfl;exact cg;exact rfl)|(apply S.call;exact rfl;exact rfl;exact cn;exact rfl)|(apply S.call;exact rfl;exact rfl;exact gA;exact rfl)|(apply S.call;exact rfl;exact rfl;exact gB;exact rfl)|(apply S.field (i := 0) (f := ⟨"Num", 3, 0, false, "", "", 0⟩) Tryz.underlying30 rfl Tryz.underlying3 rfl;exact rfl;exact rfl;exact rfl)|(apply S.buildN;exact rfl;exact rfl;exact rfl)|(apply S.loadPA;(iterate 4 exact rfl))|(apply S.box;(iterate 6 exact rfl))|(apply S.alloc;(iterate 5 exact rfl))|(apply S.store;(iterate 7 exact rfl))|(apply S.cmp;(iterate 4 exact rfl))|(apply S.not;exact rfl;exact rfl;exact rfl)|(apply S.extract;exact rfl;exact rfl;exact rfl) | apply S.nil | apply T.regs|(apply T.cC;exact rfl)|(apply T.cCN;exact rfl) | apply T.seq|(apply T.skip;first | change T _ _ _ _ _ | change Done _ _ _ _ _ | change Next _ _ _ _ _ _ | skip)|(apply T.ret;change Done _ _ _ _ _) | apply T.block)
   all_goals exact ⟨.inr rfl, [rowA [.i 0, .i 0], .i 12], .cons (Res.row [.i 0, .i 0] rfl rfl rfl rfl rfl) (.cons (.tmp rfl) .nil), .tup (.cons (.agg (outL_refl [.i 0, .i 0])) (.cons (.one (.lf _)) .nil))⟩
  ·have hc : nearP a b ∧ ¬ (hangI a = 0 ∧ hangI b = 0) := ⟨e1, e2⟩
   rw [if_pos hc]
   by_cases e3 : dsE (hangQ a) (hangQ b) x y = 0
   ·rw [if_pos e3]
    rw [e3] at cd
    obtain ⟨d1, d2, d3, d4⟩ := ds_all h.ox h.oy h.x0 h.y0 h.sx h.sy e3
    generalize dsL (hangQ a) (hangQ b) x y = l at *
    have cf := qua_first l 0 te d1 d3 d4 zero_fits ht (qua_validQ l d1 d2 (List.length_pos_iff.2 d3) d4) h0 ⟨by decide, by decide⟩ ⟨Rat.le_trans (by decide) h0, h1⟩
    rw [nat_zero_row] at cf
    obtain ⟨u1, u2, u3, hu⟩ := firstA_is l 0 te
    rw [hu] at cf ⊢
    by_cases e4 : hangI a = 0
    ·have e5 : ¬ hangI b = 0 := fun k => e2 ⟨e4, k⟩
     refine Fn0.of Tryz.func7 Tryz.ntmps7 rfl rfl rfl ?_
     simp only [entryTm]
     repeat' (first|(apply S.move;exact rfl;exact rfl)|(apply S.assign;exact rfl;exact rfl)|(apply S.gC;exact rfl;exact rfl;exact rfl)|(apply S.gTT;exact rfl;exact rfl;assumption)|(apply S.pCN;exact rfl;exact rfl;exact rfl)|(apply S.pTp;exact rfl;assumption;exact rfl;exact rfl)|(apply S.call;exact rfl;exact rfl;exact cg;exact rfl)|(apply S.call;exact rfl;exact rfl;exact cn;exact rfl)|(apply S.call;exact rfl;exact rfl;exact gA;exact rfl)|(apply S.call;exact rfl;exact rfl;exact gB;exact rfl)|(apply S.call;exact rfl;exact rfl;exact cd;exact rfl)|(apply S.call;exact rfl;exact rfl;exact cf;exact rfl)|(apply S.field (i := 0) (f := ⟨"Num", 3, 0, false, "", "", 0⟩) Tryz.underlying30 rfl Tryz.underlying3 rfl;exact rfl;exact rfl;exact rfl)|(apply S.buildN;exact rfl;exact rfl;exact rfl)|(apply S.loadPA;(iterate 4 exact rfl))|(apply S.box;(iterate 6 exact rfl))|(apply S.alloc;(iterate 5 exact rfl))|(apply S.store;(iterate 7 exact rfl))|(apply S.cmp;(iterate 4 exact rfl))|(apply S.not;exact rfl;exact rfl;exact rfl)|(apply S.extract;exact rfl;exact rfl;exact rfl) | apply S.nil | apply T.regs|(apply T.cCN;exact rfl)|(apply T.cF;exact rfl;assumption) | apply T.seq|(apply T.skip;first | change T _ _ _ _ _ | change Done _ _ _ _ _ | change Next _ _ _ _ _ _ | skip)|(apply T.ret;change Done _ _ _ _ _) | apply T.block)
     all_goals exact ⟨.inr rfl, [rowA [.i u1, .i u2], .i u3], .cons (Res.row [.i u1, .i u2] rfl rfl rfl rfl rfl) (.cons (.tmp rfl) .nil), .tup (.cons (.agg (outL_refl [.i u1, .i u2])) (.cons (.one (.lf _)) .nil))⟩
    ·skip
     refine Fn0.of Tryz.func7 Tryz.ntmps7 rfl rfl rfl ?_
     simp only [entryTm]
     repeat' (first|(apply S.move;exact rfl;exact rfl)|(apply S.assign;exact rfl;exact rfl)|(apply S.gC;exact rfl;exact rfl;exact rfl)|(apply S.gTF;exact rfl;exact rfl;assumption;exact rfl)|(apply S.pCN;exact rfl;exact rfl;exact rfl)|(apply S.pFp;exact rfl;assumption;exact rfl;exact rfl)|(apply S.call;exact rfl;exact rfl;exact cg;exact rfl)|(apply S.call;exact rfl;exact rfl;exact cn;exact rfl)|(apply S.call;exact rfl;exact rfl;exact gA;exact rfl)|(apply S.call;exact rfl;exact rfl;exact cd;exact rfl)|(apply S.call;exact rfl;exact rfl;exact cf;exact rfl)|(apply S.field (i := 0) (f := ⟨"Num", 3, 0, false, "", "", 0⟩) Tryz.underlying30 rfl Tryz.underlying3 rfl;exact rfl;exact rfl;exact rfl)|(apply S.buildN;exact rfl;exact rfl;exact rfl)|(apply S.loadPA;(iterate 4 exact rfl))|(apply S.box;(iterate 6 exact rfl))|(apply S.alloc;(iterate 5 exact rfl))|(apply S.store;(iterate 7 exact rfl))|(apply S.cmp;(iterate 4 exact rfl))|(apply S.not;exact rfl;exact rfl;exact rfl)|(apply S.extract;exact rfl;exact rfl;exact rfl) | apply S.nil | apply T.regs|(apply T.cCN;exact rfl) | apply T.seq|(apply T.skip;first | change T _ _ _ _ _ | change Done _ _ _ _ _ | change Next _ _ _ _ _ _ | skip)|(apply T.ret;change Done _ _ _ _ _) | apply T.block)
     all_goals exact ⟨.inr rfl, [rowA [.i u1, .i u2], .i u3], .cons (Res.row [.i u1, .i u2] rfl rfl rfl rfl rfl) (.cons (.tmp rfl) .nil), .tup (.cons (.agg (outL_refl [.i u1, .i u2])) (.cons (.one (.lf _)) .nil))⟩
   ·rw [if_neg e3]
    generalize dsL (hangQ a) (hangQ b) x y = l at *
    generalize dsE (hangQ a) (hangQ b) x y = e at *
    by_cases e4 : hangI a = 0
    ·have e5 : ¬ hangI b = 0 := fun k => e2 ⟨e4, k⟩
     refine Fn0.of Tryz.func7 Tryz.ntmps7 rfl rfl rfl ?_
     simp only [entryTm]
     repeat' (first|(apply S.move;exact rfl;exact rfl)|(apply S.assign;exact rfl;exact rfl)|(apply S.gC;exact rfl;exact rfl;exact rfl)|(apply S.gTT;exact rfl;exact rfl;assumption)|(apply S.pCN;exact rfl;exact rfl;exact rfl)|(apply S.pTp;exact rfl;assumption;exact rfl;exact rfl)|(apply S.call;exact rfl;exact rfl;exact cg;exact rfl)|(apply S.call;exact rfl;exact rfl;exact cn;exact rfl)|(apply S.call;exact rfl;exact rfl;exact gA;exact rfl)|(apply S.call;exact rfl;exact rfl;exact gB;exact rfl)|(apply S.call;exact rfl;exact rfl;exact cd;exact rfl)|(apply S.field (i := 0) (f := ⟨"Num", 3, 0, false, "", "", 0⟩) Tryz.underlying30 rfl Tryz.underlying3 rfl;exact rfl;exact rfl;exact rfl)|(apply S.buildN;exact rfl;exact rfl;exact rfl)|(apply S.loadPA;(iterate 4 exact rfl))|(apply S.box;(iterate 6 exact rfl))|(apply S.alloc;(iterate 5 exact rfl))|(apply S.store;(iterate 7 exact rfl))|(apply S.cmp;(iterate 4 exact rfl))|(apply S.not;exact rfl;exact rfl;exact rfl)|(apply S.extract;exact rfl;exact rfl;exact rfl) | apply S.nil | apply T.regs|(apply T.cCN;exact rfl)|(apply T.cT;exact rfl;assumption)|(apply T.cF;exact rfl;assumption) | apply T.seq|(apply T.skip;first | change T _ _ _ _ _ | change Done _ _ _ _ _ | change Next _ _ _ _ _ _ | skip)|(apply T.ret;change Done _ _ _ _ _) | apply T.block)
     all_goals exact ⟨.inr rfl, [rowA [.i 0, .i 0], .i e], .cons (Res.row [.i 0, .i 0] rfl rfl rfl rfl rfl) (.cons (.tmp rfl) .nil), .tup (.cons (.agg (outL_refl [.i 0, .i 0])) (.cons (.one (.lf _)) .nil))⟩
    ·skip
     refine Fn0.of Tryz.func7 Tryz.ntmps7 rfl rfl rfl ?_
     simp only [entryTm]
     repeat' (first|(apply S.move;exact rfl;exact rfl)|(apply S.assign;exact rfl;exact rfl)|(apply S.gC;exact rfl;exact rfl;exact rfl)|(apply S.gTF;exact rfl;exact rfl;assumption;exact rfl)|(apply S.pCN;exact rfl;exact rfl;exact rfl)|(apply S.pFp;exact rfl;assumption;exact rfl;exact rfl)|(apply S.call;exact rfl;exact rfl;exact cg;exact rfl)|(apply S.call;exact rfl;exact rfl;exact cn;exact rfl)|(apply S.call;exact rfl;exact rfl;exact gA;exact rfl)|(apply S.call;exact rfl;exact rfl;exact cd;exact rfl)|(apply S.field (i := 0) (f := ⟨"Num", 3, 0, false, "", "", 0⟩) Tryz.underlying30 rfl Tryz.underlying3 rfl;exact rfl;exact rfl;exact rfl)|(apply S.buildN;exact rfl;exact rfl;exact rfl)|(apply S.loadPA;(iterate 4 exact rfl))|(apply S.box;(iterate 6 exact rfl))|(apply S.alloc;(iterate 5 exact rfl))|(apply S.store;(iterate 7 exact rfl))|(apply S.cmp;(iterate 4 exact rfl))|(apply S.not;exact rfl;exact rfl;exact rfl)|(apply S.extract;exact rfl;exact rfl;exact rfl) | apply S.nil | apply T.regs|(apply T.cCN;exact rfl)|(apply T.cT;exact rfl;assumption) | apply T.seq|(apply T.skip;first | change T _ _ _ _ _ | change Done _ _ _ _ _ | change Next _ _ _ _ _ _ | skip)|(apply T.ret;change Done _ _ _ _ _) | apply T.block)
     all_goals exact ⟨.inr rfl, [rowA [.i 0, .i 0], .i e], .cons (Res.row [.i 0, .i 0] rfl rfl rfl rfl rfl) (.cons (.tmp rfl) .nil), .tup (.cons (.agg (outL_refl [.i 0, .i 0])) (.cons (.one (.lf _)) .nil))⟩
 ·have hc : ¬ (nearP a b ∧ ¬ (hangI a = 0 ∧ hangI b = 0)) := fun k => e1 k.1
  rw [if_neg hc]
  rw [decide_eq_false e1] at cn
  refine Fn0.of Tryz.func7 Tryz.ntmps7 rfl rfl rfl ?_
  simp only [entryTm]
  repeat' (first|(apply S.move;exact rfl;exact rfl)|(apply S.assign;exact rfl;exact rfl)|(apply S.gCN;(iterate 4 exact rfl))|(apply S.gU;exact rfl;exact rfl;exact rfl)|(apply S.pC;exact rfl;exact rfl;exact rfl)|(apply S.call;exact rfl;exact rfl;exact cg;exact rfl)|(apply S.call;exact rfl;exact rfl;exact cn;exact rfl)|(apply S.buildN;exact rfl;exact rfl;exact rfl)|(apply S.loadPA;(iterate 4 exact rfl))|(apply S.box;(iterate 6 exact rfl))|(apply S.alloc;(iterate 5 exact rfl))|(apply S.store;(iterate 7 exact rfl))|(apply S.cmp;(iterate 4 exact rfl))|(apply S.not;exact rfl;exact rfl;exact rfl)|(apply S.extract;exact rfl;exact rfl;exact rfl) | apply S.nil | apply T.regs|(apply T.cC;exact rfl)|(apply T.cCN;exact rfl) | apply T.seq|(apply T.skip;first | change T _ _ _ _ _ | change Done _ _ _ _ _ | change Next _ _ _ _ _ _ | skip)|(apply T.ret;change Done _ _ _ _ _) | apply T.block)
  all_goals exact ⟨.inr rfl, [rowA [.i 0, .i 0], .i 12], .cons (Res.row [.i 0, .i 0] rfl rfl rfl rfl rfl) (.cons (.tmp rfl) .nil), .tup (.cons (.agg (outL_refl [.i 0, .i 0])) (.cons (.one (.lf _)) .nil))⟩
end Go.Proofs.YtlncmkafjjomgaaGreat
