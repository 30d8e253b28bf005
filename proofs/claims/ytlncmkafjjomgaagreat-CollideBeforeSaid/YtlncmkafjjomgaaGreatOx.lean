/- The law of the time before a contact, but for the reading of its arguments. No conditions but those of each statement. -/
import Derived.Test.YtlncmkafjjomgaaGreatOr
import Derived.Test.YtlncmkafjjomgaaGreatOv
import Derived.Test.YtlncmkafjjomgaaGreatOw
set_option linter.unusedSimpArgs false
namespace Go.Proofs.YtlncmkafjjomgaaGreat
set_option linter.unusedVariables false
open Go Go.RowKit
theorem mul_le_self {L s : Rat} (h0 : 0 ≤ L) (h1 : s ≤ 1) : L * s ≤ L := by
 have := Rat.mul_le_mul_of_nonneg_left h1 h0
 rwa [Rat.mul_one] at this
theorem share_le {p : Int} (hp : p ≤ 65535) : ratV p 65536 ≤ 1 := by
 have h : ratV p 65536 = (p : Rat) / 65536 := by
  unfold ratV
  rw [Rat.divInt_eq_div];rfl
 rw [h]
 have hq : (p : Rat) ≤ ((65535 : Int) : Rat) := Rat.intCast_le_intCast.2 hp
 have h5 : ((65535 : Int) : Rat) = 65535 := rfl
 rw [h5] at hq
 grind
set_option maxHeartbeats 64000000 in
theorem law_collideBefore (a b : SetR) (la lb : List PieceR) (n d p : Int) (hfa : a.fits) (hfb : b.fits) (hla : la.length ≤ 1000000000000000) (hlb : lb.length ≤ 1000000000000000) (hp : 0 ≤ p ∧ p ≤ 65535) :
  Fn0 Tryz.prog 3 [rowA a.row, rowA b.row, .sl (la.map PieceR.row), .sl (lb.map PieceR.row), rowA [.i n, .i d], .val (.int .u16 p)] (.b true) := by
 have cr := l40_right a b la lb n d hfa hfb hla hlb
 by_cases hR : rigP a b la lb n d
 ·rw [decide_eq_true hR] at cr
  obtain ⟨_, l10, m10, ⟨g1, g2, g3, g4, g5⟩, n0, h1⟩ := hR
  obtain ⟨hok, hrow, hne, hs⟩ := curveQ_ok g3
  obtain ⟨hok2, hrow2, hne2, hs2⟩ := curveQ_ok g4
  have hlen : (la.map toQ).length ≤ 10 := by rw [List.length_map];exact l10
  have hlen2 : (lb.map toQ).length ≤ 10 := by rw [List.length_map];exact m10
  rw [← hrow, ← hrow2] at cr ⊢
  generalize la.map toQ = qa at *
  generalize lb.map toQ = qb at *
  obtain ⟨ft, f1, f2⟩ := vF_fits g5
  obtain ⟨te, hte⟩ : ∃ t, t = ratV n d := ⟨_, rfl⟩
  rw [← hte] at ft f1 f2 h1
  subst f1 f2
  have h0 : 0 ≤ te := Rat.num_nonneg.1 n0
  have hT : Two a b qa qb := ⟨g1, g2, hfa, hfb, hok, hok2, hne, hne2, hs, hs2, by omega, by omega⟩
  have cf := col_first a b qa qb hT te ft h0 h1
  have o0 := l40_of 0
  have hsf : Fits (ratV p 65536) := fits_ratV (by omega) (by omega) (by omega) (by omega)
  have hs0 : 0 ≤ ratV p 65536 := Rat.divInt_nonneg hp.1 (by decide)
  have hs1 : ratV p 65536 ≤ 1 := share_le hp.2
  have hcv : IntKind.i64.wrap p = p := wrap_i64 p (by omega)
  rcases fir_says hT (by omega) h0 h1 with e5 | ⟨e12, hNo⟩ | ⟨lo, hi, e0, q1, q2, hNo⟩
  ·rw [e5] at cf
   refine Fn0.of Tryz.func3 Tryz.ntmps3 rfl rfl rfl ?_
   simp only [entryTm]
   repeat' (first|(apply S.move;exact rfl;exact rfl)|(apply S.assign;exact rfl;exact rfl)|(apply S.gC;exact rfl;exact rfl;exact rfl)|(apply S.pC;exact rfl;exact rfl;exact rfl)|(apply S.call;exact rfl;exact rfl;exact l40_awake;exact rfl)|(apply S.call;exact rfl;exact rfl;exact cr;exact rfl)|(apply S.call;exact rfl;exact rfl;exact cf;exact rfl)|(apply S.loadPA;(iterate 4 exact rfl))|(apply S.box;(iterate 6 exact rfl))|(apply S.alloc;(iterate 5 exact rfl))|(apply S.store;(iterate 7 exact rfl))|(apply S.cmp;(iterate 4 exact rfl))|(apply S.not;exact rfl;exact rfl;exact rfl)|(apply S.extract;exact rfl;exact rfl;exact rfl) | apply S.nil | apply T.regs|(apply T.cC;exact rfl)|(apply T.cCN;exact rfl) | apply T.seq|(apply T.skip;first | change T _ _ _ _ _ | change Done _ _ _ _ _ | change Next _ _ _ _ _ _ | skip)|(apply T.ret;change Done _ _ _ _ _))
   all_goals exact doneV (by simp) Tryz.results3 rfl rfl
  ·rw [e12] at cf
   have L0 := h0
   have fL := ft
   obtain ⟨L, hL⟩ : ∃ L, L = te := ⟨_, rfl⟩
   rw [← hL] at hNo L0 fL
   subst hL
   have smk := ratio_make p 65536 (by decide) (by omega) (by omega) (by decide) (by decide) hsf
   have cml := ratio_mulA L (ratV p 65536) fL hsf
   unfold outA at cml
   obtain ⟨s, hs⟩ : ∃ s, s = ratV p 65536 := ⟨_, rfl⟩
   rw [← hs] at smk cml hs0 hs1 hsf
   by_cases hF : Fits (L * s)
   ·rw [if_pos hF] at cml
    have ht0 : 0 ≤ L * s := Rat.mul_nonneg L0 hs0
    have ht1 : L * s ≤ L := mul_le_self L0 hs1
    obtain ⟨t, ht⟩ : ∃ t, t = L * s := ⟨_, rfl⟩
    rw [← ht] at cml hF ht0 ht1
    have hall : ∀ q ∈ [t, 0, L], Fits q ∧ 0 ≤ q ∧ q ≤ L := fun q hq => by
     simp only [List.mem_cons, List.not_mem_nil, or_false] at hq
     rcases hq with rfl | rfl | rfl
     ·exact ⟨hF, ht0, ht1⟩
     ·exact ⟨zero_fits, Rat.le_refl, L0⟩
     ·exact ⟨fL, L0, Rat.le_refl⟩
    skip
    refine Fn0.of Tryz.func3 Tryz.ntmps3 rfl rfl rfl ?_
    simp only [entryTm]
    repeat' (first|(apply S.move;exact rfl;exact rfl)|(apply S.assign;exact rfl;exact rfl)|(apply S.gC;exact rfl;exact rfl;exact rfl)|(apply S.pC;exact rfl;exact rfl;exact rfl)|(apply S.pCN;exact rfl;exact rfl;exact rfl)|(apply S.call;exact rfl;exact rfl;exact l40_awake;exact rfl)|(apply S.call;exact rfl;exact rfl;exact cr;exact rfl)|(apply S.call;exact rfl;exact rfl;exact cf;exact rfl)|(apply S.call;exact rfl;exact rfl;exact smk;exact rfl)|(apply S.call;exact rfl;exact rfl;exact cml;exact rfl)|(apply S.call;exact rfl;exact rfl;exact o0;exact rfl)|(apply S.conv;exact rfl;exact hcv;exact rfl)|(apply S.buildSliceF;(iterate 8 exact rfl))|(apply T.drawAll anyOrder (by decide +kernel))|(apply S.loadPA;(iterate 4 exact rfl))|(apply S.box;(iterate 6 exact rfl))|(apply S.alloc;(iterate 5 exact rfl))|(apply S.store;(iterate 7 exact rfl))|(apply S.cmp;(iterate 4 exact rfl))|(apply S.not;exact rfl;exact rfl;exact rfl)|(apply S.extract;exact rfl;exact rfl;exact rfl)|(apply S.lenR;exact rfl;exact rfl) | apply S.nil | apply T.regs|(apply T.cCN;exact rfl) | apply T.seq|(apply T.skip;first | change T _ _ _ _ _ | change Done _ _ _ _ _ | change Next _ _ _ _ _ _ | skip) | apply T.block)
    refine T.loopS (fun i : Nat => i ≤ 3) (fun i => 3 - i) (fun i => [(107, .i i), (106, .i 3), (105, .sl ([t, 0, L].map frR)), (2, .sl (qa.map PcQ.row)), (3, .sl (qb.map PcQ.row)), (6, .ptr 0 0), (7, .ptr 1 0)]) (fun _ => [.live (a.row.map .lf), .live (b.row.map .lf)]) 0 (by omega) (.cons rfl rfl (.cons rfl rfl (.cons rfl rfl (.cons rfl rfl (.cons rfl rfl (.cons rfl rfl (.cons rfl rfl .nil))))))) (.live rfl (.live rfl .nil)) ?_
    intro i hi
    by_cases hlt : (i : Int) < 3
    ·obtain ⟨q, hq⟩ : ∃ q, [t, 0, L][i]? = some q := ⟨_, List.getElem?_eq_getElem (show i < [t, 0, L].length by simp only [List.length_cons, List.length_nil];omega)⟩
     have hb := row_at (R := frR) hq
     obtain ⟨q1, q2, q3⟩ := hall q (List.mem_of_getElem? hq)
     generalize [t, 0, L] = ts at *
     have cp := qua_at qa q hT.ox hT.x0 (by omega) q1 hT.vx
     have cq := qua_at qb q hT.oy hT.y0 (by omega) q1 hT.vy
     unfold resA at cp cq
     by_cases e1 : atE qa q 0 = 0
     ·rw [if_pos e1] at cp
      by_cases e2 : atE qb q 0 = 0
      ·rw [if_pos e2] at cq
       have ct := col_touch a b hT.pa hT.pb hT.fa hT.fb (atQ qa q) (atQ qb q) (atQ_fits hT.ox hT.x0) (atQ_fits hT.oy hT.y0)
       obtain ⟨e, he⟩ := hNo q q2 q3 e1 e2
       rw [he] at ct
       generalize atQ qa q = u at *
       generalize atQ qb q = v at *
       repeat' (first|(apply S.move;exact rfl;exact rfl)|(apply S.assign;exact rfl;exact rfl)|(apply S.gC;exact rfl;exact rfl;exact rfl)|(apply S.pCN;exact rfl;exact rfl;exact rfl)|(apply S.pTp;exact rfl;assumption;exact rfl;exact rfl)|(apply S.pFp;exact rfl;assumption;exact rfl;exact rfl)|(apply S.call;exact rfl;exact rfl;exact cp;exact rfl)|(apply S.call;exact rfl;exact rfl;exact cq;exact rfl)|(apply S.call;exact rfl;exact rfl;exact ct;exact rfl)|(apply S.indexR;exact rfl;exact rfl;exact rfl;exact hb;omega;exact rfl)|(apply S.arith;(iterate 4 exact rfl);omega)|(apply S.loadPA;(iterate 4 exact rfl))|(apply S.loadRA;(iterate 4 exact rfl))|(apply S.alloc;(iterate 5 exact rfl))|(apply S.store;(iterate 7 exact rfl))|(apply S.cmp;(iterate 4 exact rfl))|(apply S.extract;exact rfl;exact rfl;exact rfl)|(apply S.gsT;exact rfl;exact rfl;exact rfl;intro hc;rotate_left;intro hc;rotate_right) | apply S.nil | apply T.regs | apply T.reg|(apply T.cCN;exact rfl)|(apply T.cT;exact rfl;assumption) | apply T.seq|(apply T.skip;first | change T _ _ _ _ _ | change Done _ _ _ _ _ | change Next _ _ _ _ _ _ | skip) | apply T.block)
       all_goals (change Next _ _ _ _ _ _)
       all_goals exact Next.go (i + 1) (by omega) (by omega) (by rw [show (((i + 1 : Nat) : Int)) = (i : Int) + 1 by omega];exact (.cons rfl rfl (.cons rfl rfl (.cons rfl rfl (.cons rfl rfl (.cons rfl rfl (.cons rfl rfl (.cons rfl rfl .nil)))))))) (.live rfl (.live rfl .nil))
      ·rw [if_neg e2] at cq
       generalize atQ qa q = u at *
       generalize atE qb q 0 = e at *
       repeat' (first|(apply S.move;exact rfl;exact rfl)|(apply S.assign;exact rfl;exact rfl)|(apply S.gC;exact rfl;exact rfl;exact rfl)|(apply S.pCN;exact rfl;exact rfl;exact rfl)|(apply S.call;exact rfl;exact rfl;exact cp;exact rfl)|(apply S.call;exact rfl;exact rfl;exact cq;exact rfl)|(apply S.indexR;exact rfl;exact rfl;exact rfl;exact hb;omega;exact rfl)|(apply S.arith;(iterate 4 exact rfl);omega)|(apply S.loadPA;(iterate 4 exact rfl))|(apply S.loadRA;(iterate 4 exact rfl))|(apply S.alloc;(iterate 5 exact rfl))|(apply S.store;(iterate 7 exact rfl))|(apply S.cmp;(iterate 4 exact rfl))|(apply S.extract;exact rfl;exact rfl;exact rfl) | apply S.nil | apply T.regs | apply T.reg|(apply T.cT;exact rfl;assumption) | apply T.seq|(apply T.skip;first | change T _ _ _ _ _ | change Done _ _ _ _ _ | change Next _ _ _ _ _ _ | skip)|(apply T.exit;first | change T _ _ _ _ _ | change Done _ _ _ _ _ | change Next _ _ _ _ _ _ | skip) | apply T.block)
       all_goals (change Next _ _ _ _ _ _)
       all_goals exact Next.go (i + 1) (by omega) (by omega) (by rw [show (((i + 1 : Nat) : Int)) = (i : Int) + 1 by omega];exact (.cons rfl rfl (.cons rfl rfl (.cons rfl rfl (.cons rfl rfl (.cons rfl rfl (.cons rfl rfl (.cons rfl rfl .nil)))))))) (.live rfl (.live rfl .nil))
     ·rw [if_neg e1] at cp
      have hx : ∃ u1 u2 u3 : Int, (if atE qb q 0 = 0 then frE (atQ qb q) 0 else .tup [rowA [.i 0, .i 0], .i (atE qb q 0)]) = .tup [rowA [.i u1, .i u2], .i u3] := by
       split
       ·exact ⟨_, _, 0, rfl⟩
       ·exact ⟨_, _, _, rfl⟩
      obtain ⟨u1, u2, u3, hu⟩ := hx
      rw [hu] at cq
      generalize atE qa q 0 = e at *
      repeat' (first|(apply S.move;exact rfl;exact rfl)|(apply S.assign;exact rfl;exact rfl)|(apply S.gFT;exact rfl;exact rfl;assumption;exact rfl)|(apply S.pTp;exact rfl;assumption;exact rfl;exact rfl)|(apply S.call;exact rfl;exact rfl;exact cp;exact rfl)|(apply S.call;exact rfl;exact rfl;exact cq;exact rfl)|(apply S.indexR;exact rfl;exact rfl;exact rfl;exact hb;omega;exact rfl)|(apply S.arith;(iterate 4 exact rfl);omega)|(apply S.loadPA;(iterate 4 exact rfl))|(apply S.loadRA;(iterate 4 exact rfl))|(apply S.alloc;(iterate 5 exact rfl))|(apply S.store;(iterate 7 exact rfl))|(apply S.cmp;(iterate 4 exact rfl))|(apply S.extract;exact rfl;exact rfl;exact rfl) | apply S.nil | apply T.regs | apply T.reg|(apply T.cC;exact rfl)|(apply T.cT;exact rfl;assumption) | apply T.seq|(apply T.skip;first | change T _ _ _ _ _ | change Done _ _ _ _ _ | change Next _ _ _ _ _ _ | skip)|(apply T.exit;first | change T _ _ _ _ _ | change Done _ _ _ _ _ | change Next _ _ _ _ _ _ | skip) | apply T.block)
      all_goals (change Next _ _ _ _ _ _)
      all_goals exact Next.go (i + 1) (by omega) (by omega) (by rw [show (((i + 1 : Nat) : Int)) = (i : Int) + 1 by omega];exact (.cons rfl rfl (.cons rfl rfl (.cons rfl rfl (.cons rfl rfl (.cons rfl rfl (.cons rfl rfl (.cons rfl rfl .nil)))))))) (.live rfl (.live rfl .nil))
    ·repeat' (first|(apply S.assign;exact rfl;exact rfl)|(apply S.cmp;(iterate 4 exact rfl)) | apply S.nil | apply T.regs|(apply T.cF;exact rfl;assumption) | apply T.seq|(apply T.ret;change Done _ _ _ _ _)|(apply T.exit;first | change T _ _ _ _ _ | change Done _ _ _ _ _ | change Next _ _ _ _ _ _ | skip))
     all_goals exact doneV (by simp) Tryz.results3 rfl rfl
   ·rw [if_neg hF] at cml
    skip
    refine Fn0.of Tryz.func3 Tryz.ntmps3 rfl rfl rfl ?_
    simp only [entryTm]
    repeat' (first|(apply S.move;exact rfl;exact rfl)|(apply S.assign;exact rfl;exact rfl)|(apply S.gC;exact rfl;exact rfl;exact rfl)|(apply S.pC;exact rfl;exact rfl;exact rfl)|(apply S.pCN;exact rfl;exact rfl;exact rfl)|(apply S.call;exact rfl;exact rfl;exact l40_awake;exact rfl)|(apply S.call;exact rfl;exact rfl;exact cr;exact rfl)|(apply S.call;exact rfl;exact rfl;exact cf;exact rfl)|(apply S.call;exact rfl;exact rfl;exact smk;exact rfl)|(apply S.call;exact rfl;exact rfl;exact cml;exact rfl)|(apply S.conv;exact rfl;exact hcv;exact rfl)|(apply S.loadPA;(iterate 4 exact rfl))|(apply S.box;(iterate 6 exact rfl))|(apply S.alloc;(iterate 5 exact rfl))|(apply S.store;(iterate 7 exact rfl))|(apply S.cmp;(iterate 4 exact rfl))|(apply S.not;exact rfl;exact rfl;exact rfl)|(apply S.extract;exact rfl;exact rfl;exact rfl) | apply S.nil | apply T.regs|(apply T.cC;exact rfl)|(apply T.cCN;exact rfl) | apply T.seq|(apply T.skip;first | change T _ _ _ _ _ | change Done _ _ _ _ _ | change Next _ _ _ _ _ _ | skip)|(apply T.ret;change Done _ _ _ _ _))
    all_goals exact doneV (by simp) Tryz.results3 rfl rfl
  ·rw [e0] at cf
   by_cases hlo : lo = 0
   ·skip
    refine Fn0.of Tryz.func3 Tryz.ntmps3 rfl rfl rfl ?_
    simp only [entryTm]
    repeat' (first|(apply S.move;exact rfl;exact rfl)|(apply S.assign;exact rfl;exact rfl)|(apply S.gCN;(iterate 4 exact rfl))|(apply S.fieldP;exact rfl;exact rfl;exact rfl)|(apply S.loadP;(iterate 4 exact rfl))|(apply S.pCN;exact rfl;exact rfl;exact rfl)|(apply S.call;exact rfl;exact rfl;exact l40_awake;exact rfl)|(apply S.call;exact rfl;exact rfl;exact cr;exact rfl)|(apply S.call;exact rfl;exact rfl;exact cf;exact rfl)|(apply S.loadPA;(iterate 4 exact rfl))|(apply S.box;(iterate 6 exact rfl))|(apply S.alloc;(iterate 5 exact rfl))|(apply S.store;(iterate 7 exact rfl))|(apply S.cmp;(iterate 4 exact rfl))|(apply S.not;exact rfl;exact rfl;exact rfl)|(apply S.extract;exact rfl;exact rfl;exact rfl) | apply S.nil | apply T.regs|(apply T.cC;exact rfl)|(apply T.cCN;exact rfl)|(apply T.cT;exact rfl;assumption) | apply T.seq|(apply T.skip;first | change T _ _ _ _ _ | change Done _ _ _ _ _ | change Next _ _ _ _ _ _ | skip)|(apply T.ret;change Done _ _ _ _ _))
    all_goals exact doneV (by simp) Tryz.results3 rfl rfl
   ·have r2 : rangP te := ⟨Rat.le_trans (by decide) h0, h1⟩
    have hlo2 : lo ≤ 1099511627776000 := Int.le_trans (mil_le.1 q2) (milQ_range r2).2
    have fL : Fits (ratV (lo - 1) 1000) := fits_ratV (by omega) (by omega) (by omega) (by omega)
    have L0 : 0 ≤ ratV (lo - 1) 1000 := Rat.divInt_nonneg (by omega) (by decide)
    have cmk := ratio_make (lo - 1) 1000 (by decide) (by omega) (by omega) (by decide) (by decide) fL
    have hLt : ratV (lo - 1) 1000 ≤ te := Rat.le_trans (mil_mono (show lo - 1 ≤ lo by omega)) q2
    change NoT a b qa qb (ratV (lo - 1) 1000) at hNo
    obtain ⟨L, hL⟩ : ∃ L, L = ratV (lo - 1) 1000 := ⟨_, rfl⟩
    rw [← hL] at hNo fL L0 cmk hLt
    have ccm := r02_cmp L te fL ft
    have kc : ¬ 0 < cmpQ L te := fun h => Rat.not_lt.2 hLt ((cmpQ_gt _ _).1 h)
    generalize cmpQ L te = c at ccm kc
    have smk := ratio_make p 65536 (by decide) (by omega) (by omega) (by decide) (by decide) hsf
    have cml := ratio_mulA L (ratV p 65536) fL hsf
    unfold outA at cml
    obtain ⟨s, hs⟩ : ∃ s, s = ratV p 65536 := ⟨_, rfl⟩
    rw [← hs] at smk cml hs0 hs1 hsf
    by_cases hF : Fits (L * s)
    ·rw [if_pos hF] at cml
     have ht0 : 0 ≤ L * s := Rat.mul_nonneg L0 hs0
     have ht1 : L * s ≤ L := mul_le_self L0 hs1
     obtain ⟨t, ht⟩ : ∃ t, t = L * s := ⟨_, rfl⟩
     rw [← ht] at cml hF ht0 ht1
     have hall : ∀ q ∈ [t, 0, L], Fits q ∧ 0 ≤ q ∧ q ≤ L := fun q hq => by
      simp only [List.mem_cons, List.not_mem_nil, or_false] at hq
      rcases hq with rfl | rfl | rfl
      ·exact ⟨hF, ht0, ht1⟩
      ·exact ⟨zero_fits, Rat.le_refl, L0⟩
      ·exact ⟨fL, L0, Rat.le_refl⟩
     skip
     refine Fn0.of Tryz.func3 Tryz.ntmps3 rfl rfl rfl ?_
     simp only [entryTm]
     repeat' (first|(apply S.move;exact rfl;exact rfl)|(apply S.assign;exact rfl;exact rfl)|(apply S.gC;exact rfl;exact rfl;exact rfl)|(apply S.gCN;(iterate 4 exact rfl))|(apply S.fieldP;exact rfl;exact rfl;exact rfl)|(apply S.loadP;(iterate 4 exact rfl))|(apply S.pCN;exact rfl;exact rfl;exact rfl)|(apply S.call;exact rfl;exact rfl;exact l40_awake;exact rfl)|(apply S.call;exact rfl;exact rfl;exact cr;exact rfl)|(apply S.call;exact rfl;exact rfl;exact cf;exact rfl)|(apply S.call;exact rfl;exact rfl;exact smk;exact rfl)|(apply S.call;exact rfl;exact rfl;exact cml;exact rfl)|(apply S.call;exact rfl;exact rfl;exact o0;exact rfl)|(apply S.call;exact rfl;exact rfl;exact cmk;exact rfl)|(apply S.call;exact rfl;exact rfl;exact ccm;exact rfl)|(apply S.arith;(iterate 4 exact rfl);omega)|(apply S.conv;exact rfl;exact hcv;exact rfl)|(apply S.buildSliceF;(iterate 8 exact rfl))|(apply T.drawAll anyOrder (by decide +kernel))|(apply S.loadPA;(iterate 4 exact rfl))|(apply S.box;(iterate 6 exact rfl))|(apply S.alloc;(iterate 5 exact rfl))|(apply S.store;(iterate 7 exact rfl))|(apply S.cmp;(iterate 4 exact rfl))|(apply S.not;exact rfl;exact rfl;exact rfl)|(apply S.extract;exact rfl;exact rfl;exact rfl)|(apply S.lenR;exact rfl;exact rfl) | apply S.nil | apply T.regs | apply T.reg|(apply T.cC;exact rfl)|(apply T.cCN;exact rfl)|(apply T.cF;exact rfl;assumption) | apply T.seq|(apply T.skip;first | change T _ _ _ _ _ | change Done _ _ _ _ _ | change Next _ _ _ _ _ _ | skip) | apply T.block)
     refine T.loopS (fun i : Nat => i ≤ 3) (fun i => 3 - i) (fun i => [(107, .i i), (106, .i 3), (105, .sl ([t, 0, L].map frR)), (2, .sl (qa.map PcQ.row)), (3, .sl (qb.map PcQ.row)), (6, .ptr 0 0), (7, .ptr 1 0)]) (fun _ => [.live (a.row.map .lf), .live (b.row.map .lf)]) 0 (by omega) (.cons rfl rfl (.cons rfl rfl (.cons rfl rfl (.cons rfl rfl (.cons rfl rfl (.cons rfl rfl (.cons rfl rfl .nil))))))) (.live rfl (.live rfl .nil)) ?_
     intro i hi
     by_cases hlt : (i : Int) < 3
     ·obtain ⟨q, hq⟩ : ∃ q, [t, 0, L][i]? = some q := ⟨_, List.getElem?_eq_getElem (show i < [t, 0, L].length by simp only [List.length_cons, List.length_nil];omega)⟩
      have hb := row_at (R := frR) hq
      obtain ⟨q1, q2, q3⟩ := hall q (List.mem_of_getElem? hq)
      generalize [t, 0, L] = ts at *
      have cp := qua_at qa q hT.ox hT.x0 (by omega) q1 hT.vx
      have cq := qua_at qb q hT.oy hT.y0 (by omega) q1 hT.vy
      unfold resA at cp cq
      by_cases e1 : atE qa q 0 = 0
      ·rw [if_pos e1] at cp
       by_cases e2 : atE qb q 0 = 0
       ·rw [if_pos e2] at cq
        have ct := col_touch a b hT.pa hT.pb hT.fa hT.fb (atQ qa q) (atQ qb q) (atQ_fits hT.ox hT.x0) (atQ_fits hT.oy hT.y0)
        obtain ⟨e, he⟩ := hNo q q2 q3 e1 e2
        rw [he] at ct
        generalize atQ qa q = u at *
        generalize atQ qb q = v at *
        repeat' (first|(apply S.move;exact rfl;exact rfl)|(apply S.assign;exact rfl;exact rfl)|(apply S.gC;exact rfl;exact rfl;exact rfl)|(apply S.pCN;exact rfl;exact rfl;exact rfl)|(apply S.pTp;exact rfl;assumption;exact rfl;exact rfl)|(apply S.pFp;exact rfl;assumption;exact rfl;exact rfl)|(apply S.call;exact rfl;exact rfl;exact cp;exact rfl)|(apply S.call;exact rfl;exact rfl;exact cq;exact rfl)|(apply S.call;exact rfl;exact rfl;exact ct;exact rfl)|(apply S.indexR;exact rfl;exact rfl;exact rfl;exact hb;omega;exact rfl)|(apply S.arith;(iterate 4 exact rfl);omega)|(apply S.loadPA;(iterate 4 exact rfl))|(apply S.loadRA;(iterate 4 exact rfl))|(apply S.alloc;(iterate 5 exact rfl))|(apply S.store;(iterate 7 exact rfl))|(apply S.cmp;(iterate 4 exact rfl))|(apply S.extract;exact rfl;exact rfl;exact rfl)|(apply S.gsT;exact rfl;exact rfl;exact rfl;intro hc;rotate_left;intro hc;rotate_right) | apply S.nil | apply T.regs | apply T.reg|(apply T.cCN;exact rfl)|(apply T.cT;exact rfl;assumption) | apply T.seq|(apply T.skip;first | change T _ _ _ _ _ | change Done _ _ _ _ _ | change Next _ _ _ _ _ _ | skip) | apply T.block)
        all_goals (change Next _ _ _ _ _ _)
        all_goals exact Next.go (i + 1) (by omega) (by omega) (by rw [show (((i + 1 : Nat) : Int)) = (i : Int) + 1 by omega];exact (.cons rfl rfl (.cons rfl rfl (.cons rfl rfl (.cons rfl rfl (.cons rfl rfl (.cons rfl rfl (.cons rfl rfl .nil)))))))) (.live rfl (.live rfl .nil))
       ·rw [if_neg e2] at cq
        generalize atQ qa q = u at *
        generalize atE qb q 0 = e at *
        repeat' (first|(apply S.move;exact rfl;exact rfl)|(apply S.assign;exact rfl;exact rfl)|(apply S.gC;exact rfl;exact rfl;exact rfl)|(apply S.pCN;exact rfl;exact rfl;exact rfl)|(apply S.call;exact rfl;exact rfl;exact cp;exact rfl)|(apply S.call;exact rfl;exact rfl;exact cq;exact rfl)|(apply S.indexR;exact rfl;exact rfl;exact rfl;exact hb;omega;exact rfl)|(apply S.arith;(iterate 4 exact rfl);omega)|(apply S.loadPA;(iterate 4 exact rfl))|(apply S.loadRA;(iterate 4 exact rfl))|(apply S.alloc;(iterate 5 exact rfl))|(apply S.store;(iterate 7 exact rfl))|(apply S.cmp;(iterate 4 exact rfl))|(apply S.extract;exact rfl;exact rfl;exact rfl) | apply S.nil | apply T.regs | apply T.reg|(apply T.cT;exact rfl;assumption) | apply T.seq|(apply T.skip;first | change T _ _ _ _ _ | change Done _ _ _ _ _ | change Next _ _ _ _ _ _ | skip)|(apply T.exit;first | change T _ _ _ _ _ | change Done _ _ _ _ _ | change Next _ _ _ _ _ _ | skip) | apply T.block)
        all_goals (change Next _ _ _ _ _ _)
        all_goals exact Next.go (i + 1) (by omega) (by omega) (by rw [show (((i + 1 : Nat) : Int)) = (i : Int) + 1 by omega];exact (.cons rfl rfl (.cons rfl rfl (.cons rfl rfl (.cons rfl rfl (.cons rfl rfl (.cons rfl rfl (.cons rfl rfl .nil)))))))) (.live rfl (.live rfl .nil))
      ·rw [if_neg e1] at cp
       have hx : ∃ u1 u2 u3 : Int, (if atE qb q 0 = 0 then frE (atQ qb q) 0 else .tup [rowA [.i 0, .i 0], .i (atE qb q 0)]) = .tup [rowA [.i u1, .i u2], .i u3] := by
        split
        ·exact ⟨_, _, 0, rfl⟩
        ·exact ⟨_, _, _, rfl⟩
       obtain ⟨u1, u2, u3, hu⟩ := hx
       rw [hu] at cq
       generalize atE qa q 0 = e at *
       repeat' (first|(apply S.move;exact rfl;exact rfl)|(apply S.assign;exact rfl;exact rfl)|(apply S.gFT;exact rfl;exact rfl;assumption;exact rfl)|(apply S.pTp;exact rfl;assumption;exact rfl;exact rfl)|(apply S.call;exact rfl;exact rfl;exact cp;exact rfl)|(apply S.call;exact rfl;exact rfl;exact cq;exact rfl)|(apply S.indexR;exact rfl;exact rfl;exact rfl;exact hb;omega;exact rfl)|(apply S.arith;(iterate 4 exact rfl);omega)|(apply S.loadPA;(iterate 4 exact rfl))|(apply S.loadRA;(iterate 4 exact rfl))|(apply S.alloc;(iterate 5 exact rfl))|(apply S.store;(iterate 7 exact rfl))|(apply S.cmp;(iterate 4 exact rfl))|(apply S.extract;exact rfl;exact rfl;exact rfl) | apply S.nil | apply T.regs | apply T.reg|(apply T.cC;exact rfl)|(apply T.cT;exact rfl;assumption) | apply T.seq|(apply T.skip;first | change T _ _ _ _ _ | change Done _ _ _ _ _ | change Next _ _ _ _ _ _ | skip)|(apply T.exit;first | change T _ _ _ _ _ | change Done _ _ _ _ _ | change Next _ _ _ _ _ _ | skip) | apply T.block)
       all_goals (change Next _ _ _ _ _ _)
       all_goals exact Next.go (i + 1) (by omega) (by omega) (by rw [show (((i + 1 : Nat) : Int)) = (i : Int) + 1 by omega];exact (.cons rfl rfl (.cons rfl rfl (.cons rfl rfl (.cons rfl rfl (.cons rfl rfl (.cons rfl rfl (.cons rfl rfl .nil)))))))) (.live rfl (.live rfl .nil))
     ·repeat' (first|(apply S.assign;exact rfl;exact rfl)|(apply S.cmp;(iterate 4 exact rfl)) | apply S.nil | apply T.regs|(apply T.cF;exact rfl;assumption) | apply T.seq|(apply T.ret;change Done _ _ _ _ _)|(apply T.exit;first | change T _ _ _ _ _ | change Done _ _ _ _ _ | change Next _ _ _ _ _ _ | skip))
      all_goals exact doneV (by simp) Tryz.results3 rfl rfl
    ·rw [if_neg hF] at cml
     skip
     refine Fn0.of Tryz.func3 Tryz.ntmps3 rfl rfl rfl ?_
     simp only [entryTm]
     repeat' (first|(apply S.move;exact rfl;exact rfl)|(apply S.assign;exact rfl;exact rfl)|(apply S.gC;exact rfl;exact rfl;exact rfl)|(apply S.gCN;(iterate 4 exact rfl))|(apply S.fieldP;exact rfl;exact rfl;exact rfl)|(apply S.loadP;(iterate 4 exact rfl))|(apply S.pC;exact rfl;exact rfl;exact rfl)|(apply S.pCN;exact rfl;exact rfl;exact rfl)|(apply S.call;exact rfl;exact rfl;exact l40_awake;exact rfl)|(apply S.call;exact rfl;exact rfl;exact cr;exact rfl)|(apply S.call;exact rfl;exact rfl;exact cf;exact rfl)|(apply S.call;exact rfl;exact rfl;exact smk;exact rfl)|(apply S.call;exact rfl;exact rfl;exact cml;exact rfl)|(apply S.call;exact rfl;exact rfl;exact cmk;exact rfl)|(apply S.call;exact rfl;exact rfl;exact ccm;exact rfl)|(apply S.arith;(iterate 4 exact rfl);omega)|(apply S.conv;exact rfl;exact hcv;exact rfl)|(apply S.loadPA;(iterate 4 exact rfl))|(apply S.box;(iterate 6 exact rfl))|(apply S.alloc;(iterate 5 exact rfl))|(apply S.store;(iterate 7 exact rfl))|(apply S.cmp;(iterate 4 exact rfl))|(apply S.not;exact rfl;exact rfl;exact rfl)|(apply S.extract;exact rfl;exact rfl;exact rfl) | apply S.nil | apply T.regs | apply T.reg|(apply T.cC;exact rfl)|(apply T.cCN;exact rfl)|(apply T.cF;exact rfl;assumption) | apply T.seq|(apply T.skip;first | change T _ _ _ _ _ | change Done _ _ _ _ _ | change Next _ _ _ _ _ _ | skip)|(apply T.ret;change Done _ _ _ _ _))
     all_goals exact doneV (by simp) Tryz.results3 rfl rfl
 ·rw [decide_eq_false hR] at cr
  refine Fn0.of Tryz.func3 Tryz.ntmps3 rfl rfl rfl ?_
  simp only [entryTm]
  repeat' (first|(apply S.move;exact rfl;exact rfl)|(apply S.assign;exact rfl;exact rfl)|(apply S.call;exact rfl;exact rfl;exact l40_awake;exact rfl)|(apply S.call;exact rfl;exact rfl;exact cr;exact rfl)|(apply S.loadPA;(iterate 4 exact rfl))|(apply S.box;(iterate 6 exact rfl))|(apply S.not;exact rfl;exact rfl;exact rfl) | apply S.nil | apply T.regs|(apply T.cC;exact rfl)|(apply T.cCN;exact rfl) | apply T.seq|(apply T.skip;first | change T _ _ _ _ _ | change Done _ _ _ _ _ | change Next _ _ _ _ _ _ | skip)|(apply T.ret;change Done _ _ _ _ _))
  all_goals exact doneV (by simp) Tryz.results3 rfl rfl
end Go.Proofs.YtlncmkafjjomgaaGreat
