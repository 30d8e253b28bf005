/- Contracts: the law's long and right, the reference's Given (layer collide). No conditions but those of each statement. -/
import Derived.Test.YtlncmkafjjomgaaGreatOq
import Derived.Test.YtlncmkafjjomgaaGreatNm
import Derived.Test.YtlncmkafjjomgaaGreatMl
set_option linter.unusedSimpArgs false
namespace Go.Proofs.YtlncmkafjjomgaaGreat
set_option linter.unusedVariables false
open Go Go.RowKit
def lenBad (n : Nat) : Prop := (10 < n ∧ n ≤ 200) ∨ 205 < n
instance (n : Nat) : Decidable (lenBad n) := by unfold lenBad;exact inferInstance
def crv (c : List PieceR) : List Lf := [.sl (c.map PieceR.row)]
theorem l40_long1 (c : List PieceR) (hn : c.length ≤ 1000000000000000) : Fn0 Tryz.prog 58 [.sl (c.map PieceR.row)] (.b (decide (lenBad c.length))) := by
 have hle : (c.map PieceR.row).length = c.length := List.length_map _
 refine Fn0.of Tryz.func58 Tryz.ntmps58 rfl rfl rfl ?_
 simp only [entryTm]
 repeat' (first|(apply S.move;exact rfl;exact rfl)|(apply S.assign;exact rfl;exact rfl)|(apply S.gC;exact rfl;exact rfl;exact rfl)|(apply S.gTT;exact rfl;exact rfl;assumption)|(apply S.gTF;exact rfl;exact rfl;assumption;exact rfl)|(apply S.gFF;exact rfl;exact rfl;assumption)|(apply S.gFT;exact rfl;exact rfl;assumption;exact rfl)|(apply S.pCN;exact rfl;exact rfl;exact rfl)|(apply S.pTp;exact rfl;assumption;exact rfl;exact rfl)|(apply S.pFp;exact rfl;assumption;exact rfl;exact rfl)|(apply S.cmp;(iterate 4 exact rfl))|(apply S.lenR;exact rfl;exact rfl)|(apply S.gsT;exact rfl;exact rfl;exact rfl;intro hc;rotate_left;intro hc;rotate_right)|(apply S.gsF;exact rfl;exact rfl;exact rfl;intro hc;rotate_left;intro hc;rotate_right) | apply S.nil | apply T.regs|(apply T.ret;change Done _ _ _ _ _))
 all_goals exact doneV (by simp) Tryz.results58 rfl (congrArg Value.bool (by unfold lenBad;first | rfl|(symm;apply decide_eq_true;omega)|(symm;apply decide_eq_false;omega)|(apply decide_eq_decide.2;omega)))
set_option maxHeartbeats 4000000 in
theorem index_curves (l : List (List PieceR)) (hl : l.length ≤ 1000) (hn : ∀ c ∈ l, c.length ≤ 1000000000000000) :
  Fn0 Tryz.prog 96 [.sl (l.map crv), .fn (.func 58) [] []] (.i (idx (fun c => lenBad c.length) l)) := by
 have hle : (l.map crv).length = l.length := List.length_map _
 refine Fn0.of Tryz.func96 Tryz.ntmps96 rfl rfl rfl ?_
 simp only [entryTm]
 repeat' (first|(apply S.move;exact rfl;exact rfl)|(apply S.assign;exact rfl;exact rfl)|(apply S.lenR;exact rfl;exact rfl) | apply S.nil | apply T.regs | apply T.seq | apply T.block)
 refine T.loopS (fun k => k ≤ l.length ∧ ∀ x ∈ l.take k, ¬ lenBad x.length) (fun k => l.length - k) (fun k => [(8, .i k), (7, .i (l.map crv).length), (0, .sl (l.map crv)), (1, .fn (.func 58) [] [])]) (fun _ => []) 0 ⟨Nat.zero_le _, by simp⟩ (.cons rfl rfl (.cons rfl rfl (.cons rfl rfl (.cons rfl rfl .nil)))) .nil ?_
 rintro k ⟨hk, hno⟩
 by_cases hlt : k < l.length
 ·have h1 : (k : Int) < ((l.map crv).length : Nat) := by omega
  obtain ⟨x, hx⟩ := get_at hlt
  have hb := row_at (R := crv) hx
  have hx2 := l40_long1 x (hn x (List.mem_of_getElem? hx))
  repeat' (first|(apply S.move;exact rfl;exact rfl)|(apply S.assign;exact rfl;exact rfl)|(apply S.loadR;exact rfl;exact rfl;exact rfl)|(apply S.indexR;exact rfl;exact rfl;exact rfl;exact hb;omega;exact rfl)|(apply S.arith;(iterate 4 exact rfl);omega)|(apply S.callF;exact rfl;exact rfl;exact hx2;exact rfl;exact rfl)|(apply S.cmp;(iterate 4 exact rfl)) | apply S.nil | apply T.regs | apply T.reg|(apply T.cT;exact rfl;assumption)|(apply T.cS;exact rfl;intro hc;rotate_left;intro hc;rotate_right) | apply T.seq|(apply T.skip;first | change T _ _ _ _ _ | change Done _ _ _ _ _ | change Next _ _ _ _ _ _ | skip)|(apply T.ret;change Done _ _ _ _ _) | apply T.block)
  all_goals (try change Next _ _ _ _ _ _)
  all_goals first
   | exact Next.go (k + 1) ⟨by omega, by rw [snoc_at hx];intro y hy;rcases List.mem_append.1 hy with hy | hy;exact hno y hy;obtain rfl : y = x := (by simpa using hy);assumption⟩ (by omega) (.cons rfl rfl (.cons rfl rfl (.cons rfl rfl (.cons rfl rfl .nil)))) .nil
   | exact doneV (by simp) Tryz.results96 rfl (by rw [idx_at hx hno (by assumption)])
 ·have h1 : ¬ (k : Int) < ((l.map crv).length : Nat) := by omega
  repeat' (first|(apply S.assign;exact rfl;exact rfl)|(apply S.cmp;(iterate 4 exact rfl)) | apply S.nil | apply T.regs|(apply T.cF;exact rfl;assumption) | apply T.seq|(apply T.ret;change Done _ _ _ _ _)|(apply T.exit;first | change T _ _ _ _ _ | change Done _ _ _ _ _ | change Next _ _ _ _ _ _ | skip))
  exact doneV (by simp) Tryz.results96 rfl (by rw [idx_none (by rw [List.take_of_length_le (by omega)] at hno;exact hno)])
theorem contains_curves (l : List (List PieceR)) (hl : l.length ≤ 1000) (hn : ∀ c ∈ l, c.length ≤ 1000000000000000) :
  Fn0 Tryz.prog 57 [.sl (l.map crv), .fn (.func 58) [] []] (.b (decide (∃ c ∈ l, lenBad c.length))) := by
 have ci := index_curves l hl hn
 have hi : 0 ≤ idx (fun c : List PieceR => lenBad c.length) l ↔ ∃ c ∈ l, lenBad c.length := decide_eq_decide.1 (idx_ge (fun c : List PieceR => lenBad c.length) l)
 rw [show decide (∃ c ∈ l, lenBad c.length) = decide (idx (fun c : List PieceR => lenBad c.length) l ≥ 0) from decide_eq_decide.2 hi.symm]
 clear hi
 generalize idx (fun c : List PieceR => lenBad c.length) l = n at *
 refine Fn0.of Tryz.func57 Tryz.ntmps57 rfl rfl rfl ?_
 simp only [entryTm]
 repeat' (first|(apply S.move;exact rfl;exact rfl)|(apply S.assign;exact rfl;exact rfl)|(apply S.call;exact rfl;exact rfl;exact ci;exact rfl)|(apply S.cmp;(iterate 4 exact rfl)) | apply S.nil | apply T.regs|(apply T.ret;change Done _ _ _ _ _))
 all_goals exact doneV (by simp) Tryz.results57 rfl (by rfl)
def longP (a b : SetR) (x y : List PieceR) : Prop := ¬ smallS a 8 ∨ ¬ smallS b 8 ∨ 20 < a.lines.length ∨ 20 < b.lines.length ∨ lenBad x.length ∨ lenBad y.length
noncomputable instance (a b : SetR) (x y : List PieceR) : Decidable (longP a b x y) := Classical.propDecidable _
set_option maxHeartbeats 8000000 in
theorem l40_long (a b : SetR) (x y : List PieceR) (hfa : a.fits) (hfb : b.fits) (hx : x.length ≤ 1000000000000000) (hy : y.length ≤ 1000000000000000) :
  Fn0 Tryz.prog 24 [rowA a.row, rowA b.row, .sl [crv x, crv y]] (.b (decide (longP a b x y))) := by
 have sa := r21_small a 8 hfa
 have sb := r21_small b 8 hfb
 have hla : (a.lines.map intRow).length = a.lines.length := List.length_map _
 have hlb : (b.lines.map intRow).length = b.lines.length := List.length_map _
 have cc := contains_curves [x, y] (by simp) (by simp [hx, hy])
 rw [show decide (∃ c ∈ [x, y], lenBad c.length) = decide (lenBad x.length ∨ lenBad y.length) from decide_eq_decide.2 (by simp)] at cc
 change Fn0 _ _ [.sl [crv x, crv y], _] _ at cc
 have key : ∀ q : Prop, ∀ [Decidable q], (longP a b x y ↔ q) → Value.bool (decide q) = Value.bool (decide (longP a b x y)) := fun q _ h => congrArg Value.bool (decide_eq_decide.2 h.symm)
 have yes : longP a b x y → Value.bool true = Value.bool (decide (longP a b x y)) := fun h => congrArg Value.bool (decide_eq_true h).symm
 refine Fn0.of Tryz.func24 Tryz.ntmps24 rfl rfl rfl ?_
 simp only [entryTm]
 repeat' (first|(apply S.move;exact rfl;exact rfl)|(apply S.assign;exact rfl;exact rfl)|(apply S.gCN;(iterate 4 exact rfl))|(apply S.gFF;exact rfl;exact rfl;assumption)|(apply S.gFT;exact rfl;exact rfl;assumption;exact rfl)|(apply S.gFFn;exact rfl;exact rfl;assumption)|(apply S.fieldP;exact rfl;exact rfl;exact rfl)|(apply S.loadP;(iterate 4 exact rfl))|(apply S.pC;exact rfl;exact rfl;exact rfl)|(apply S.pTp;exact rfl;assumption;exact rfl;exact rfl)|(apply S.pFp;exact rfl;assumption;exact rfl;exact rfl)|(apply S.pFn;exact rfl;assumption;exact rfl;exact rfl)|(apply S.call;exact rfl;exact rfl;exact sa;exact rfl)|(apply S.call;exact rfl;exact rfl;exact sb;exact rfl)|(apply S.callV;exact rfl;exact cc;exact .cons (.one (.lf _)) (.cons (.fn .nil) .nil);exact rfl;exact rfl)|(apply S.loadPA;(iterate 4 exact rfl))|(apply S.box;(iterate 6 exact rfl))|(apply S.cmp;(iterate 4 exact rfl))|(apply S.notP;exact rfl;exact rfl)|(apply S.lenR;exact rfl;exact rfl)|(apply S.gsFn;exact rfl;exact rfl;exact rfl;intro hc;rotate_left;intro hc;rotate_right)|(apply S.gsF;exact rfl;exact rfl;exact rfl;intro hc;rotate_left;intro hc;rotate_right) | apply S.nil | apply T.regs|(apply T.ret;change Done _ _ _ _ _))
 all_goals first
  | exact doneV (by simp) Tryz.results24 rfl (yes (.inl (by assumption)))
  | exact doneV (by simp) Tryz.results24 rfl (yes (.inr (.inl (by assumption))))
  | exact doneV (by simp) Tryz.results24 rfl (yes (.inr (.inr (.inl (by omega)))))
  | exact doneV (by simp) Tryz.results24 rfl (yes (.inr (.inr (.inr (.inl (by omega))))))
  | exact doneV (by simp) Tryz.results24 rfl (key _ ⟨fun h => by
    rcases h with h | h | h | h | h | h
    ·contradiction
    ·contradiction
    ·omega
    ·omega
    ·exact .inl h
    ·exact .inr h, fun h => .inr (.inr (.inr (.inr h)))⟩)
def gOk (a b : SetR) (x y : List PieceR) (n d : Int) : Prop := setP a ∧ setP b ∧ curveP x ∧ curveP y ∧ vF n d
def givE (a b : SetR) (x y : List PieceR) (n d : Int) : Prop := gOk a b x y n d ∧ 0 ≤ n ∧ ratV n d ≤ 1099511627776
set_option maxHeartbeats 8000000 in
theorem r40_given (a b : SetR) (x y : List PieceR) (n d : Int) (hfa : a.fits) (hfb : b.fits) (hx : x.length ≤ 1000000000000000) (hy : y.length ≤ 1000000000000000) :
  ∃ e : Int, Fn0 Tryz.prog 25 [rowA a.row, rowA b.row, .sl (x.map PieceR.row), .sl (y.map PieceR.row), rowA [.i n, .i d]] (.i e) ∧ (e = 0 ↔ givE a b x y n d) := by
 have va := r21_valid a hfa
 have vb := r21_valid b hfb
 have vx := rq_validL x hx
 have vy := rq_validL y hy
 have vt := r02_valid n d
 have c0 := r02_of 1099511627776
 by_cases hg : gOk a b x y n d
 ·obtain ⟨g1, g2, g3, g4, g5⟩ := hg
  have hg : gOk a b x y n d := ⟨g1, g2, g3, g4, g5⟩
  rw [decide_eq_true g1] at va
  rw [decide_eq_true g2] at vb
  rw [decide_eq_true g3] at vx
  rw [decide_eq_true g4] at vy
  rw [decide_eq_true g5] at vt
  obtain ⟨f0, f1, f2⟩ := vF_fits g5
  have cm := r02_cmp (ratV n d) 1099511627776 f0 lims_fits
  have hrow : frR (ratV n d) = [.i n, .i d] := by unfold frR;rw [f1, f2]
  rw [hrow] at cm
  change Fn0 _ _ [_, rowA [.i 1099511627776, .i 1]] _ at cm
  have k := cmpQ_gt (ratV n d) 1099511627776
  generalize cmpQ (ratV n d) 1099511627776 = c at cm k
  by_cases h1 : n < 0
  ·refine ⟨2, ?_, ⟨(fun h => by cases h), fun h => by have := h.2.1;omega⟩⟩
   refine Fn0.of Tryz.func25 Tryz.ntmps25 rfl rfl rfl ?_
   simp only [entryTm]
   repeat' (first|(apply S.move;exact rfl;exact rfl)|(apply S.assign;exact rfl;exact rfl)|(apply S.gC;exact rfl;exact rfl;exact rfl)|(apply S.gFT;exact rfl;exact rfl;assumption;exact rfl)|(apply S.fieldP;exact rfl;exact rfl;exact rfl)|(apply S.loadP;(iterate 4 exact rfl))|(apply S.pCN;exact rfl;exact rfl;exact rfl)|(apply S.pTp;exact rfl;assumption;exact rfl;exact rfl)|(apply S.call;exact rfl;exact rfl;exact va;exact rfl)|(apply S.call;exact rfl;exact rfl;exact vb;exact rfl)|(apply S.call;exact rfl;exact rfl;exact vx;exact rfl)|(apply S.call;exact rfl;exact rfl;exact vy;exact rfl)|(apply S.call;exact rfl;exact rfl;exact vt;exact rfl)|(apply T.drawAll anyOrder (by decide +kernel))|(apply S.loadPA;(iterate 4 exact rfl))|(apply S.box;(iterate 6 exact rfl))|(apply S.cmp;(iterate 4 exact rfl))|(apply S.not;exact rfl;exact rfl;exact rfl) | apply S.nil | apply T.regs|(apply T.cC;exact rfl)|(apply T.cCN;exact rfl) | apply T.seq|(apply T.skip;first | change T _ _ _ _ _ | change Done _ _ _ _ _ | change Next _ _ _ _ _ _ | skip)|(apply T.ret;change Done _ _ _ _ _))
   all_goals exact doneV (by simp) Tryz.results25 rfl rfl
  ·by_cases h2 : c > 0
   ·refine ⟨2, ?_, ⟨(fun h => by cases h), fun h => absurd h.2.2 (Rat.not_le.2 (k.1 h2))⟩⟩
    refine Fn0.of Tryz.func25 Tryz.ntmps25 rfl rfl rfl ?_
    simp only [entryTm]
    repeat' (first|(apply S.move;exact rfl;exact rfl)|(apply S.assign;exact rfl;exact rfl)|(apply S.gC;exact rfl;exact rfl;exact rfl)|(apply S.gFF;exact rfl;exact rfl;assumption)|(apply S.fieldP;exact rfl;exact rfl;exact rfl)|(apply S.loadP;(iterate 4 exact rfl))|(apply S.pCN;exact rfl;exact rfl;exact rfl)|(apply S.pFp;exact rfl;assumption;exact rfl;exact rfl)|(apply S.call;exact rfl;exact rfl;exact va;exact rfl)|(apply S.call;exact rfl;exact rfl;exact vb;exact rfl)|(apply S.call;exact rfl;exact rfl;exact vx;exact rfl)|(apply S.call;exact rfl;exact rfl;exact vy;exact rfl)|(apply S.call;exact rfl;exact rfl;exact vt;exact rfl)|(apply S.call;exact rfl;exact rfl;exact c0;exact rfl)|(apply S.call;exact rfl;exact rfl;exact cm;exact rfl)|(apply T.drawAll anyOrder (by decide +kernel))|(apply S.loadPA;(iterate 4 exact rfl))|(apply S.box;(iterate 6 exact rfl))|(apply S.cmp;(iterate 4 exact rfl))|(apply S.not;exact rfl;exact rfl;exact rfl) | apply S.nil | apply T.regs|(apply T.cCN;exact rfl)|(apply T.cT;exact rfl;assumption) | apply T.seq|(apply T.skip;first | change T _ _ _ _ _ | change Done _ _ _ _ _ | change Next _ _ _ _ _ _ | skip)|(apply T.ret;change Done _ _ _ _ _))
    all_goals exact doneV (by simp) Tryz.results25 rfl rfl
   ·refine ⟨0, ?_, ⟨fun _ => ⟨hg, by omega, Rat.not_lt.1 fun h => h2 (k.2 h)⟩, fun _ => rfl⟩⟩
    refine Fn0.of Tryz.func25 Tryz.ntmps25 rfl rfl rfl ?_
    simp only [entryTm]
    repeat' (first|(apply S.move;exact rfl;exact rfl)|(apply S.assign;exact rfl;exact rfl)|(apply S.gC;exact rfl;exact rfl;exact rfl)|(apply S.gFF;exact rfl;exact rfl;assumption)|(apply S.fieldP;exact rfl;exact rfl;exact rfl)|(apply S.loadP;(iterate 4 exact rfl))|(apply S.pCN;exact rfl;exact rfl;exact rfl)|(apply S.pFp;exact rfl;assumption;exact rfl;exact rfl)|(apply S.call;exact rfl;exact rfl;exact va;exact rfl)|(apply S.call;exact rfl;exact rfl;exact vb;exact rfl)|(apply S.call;exact rfl;exact rfl;exact vx;exact rfl)|(apply S.call;exact rfl;exact rfl;exact vy;exact rfl)|(apply S.call;exact rfl;exact rfl;exact vt;exact rfl)|(apply S.call;exact rfl;exact rfl;exact c0;exact rfl)|(apply S.call;exact rfl;exact rfl;exact cm;exact rfl)|(apply T.drawAll anyOrder (by decide +kernel))|(apply S.loadPA;(iterate 4 exact rfl))|(apply S.box;(iterate 6 exact rfl))|(apply S.cmp;(iterate 4 exact rfl))|(apply S.not;exact rfl;exact rfl;exact rfl) | apply S.nil | apply T.regs|(apply T.cCN;exact rfl)|(apply T.cF;exact rfl;assumption) | apply T.seq|(apply T.skip;first | change T _ _ _ _ _ | change Done _ _ _ _ _ | change Next _ _ _ _ _ _ | skip)|(apply T.ret;change Done _ _ _ _ _))
    all_goals exact doneV (by simp) Tryz.results25 rfl rfl
 ·refine ⟨1, ?_, ⟨(fun h => by cases h), fun h => absurd h.1 hg⟩⟩
  refine Fn0.of Tryz.func25 Tryz.ntmps25 rfl rfl rfl ?_
  simp only [entryTm]
  repeat' (first|(apply S.move;exact rfl;exact rfl)|(apply S.assign;exact rfl;exact rfl)|(apply S.gCN;(iterate 4 exact rfl))|(apply S.gFT;exact rfl;exact rfl;assumption;exact rfl)|(apply S.gFFn;exact rfl;exact rfl;assumption)|(apply S.pC;exact rfl;exact rfl;exact rfl)|(apply S.pTp;exact rfl;assumption;exact rfl;exact rfl)|(apply S.pFn;exact rfl;assumption;exact rfl;exact rfl)|(apply S.call;exact rfl;exact rfl;exact va;exact rfl)|(apply S.call;exact rfl;exact rfl;exact vb;exact rfl)|(apply S.call;exact rfl;exact rfl;exact vx;exact rfl)|(apply S.call;exact rfl;exact rfl;exact vy;exact rfl)|(apply S.call;exact rfl;exact rfl;exact vt;exact rfl)|(apply S.loadPA;(iterate 4 exact rfl))|(apply S.box;(iterate 6 exact rfl))|(apply S.notP;exact rfl;exact rfl)|(apply S.gsFn;exact rfl;exact rfl;exact rfl;intro hc;rotate_left;intro hc;rotate_right) | apply S.nil | apply T.regs|(apply T.cC;exact rfl)|(apply T.cSn;exact rfl;intro hc;rotate_left;intro hc;rotate_right) | apply T.seq|(apply T.skip;first | change T _ _ _ _ _ | change Done _ _ _ _ _ | change Next _ _ _ _ _ _ | skip)|(apply T.ret;change Done _ _ _ _ _))
  all_goals first
   | exact doneV (by simp) Tryz.results25 rfl rfl
   | (exfalso;exact hg ⟨by assumption, by assumption, by assumption, by assumption, by assumption⟩)
def rigP (a b : SetR) (x y : List PieceR) (n d : Int) : Prop := ¬ longP a b x y ∧ x.length ≤ 10 ∧ y.length ≤ 10 ∧ givE a b x y n d
noncomputable instance (a b : SetR) (x y : List PieceR) (n d : Int) : Decidable (rigP a b x y n d) := Classical.propDecidable _
set_option maxHeartbeats 8000000 in
theorem l40_right (a b : SetR) (x y : List PieceR) (n d : Int) (hfa : a.fits) (hfb : b.fits) (hx : x.length ≤ 1000000000000000) (hy : y.length ≤ 1000000000000000) :
  Fn0 Tryz.prog 6 [rowA a.row, rowA b.row, .sl (x.map PieceR.row), .sl (y.map PieceR.row), rowA [.i n, .i d]] (.b (decide (rigP a b x y n d))) := by
 have cl := l40_long a b x y hfa hfb hx hy
 obtain ⟨e, cg, he⟩ := r40_given a b x y n d hfa hfb hx hy
 have hlx : (x.map PieceR.row).length = x.length := List.length_map _
 have hly : (y.map PieceR.row).length = y.length := List.length_map _
 have no : ¬ rigP a b x y n d → Value.bool false = Value.bool (decide (rigP a b x y n d)) := fun h => congrArg Value.bool (decide_eq_false h).symm
 have key : ∀ q : Prop, ∀ [Decidable q], (rigP a b x y n d ↔ q) → Value.bool (decide q) = Value.bool (decide (rigP a b x y n d)) := fun q _ h => congrArg Value.bool (decide_eq_decide.2 h.symm)
 by_cases hl : longP a b x y
 ·rw [decide_eq_true hl] at cl
  refine Fn0.of Tryz.func6 Tryz.ntmps6 rfl rfl rfl ?_
  simp only [entryTm]
  repeat' (first|(apply S.move;exact rfl;exact rfl)|(apply S.assign;exact rfl;exact rfl)|(apply S.gCN;(iterate 4 exact rfl))|(apply S.pCN;exact rfl;exact rfl;exact rfl)|(apply S.call;exact rfl;exact rfl;exact cl;exact rfl)|(apply S.buildSliceF;(iterate 8 exact rfl))|(apply S.loadPA;(iterate 4 exact rfl))|(apply S.box;(iterate 6 exact rfl))|(apply S.not;exact rfl;exact rfl;exact rfl) | apply S.nil | apply T.regs|(apply T.ret;change Done _ _ _ _ _))
  all_goals exact doneV (by simp) Tryz.results6 rfl (no fun h => h.1 hl)
 ·rw [decide_eq_false hl] at cl
  refine Fn0.of Tryz.func6 Tryz.ntmps6 rfl rfl rfl ?_
  simp only [entryTm]
  repeat' (first|(apply S.move;exact rfl;exact rfl)|(apply S.assign;exact rfl;exact rfl)|(apply S.gC;exact rfl;exact rfl;exact rfl)|(apply S.gCN;(iterate 4 exact rfl))|(apply S.gTT;exact rfl;exact rfl;assumption)|(apply S.gTF;exact rfl;exact rfl;assumption;exact rfl)|(apply S.pC;exact rfl;exact rfl;exact rfl)|(apply S.pCN;exact rfl;exact rfl;exact rfl)|(apply S.pTp;exact rfl;assumption;exact rfl;exact rfl)|(apply S.pFp;exact rfl;assumption;exact rfl;exact rfl)|(apply S.call;exact rfl;exact rfl;exact cl;exact rfl)|(apply S.call;exact rfl;exact rfl;exact cg;exact rfl)|(apply S.buildSliceF;(iterate 8 exact rfl))|(apply S.loadPA;(iterate 4 exact rfl))|(apply S.box;(iterate 6 exact rfl))|(apply S.cmp;(iterate 4 exact rfl))|(apply S.not;exact rfl;exact rfl;exact rfl)|(apply S.lenR;exact rfl;exact rfl)|(apply S.gsT;exact rfl;exact rfl;exact rfl;intro hc;rotate_left;intro hc;rotate_right) | apply S.nil | apply T.regs|(apply T.ret;change Done _ _ _ _ _))
  all_goals first
   | exact doneV (by simp) Tryz.results6 rfl (no fun h => by have := h.2.1;omega)
   | exact doneV (by simp) Tryz.results6 rfl (no fun h => by have := h.2.2.1;omega)
   | exact doneV (by simp) Tryz.results6 rfl (key _ ⟨fun h => he.2 h.2.2.2, fun h => ⟨hl, by omega, by omega, he.1 h⟩⟩)
end Go.Proofs.YtlncmkafjjomgaaGreat
