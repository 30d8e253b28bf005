/- Contracts: the law's of, example, long, awake. No conditions but those of each statement. | Plain facts: curves that are valid over fractions;the piece at a time;values of the program and of the reference. No conditions but those of each statement. -/
import Derived.Test.YtgegcgfdffmoeaaGreatNk
import Derived.Test.YtgegcgfdffmoeaaGreatNl
set_option linter.unusedSimpArgs false
namespace Go.Proofs.YtgegcgfdffmoeaaGreat
set_option linter.unusedVariables false
open Go.RowKit
theorem l08_of (n : Int) : Fn0 Tryz.prog 31 [.i n] (rowA [.i n, .i 1]) := by
  refine Fn0.of Tryz.func31 Tryz.ntmps31 rfl rfl rfl ?_
  simp only [entryTm]
  repeat' (first|(apply S.move;exact rfl;exact rfl)|(apply S.buildN;exact rfl;exact rfl;exact rfl)|(apply S.alloc;(iterate 5 exact rfl))|(apply S.store;(iterate 7 exact rfl)) | apply S.nil | apply T.regs|(apply T.ret;change Done _ _ _ _ _))
  exact ⟨.inr rfl, [rowA [.i n, .i 1]], .cons (Res.row [.i n, .i 1] rfl rfl rfl rfl rfl) .nil, .one (.agg (outL_refl _))⟩
def exP (a : Int) : List PieceR := [⟨0, 1, a, 1, 0, 1, -1, 1⟩, ⟨3, 1, -5, 1, 1, 1, 0, 1⟩]
def exL (a : Rat) : List PcQ := [⟨0, a, 0, -1⟩, ⟨3, -5, 1, 0⟩]
set_option maxHeartbeats 4000000 in
theorem l08_example (a : Int) : Fn0 Tryz.prog 30 [.i a] (.sl ((exP a).map PieceR.row)) := by
  have c0 := l08_of 0
  have c1 := l08_of 1
  have c2 := l08_of (-1)
  have c3 := l08_of 3
  have c4 := l08_of (-5)
  have ca := l08_of a
  refine Fn0.of Tryz.func30 Tryz.ntmps30 rfl rfl rfl ?_
  simp only [entryTm]
  repeat' (first|(apply S.move;exact rfl;exact rfl)|(apply S.assign;exact rfl;exact rfl)|(apply S.call;exact rfl;exact rfl;exact c0;exact rfl)|(apply S.call;exact rfl;exact rfl;exact c1;exact rfl)|(apply S.call;exact rfl;exact rfl;exact c2;exact rfl)|(apply S.call;exact rfl;exact rfl;exact c3;exact rfl)|(apply S.call;exact rfl;exact rfl;exact c4;exact rfl)|(apply S.call;exact rfl;exact rfl;exact ca;exact rfl)|(apply S.buildSliceF;(iterate 8 exact rfl))|(apply S.build;exact rfl;exact rfl;exact rfl) | apply S.nil | apply T.regs|(apply T.ret;change Done _ _ _ _ _))
  exact done1 (by simp) Tryz.results30 rfl (.one (.one (.lf _)))
theorem exL_rows4 : (exP 4).map PieceR.row = (exL 4).map PcQ.row := rfl
theorem exL_rows2 : (exP 2).map PieceR.row = (exL 2).map PcQ.row := rfl
theorem exL_ok4 : okC (exL 4) := fun p hp => by
  simp only [exL, List.mem_cons, List.not_mem_nil, or_false] at hp
  rcases hp with rfl | rfl <;> exact ⟨by decide, by decide, by decide, by decide⟩
theorem exL_ok2 : okC (exL 2) := fun p hp => by
  simp only [exL, List.mem_cons, List.not_mem_nil, or_false] at hp
  rcases hp with rfl | rfl <;> exact ⟨by decide, by decide, by decide, by decide⟩
theorem ex_at : atE (exL 4) 1 0 = 0 ∧ atQ (exL 4) 1 = 3 := by decide +kernel
theorem ex_slope : atSE (exL 4) 1 0 = 0 ∧ atS (exL 4) 1 = -2 := by decide +kernel
theorem ex_least : (lsK (exL 4) 0 4 (exL 4).length).1.e = 0 ∧ (lsK (exL 4) 0 4 (exL 4).length).1.m = -5 := by decide +kernel
theorem ex_first4 : firstA (exL 4) 0 4 = .tup [rowA [.i 2000, .i 2000], .i 0] := by kernel_rfl
theorem ex_first2 : firstA (exL 2) 0 4 = .tup [rowA [.i 1414, .i 1415], .i 0] := by kernel_rfl
set_option maxHeartbeats 16000000 in
theorem l08_awake : Fn0 Tryz.prog 7 [] (.b true) := by
  have x4 := l08_example 4
  have x2 := l08_example 2
  have v4 := qua_valid (exP 4) (by decide)
  have v2 := qua_valid (exP 2) (by decide)
  rw [exL_rows4] at x4 v4
  rw [exL_rows2] at x2 v2
  rw [show decide (curveP (exP 4)) = true by decide +kernel] at v4
  rw [show decide (curveP (exP 2)) = true by decide +kernel] at v2
  have a1 := qua_at (exL 4) 1 exL_ok4 (by simp [exL]) (by decide) (by decide) v4
  rw [resA, if_pos ex_at.1, ex_at.2] at a1
  have a2 := qua_slope (exL 4) 1 exL_ok4 (by simp [exL]) (by decide) (by decide) v4
  rw [resA, if_pos ex_slope.1, ex_slope.2] at a2
  have a3 := qua_least (exL 4) 0 4 exL_ok4 (by simp [exL]) (by decide) (by decide) (by decide) v4 (by decide)
  rw [leastA, resA, if_pos ex_least.1, ex_least.2] at a3
  have a4 := qua_first (exL 4) 0 4 exL_ok4 (by simp [exL]) (by decide) (by decide) (by decide) v4 (by decide) (by decide) (by decide)
  rw [ex_first4] at a4
  have a5 := qua_first (exL 2) 0 4 exL_ok2 (by simp [exL]) (by decide) (by decide) (by decide) v2 (by decide) (by decide) (by decide)
  rw [ex_first2] at a5
  have o0 := l08_of 0
  have o1 := l08_of 1
  have o4 := l08_of 4
  have o3 := l08_of 3
  have o2 := l08_of (-2)
  have o5 := l08_of (-5)
  refine Fn0.of Tryz.func7 Tryz.ntmps7 rfl rfl rfl ?_
  simp only [entryTm]
  repeat' (first|(apply S.move;exact rfl;exact rfl)|(apply S.assign;exact rfl;exact rfl)|(apply S.gC;exact rfl;exact rfl;exact rfl)|(apply S.pC;exact rfl;exact rfl;exact rfl)|(apply S.call;exact rfl;exact rfl;exact x4;exact rfl)|(apply S.call;exact rfl;exact rfl;exact x2;exact rfl)|(apply S.call;exact rfl;exact rfl;exact a1;exact rfl)|(apply S.call;exact rfl;exact rfl;exact a2;exact rfl)|(apply S.call;exact rfl;exact rfl;exact a3;exact rfl)|(apply S.call;exact rfl;exact rfl;exact a4;exact rfl)|(apply S.call;exact rfl;exact rfl;exact a5;exact rfl)|(apply S.call;exact rfl;exact rfl;exact o0;exact rfl)|(apply S.call;exact rfl;exact rfl;exact o1;exact rfl)|(apply S.call;exact rfl;exact rfl;exact o2;exact rfl)|(apply S.call;exact rfl;exact rfl;exact o3;exact rfl)|(apply S.call;exact rfl;exact rfl;exact o4;exact rfl)|(apply S.call;exact rfl;exact rfl;exact o5;exact rfl)|(apply S.eq2;exact rfl;exact rfl;exact rfl)|(apply S.buildN;exact rfl;exact rfl;exact rfl)|(apply T.drawAll anyOrder (by decide +kernel))|(apply S.loadPA;(iterate 4 exact rfl))|(apply S.alloc;(iterate 5 exact rfl))|(apply S.store;(iterate 7 exact rfl))|(apply S.cmp;(iterate 4 exact rfl))|(apply S.extract;exact rfl;exact rfl;exact rfl) | apply S.nil | apply T.regs|(apply T.ret;change Done _ _ _ _ _))
  all_goals exact doneV (by simp) Tryz.results7 rfl rfl
end Go.Proofs.YtgegcgfdffmoeaaGreat
set_option linter.unusedSimpArgs false
namespace Go.Proofs.YtgegcgfdffmoeaaGreat
set_option linter.unusedVariables false
open Go.RowKit
def sortC (l : List PcQ) : Prop := ∀ i, i + 1 < l.length → (pcAt l i).f < (pcAt l (i + 1)).f
theorem curveQ_ok {l : List PieceR} (h : curveP l) : okC (l.map toQ) ∧ (l.map toQ).map PcQ.row = l.map PieceR.row ∧ l.map toQ ≠ [] ∧ sortC (l.map toQ) := by
  obtain ⟨h1, h2, h3⟩ := h
  refine ⟨fun p hp => ?_, ?_, fun e => ?_, fun i hi => ?_⟩
  · obtain ⟨x, hx, rfl⟩ := List.mem_map.1 hp
    exact (h2 x hx).ok.1
  · rw [List.map_map]
    exact List.map_congr_left fun x hx => (h2 x hx).ok.2
  · have := congrArg List.length e
    rw [List.length_map, List.length_nil] at this
    omega
  · rw [List.length_map] at hi
    have a1 : (l.map toQ)[i]? = some (toQ (l[i]'(by omega))) := by rw [List.getElem?_map, List.getElem?_eq_getElem (by omega)];rfl
    have a2 : (l.map toQ)[i + 1]? = some (toQ (l[i + 1]'(by omega))) := by rw [List.getElem?_map, List.getElem?_eq_getElem (by omega)];rfl
    rw [pcAt_of a1, pcAt_of a2, ← fromK_of (List.getElem?_eq_getElem (by omega)), ← fromK_of (List.getElem?_eq_getElem (by omega))]
    exact h3 i (by omega)
def isRes (r : AV) : Prop := ∃ a b e : Int, r = .tup [rowA [.i a, .i b], .i e]
theorem qua_validL (l : List PieceR) (hn : l.length ≤ 1000000000000000) : Fn0 Tryz.prog 28 [.sl (l.map PieceR.row)] (.b (decide (curveP l))) := by
  by_cases h : l.length ≤ 1000000
  · exact qua_valid l h
  have hle : (l.map PieceR.row).length = l.length := List.length_map _
  have h1 : ¬ (((l.map PieceR.row).length : Nat) : Int) < 1 := by omega
  have h2 : 200 < (((l.map PieceR.row).length : Nat) : Int) := by omega
  refine Fn0.of Tryz.func28 Tryz.ntmps28 rfl rfl rfl ?_
  simp only [entryTm]
  repeat' (first|(apply S.move;exact rfl;exact rfl)|(apply S.assign;exact rfl;exact rfl)|(apply S.gFF;exact rfl;exact rfl;assumption)|(apply S.pFp;exact rfl;assumption;exact rfl;exact rfl)|(apply S.cmp;(iterate 4 exact rfl))|(apply S.lenR;exact rfl;exact rfl) | apply S.nil | apply T.regs|(apply T.cT;exact rfl;assumption) | apply T.seq|(apply T.ret;change Done _ _ _ _ _))
  exact doneV (by simp) Tryz.results28 rfl (congrArg Value.bool (decide_eq_false fun h => by have := h.1.2;omega).symm)
theorem rq_validL (l : List PieceR) (hn : l.length ≤ 1000000000000000) : Fn0 Tryz.prog 11 [.sl (l.map PieceR.row)] (.b (decide (curveP l))) := by
  by_cases h : l.length ≤ 1000000
  · exact rq_valid l h
  have hle : (l.map PieceR.row).length = l.length := List.length_map _
  have h1 : ¬ (((l.map PieceR.row).length : Nat) : Int) < 1 := by omega
  have h2 : 200 < (((l.map PieceR.row).length : Nat) : Int) := by omega
  refine Fn0.of Tryz.func11 Tryz.ntmps11 rfl rfl rfl ?_
  simp only [entryTm]
  repeat' (first|(apply S.move;exact rfl;exact rfl)|(apply S.assign;exact rfl;exact rfl)|(apply S.gFF;exact rfl;exact rfl;assumption)|(apply S.pFp;exact rfl;assumption;exact rfl;exact rfl)|(apply S.cmp;(iterate 4 exact rfl))|(apply S.lenR;exact rfl;exact rfl) | apply S.nil | apply T.regs|(apply T.cT;exact rfl;assumption) | apply T.seq|(apply T.ret;change Done _ _ _ _ _))
  exact doneV (by simp) Tryz.results11 rfl (congrArg Value.bool (decide_eq_false fun h => by have := h.1.2;omega).symm)
end Go.Proofs.YtgegcgfdffmoeaaGreat
