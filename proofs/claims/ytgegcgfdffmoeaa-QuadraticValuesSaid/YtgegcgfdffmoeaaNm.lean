/- Contracts: the law's of, example, long, awake. No conditions but those of each statement. | Plain facts: curves that are valid over fractions; the piece at a time; values of the program and of the reference. No conditions but those of each statement. | Contracts: the walk of the law on values. No conditions but those of each statement. -/
import Derived.Test.YtgegcgfdffmoeaaNk
import Derived.Test.YtgegcgfdffmoeaaNl
set_option linter.unusedSimpArgs false
namespace Go.Proofs.Ytgegcgfdffmoeaa
set_option linter.unusedVariables false
open Go.RowKit
theorem l08_of (n : Int) : Fn0 Try.prog 17 [.i n] (rowA [.i n, .i 1]) := by
  refine Fn0.of Try.func17 Try.ntmps17 rfl rfl rfl ?_
  simp only [entryTm]
  repeat' (first
    | (apply S.move; exact rfl; exact rfl)
    | (apply S.buildN; exact rfl; exact rfl; exact rfl)
    | (apply S.alloc; exact rfl; exact rfl; exact rfl; exact rfl; exact rfl)
    | (apply S.store; exact rfl; exact rfl; exact rfl; exact rfl; exact rfl; exact rfl; exact rfl)
    | apply S.nil
    | apply T.regs
    | (apply T.ret; change Done _ _ _ _ _))
  exact ⟨.inr rfl, [rowA [.i n, .i 1]], .cons (Res.row [.i n, .i 1] rfl rfl rfl rfl rfl) .nil, .one (.agg (outL_refl _))⟩
/-- The pieces of the example. -/
def exP (a : Int) : List PieceR := [⟨0, 1, a, 1, 0, 1, -1, 1⟩, ⟨3, 1, -5, 1, 1, 1, 0, 1⟩]
def exL (a : Rat) : List PcQ := [⟨0, a, 0, -1⟩, ⟨3, -5, 1, 0⟩]
set_option maxHeartbeats 4000000 in
theorem l08_example (a : Int) : Fn0 Try.prog 16 [.i a] (.sl ((exP a).map PieceR.row)) := by
  have c0 := l08_of 0
  have c1 := l08_of 1
  have c2 := l08_of (-1)
  have c3 := l08_of 3
  have c4 := l08_of (-5)
  have ca := l08_of a
  refine Fn0.of Try.func16 Try.ntmps16 rfl rfl rfl ?_
  simp only [entryTm]
  repeat' (first
    | (apply S.move; exact rfl; exact rfl)
    | (apply S.assign; exact rfl; exact rfl)
    | (apply S.call; exact rfl; exact rfl; exact c0; exact rfl)
    | (apply S.call; exact rfl; exact rfl; exact c1; exact rfl)
    | (apply S.call; exact rfl; exact rfl; exact c2; exact rfl)
    | (apply S.call; exact rfl; exact rfl; exact c3; exact rfl)
    | (apply S.call; exact rfl; exact rfl; exact c4; exact rfl)
    | (apply S.call; exact rfl; exact rfl; exact ca; exact rfl)
    | (apply S.buildSliceF; exact rfl; exact rfl; exact rfl; exact rfl; exact rfl; exact rfl; exact rfl; exact rfl)
    | (apply S.build; exact rfl; exact rfl; exact rfl)
    | apply S.nil
    | apply T.regs
    | (apply T.ret; change Done _ _ _ _ _))
  exact done1 (by simp) Try.results16 rfl (.one (.one (.lf _)))
theorem exL_rows4 : (exP 4).map PieceR.row = (exL 4).map PcQ.row := rfl
theorem exL_rows2 : (exP 2).map PieceR.row = (exL 2).map PcQ.row := rfl
theorem exL_ok4 : okC (exL 4) := fun p hp => by
  simp only [exL, List.mem_cons, List.not_mem_nil, or_false] at hp
  rcases hp with rfl | rfl <;> exact ⟨by decide, by decide, by decide, by decide⟩
theorem exL_ok2 : okC (exL 2) := fun p hp => by
  simp only [exL, List.mem_cons, List.not_mem_nil, or_false] at hp
  rcases hp with rfl | rfl <;> exact ⟨by decide, by decide, by decide, by decide⟩
theorem ex_at : atE (exL 4) 1 0 = 0 ∧ atQ (exL 4) 1 = 3 := by decide +kernel
theorem ex_slope : atSE (exL 4) 1 0 = 0 ∧ atS (exL 4) 1 = -2 := by decide +kernel
theorem ex_least : (lsK (exL 4) 0 4 (exL 4).length).1.e = 0 ∧ (lsK (exL 4) 0 4 (exL 4).length).1.m = -5 := by decide +kernel
theorem ex_first4 : firstA (exL 4) 0 4 = .tup [rowA [.i 2000, .i 2000], .i 0] := by kernel_rfl
theorem ex_first2 : firstA (exL 2) 0 4 = .tup [rowA [.i 1414, .i 1415], .i 0] := by kernel_rfl
theorem l08_long (l : List PieceR) (hn : l.length ≤ 1000000000000000) : Fn0 Try.prog 5 [.sl (l.map PieceR.row)] (.b (decide (12 < l.length ∧ l.length ≤ 200 ∨ 205 < l.length))) := by
  have hle : (l.map PieceR.row).length = l.length := List.length_map _
  refine Fn0.of Try.func5 Try.ntmps5 rfl rfl rfl ?_
  simp only [entryTm]
  repeat' (first
    | (apply S.move; exact rfl; exact rfl)
    | (apply S.assign; exact rfl; exact rfl)
    | (apply S.gC; exact rfl; exact rfl; exact rfl)
    | (apply S.gTT; exact rfl; exact rfl; assumption)
    | (apply S.gTF; exact rfl; exact rfl; assumption; exact rfl)
    | (apply S.gFF; exact rfl; exact rfl; assumption)
    | (apply S.gFT; exact rfl; exact rfl; assumption; exact rfl)
    | (apply S.pCN; exact rfl; exact rfl; exact rfl)
    | (apply S.pTp; exact rfl; assumption; exact rfl; exact rfl)
    | (apply S.pFp; exact rfl; assumption; exact rfl; exact rfl)
    | (apply S.cmp; exact rfl; exact rfl; exact rfl; exact rfl)
    | (apply S.lenR; exact rfl; exact rfl)
    | (apply S.gsT; exact rfl; exact rfl; exact rfl; intro hc; rotate_left; intro hc; rotate_right)
    | (apply S.gsF; exact rfl; exact rfl; exact rfl; intro hc; rotate_left; intro hc; rotate_right)
    | apply S.nil
    | apply T.regs
    | (apply T.ret; change Done _ _ _ _ _))
  all_goals exact doneV (by simp) Try.results5 rfl (congrArg Value.bool (by first | rfl | (symm; apply decide_eq_true; omega) | (symm; apply decide_eq_false; omega) | (apply decide_eq_decide.2; omega)))
set_option maxHeartbeats 16000000 in
theorem l08_awake : Fn0 Try.prog 4 [] (.b true) := by
  have x4 := l08_example 4
  have x2 := l08_example 2
  have v4 := qua_valid (exP 4) (by decide)
  have v2 := qua_valid (exP 2) (by decide)
  rw [exL_rows4] at x4 v4
  rw [exL_rows2] at x2 v2
  rw [show decide (curveP (exP 4)) = true by decide +kernel] at v4
  rw [show decide (curveP (exP 2)) = true by decide +kernel] at v2
  have a1 := qua_at (exL 4) 1 exL_ok4 (by simp [exL]) (by decide) (by decide) v4
  rw [resA, if_pos ex_at.1, ex_at.2] at a1
  have a2 := qua_slope (exL 4) 1 exL_ok4 (by simp [exL]) (by decide) (by decide) v4
  rw [resA, if_pos ex_slope.1, ex_slope.2] at a2
  have a3 := qua_least (exL 4) 0 4 exL_ok4 (by simp [exL]) (by decide) (by decide) (by decide) v4 (by decide)
  rw [leastA, resA, if_pos ex_least.1, ex_least.2] at a3
  have a4 := qua_first (exL 4) 0 4 exL_ok4 (by simp [exL]) (by decide) (by decide) (by decide) v4 (by decide) (by decide) (by decide)
  rw [ex_first4] at a4
  have a5 := qua_first (exL 2) 0 4 exL_ok2 (by simp [exL]) (by decide) (by decide) (by decide) v2 (by decide) (by decide) (by decide)
  rw [ex_first2] at a5
  have o0 := l08_of 0
  have o1 := l08_of 1
  have o4 := l08_of 4
  have o3 := l08_of 3
  have o2 := l08_of (-2)
  have o5 := l08_of (-5)
  refine Fn0.of Try.func4 Try.ntmps4 rfl rfl rfl ?_
  simp only [entryTm]
  repeat' (first
    | (apply S.move; exact rfl; exact rfl)
    | (apply S.assign; exact rfl; exact rfl)
    | (apply S.gC; exact rfl; exact rfl; exact rfl)
    | (apply S.pC; exact rfl; exact rfl; exact rfl)
    | (apply S.call; exact rfl; exact rfl; exact x4; exact rfl)
    | (apply S.call; exact rfl; exact rfl; exact x2; exact rfl)
    | (apply S.call; exact rfl; exact rfl; exact a1; exact rfl)
    | (apply S.call; exact rfl; exact rfl; exact a2; exact rfl)
    | (apply S.call; exact rfl; exact rfl; exact a3; exact rfl)
    | (apply S.call; exact rfl; exact rfl; exact a4; exact rfl)
    | (apply S.call; exact rfl; exact rfl; exact a5; exact rfl)
    | (apply S.call; exact rfl; exact rfl; exact o0; exact rfl)
    | (apply S.call; exact rfl; exact rfl; exact o1; exact rfl)
    | (apply S.call; exact rfl; exact rfl; exact o2; exact rfl)
    | (apply S.call; exact rfl; exact rfl; exact o3; exact rfl)
    | (apply S.call; exact rfl; exact rfl; exact o4; exact rfl)
    | (apply S.call; exact rfl; exact rfl; exact o5; exact rfl)
    | (apply S.eq2; exact rfl; exact rfl; exact rfl)
    | (apply S.buildN; exact rfl; exact rfl; exact rfl)
    | (apply T.drawAll anyOrder (by decide +kernel))
    | (apply S.loadPA; exact rfl; exact rfl; exact rfl; exact rfl)
    | (apply S.alloc; exact rfl; exact rfl; exact rfl; exact rfl; exact rfl)
    | (apply S.store; exact rfl; exact rfl; exact rfl; exact rfl; exact rfl; exact rfl; exact rfl)
    | (apply S.cmp; exact rfl; exact rfl; exact rfl; exact rfl)
    | (apply S.extract; exact rfl; exact rfl; exact rfl)
    | apply S.nil
    | apply T.regs
    | (apply T.ret; change Done _ _ _ _ _))
  all_goals exact doneV (by simp) Try.results4 rfl rfl
end Go.Proofs.Ytgegcgfdffmoeaa
set_option linter.unusedSimpArgs false
namespace Go.Proofs.Ytgegcgfdffmoeaa
set_option linter.unusedVariables false
open Go.RowKit
/-- The pieces begin one after the other. -/
def sortC (l : List PcQ) : Prop := ∀ i, i + 1 < l.length → (pcAt l i).f < (pcAt l (i + 1)).f
theorem curveQ_ok {l : List PieceR} (h : curveP l) : okC (l.map toQ) ∧ (l.map toQ).map PcQ.row = l.map PieceR.row ∧ l.map toQ ≠ [] ∧ sortC (l.map toQ) := by
  obtain ⟨h1, h2, h3⟩ := h
  refine ⟨fun p hp => ?_, ?_, fun e => ?_, fun i hi => ?_⟩
  · obtain ⟨x, hx, rfl⟩ := List.mem_map.1 hp
    exact (h2 x hx).ok.1
  · rw [List.map_map]
    exact List.map_congr_left fun x hx => (h2 x hx).ok.2
  · have := congrArg List.length e
    rw [List.length_map, List.length_nil] at this
    omega
  · rw [List.length_map] at hi
    have a1 : (l.map toQ)[i]? = some (toQ (l[i]'(by omega))) := by rw [List.getElem?_map, List.getElem?_eq_getElem (by omega)]; rfl
    have a2 : (l.map toQ)[i + 1]? = some (toQ (l[i + 1]'(by omega))) := by rw [List.getElem?_map, List.getElem?_eq_getElem (by omega)]; rfl
    rw [pcAt_of a1, pcAt_of a2, ← fromK_of (List.getElem?_eq_getElem (by omega)), ← fromK_of (List.getElem?_eq_getElem (by omega))]
    exact h3 i (by omega)
theorem rpN_full {l : List PcQ} (hs : sortC l) (t : Rat) : ∀ k : Nat, k < l.length → (pcAt l k).f ≤ t → rpN l t (k + 1) = k + 1
  | 0, _, h => by rw [rpN, if_pos ⟨rfl, h⟩]
  | k + 1, hk, h => by
    have h1 : (pcAt l k).f ≤ t := Rat.le_trans (Rat.le_of_lt (hs k hk)) h
    rw [rpN, if_pos ⟨rpN_full hs t k (by omega) h1, h⟩]
theorem pcK_rpN {l : List PcQ} (hs : sortC l) (t : Rat) : ∀ k : Nat, k ≤ l.length → pcK l t k = (rpN l t k : Int) - 1
  | 0, _ => rfl
  | k + 1, hk => by
    have ih := pcK_rpN hs t k (by omega)
    by_cases h : (pcAt l k).f ≤ t
    · rw [rpN_full hs t k hk h, pcK, if_pos h]; omega
    · rw [pcK, if_neg h, ih, rpN, if_neg fun e => h e.2]
theorem pcI_rpI {l : List PcQ} (hs : sortC l) (t : Rat) : pcI l t = rpI l t := pcK_rpN hs t l.length (Nat.le_refl _)
theorem resA_five (q : Rat) : resA q 5 = big := if_neg (by decide)
theorem at_same (x : PcQ) (t : Rat) : resA (valQ x (kQ (t - x.f))) (valE x (kQ (t - x.f)) (kE (t - x.f) 0)) = outO (okA x t) (valR x (t - x.f)) := by
  unfold outO
  by_cases h1 : Fits (t - x.f)
  · rw [kQ_ok h1, kE_ok h1]
    by_cases h2 : okV x (t - x.f)
    · rw [if_pos (show okA x t from ⟨h1, h2⟩), (val_okV h2 0).1, (val_okV h2 0).2]; rfl
    · rw [if_neg (show ¬ okA x t from fun h => h2 h.2), val_bad h2, resA_five]
  · rw [if_neg (show ¬ okA x t from fun h => h1 h.1), kE_bad h1, valE_five, resA_five]
theorem slope_same (x : PcQ) (t : Rat) : resA (sloQ x (kQ (t - x.f))) (sloE x (kQ (t - x.f)) (kE (t - x.f) 0)) = outO (okB x t) (sloR x (t - x.f)) := by
  unfold outO
  by_cases h1 : Fits (t - x.f)
  · rw [kQ_ok h1, kE_ok h1]
    by_cases h2 : okS x (t - x.f)
    · rw [if_pos (show okB x t from ⟨h1, h2⟩), (slo_okS h2 0).1, (slo_okS h2 0).2]; rfl
    · rw [if_neg (show ¬ okB x t from fun h => h2 h.2), slo_bad h2, resA_five]
  · rw [if_neg (show ¬ okB x t from fun h => h1 h.1), kE_bad h1, sloE_five, resA_five]
/-- A result of two numbers, and an error. -/
def isRes (r : AV) : Prop := ∃ a b e : Int, r = .tup [rowA [.i a, .i b], .i e]
theorem isRes_resA (q : Rat) (e : Int) : isRes (resA q e) := by
  unfold resA
  split
  · exact ⟨_, _, _, rfl⟩
  · exact ⟨_, _, _, rfl⟩
/-- The reference's At at the reference's piece is the program's. -/
theorem rq_at (l : List PcQ) (t : Rat) (hl : okC l) (h0 : l ≠ []) (hs : sortC l) (ht : Fits t) : Fn0 Try.prog 13 [.sl (l.map PcQ.row), .i (rpI l t), rowA (frR t)] (resA (atQ l t) (atE l t 0)) := by
  rw [← pcI_rpI hs t]
  unfold atQ atE
  by_cases h : pcI l t < 0
  · rw [if_pos h, if_pos h]
    have hx : l[0]? = some (pcAt l 0) := by
      have := List.length_pos_iff.2 h0
      rw [List.getElem?_eq_getElem this]
      congr 1
      exact (pcAt_of (List.getElem?_eq_getElem this)).symm
    exact rq_at_neg l _ t _ hx h
  · rw [if_neg h, if_neg h]
    have hx := pc_get h
    have := rq_at_at l (pcI l t) t _ hx (by omega) (hl _ (List.mem_of_getElem? hx)) ht
    rwa [← at_same] at this
theorem rq_slope (l : List PcQ) (t : Rat) (hl : okC l) (h0 : l ≠ []) (hs : sortC l) (ht : Fits t) : Fn0 Try.prog 15 [.sl (l.map PcQ.row), .i (rpI l t), rowA (frR t)] (resA (atS l t) (atSE l t 0)) := by
  rw [← pcI_rpI hs t]
  unfold atS atSE
  by_cases h : pcI l t < 0
  · rw [if_pos h, if_pos h]
    exact rq_slope_neg l _ t h
  · rw [if_neg h, if_neg h]
    have hx := pc_get h
    have := rq_slope_at l (pcI l t) t _ hx (by omega) (hl _ (List.mem_of_getElem? hx)) ht
    rwa [← slope_same] at this
/-- Valid, of lists of any length that memory can hold. -/
theorem qua_validL (l : List PieceR) (hn : l.length ≤ 1000000000000000) : Fn0 Try.prog 10 [.sl (l.map PieceR.row)] (.b (decide (curveP l))) := by
  by_cases h : l.length ≤ 1000000
  · exact qua_valid l h
  have hle : (l.map PieceR.row).length = l.length := List.length_map _
  have h1 : ¬ (((l.map PieceR.row).length : Nat) : Int) < 1 := by omega
  have h2 : 200 < (((l.map PieceR.row).length : Nat) : Int) := by omega
  refine Fn0.of Try.func10 Try.ntmps10 rfl rfl rfl ?_
  simp only [entryTm]
  repeat' (first
    | (apply S.move; exact rfl; exact rfl)
    | (apply S.assign; exact rfl; exact rfl)
    | (apply S.gFF; exact rfl; exact rfl; assumption)
    | (apply S.pFp; exact rfl; assumption; exact rfl; exact rfl)
    | (apply S.cmp; exact rfl; exact rfl; exact rfl; exact rfl)
    | (apply S.lenR; exact rfl; exact rfl)
    | apply S.nil
    | apply T.regs
    | (apply T.cT; exact rfl; assumption)
    | apply T.seq
    | (apply T.ret; change Done _ _ _ _ _))
  exact doneV (by simp) Try.results10 rfl (congrArg Value.bool (decide_eq_false fun h => by have := h.1.2; omega).symm)
theorem rq_validL (l : List PieceR) (hn : l.length ≤ 1000000000000000) : Fn0 Try.prog 6 [.sl (l.map PieceR.row)] (.b (decide (curveP l))) := by
  by_cases h : l.length ≤ 1000000
  · exact rq_valid l h
  have hle : (l.map PieceR.row).length = l.length := List.length_map _
  have h1 : ¬ (((l.map PieceR.row).length : Nat) : Int) < 1 := by omega
  have h2 : 200 < (((l.map PieceR.row).length : Nat) : Int) := by omega
  refine Fn0.of Try.func6 Try.ntmps6 rfl rfl rfl ?_
  simp only [entryTm]
  repeat' (first
    | (apply S.move; exact rfl; exact rfl)
    | (apply S.assign; exact rfl; exact rfl)
    | (apply S.gFF; exact rfl; exact rfl; assumption)
    | (apply S.pFp; exact rfl; assumption; exact rfl; exact rfl)
    | (apply S.cmp; exact rfl; exact rfl; exact rfl; exact rfl)
    | (apply S.lenR; exact rfl; exact rfl)
    | apply S.nil
    | apply T.regs
    | (apply T.cT; exact rfl; assumption)
    | apply T.seq
    | (apply T.ret; change Done _ _ _ _ _))
  exact doneV (by simp) Try.results6 rfl (congrArg Value.bool (decide_eq_false fun h => by have := h.1.2; omega).symm)
end Go.Proofs.Ytgegcgfdffmoeaa
set_option linter.unusedSimpArgs false
namespace Go.Proofs.Ytgegcgfdffmoeaa
set_option linter.unusedVariables false
open Go.RowKit
set_option maxHeartbeats 32000000 in
theorem law_quadraticValues (l : List PieceR) (n d : Int) (hn : l.length ≤ 1000000000000000) : Fn0 Try.prog 3 [.sl (l.map PieceR.row), rowA [.i n, .i d]] (.b true) := by
  have cl := l08_long l hn
  have pv := qua_validL l hn
  have rv := rq_validL l hn
  have r2 := r02_valid n d
  have z0 : (0 : Int) = 0 := rfl
  have z1 : (1 : Int) = 1 := rfl
  have zz : (0 : Int) = 0 ∧ (0 : Int) = 0 := ⟨rfl, rfl⟩
  by_cases hlong : 12 < l.length ∧ l.length ≤ 200 ∨ 205 < l.length
  · skip
    refine Fn0.of Try.func3 Try.ntmps3 rfl rfl rfl ?_
    simp only [entryTm]
    repeat' (first
      | (apply S.move; exact rfl; exact rfl)
      | (apply S.assign; exact rfl; exact rfl)
      | (apply S.call; exact rfl; exact rfl; exact l08_awake; exact rfl)
      | (apply S.call; exact rfl; exact rfl; exact cl; exact rfl)
      | (apply S.box; exact rfl; exact rfl; exact rfl; exact rfl; exact rfl; exact rfl)
      | (apply S.not; exact rfl; exact rfl; exact rfl)
      | apply S.nil
      | apply T.regs
      | (apply T.cCN; exact rfl)
      | (apply T.cT; exact rfl; assumption)
      | apply T.seq
      | (apply T.skip; first | change T _ _ _ _ _ | change Done _ _ _ _ _ | change Next _ _ _ _ _ _ | skip)
      | (apply T.ret; change Done _ _ _ _ _))
    all_goals exact doneV (by simp) Try.results3 rfl rfl
  by_cases hc : curveP l
  · obtain ⟨hok, hrow, hne, hs⟩ := curveQ_ok hc
    have hlen : (l.map toQ).length ≤ 200 := by rw [List.length_map]; exact hc.1.2
    have pv' := pv
    rw [decide_eq_true hc] at pv rv pv'
    rw [← hrow] at cl pv rv pv' ⊢
    have s1 := qua_smooth (l.map toQ) hok hne (by omega) pv
    have s2 := rq_smooth (l.map toQ) hok hne (by omega)
    generalize l.map toQ = lq at *
    by_cases hv : vF n d
    · obtain ⟨ft, e1, e2⟩ := vF_fits hv
      obtain ⟨t, htt⟩ : ∃ t, t = ratV n d := ⟨_, rfl⟩
      rw [← htt] at ft e1 e2
      subst e1 e2
      have a1 := qua_at lq t hok hne (by omega) ft pv
      have a2 := qua_slope lq t hok hne (by omega) ft pv
      have b0 := rq_piece lq t hok (by omega) ft
      have b1 := rq_at lq t hok hne hs ft
      have b2 := rq_slope lq t hok hne hs ft
      obtain ⟨p1, p2, p3, hp⟩ := isRes_resA (atQ lq t) (atE lq t 0)
      obtain ⟨q1, q2, q3, hq⟩ := isRes_resA (atS lq t) (atSE lq t 0)
      rw [hp] at a1 b1
      rw [hq] at a2 b2
      have k1 : p1 = p1 ∧ p2 = p2 := ⟨rfl, rfl⟩
      have k2 : q1 = q1 ∧ q2 = q2 := ⟨rfl, rfl⟩
      have k3 : p3 = p3 := rfl
      have k4 : q3 = q3 := rfl
      have hv' : ¬ ¬ vF t.num t.den := fun h => h hv
      unfold smA at s1 s2
      by_cases he : smE lq (lq.length - 1) = 0
      · rw [if_pos he] at s1 s2
        generalize decide (smK lq (lq.length - 1)) = sb at s1 s2
        cases sb <;>
        · skip
          refine Fn0.of Try.func3 Try.ntmps3 rfl rfl rfl ?_
          simp only [entryTm]
          repeat' (first
            | (apply S.move; exact rfl; exact rfl)
            | (apply S.assign; exact rfl; exact rfl)
            | (apply S.gC; exact rfl; exact rfl; exact rfl)
            | (apply S.gTT; exact rfl; exact rfl; assumption)
            | (apply S.pCN; exact rfl; exact rfl; exact rfl)
            | (apply S.pTp; exact rfl; assumption; exact rfl; exact rfl)
            | (apply S.call; exact rfl; exact rfl; exact l08_awake; exact rfl)
            | (apply S.call; exact rfl; exact rfl; exact cl; exact rfl)
            | (apply S.call; exact rfl; exact rfl; exact rv; exact rfl)
            | (apply S.call; exact rfl; exact rfl; exact pv; exact rfl)
            | (apply S.call; exact rfl; exact rfl; exact a1; exact rfl)
            | (apply S.call; exact rfl; exact rfl; exact a2; exact rfl)
            | (apply S.call; exact rfl; exact rfl; exact s1; exact rfl)
            | (apply S.call; exact rfl; exact rfl; exact s2; exact rfl)
            | (apply S.call; exact rfl; exact rfl; exact r2; exact rfl)
            | (apply S.call; exact rfl; exact rfl; exact b0; exact rfl)
            | (apply S.call; exact rfl; exact rfl; exact b1; exact rfl)
            | (apply S.call; exact rfl; exact rfl; exact b2; exact rfl)
            | (apply S.boolNeB; exact rfl; exact rfl; exact rfl; exact rfl)
            | (apply S.eq2; exact rfl; exact rfl; exact rfl)
            | (apply T.drawAll anyOrder (by decide +kernel))
            | (apply S.loadPA; exact rfl; exact rfl; exact rfl; exact rfl)
            | (apply S.box; exact rfl; exact rfl; exact rfl; exact rfl; exact rfl; exact rfl)
            | (apply S.alloc; exact rfl; exact rfl; exact rfl; exact rfl; exact rfl)
            | (apply S.store; exact rfl; exact rfl; exact rfl; exact rfl; exact rfl; exact rfl; exact rfl)
            | (apply S.storeD; exact rfl; exact rfl; exact rfl; exact rfl; exact rfl; exact rfl; exact rfl; exact rfl)
            | (apply S.cmp; exact rfl; exact rfl; exact rfl; exact rfl)
            | (apply S.notP; exact rfl; exact rfl)
            | (apply S.not; exact rfl; exact rfl; exact rfl)
            | (apply S.extract; exact rfl; exact rfl; exact rfl)
            | apply S.nil
            | apply T.regs
            | (apply T.cCN; exact rfl)
            | (apply T.cF; exact rfl; assumption)
            | apply T.seq
            | (apply T.skip; first | change T _ _ _ _ _ | change Done _ _ _ _ _ | change Next _ _ _ _ _ _ | skip)
            | (apply T.ret; change Done _ _ _ _ _))
          all_goals exact doneV (by simp) Try.results3 rfl (by simp [*])
      · rw [if_neg he] at s1 s2
        generalize smE lq (lq.length - 1) = se at s1 s2
        have k5 : se = se := rfl
        skip
        refine Fn0.of Try.func3 Try.ntmps3 rfl rfl rfl ?_
        simp only [entryTm]
        repeat' (first
          | (apply S.move; exact rfl; exact rfl)
          | (apply S.assign; exact rfl; exact rfl)
          | (apply S.gC; exact rfl; exact rfl; exact rfl)
          | (apply S.gTT; exact rfl; exact rfl; assumption)
          | (apply S.pCN; exact rfl; exact rfl; exact rfl)
          | (apply S.pTp; exact rfl; assumption; exact rfl; exact rfl)
          | (apply S.call; exact rfl; exact rfl; exact l08_awake; exact rfl)
          | (apply S.call; exact rfl; exact rfl; exact cl; exact rfl)
          | (apply S.call; exact rfl; exact rfl; exact rv; exact rfl)
          | (apply S.call; exact rfl; exact rfl; exact pv; exact rfl)
          | (apply S.call; exact rfl; exact rfl; exact a1; exact rfl)
          | (apply S.call; exact rfl; exact rfl; exact a2; exact rfl)
          | (apply S.call; exact rfl; exact rfl; exact s1; exact rfl)
          | (apply S.call; exact rfl; exact rfl; exact s2; exact rfl)
          | (apply S.call; exact rfl; exact rfl; exact r2; exact rfl)
          | (apply S.call; exact rfl; exact rfl; exact b0; exact rfl)
          | (apply S.call; exact rfl; exact rfl; exact b1; exact rfl)
          | (apply S.call; exact rfl; exact rfl; exact b2; exact rfl)
          | (apply S.boolNeB; exact rfl; exact rfl; exact rfl; exact rfl)
          | (apply S.eq2; exact rfl; exact rfl; exact rfl)
          | (apply T.drawAll anyOrder (by decide +kernel))
          | (apply S.loadPA; exact rfl; exact rfl; exact rfl; exact rfl)
          | (apply S.box; exact rfl; exact rfl; exact rfl; exact rfl; exact rfl; exact rfl)
          | (apply S.alloc; exact rfl; exact rfl; exact rfl; exact rfl; exact rfl)
          | (apply S.store; exact rfl; exact rfl; exact rfl; exact rfl; exact rfl; exact rfl; exact rfl)
          | (apply S.storeD; exact rfl; exact rfl; exact rfl; exact rfl; exact rfl; exact rfl; exact rfl; exact rfl)
          | (apply S.cmp; exact rfl; exact rfl; exact rfl; exact rfl)
          | (apply S.notP; exact rfl; exact rfl)
          | (apply S.not; exact rfl; exact rfl; exact rfl)
          | (apply S.extract; exact rfl; exact rfl; exact rfl)
          | apply S.nil
          | apply T.regs
          | (apply T.cCN; exact rfl)
          | (apply T.cF; exact rfl; assumption)
          | (apply T.cFn; exact rfl; assumption)
          | apply T.seq
          | (apply T.skip; first | change T _ _ _ _ _ | change Done _ _ _ _ _ | change Next _ _ _ _ _ _ | skip)
          | (apply T.ret; change Done _ _ _ _ _))
        all_goals exact doneV (by simp) Try.results3 rfl (by simp [*])
    · have a1 := qua_at_bad (lq.map PcQ.row) n d true pv fun _ => hv
      have a2 := qua_slope_bad (lq.map PcQ.row) n d true pv fun _ => hv
      unfold smA at s1 s2
      by_cases he : smE lq (lq.length - 1) = 0
      · rw [if_pos he] at s1 s2
        generalize decide (smK lq (lq.length - 1)) = sb at s1 s2
        cases sb <;>
        · skip
          refine Fn0.of Try.func3 Try.ntmps3 rfl rfl rfl ?_
          simp only [entryTm]
          repeat' (first
            | (apply S.move; exact rfl; exact rfl)
            | (apply S.assign; exact rfl; exact rfl)
            | (apply S.gC; exact rfl; exact rfl; exact rfl)
            | (apply S.pC; exact rfl; exact rfl; exact rfl)
            | (apply S.pCN; exact rfl; exact rfl; exact rfl)
            | (apply S.call; exact rfl; exact rfl; exact l08_awake; exact rfl)
            | (apply S.call; exact rfl; exact rfl; exact cl; exact rfl)
            | (apply S.call; exact rfl; exact rfl; exact rv; exact rfl)
            | (apply S.call; exact rfl; exact rfl; exact pv; exact rfl)
            | (apply S.call; exact rfl; exact rfl; exact a1; exact rfl)
            | (apply S.call; exact rfl; exact rfl; exact a2; exact rfl)
            | (apply S.call; exact rfl; exact rfl; exact s1; exact rfl)
            | (apply S.call; exact rfl; exact rfl; exact s2; exact rfl)
            | (apply S.call; exact rfl; exact rfl; exact r2; exact rfl)
            | (apply S.boolNeB; exact rfl; exact rfl; exact rfl; exact rfl)
            | (apply S.eq2; exact rfl; exact rfl; exact rfl)
            | (apply S.buildN; exact rfl; exact rfl; exact rfl)
            | (apply S.loadPA; exact rfl; exact rfl; exact rfl; exact rfl)
            | (apply S.box; exact rfl; exact rfl; exact rfl; exact rfl; exact rfl; exact rfl)
            | (apply S.alloc; exact rfl; exact rfl; exact rfl; exact rfl; exact rfl)
            | (apply S.store; exact rfl; exact rfl; exact rfl; exact rfl; exact rfl; exact rfl; exact rfl)
            | (apply S.cmp; exact rfl; exact rfl; exact rfl; exact rfl)
            | (apply S.notP; exact rfl; exact rfl)
            | (apply S.not; exact rfl; exact rfl; exact rfl)
            | (apply S.extract; exact rfl; exact rfl; exact rfl)
            | apply S.nil
            | apply T.regs
            | (apply T.cCN; exact rfl)
            | (apply T.cT; exact rfl; assumption)
            | (apply T.cF; exact rfl; assumption)
            | apply T.seq
            | (apply T.skip; first | change T _ _ _ _ _ | change Done _ _ _ _ _ | change Next _ _ _ _ _ _ | skip)
            | (apply T.ret; change Done _ _ _ _ _))
          all_goals exact doneV (by simp) Try.results3 rfl (by simp [*])
      · rw [if_neg he] at s1 s2
        generalize smE lq (lq.length - 1) = se at s1 s2
        have k5 : se = se := rfl
        skip
        refine Fn0.of Try.func3 Try.ntmps3 rfl rfl rfl ?_
        simp only [entryTm]
        repeat' (first
          | (apply S.move; exact rfl; exact rfl)
          | (apply S.assign; exact rfl; exact rfl)
          | (apply S.gC; exact rfl; exact rfl; exact rfl)
          | (apply S.pC; exact rfl; exact rfl; exact rfl)
          | (apply S.pCN; exact rfl; exact rfl; exact rfl)
          | (apply S.call; exact rfl; exact rfl; exact l08_awake; exact rfl)
          | (apply S.call; exact rfl; exact rfl; exact cl; exact rfl)
          | (apply S.call; exact rfl; exact rfl; exact rv; exact rfl)
          | (apply S.call; exact rfl; exact rfl; exact pv; exact rfl)
          | (apply S.call; exact rfl; exact rfl; exact a1; exact rfl)
          | (apply S.call; exact rfl; exact rfl; exact a2; exact rfl)
          | (apply S.call; exact rfl; exact rfl; exact s1; exact rfl)
          | (apply S.call; exact rfl; exact rfl; exact s2; exact rfl)
          | (apply S.call; exact rfl; exact rfl; exact r2; exact rfl)
          | (apply S.boolNeB; exact rfl; exact rfl; exact rfl; exact rfl)
          | (apply S.eq2; exact rfl; exact rfl; exact rfl)
          | (apply S.buildN; exact rfl; exact rfl; exact rfl)
          | (apply S.loadPA; exact rfl; exact rfl; exact rfl; exact rfl)
          | (apply S.box; exact rfl; exact rfl; exact rfl; exact rfl; exact rfl; exact rfl)
          | (apply S.alloc; exact rfl; exact rfl; exact rfl; exact rfl; exact rfl)
          | (apply S.store; exact rfl; exact rfl; exact rfl; exact rfl; exact rfl; exact rfl; exact rfl)
          | (apply S.cmp; exact rfl; exact rfl; exact rfl; exact rfl)
          | (apply S.notP; exact rfl; exact rfl)
          | (apply S.not; exact rfl; exact rfl; exact rfl)
          | (apply S.extract; exact rfl; exact rfl; exact rfl)
          | apply S.nil
          | apply T.regs
          | (apply T.cCN; exact rfl)
          | (apply T.cT; exact rfl; assumption)
          | (apply T.cF; exact rfl; assumption)
          | (apply T.cFn; exact rfl; assumption)
          | apply T.seq
          | (apply T.skip; first | change T _ _ _ _ _ | change Done _ _ _ _ _ | change Next _ _ _ _ _ _ | skip)
          | (apply T.ret; change Done _ _ _ _ _))
        all_goals exact doneV (by simp) Try.results3 rfl (by simp [*])
  · rw [decide_eq_false hc] at pv rv
    have a1 := qua_at_bad (l.map PieceR.row) n d false pv (fun h => by cases h)
    have a2 := qua_slope_bad (l.map PieceR.row) n d false pv (fun h => by cases h)
    have s1 := qua_smooth_bad (l.map PieceR.row) pv
    refine Fn0.of Try.func3 Try.ntmps3 rfl rfl rfl ?_
    simp only [entryTm]
    repeat' (first
      | (apply S.move; exact rfl; exact rfl)
      | (apply S.assign; exact rfl; exact rfl)
      | (apply S.gC; exact rfl; exact rfl; exact rfl)
      | (apply S.pC; exact rfl; exact rfl; exact rfl)
      | (apply S.call; exact rfl; exact rfl; exact l08_awake; exact rfl)
      | (apply S.call; exact rfl; exact rfl; exact cl; exact rfl)
      | (apply S.call; exact rfl; exact rfl; exact rv; exact rfl)
      | (apply S.call; exact rfl; exact rfl; exact pv; exact rfl)
      | (apply S.call; exact rfl; exact rfl; exact a1; exact rfl)
      | (apply S.call; exact rfl; exact rfl; exact a2; exact rfl)
      | (apply S.call; exact rfl; exact rfl; exact s1; exact rfl)
      | (apply S.boolNeB; exact rfl; exact rfl; exact rfl; exact rfl)
      | (apply S.eq2; exact rfl; exact rfl; exact rfl)
      | (apply S.buildN; exact rfl; exact rfl; exact rfl)
      | (apply S.loadPA; exact rfl; exact rfl; exact rfl; exact rfl)
      | (apply S.box; exact rfl; exact rfl; exact rfl; exact rfl; exact rfl; exact rfl)
      | (apply S.alloc; exact rfl; exact rfl; exact rfl; exact rfl; exact rfl)
      | (apply S.store; exact rfl; exact rfl; exact rfl; exact rfl; exact rfl; exact rfl; exact rfl)
      | (apply S.cmp; exact rfl; exact rfl; exact rfl; exact rfl)
      | (apply S.not; exact rfl; exact rfl; exact rfl)
      | (apply S.extract; exact rfl; exact rfl; exact rfl)
      | apply S.nil
      | apply T.regs
      | (apply T.cC; exact rfl)
      | (apply T.cCN; exact rfl)
      | (apply T.cF; exact rfl; assumption)
      | apply T.seq
      | (apply T.skip; first | change T _ _ _ _ _ | change Done _ _ _ _ _ | change Next _ _ _ _ _ _ | skip)
      | (apply T.ret; change Done _ _ _ _ _))
    all_goals exact doneV (by simp) Try.results3 rfl (by simp [*])
end Go.Proofs.Ytgegcgfdffmoeaa
