/- Contracts: the walk of the law on sums. No conditions but those of each statement. -/
import Derived.Test.YtgegcgfdffmoeaaGreatNm
import Derived.Test.YtgegcgfdffmoeaaGreatOe
set_option linter.unusedSimpArgs false
namespace Go.Proofs.YtgegcgfdffmoeaaGreat
set_option linter.unusedVariables false
open Go.RowKit
theorem timesQ_len (a b : List PcQ) : (timesQ a b).length ≤ a.length + b.length := by
  have h := foldQ_len ((a ++ b).map (·.f)) []
  rw [List.length_map, List.length_append, List.length_nil] at h
  rw [timesQ, putAll]
  omega
theorem joinL_len (op : Rat → Rat → Rat) (a b : List PcQ) : (joinL op a b).length ≤ a.length + b.length := by
  have := timesQ_len a b
  unfold joinL
  split
  · simp
  · split
    · rw [List.length_map];exact this
    · simp
set_option maxHeartbeats 32000000 in
theorem law_quadraticSums (la lb : List PieceR) (n d : Int) (hn : la.length ≤ 1000000000000000) (hm : lb.length ≤ 1000000000000000) : Fn0 Tryz.prog 4 [.sl (la.map PieceR.row), .sl (lb.map PieceR.row), rowA [.i n, .i d]] (.b true) := by
  have ca := l08_long la hn
  have cb := l08_long lb hm
  have pa := qua_validL la hn
  have pb := qua_validL lb hm
  have ra := rq_validL la hn
  have rb := rq_validL lb hm
  have v1 := r02_valid n d
  have pv := qua_valid1 n d
  have zz : ((([] : List (List Lf)).length : Nat) : Int) = 0 := rfl
  have zn : ¬ ¬ ((([] : List (List Lf)).length : Nat) : Int) = 0 := fun h => h rfl
  have z1 : (1 : Int) = 1 := rfl
  have zm : ¬ ¬ (1 : Int) = 1 := fun h => h rfl
  by_cases hla : 12 < la.length ∧ la.length ≤ 200 ∨ 205 < la.length
  · skip
    refine Fn0.of Tryz.func4 Tryz.ntmps4 rfl rfl rfl ?_
    simp only [entryTm]
    repeat' (first|(apply S.move;exact rfl;exact rfl)|(apply S.assign;exact rfl;exact rfl)|(apply S.gFT;exact rfl;exact rfl;assumption;exact rfl)|(apply S.pTp;exact rfl;assumption;exact rfl;exact rfl)|(apply S.call;exact rfl;exact rfl;exact l08_awake;exact rfl)|(apply S.call;exact rfl;exact rfl;exact ca;exact rfl)|(apply S.box;(iterate 6 exact rfl))|(apply S.not;exact rfl;exact rfl;exact rfl) | apply S.nil | apply T.regs|(apply T.cC;exact rfl)|(apply T.cCN;exact rfl) | apply T.seq|(apply T.skip;first | change T _ _ _ _ _ | change Done _ _ _ _ _ | change Next _ _ _ _ _ _ | skip)|(apply T.ret;change Done _ _ _ _ _))
    all_goals exact doneV (by simp) Tryz.results4 rfl rfl
  by_cases hlb : 12 < lb.length ∧ lb.length ≤ 200 ∨ 205 < lb.length
  · skip
    refine Fn0.of Tryz.func4 Tryz.ntmps4 rfl rfl rfl ?_
    simp only [entryTm]
    repeat' (first|(apply S.move;exact rfl;exact rfl)|(apply S.assign;exact rfl;exact rfl)|(apply S.gFF;exact rfl;exact rfl;assumption)|(apply S.pFp;exact rfl;assumption;exact rfl;exact rfl)|(apply S.call;exact rfl;exact rfl;exact l08_awake;exact rfl)|(apply S.call;exact rfl;exact rfl;exact ca;exact rfl)|(apply S.call;exact rfl;exact rfl;exact cb;exact rfl)|(apply S.box;(iterate 6 exact rfl))|(apply S.not;exact rfl;exact rfl;exact rfl) | apply S.nil | apply T.regs|(apply T.cCN;exact rfl)|(apply T.cT;exact rfl;assumption) | apply T.seq|(apply T.skip;first | change T _ _ _ _ _ | change Done _ _ _ _ _ | change Next _ _ _ _ _ _ | skip)|(apply T.ret;change Done _ _ _ _ _))
    all_goals exact doneV (by simp) Tryz.results4 rfl rfl
  by_cases hA : curveP la
  · obtain ⟨hok, hrow, hne, hs⟩ := curveQ_ok hA
    have hlen : (la.map toQ).length ≤ 200 := by rw [List.length_map];exact hA.1.2
    rw [decide_eq_true hA] at pa ra
    rw [← hrow] at ca pa ra ⊢
    generalize la.map toQ = qa at *
    by_cases hB : curveP lb
    · obtain ⟨hok2, hrow2, hne2, hs2⟩ := curveQ_ok hB
      have hlen2 : (lb.map toQ).length ≤ 200 := by rw [List.length_map];exact hB.1.2
      rw [decide_eq_true hB] at pb rb
      rw [← hrow2] at cb pb rb ⊢
      generalize lb.map toQ = qb at *
      have x1 := qua_add qa qb hok hok2 hne hne2 hlen hlen2 pa pb
      have x2 := qua_sub qa qb hok hok2 hne hne2 hlen hlen2 pa pb
      have y1 := rq_add0 qa qb hok hok2 hne hne2 hs hs2 hlen hlen2
      have y2 := rq_sub qa qb hok hok2 hne hne2 hs hs2 hlen hlen2
      have s1 := rq_same (joinL (· + ·) qa qb) (by have := joinL_len (· + ·) qa qb;omega)
      have s2 := rq_same (joinL (· - ·) qa qb) (by have := joinL_len (· - ·) qa qb;omega)
      change Fn0 _ _ _ (.tup [.sl ((joinL (· + ·) qa qb).map PcQ.row), .i (joinE (· + ·) qa qb)]) at y1
      generalize joinL (· + ·) qa qb = l1 at *
      generalize joinL (· - ·) qa qb = l2 at *
      generalize joinE (· + ·) qa qb = e1 at *
      generalize joinE (· - ·) qa qb = e2 at *
      have k1 : e1 = e1 := rfl
      have k2 : e2 = e2 := rfl
      have k3 : ¬ ¬ e1 = e1 := fun h => h rfl
      have k4 : ¬ ¬ e2 = e2 := fun h => h rfl
      by_cases hV : vF n d
      · obtain ⟨ff, f1, f2⟩ := vF_fits hV
        obtain ⟨by_, hby⟩ : ∃ t, t = ratV n d := ⟨_, rfl⟩
        rw [← hby] at ff f1 f2
        rw [decide_eq_true hV] at v1 pv
        subst f1 f2
        have x3 := qua_shift qa by_ hok ff hne hlen pa pv
        have y3 := rq_shift qa by_ hok ff hne (by omega)
        have s3 := rq_same (if shEs by_ qa = 0 then qa.map (shP by_) else []) (by split <;> simp;omega)
        generalize (if shEs by_ qa = 0 then qa.map (shP by_) else []) = l3 at *
        generalize shEs by_ qa = e3 at *
        have k5 : e3 = e3 := rfl
        have k6 : ¬ ¬ e3 = e3 := fun h => h rfl
        refine Fn0.of Tryz.func4 Tryz.ntmps4 rfl rfl rfl ?_
        simp only [entryTm]
        repeat' (first|(apply S.move;exact rfl;exact rfl)|(apply S.assign;exact rfl;exact rfl)|(apply S.gC;exact rfl;exact rfl;exact rfl)|(apply S.gTT;exact rfl;exact rfl;assumption)|(apply S.gFF;exact rfl;exact rfl;assumption)|(apply S.pC;exact rfl;exact rfl;exact rfl)|(apply S.pCN;exact rfl;exact rfl;exact rfl)|(apply S.pTp;exact rfl;assumption;exact rfl;exact rfl)|(apply S.pFp;exact rfl;assumption;exact rfl;exact rfl)|(apply S.call;exact rfl;exact rfl;exact l08_awake;exact rfl)|(apply S.call;exact rfl;exact rfl;exact ca;exact rfl)|(apply S.call;exact rfl;exact rfl;exact cb;exact rfl)|(apply S.call;exact rfl;exact rfl;exact ra;exact rfl)|(apply S.call;exact rfl;exact rfl;exact rb;exact rfl)|(apply S.call;exact rfl;exact rfl;exact v1;exact rfl)|(apply S.call;exact rfl;exact rfl;exact x1;exact rfl)|(apply S.call;exact rfl;exact rfl;exact x2;exact rfl)|(apply S.call;exact rfl;exact rfl;exact x3;exact rfl)|(apply S.call;exact rfl;exact rfl;exact y1;exact rfl)|(apply S.call;exact rfl;exact rfl;exact y2;exact rfl)|(apply S.call;exact rfl;exact rfl;exact y3;exact rfl)|(apply S.call;exact rfl;exact rfl;exact s1;exact rfl)|(apply S.call;exact rfl;exact rfl;exact s2;exact rfl)|(apply S.call;exact rfl;exact rfl;exact s3;exact rfl)|(apply S.loadPA;(iterate 4 exact rfl))|(apply S.box;(iterate 6 exact rfl))|(apply S.cmp;(iterate 4 exact rfl))|(apply S.not;exact rfl;exact rfl;exact rfl)|(apply S.extract;exact rfl;exact rfl;exact rfl) | apply S.nil | apply T.regs|(apply T.cCN;exact rfl)|(apply T.cF;exact rfl;assumption) | apply T.seq|(apply T.skip;first | change T _ _ _ _ _ | change Done _ _ _ _ _ | change Next _ _ _ _ _ _ | skip)|(apply T.ret;change Done _ _ _ _ _))
        all_goals exact doneV (by simp) Tryz.results4 rfl (by simp [*])
      · rw [decide_eq_false hV] at v1 pv
        have x3 := qua_shift_bad2 (qa.map PcQ.row) n d pa pv
        refine Fn0.of Tryz.func4 Tryz.ntmps4 rfl rfl rfl ?_
        simp only [entryTm]
        repeat' (first|(apply S.move;exact rfl;exact rfl)|(apply S.assign;exact rfl;exact rfl)|(apply S.gC;exact rfl;exact rfl;exact rfl)|(apply S.gTT;exact rfl;exact rfl;assumption)|(apply S.gFF;exact rfl;exact rfl;assumption)|(apply S.pC;exact rfl;exact rfl;exact rfl)|(apply S.pCN;exact rfl;exact rfl;exact rfl)|(apply S.pTp;exact rfl;assumption;exact rfl;exact rfl)|(apply S.pFp;exact rfl;assumption;exact rfl;exact rfl)|(apply S.call;exact rfl;exact rfl;exact l08_awake;exact rfl)|(apply S.call;exact rfl;exact rfl;exact ca;exact rfl)|(apply S.call;exact rfl;exact rfl;exact cb;exact rfl)|(apply S.call;exact rfl;exact rfl;exact ra;exact rfl)|(apply S.call;exact rfl;exact rfl;exact rb;exact rfl)|(apply S.call;exact rfl;exact rfl;exact v1;exact rfl)|(apply S.call;exact rfl;exact rfl;exact x1;exact rfl)|(apply S.call;exact rfl;exact rfl;exact x2;exact rfl)|(apply S.call;exact rfl;exact rfl;exact x3;exact rfl)|(apply S.call;exact rfl;exact rfl;exact y1;exact rfl)|(apply S.call;exact rfl;exact rfl;exact y2;exact rfl)|(apply S.call;exact rfl;exact rfl;exact s1;exact rfl)|(apply S.call;exact rfl;exact rfl;exact s2;exact rfl)|(apply S.loadPA;(iterate 4 exact rfl))|(apply S.box;(iterate 6 exact rfl))|(apply S.cmp;(iterate 4 exact rfl))|(apply S.not;exact rfl;exact rfl;exact rfl)|(apply S.extract;exact rfl;exact rfl;exact rfl)|(apply S.lenR;exact rfl;exact rfl) | apply S.nil | apply T.regs|(apply T.cC;exact rfl)|(apply T.cCN;exact rfl)|(apply T.cF;exact rfl;assumption) | apply T.seq|(apply T.skip;first | change T _ _ _ _ _ | change Done _ _ _ _ _ | change Next _ _ _ _ _ _ | skip)|(apply T.ret;change Done _ _ _ _ _))
        all_goals exact doneV (by simp) Tryz.results4 rfl (by simp [*])
    · rw [decide_eq_false hB] at pb rb
      have x1 := qua_add_bad2 (qa.map PcQ.row) (lb.map PieceR.row) pa pb
      have x2 := qua_sub_bad2 (qa.map PcQ.row) (lb.map PieceR.row) pa pb
      by_cases hV : vF n d
      · obtain ⟨ff, f1, f2⟩ := vF_fits hV
        obtain ⟨by_, hby⟩ : ∃ t, t = ratV n d := ⟨_, rfl⟩
        rw [← hby] at ff f1 f2
        rw [decide_eq_true hV] at v1 pv
        subst f1 f2
        have x3 := qua_shift qa by_ hok ff hne hlen pa pv
        have y3 := rq_shift qa by_ hok ff hne (by omega)
        have s3 := rq_same (if shEs by_ qa = 0 then qa.map (shP by_) else []) (by split <;> simp;omega)
        generalize (if shEs by_ qa = 0 then qa.map (shP by_) else []) = l3 at *
        generalize shEs by_ qa = e3 at *
        have k5 : e3 = e3 := rfl
        have k6 : ¬ ¬ e3 = e3 := fun h => h rfl
        refine Fn0.of Tryz.func4 Tryz.ntmps4 rfl rfl rfl ?_
        simp only [entryTm]
        repeat' (first|(apply S.move;exact rfl;exact rfl)|(apply S.assign;exact rfl;exact rfl)|(apply S.gC;exact rfl;exact rfl;exact rfl)|(apply S.gFF;exact rfl;exact rfl;assumption)|(apply S.pC;exact rfl;exact rfl;exact rfl)|(apply S.pCN;exact rfl;exact rfl;exact rfl)|(apply S.pFp;exact rfl;assumption;exact rfl;exact rfl)|(apply S.call;exact rfl;exact rfl;exact l08_awake;exact rfl)|(apply S.call;exact rfl;exact rfl;exact ca;exact rfl)|(apply S.call;exact rfl;exact rfl;exact cb;exact rfl)|(apply S.call;exact rfl;exact rfl;exact ra;exact rfl)|(apply S.call;exact rfl;exact rfl;exact rb;exact rfl)|(apply S.call;exact rfl;exact rfl;exact v1;exact rfl)|(apply S.call;exact rfl;exact rfl;exact x1;exact rfl)|(apply S.call;exact rfl;exact rfl;exact x2;exact rfl)|(apply S.call;exact rfl;exact rfl;exact x3;exact rfl)|(apply S.call;exact rfl;exact rfl;exact y3;exact rfl)|(apply S.call;exact rfl;exact rfl;exact s3;exact rfl)|(apply S.loadPA;(iterate 4 exact rfl))|(apply S.box;(iterate 6 exact rfl))|(apply S.cmp;(iterate 4 exact rfl))|(apply S.not;exact rfl;exact rfl;exact rfl)|(apply S.extract;exact rfl;exact rfl;exact rfl)|(apply S.lenR;exact rfl;exact rfl) | apply S.nil | apply T.regs|(apply T.cC;exact rfl)|(apply T.cCN;exact rfl)|(apply T.cF;exact rfl;assumption) | apply T.seq|(apply T.skip;first | change T _ _ _ _ _ | change Done _ _ _ _ _ | change Next _ _ _ _ _ _ | skip)|(apply T.ret;change Done _ _ _ _ _))
        all_goals exact doneV (by simp) Tryz.results4 rfl (by simp [*])
      · rw [decide_eq_false hV] at v1 pv
        have x3 := qua_shift_bad2 (qa.map PcQ.row) n d pa pv
        refine Fn0.of Tryz.func4 Tryz.ntmps4 rfl rfl rfl ?_
        simp only [entryTm]
        repeat' (first|(apply S.move;exact rfl;exact rfl)|(apply S.assign;exact rfl;exact rfl)|(apply S.gC;exact rfl;exact rfl;exact rfl)|(apply S.gFF;exact rfl;exact rfl;assumption)|(apply S.pC;exact rfl;exact rfl;exact rfl)|(apply S.pCN;exact rfl;exact rfl;exact rfl)|(apply S.pFp;exact rfl;assumption;exact rfl;exact rfl)|(apply S.call;exact rfl;exact rfl;exact l08_awake;exact rfl)|(apply S.call;exact rfl;exact rfl;exact ca;exact rfl)|(apply S.call;exact rfl;exact rfl;exact cb;exact rfl)|(apply S.call;exact rfl;exact rfl;exact ra;exact rfl)|(apply S.call;exact rfl;exact rfl;exact rb;exact rfl)|(apply S.call;exact rfl;exact rfl;exact v1;exact rfl)|(apply S.call;exact rfl;exact rfl;exact x1;exact rfl)|(apply S.call;exact rfl;exact rfl;exact x2;exact rfl)|(apply S.call;exact rfl;exact rfl;exact x3;exact rfl)|(apply S.loadPA;(iterate 4 exact rfl))|(apply S.box;(iterate 6 exact rfl))|(apply S.cmp;(iterate 4 exact rfl))|(apply S.not;exact rfl;exact rfl;exact rfl)|(apply S.extract;exact rfl;exact rfl;exact rfl)|(apply S.lenR;exact rfl;exact rfl) | apply S.nil | apply T.regs|(apply T.cC;exact rfl)|(apply T.cCN;exact rfl)|(apply T.cF;exact rfl;assumption) | apply T.seq|(apply T.skip;first | change T _ _ _ _ _ | change Done _ _ _ _ _ | change Next _ _ _ _ _ _ | skip)|(apply T.ret;change Done _ _ _ _ _))
        all_goals exact doneV (by simp) Tryz.results4 rfl (by simp [*])
  · rw [decide_eq_false hA] at pa ra
    have x1 := qua_add_bad (la.map PieceR.row) (lb.map PieceR.row) pa
    have x2 := qua_sub_bad (la.map PieceR.row) (lb.map PieceR.row) pa
    have x3 := qua_shift_bad (la.map PieceR.row) [.i n, .i d] rfl pa
    refine Fn0.of Tryz.func4 Tryz.ntmps4 rfl rfl rfl ?_
    simp only [entryTm]
    repeat' (first|(apply S.move;exact rfl;exact rfl)|(apply S.assign;exact rfl;exact rfl)|(apply S.gC;exact rfl;exact rfl;exact rfl)|(apply S.gCN;(iterate 4 exact rfl))|(apply S.gFF;exact rfl;exact rfl;assumption)|(apply S.pC;exact rfl;exact rfl;exact rfl)|(apply S.pCN;exact rfl;exact rfl;exact rfl)|(apply S.pFp;exact rfl;assumption;exact rfl;exact rfl)|(apply S.call;exact rfl;exact rfl;exact l08_awake;exact rfl)|(apply S.call;exact rfl;exact rfl;exact ca;exact rfl)|(apply S.call;exact rfl;exact rfl;exact cb;exact rfl)|(apply S.call;exact rfl;exact rfl;exact ra;exact rfl)|(apply S.call;exact rfl;exact rfl;exact x1;exact rfl)|(apply S.call;exact rfl;exact rfl;exact x2;exact rfl)|(apply S.call;exact rfl;exact rfl;exact x3;exact rfl)|(apply S.loadPA;(iterate 4 exact rfl))|(apply S.box;(iterate 6 exact rfl))|(apply S.cmp;(iterate 4 exact rfl))|(apply S.not;exact rfl;exact rfl;exact rfl)|(apply S.extract;exact rfl;exact rfl;exact rfl)|(apply S.lenR;exact rfl;exact rfl) | apply S.nil | apply T.regs|(apply T.cC;exact rfl)|(apply T.cCN;exact rfl)|(apply T.cF;exact rfl;assumption) | apply T.seq|(apply T.skip;first | change T _ _ _ _ _ | change Done _ _ _ _ _ | change Next _ _ _ _ _ _ | skip)|(apply T.ret;change Done _ _ _ _ _))
    all_goals exact doneV (by simp) Tryz.results4 rfl (by simp [*])
end Go.Proofs.YtgegcgfdffmoeaaGreat
