/- Contracts: helpers of the laws on sums. No conditions but those of each statement. -/
import Derived.Test.YtgegcgfdffmoeaaGreatNm
import Derived.Test.YtgegcgfdffmoeaaGreatOg
set_option linter.unusedSimpArgs false
namespace Go.Proofs.YtgegcgfdffmoeaaGreat
set_option linter.unusedVariables false
open Go Go.RowKit
theorem len12 {n : Nat} {q : Prop} [Decidable q] (h : n ≤ 12) (hq : q) (p : Prop) [Decidable p] : Value.bool (decide p) = Value.bool (decide ((n ≤ 12 ∧ q) ∧ p)) := by
  simp [h, hq]
theorem len12' {n : Nat} {q : Prop} [Decidable q] (h : n ≤ 12) (hq : q) : Value.bool true = Value.bool (decide (n ≤ 12 ∧ q)) := by
  simp [h, hq]
theorem l08_right (l : List PieceR) (ts : List (Int × Int)) (hn : l.length ≤ 1000000000000000) (ht : ts.length ≤ 1000000) : Fn0 Tryz.prog 22 [.sl (l.map PieceR.row), .sl (ts.map intR2)] (.b (decide ((l.length ≤ 12 ∧ curveP l) ∧ ∀ p ∈ ts, vF p.1 p.2))) := by
  have hle : (l.map PieceR.row).length = l.length := List.length_map _
  have rv := rq_validL l hn
  have ra := r02_all ts ht
  by_cases h1 : (((l.map PieceR.row).length : Nat) : Int) ≤ 12
  · by_cases h2 : curveP l
    · rw [decide_eq_true h2] at rv
      refine Fn0.of Tryz.func22 Tryz.ntmps22 rfl rfl rfl ?_
      simp only [entryTm]
      repeat' (first|(apply S.move;exact rfl;exact rfl)|(apply S.assign;exact rfl;exact rfl)|(apply S.gC;exact rfl;exact rfl;exact rfl)|(apply S.gTT;exact rfl;exact rfl;assumption)|(apply S.pC;exact rfl;exact rfl;exact rfl)|(apply S.pTp;exact rfl;assumption;exact rfl;exact rfl)|(apply S.call;exact rfl;exact rfl;exact rv;exact rfl)|(apply S.call;exact rfl;exact rfl;exact ra;exact rfl)|(apply S.cmp;(iterate 4 exact rfl))|(apply S.lenR;exact rfl;exact rfl) | apply S.nil | apply T.regs|(apply T.ret;change Done _ _ _ _ _))
      all_goals exact doneV (by simp) Tryz.results22 rfl (len12 (by omega) h2 _)
    · rw [decide_eq_false h2] at rv
      refine Fn0.of Tryz.func22 Tryz.ntmps22 rfl rfl rfl ?_
      simp only [entryTm]
      repeat' (first|(apply S.move;exact rfl;exact rfl)|(apply S.assign;exact rfl;exact rfl)|(apply S.gCN;(iterate 4 exact rfl))|(apply S.gTT;exact rfl;exact rfl;assumption)|(apply S.pCN;exact rfl;exact rfl;exact rfl)|(apply S.pTp;exact rfl;assumption;exact rfl;exact rfl)|(apply S.call;exact rfl;exact rfl;exact rv;exact rfl)|(apply S.cmp;(iterate 4 exact rfl))|(apply S.lenR;exact rfl;exact rfl) | apply S.nil | apply T.regs|(apply T.ret;change Done _ _ _ _ _))
      all_goals exact doneV (by simp) Tryz.results22 rfl (by simp [h2])
  · skip
    refine Fn0.of Tryz.func22 Tryz.ntmps22 rfl rfl rfl ?_
    simp only [entryTm]
    repeat' (first|(apply S.move;exact rfl;exact rfl)|(apply S.assign;exact rfl;exact rfl)|(apply S.gCN;(iterate 4 exact rfl))|(apply S.gTF;exact rfl;exact rfl;assumption;exact rfl)|(apply S.pCN;exact rfl;exact rfl;exact rfl)|(apply S.pFp;exact rfl;assumption;exact rfl;exact rfl)|(apply S.cmp;(iterate 4 exact rfl))|(apply S.lenR;exact rfl;exact rfl) | apply S.nil | apply T.regs|(apply T.ret;change Done _ _ _ _ _))
    all_goals exact doneV (by simp) Tryz.results22 rfl (by simp;omega)
theorem l08_rightN (l : List PieceR) (hn : l.length ≤ 1000000000000000) : Fn0 Tryz.prog 22 [.sl (l.map PieceR.row), .val (.slice none 0 0)] (.b (decide (l.length ≤ 12 ∧ curveP l))) := by
  have hle : (l.map PieceR.row).length = l.length := List.length_map _
  have rv := rq_validL l hn
  have ra := r02_all [] (by simp)
  rw [decide_eq_true (by simp)] at ra
  by_cases h1 : (((l.map PieceR.row).length : Nat) : Int) ≤ 12
  · by_cases h2 : curveP l
    · rw [decide_eq_true h2] at rv
      refine Fn0.of Tryz.func22 Tryz.ntmps22 rfl rfl rfl ?_
      simp only [entryTm]
      refine T.nilU 1 rfl ?_
      repeat' (first|(apply S.move;exact rfl;exact rfl)|(apply S.assign;exact rfl;exact rfl)|(apply S.gC;exact rfl;exact rfl;exact rfl)|(apply S.gTT;exact rfl;exact rfl;assumption)|(apply S.pC;exact rfl;exact rfl;exact rfl)|(apply S.pTp;exact rfl;assumption;exact rfl;exact rfl)|(apply S.call;exact rfl;exact rfl;exact rv;exact rfl)|(apply S.call;exact rfl;exact rfl;exact ra;exact rfl)|(apply S.cmp;(iterate 4 exact rfl))|(apply S.lenR;exact rfl;exact rfl) | apply S.nil | apply T.regs|(apply T.ret;change Done _ _ _ _ _))
      all_goals exact doneV (by simp) Tryz.results22 rfl (len12' (by omega) h2)
    · rw [decide_eq_false h2] at rv
      refine Fn0.of Tryz.func22 Tryz.ntmps22 rfl rfl rfl ?_
      simp only [entryTm]
      repeat' (first|(apply S.move;exact rfl;exact rfl)|(apply S.assign;exact rfl;exact rfl)|(apply S.gCN;(iterate 4 exact rfl))|(apply S.gTT;exact rfl;exact rfl;assumption)|(apply S.pCN;exact rfl;exact rfl;exact rfl)|(apply S.pTp;exact rfl;assumption;exact rfl;exact rfl)|(apply S.call;exact rfl;exact rfl;exact rv;exact rfl)|(apply S.cmp;(iterate 4 exact rfl))|(apply S.lenR;exact rfl;exact rfl) | apply S.nil | apply T.regs|(apply T.ret;change Done _ _ _ _ _))
      all_goals exact doneV (by simp) Tryz.results22 rfl (by simp [h2])
  · skip
    refine Fn0.of Tryz.func22 Tryz.ntmps22 rfl rfl rfl ?_
    simp only [entryTm]
    repeat' (first|(apply S.move;exact rfl;exact rfl)|(apply S.assign;exact rfl;exact rfl)|(apply S.gCN;(iterate 4 exact rfl))|(apply S.gTF;exact rfl;exact rfl;assumption;exact rfl)|(apply S.pCN;exact rfl;exact rfl;exact rfl)|(apply S.pFp;exact rfl;assumption;exact rfl;exact rfl)|(apply S.cmp;(iterate 4 exact rfl))|(apply S.lenR;exact rfl;exact rfl) | apply S.nil | apply T.regs|(apply T.ret;change Done _ _ _ _ _))
    all_goals exact doneV (by simp) Tryz.results22 rfl (by simp;omega)
theorem l08_fits (e : Int) (h : e = 0 ∨ e = 5) : Fn0 Tryz.prog 25 [.i e] (.b true) := by
  rcases h with rfl | rfl
  · skip
    refine Fn0.of Tryz.func25 Tryz.ntmps25 rfl rfl rfl ?_
    simp only [entryTm]
    repeat' (first|(apply S.move;exact rfl;exact rfl)|(apply S.assign;exact rfl;exact rfl)|(apply S.gCN;(iterate 4 exact rfl))|(apply S.pC;exact rfl;exact rfl;exact rfl)|(apply S.cmp;(iterate 4 exact rfl)) | apply S.nil | apply T.regs|(apply T.ret;change Done _ _ _ _ _))
    all_goals exact doneV (by simp) Tryz.results25 rfl rfl
  · skip
    refine Fn0.of Tryz.func25 Tryz.ntmps25 rfl rfl rfl ?_
    simp only [entryTm]
    repeat' (first|(apply S.move;exact rfl;exact rfl)|(apply S.assign;exact rfl;exact rfl)|(apply S.gC;exact rfl;exact rfl;exact rfl)|(apply S.pCN;exact rfl;exact rfl;exact rfl)|(apply S.cmp;(iterate 4 exact rfl)) | apply S.nil | apply T.regs|(apply T.ret;change Done _ _ _ _ _))
    all_goals exact doneV (by simp) Tryz.results25 rfl rfl
def rx (q : Rat) (e : Int) : Int × Int := if e = 0 then (q.num, (q.den : Int)) else (0, 0)
theorem resA_rx (q : Rat) (e : Int) : resA q e = .tup [rowA [.i (rx q e).1, .i (rx q e).2], .i e] := by
  unfold resA rx
  by_cases h : e = 0
  · rw [if_pos h, if_pos h, h]
  · rw [if_neg h, if_neg h]
theorem rx_ok (q : Rat) {e : Int} (h : e = 0) : rx q e = (q.num, (q.den : Int)) := if_pos h
theorem timesQ_lenJ (a b : List PcQ) : (timesQ a b).length ≤ a.length + b.length := by
  have h := foldQ_len ((a ++ b).map (·.f)) []
  rw [List.length_map, List.length_append, List.length_nil] at h
  rw [timesQ, putAll]
  omega
theorem joinE_small {op : Rat → Rat → Rat} {a b : List PcQ} (h : a.length + b.length ≤ 200) : joinE op a b = jEs op a b (timesQ a b) ∧ joinL op a b = if jEs op a b (timesQ a b) = 0 then (timesQ a b).map (jP op a b) else [] := by
  have := timesQ_lenJ a b
  unfold joinE joinL
  rw [if_neg (by omega), if_neg (by omega)]
  exact ⟨rfl, rfl⟩
end Go.Proofs.YtgegcgfdffmoeaaGreat
