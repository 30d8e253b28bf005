/- Plain facts: curves that are valid over fractions;the piece at a time;values of the program and of the reference. No conditions but those of each statement. -/
import Derived.Test.YtlncmkafjjomgaaGreatNl
set_option linter.unusedSimpArgs false
namespace Go.Proofs.YtlncmkafjjomgaaGreat
set_option linter.unusedVariables false
open Go.RowKit
def sortC (l : List PcQ) : Prop := ∀ i, i + 1 < l.length → (pcAt l i).f < (pcAt l (i + 1)).f
theorem curveQ_ok {l : List PieceR} (h : curveP l) : okC (l.map toQ) ∧ (l.map toQ).map PcQ.row = l.map PieceR.row ∧ l.map toQ ≠ [] ∧ sortC (l.map toQ) := by
 obtain ⟨h1, h2, h3⟩ := h
 refine ⟨fun p hp => ?_, ?_, fun e => ?_, fun i hi => ?_⟩
 ·obtain ⟨x, hx, rfl⟩ := List.mem_map.1 hp
  exact (h2 x hx).ok.1
 ·rw [List.map_map]
  exact List.map_congr_left fun x hx => (h2 x hx).ok.2
 ·have := congrArg List.length e
  rw [List.length_map, List.length_nil] at this
  omega
 ·rw [List.length_map] at hi
  have a1 : (l.map toQ)[i]? = some (toQ (l[i]'(by omega))) := by rw [List.getElem?_map, List.getElem?_eq_getElem (by omega)];rfl
  have a2 : (l.map toQ)[i + 1]? = some (toQ (l[i + 1]'(by omega))) := by rw [List.getElem?_map, List.getElem?_eq_getElem (by omega)];rfl
  rw [pcAt_of a1, pcAt_of a2, ← fromK_of (List.getElem?_eq_getElem (by omega)), ← fromK_of (List.getElem?_eq_getElem (by omega))]
  exact h3 i (by omega)
theorem rq_validL (l : List PieceR) (hn : l.length ≤ 1000000000000000) : Fn0 Tryz.prog 59 [.sl (l.map PieceR.row)] (.b (decide (curveP l))) := by
 by_cases h : l.length ≤ 1000000
 ·exact rq_valid l h
 have hle : (l.map PieceR.row).length = l.length := List.length_map _
 have h1 : ¬ (((l.map PieceR.row).length : Nat) : Int) < 1 := by omega
 have h2 : 200 < (((l.map PieceR.row).length : Nat) : Int) := by omega
 refine Fn0.of Tryz.func59 Tryz.ntmps59 rfl rfl rfl ?_
 simp only [entryTm]
 repeat' (first|(apply S.move;exact rfl;exact rfl)|(apply S.assign;exact rfl;exact rfl)|(apply S.gFF;exact rfl;exact rfl;assumption)|(apply S.pFp;exact rfl;assumption;exact rfl;exact rfl)|(apply S.cmp;(iterate 4 exact rfl))|(apply S.lenR;exact rfl;exact rfl) | apply S.nil | apply T.regs|(apply T.cT;exact rfl;assumption) | apply T.seq|(apply T.ret;change Done _ _ _ _ _))
 exact doneV (by simp) Tryz.results59 rfl (congrArg Value.bool (decide_eq_false fun h => by have := h.1.2;omega).symm)
end Go.Proofs.YtlncmkafjjomgaaGreat
