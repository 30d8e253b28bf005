/- Contracts: what is small;cues that are found. No conditions but those of each statement. | Contracts: cues that are found, pairs of cues, sheets that are valid (both sides). No conditions but those of each statement. -/
import Derived.Test.YtlncmkafjjomgaaGreatMl
import Derived.Test.YtlncmkafjjomgaaGreatMb
set_option linter.unusedSimpArgs false
namespace Go.Proofs.YtlncmkafjjomgaaGreat
set_option linter.unusedVariables false
open Go.RowKit

/-! ### What is small -/
def smallS (s : SetR) (n : Int) : Prop := (s.name.size : Int) ≤ 60 ∧ (s.lines.length : Int) ≤ 12 ∧ ¬ (n < s.items.length ∧ (s.items.length : Int) ≤ 40) ∧ (s.items.length : Int) ≤ 45 ∧ (s.bricks.length : Int) ≤ 10 ∧ (∀ x ∈ s.items, (x.name.size : Int) ≤ 60) ∧ ∀ x ∈ s.bricks, (x.name.size : Int) ≤ 60
noncomputable instance (s : SetR) (n : Int) : Decidable (smallS s n) := Classical.propDecidable _
set_option maxHeartbeats 8000000 in
theorem r21_small (s : SetR) (n : Int) (hf : s.fits) : Fn0 Tryz.prog 46 [rowA s.row, .i n] (.b (decide (smallS s n))) := by
 have hle : (s.lines.map intRow).length = s.lines.length := List.length_map _
 have hle2 : (s.items.map ItemR.row).length = s.items.length := List.length_map _
 have hle3 : (s.bricks.map BrickR.row).length = s.bricks.length := List.length_map _
 refine Fn0.of Tryz.func46 Tryz.ntmps46 rfl rfl rfl ?_
 simp only [entryTm]
 repeat' (first|(apply S.move;exact rfl;exact rfl)|(apply S.assign;exact rfl;exact rfl)|(apply S.gC;exact rfl;exact rfl;exact rfl)|(apply S.gCN;(iterate 4 exact rfl))|(apply S.gU;exact rfl;exact rfl;exact rfl)|(apply S.gTT;exact rfl;exact rfl;assumption)|(apply S.gTF;exact rfl;exact rfl;assumption;exact rfl)|(apply S.gFF;exact rfl;exact rfl;assumption)|(apply S.gFT;exact rfl;exact rfl;assumption;exact rfl)|(apply S.fieldP;exact rfl;exact rfl;exact rfl)|(apply S.loadP;(iterate 4 exact rfl))|(apply S.pC;exact rfl;exact rfl;exact rfl)|(apply S.pCN;exact rfl;exact rfl;exact rfl)|(apply S.pTp;exact rfl;assumption;exact rfl;exact rfl)|(apply S.pFp;exact rfl;assumption;exact rfl;exact rfl)|(apply S.box;(iterate 6 exact rfl))|(apply S.cmp;(iterate 4 exact rfl))|(apply S.lenR;exact rfl;exact rfl)|(apply S.lenS;exact rfl;exact rfl)|(apply S.gsT;exact rfl;exact rfl;exact rfl;intro hc;rotate_left;intro hc;rotate_right)|(apply S.gsF;exact rfl;exact rfl;exact rfl;intro hc;rotate_left;intro hc;rotate_right) | apply S.nil | apply T.regs|(apply T.cC;exact rfl)|(apply T.cS;exact rfl;intro hc;rotate_left;intro hc;rotate_right) | apply T.seq|(apply T.skip;first | change T _ _ _ _ _ | change Done _ _ _ _ _ | change Next _ _ _ _ _ _ | skip)|(apply T.ret;change Done _ _ _ _ _) | apply T.block)
 all_goals first
  | exact doneV (by simp) Tryz.results46 rfl (congrArg Value.bool (decide_eq_false (fun h => by
    obtain ⟨g1, g2, g3, g4, g5, _⟩ := h
    omega)).symm)
  | skip
 all_goals
  refine T.loopS (fun k => k ≤ s.items.length ∧ ∀ x ∈ s.items.take k, (x.name.size : Int) ≤ 60) (fun k => s.items.length - k) (fun k => [(5, .i k), (2, .ptr 0 0)]) (fun _ => [.live (s.row.map .lf)]) 0 ⟨Nat.zero_le _, by simp⟩ (.cons rfl rfl (.cons rfl rfl .nil)) (.live rfl .nil) ?_
  rintro k ⟨hk, hok⟩
  by_cases hlt : k < s.items.length
  ·have h1 : (k : Int) < ((s.items.map ItemR.row).length : Nat) := by omega
   obtain ⟨x, hx⟩ := get_at hlt
   have hb := row_at (R := ItemR.row) hx
   have hsn := snoc_at hx
   have hmem : x ∈ s.items := List.mem_of_getElem? hx
   repeat' (first|(apply S.move;exact rfl;exact rfl)|(apply S.assign;exact rfl;exact rfl)|(apply S.fieldP;exact rfl;exact rfl;exact rfl)|(apply S.loadP;(iterate 4 exact rfl))|(apply S.fieldR;exact rfl;exact rfl)|(apply S.loadR;exact rfl;exact rfl;exact rfl)|(apply S.indexR;exact rfl;exact rfl;exact rfl;exact hb;omega;exact rfl)|(apply S.arith;(iterate 4 exact rfl);omega)|(apply S.cmp;(iterate 4 exact rfl))|(apply S.lenR;exact rfl;exact rfl)|(apply S.lenS;exact rfl;exact rfl) | apply S.nil | apply T.regs | apply T.reg|(apply T.cT;exact rfl;assumption)|(apply T.cS;exact rfl;intro hc;rotate_left;intro hc;rotate_right) | apply T.seq|(apply T.skip;first | change T _ _ _ _ _ | change Done _ _ _ _ _ | change Next _ _ _ _ _ _ | skip)|(apply T.ret;change Done _ _ _ _ _) | apply T.block)
   all_goals (try change Next _ _ _ _ _ _)
   all_goals first
    | exact Next.go (k + 1) ⟨by omega, by rw [hsn];intro y hy;rcases List.mem_append.1 hy with hy | hy;exact hok y hy;obtain rfl : y = x := (by simpa using hy);omega⟩ (by omega) (.cons rfl rfl (.cons rfl rfl .nil)) (.live rfl .nil)
    | exact doneV (by simp) Tryz.results46 rfl (congrArg Value.bool (decide_eq_false (fun h => by have := h.2.2.2.2.2.1 x hmem;omega)).symm)
  ·have h1 : ¬ (k : Int) < ((s.items.map ItemR.row).length : Nat) := by omega
   have hk2 : s.items.take k = s.items := List.take_of_length_le (by omega)
   rw [hk2] at hok
   repeat' (first|(apply S.move;exact rfl;exact rfl)|(apply S.assign;exact rfl;exact rfl)|(apply S.fieldP;exact rfl;exact rfl;exact rfl)|(apply S.loadP;(iterate 4 exact rfl))|(apply S.cmp;(iterate 4 exact rfl))|(apply S.lenR;exact rfl;exact rfl) | apply S.nil | apply T.regs|(apply T.cF;exact rfl;assumption) | apply T.seq|(apply T.exit;first | change T _ _ _ _ _ | change Done _ _ _ _ _ | change Next _ _ _ _ _ _ | skip) | apply T.block)
   refine T.loopS (fun k => k ≤ s.bricks.length ∧ ∀ x ∈ s.bricks.take k, (x.name.size : Int) ≤ 60) (fun k => s.bricks.length - k) (fun k => [(6, .i k), (2, .ptr 0 0)]) (fun _ => [.live (s.row.map .lf)]) 0 ⟨Nat.zero_le _, by simp⟩ (.cons rfl rfl (.cons rfl rfl .nil)) (.live rfl .nil) ?_
   rintro k ⟨hk, hok2⟩
   by_cases hlt2 : k < s.bricks.length
   ·have h1 : (k : Int) < ((s.bricks.map BrickR.row).length : Nat) := by omega
    obtain ⟨x, hx⟩ := get_at hlt2
    have hb := row_at (R := BrickR.row) hx
    have hsn := snoc_at hx
    have hmem : x ∈ s.bricks := List.mem_of_getElem? hx
    repeat' (first|(apply S.move;exact rfl;exact rfl)|(apply S.assign;exact rfl;exact rfl)|(apply S.fieldP;exact rfl;exact rfl;exact rfl)|(apply S.loadP;(iterate 4 exact rfl))|(apply S.fieldR;exact rfl;exact rfl)|(apply S.loadR;exact rfl;exact rfl;exact rfl)|(apply S.indexR;exact rfl;exact rfl;exact rfl;exact hb;omega;exact rfl)|(apply S.arith;(iterate 4 exact rfl);omega)|(apply S.cmp;(iterate 4 exact rfl))|(apply S.lenR;exact rfl;exact rfl)|(apply S.lenS;exact rfl;exact rfl) | apply S.nil | apply T.regs | apply T.reg|(apply T.cT;exact rfl;assumption)|(apply T.cS;exact rfl;intro hc;rotate_left;intro hc;rotate_right) | apply T.seq|(apply T.skip;first | change T _ _ _ _ _ | change Done _ _ _ _ _ | change Next _ _ _ _ _ _ | skip)|(apply T.ret;change Done _ _ _ _ _) | apply T.block)
    all_goals (try change Next _ _ _ _ _ _)
    all_goals first
     | exact Next.go (k + 1) ⟨by omega, by rw [hsn];intro y hy;rcases List.mem_append.1 hy with hy | hy;exact hok2 y hy;obtain rfl : y = x := (by simpa using hy);omega⟩ (by omega) (.cons rfl rfl (.cons rfl rfl .nil)) (.live rfl .nil)
     | exact doneV (by simp) Tryz.results46 rfl (congrArg Value.bool (decide_eq_false (fun h => by have := h.2.2.2.2.2.2 x hmem;omega)).symm)
   ·have h1 : ¬ (k : Int) < ((s.bricks.map BrickR.row).length : Nat) := by omega
    have hk2 : s.bricks.take k = s.bricks := List.take_of_length_le (by omega)
    rw [hk2] at hok2
    repeat' (first|(apply S.move;exact rfl;exact rfl)|(apply S.assign;exact rfl;exact rfl)|(apply S.fieldP;exact rfl;exact rfl;exact rfl)|(apply S.loadP;(iterate 4 exact rfl))|(apply S.cmp;(iterate 4 exact rfl))|(apply S.lenR;exact rfl;exact rfl) | apply S.nil | apply T.regs|(apply T.cF;exact rfl;assumption) | apply T.seq|(apply T.ret;change Done _ _ _ _ _)|(apply T.exit;first | change T _ _ _ _ _ | change Done _ _ _ _ _ | change Next _ _ _ _ _ _ | skip))
    exact doneV (by simp) Tryz.results46 rfl (congrArg Value.bool (decide_eq_true ⟨by omega, by omega, by omega, by omega, by omega, hok, hok2⟩).symm)
end Go.Proofs.YtlncmkafjjomgaaGreat
set_option linter.unusedSimpArgs false
namespace Go.Proofs.YtlncmkafjjomgaaGreat
set_option linter.unusedVariables false
open Go.RowKit

/-! ### Cues that are found -/
/-! ### Pairs of cues -/
end Go.Proofs.YtlncmkafjjomgaaGreat
