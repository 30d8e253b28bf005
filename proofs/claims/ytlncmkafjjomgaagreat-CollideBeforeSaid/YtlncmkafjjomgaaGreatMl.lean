/- Contracts of the reference's functions that say whether a house is valid, the last of them;moves;cues that are right. No conditions but those of each statement. | Contracts: moves, cues that are right (the program's and the reference's side). No conditions but those of each statement. -/
import Derived.Test.YtlncmkafjjomgaaGreatMk
set_option linter.unusedSimpArgs false
namespace Go.Proofs.YtlncmkafjjomgaaGreat
set_option linter.unusedVariables false
open Go.RowKit

/-! ### Line sets and houses -/
set_option maxHeartbeats 8000000 in
theorem r21_valid (s : SetR) (hf : s.fits) : Fn0 Tryz.prog 51 [rowA s.row] (.b (decide (setP s))) := by
 have hle : (s.lines.map intRow).length = s.lines.length := List.length_map _
 refine Fn0.of Tryz.func51 Tryz.ntmps51 rfl rfl rfl ?_
 simp only [entryTm]
 repeat' (first|(apply S.move;exact rfl;exact rfl)|(apply S.assign;exact rfl;exact rfl)|(apply S.gCN;(iterate 4 exact rfl))|(apply S.gFT;exact rfl;exact rfl;assumption;exact rfl)|(apply S.gFFn;exact rfl;exact rfl;assumption)|(apply S.fieldP;exact rfl;exact rfl;exact rfl)|(apply S.loadP;(iterate 4 exact rfl))|(apply S.pC;exact rfl;exact rfl;exact rfl)|(apply S.pTp;exact rfl;assumption;exact rfl;exact rfl)|(apply S.pFn;exact rfl;assumption;exact rfl;exact rfl)|(apply S.call;exact rfl;exact rfl;exact r01_isName _;exact rfl)|(apply S.call;exact rfl;exact rfl;exact r21_between _ _ _;exact rfl)|(apply S.rem;exact rfl;exact rfl;exact rfl;omega)|(apply S.box;(iterate 6 exact rfl))|(apply S.cmp;(iterate 4 exact rfl))|(apply S.notP;exact rfl;exact rfl)|(apply S.lenR;exact rfl;exact rfl)|(apply S.gsFn;exact rfl;exact rfl;exact rfl;intro hc;rotate_left;intro hc;rotate_right) | apply S.nil | apply T.regs|(apply T.cC;exact rfl)|(apply T.cSn;exact rfl;intro hc;rotate_left;intro hc;rotate_right) | apply T.seq|(apply T.skip;first | change T _ _ _ _ _ | change Done _ _ _ _ _ | change Next _ _ _ _ _ _ | skip)|(apply T.ret;change Done _ _ _ _ _) | apply T.block)
 all_goals first
  | exact doneV (by simp) Tryz.results51 rfl (congrArg Value.bool (decide_eq_false (fun h => by
    obtain ⟨g1, g2, g3, g4, g5, g6, g7, g8, g9, g10, g11, g12, g13, _⟩ := h
    have g14 := g8.1
    first | contradiction | omega)).symm)
  | skip
 have hln : 2 ≤ s.lines.length ∧ s.lines.length ≤ 10 := by omega
 have hlen : 0 ≤ s.length ∧ s.length ≤ 1048576 := by omega
 refine T.loopS (fun k => k ≤ s.lines.length ∧ (∀ x ∈ s.lines.take k, 0 ≤ x ∧ x ≤ s.length) ∧ (s.lines.take k).Pairwise (· < ·)) (fun k => s.lines.length - k) (fun k => [(3, .i k), (1, .ptr 0 0)]) (fun _ => [.live (s.row.map .lf)]) 0 ⟨Nat.zero_le _, by simp, by simp⟩ (.cons rfl rfl (.cons rfl rfl .nil)) (.live rfl .nil) ?_
 rintro k ⟨hk, hin, hpw⟩
 by_cases hlt : k < s.lines.length
 ·have h1 : (k : Int) < ((s.lines.map intRow).length : Nat) := by omega
  obtain ⟨x, hx⟩ := get_at hlt
  have hb := row_at (R := intRow) hx
  have hsn := snoc_at hx
  have hmem : x ∈ s.lines := List.mem_of_getElem? hx
  rcases Nat.eq_zero_or_pos k with rfl | hpos
  ·have h0 : ¬ (((0 : Nat)) : Int) > 0 := by omega
   have h0' : ¬ (0 : Int) < (((0 : Nat)) : Int) := by omega
   repeat' (first|(apply S.move;exact rfl;exact rfl)|(apply S.assign;exact rfl;exact rfl)|(apply S.gCN;(iterate 4 exact rfl))|(apply S.gU;exact rfl;exact rfl;exact rfl)|(apply S.gFT;exact rfl;exact rfl;assumption;exact rfl)|(apply S.gFFn;exact rfl;exact rfl;assumption)|(apply S.fieldP;exact rfl;exact rfl;exact rfl)|(apply S.loadP;(iterate 4 exact rfl))|(apply S.loadR;exact rfl;exact rfl;exact rfl)|(apply S.pCN;exact rfl;exact rfl;exact rfl)|(apply S.pTp;exact rfl;assumption;exact rfl;exact rfl)|(apply S.pFn;exact rfl;assumption;exact rfl;exact rfl)|(apply T.drawAll anyOrder (by kernel_rfl))|(apply S.indexR;exact rfl;exact rfl;exact rfl;exact hb;omega;exact rfl)|(apply S.call;exact rfl;exact rfl;exact r21_between _ _ _;exact rfl)|(apply S.arith;(iterate 4 exact rfl);omega)|(apply S.cmp;(iterate 4 exact rfl))|(apply S.notP;exact rfl;exact rfl)|(apply S.lenR;exact rfl;exact rfl)|(apply S.gsFn;exact rfl;exact rfl;exact rfl;intro hc;rotate_left;intro hc;rotate_right) | apply S.nil | apply T.regs | apply T.reg|(apply T.cC;exact rfl)|(apply T.cCN;exact rfl)|(apply T.cT;exact rfl;assumption) | apply T.seq|(apply T.skip;first | change T _ _ _ _ _ | change Done _ _ _ _ _ | change Next _ _ _ _ _ _ | skip)|(apply T.ret;change Done _ _ _ _ _) | apply T.block)
   all_goals (try change Next _ _ _ _ _ _)
   all_goals first
    | exact Next.go (0 + 1) ⟨by omega, by rw [hsn];intro y hy;obtain rfl : y = x := (by simpa using hy);omega, by rw [hsn];simp⟩ (by omega) (.cons rfl rfl (.cons rfl rfl .nil)) (.live rfl .nil)
    | exact doneV (by simp) Tryz.results51 rfl (congrArg Value.bool (decide_eq_false (fun h => by
      obtain ⟨g1, g2, g3, g4, g5, g6, g7, g8, _⟩ := h
      have := g8.2.1 x hmem
      first | contradiction | omega)).symm)
  ·obtain ⟨j, rfl⟩ : ∃ j, k = j + 1 := ⟨k - 1, by omega⟩
   have h0 : (((j + 1 : Nat)) : Int) > 0 := by omega
   have h0' : (0 : Int) < (((j + 1 : Nat)) : Int) := by omega
   obtain ⟨y, hy⟩ := get_at (l := s.lines) (k := j) (by omega)
   have hb2 : (s.lines.map intRow)[((((j + 1 : Nat)) : Int) - 1).toNat]? = some (intRow y) := by rw [show ((((j + 1 : Nat)) : Int) - 1).toNat = j by omega, List.getElem?_map, hy];rfl
   have hps := pw_snoc hpw hy hx
   repeat' (first|(apply S.move;exact rfl;exact rfl)|(apply S.assign;exact rfl;exact rfl)|(apply S.gU;exact rfl;exact rfl;exact rfl)|(apply S.gTT;exact rfl;exact rfl;assumption)|(apply S.gFT;exact rfl;exact rfl;assumption;exact rfl)|(apply S.gFFn;exact rfl;exact rfl;assumption)|(apply S.fieldP;exact rfl;exact rfl;exact rfl)|(apply S.loadP;(iterate 4 exact rfl))|(apply S.loadR;exact rfl;exact rfl;exact rfl)|(apply S.pTp;exact rfl;assumption;exact rfl;exact rfl)|(apply S.pFn;exact rfl;assumption;exact rfl;exact rfl)|(apply T.drawAll anyOrder (by kernel_rfl))|(apply S.indexR;exact rfl;exact rfl;exact rfl;exact hb;omega;exact rfl)|(apply S.indexR;exact rfl;exact rfl;exact rfl;exact hb2;omega;exact rfl)|(apply S.call;exact rfl;exact rfl;exact r21_between _ _ _;exact rfl)|(apply S.arith;(iterate 4 exact rfl);omega)|(apply S.cmp;(iterate 4 exact rfl))|(apply S.notP;exact rfl;exact rfl)|(apply S.lenR;exact rfl;exact rfl)|(apply S.gsFn;exact rfl;exact rfl;exact rfl;intro hc;rotate_left;intro hc;rotate_right) | apply S.nil | apply T.regs | apply T.reg|(apply T.cC;exact rfl)|(apply T.cT;exact rfl;assumption)|(apply T.cS;exact rfl;intro hc;rotate_left;intro hc;rotate_right) | apply T.seq|(apply T.skip;first | change T _ _ _ _ _ | change Done _ _ _ _ _ | change Next _ _ _ _ _ _ | skip)|(apply T.ret;change Done _ _ _ _ _) | apply T.block)
   all_goals (try change Next _ _ _ _ _ _)
   all_goals first
    | exact Next.go (j + 1 + 1) ⟨by omega, by rw [hsn];intro z hz;rcases List.mem_append.1 hz with hz | hz;exact hin z hz;obtain rfl : z = x := (by simpa using hz);omega, hps.2 (by omega)⟩ (by omega) (.cons rfl rfl (.cons rfl rfl .nil)) (.live rfl .nil)
    | exact doneV (by simp) Tryz.results51 rfl (congrArg Value.bool (decide_eq_false (fun h => by
      obtain ⟨g1, g2, g3, g4, g5, g6, g7, g8, _⟩ := h
      have h3 := g8.2.1 x hmem
      have h4 := pw_get g8.2.2 hy hx (by omega)
      first | contradiction | omega)).symm)
 ·have h1 : ¬ (k : Int) < ((s.lines.map intRow).length : Nat) := by omega
  have hk2 : s.lines.take k = s.lines := List.take_of_length_le (by omega)
  rw [hk2] at hin hpw
  have hlines : linesP s.lines s.length := ⟨hln, hin, hpw⟩
  repeat' (first|(apply S.move;exact rfl;exact rfl)|(apply S.assign;exact rfl;exact rfl)|(apply S.gTT;exact rfl;exact rfl;assumption)|(apply S.gTF;exact rfl;exact rfl;assumption;exact rfl)|(apply S.fieldP;exact rfl;exact rfl;exact rfl)|(apply S.loadP;(iterate 4 exact rfl))|(apply S.pTp;exact rfl;assumption;exact rfl;exact rfl)|(apply S.pFp;exact rfl;assumption;exact rfl;exact rfl)|(apply S.call;exact rfl;exact rfl;exact r21_items s hlen hf.2.1;exact rfl)|(apply S.call;exact rfl;exact rfl;exact r21_bricks s.bricks hf.2.2;exact rfl)|(apply S.loadPA;(iterate 4 exact rfl))|(apply S.cmp;(iterate 4 exact rfl))|(apply S.lenR;exact rfl;exact rfl)|(apply S.gsT;exact rfl;exact rfl;exact rfl;intro hc;rotate_left;intro hc;rotate_right) | apply S.nil | apply T.regs|(apply T.cF;exact rfl;assumption) | apply T.seq|(apply T.ret;change Done _ _ _ _ _)|(apply T.exit;first | change T _ _ _ _ _ | change Done _ _ _ _ _ | change Next _ _ _ _ _ _ | skip))
  all_goals exact doneV (by simp) Tryz.results51 rfl (by simp only [setP];simp_all;try omega)
end Go.Proofs.YtlncmkafjjomgaaGreat
set_option linter.unusedSimpArgs false
namespace Go.Proofs.YtlncmkafjjomgaaGreat
set_option linter.unusedVariables false
open Go.RowKit

/-! ### Moves -/
structure MoveR where
 set : ByteArray
 to : Int
 speed : Int
 rise : Int
 fall : Int
/-! ### Cues that are right -/
end Go.Proofs.YtlncmkafjjomgaaGreat
