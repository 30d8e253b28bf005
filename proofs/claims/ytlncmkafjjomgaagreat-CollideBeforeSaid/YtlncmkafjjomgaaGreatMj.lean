/- Contracts of the functions that say whether a house is valid, continued: bricks, lift lines, line sets, beams, houses (the program's side). No conditions but those of each statement. | Contracts of the functions that say whether a house is valid, the last of them: line sets, beams, houses (the program's side). No conditions but those of each statement. -/
import Derived.Test.YtlncmkafjjomgaaGreatMi
set_option linter.unusedSimpArgs false
namespace Go.Proofs.YtlncmkafjjomgaaGreat
set_option linter.unusedVariables false
open Go.RowKit

/-! ### Bricks -/
def brickP (x : BrickR) : Prop := nameB x.name = true ∧ (1 ≤ x.weight ∧ x.weight ≤ 1048576) ∧ 0 ≤ x.count ∧ x.count ≤ 60
def sumB (l : List BrickR) : Int := (l.map BrickR.count).sum
theorem sumB_snoc (l : List BrickR) (x : BrickR) : sumB (l ++ [x]) = sumB l + x.count := by simp [sumB, List.sum_append]
theorem sumB_le {l : List BrickR} (h : ∀ x ∈ l, brickP x) : 0 ≤ sumB l ∧ sumB l ≤ 60 * l.length := by
 induction l with
 | nil => simp [sumB]
 | cons x l ih =>
  have h1 := (h x (by simp)).2.2
  have h2 := ih fun y hy => h y (by simp [hy])
  have : sumB (x :: l) = x.count + sumB l := by simp [sumB]
  simp only [List.length_cons]
  omega
def bricksP (l : List BrickR) : Prop := l.length ≤ 8 ∧ (l.map BrickR.name).Nodup ∧ (∀ x ∈ l, brickP x) ∧ sumB l ≤ 60
noncomputable instance (l : List BrickR) : Decidable (bricksP l) := Classical.propDecidable _
set_option maxHeartbeats 4000000 in
theorem bat_bricks (l : List BrickR) (hs : l.length ≤ 9223372036854775807) : Fn0 Tryz.prog 81 [.sl (l.map BrickR.row)] (.b (decide (bricksP l))) := by
 have htw := twiceBrick l BrickR.row BrickR.name 118 [] (fun _ => rfl) (fun _ => rfl) hs rfl fun x _ => bat_bricks1 x
 have hle : (l.map BrickR.row).length = l.length := List.length_map _
 refine Fn0.of Tryz.func81 Tryz.ntmps81 rfl rfl rfl ?_
 simp only [entryTm]
 repeat' (first|(apply S.move;exact rfl;exact rfl)|(apply S.assign;exact rfl;exact rfl)|(apply S.gFF;exact rfl;exact rfl;assumption)|(apply S.gFT;exact rfl;exact rfl;assumption;exact rfl)|(apply S.pTp;exact rfl;assumption;exact rfl;exact rfl)|(apply S.pFp;exact rfl;assumption;exact rfl;exact rfl)|(apply S.call;exact rfl;exact rfl;exact htw;exact rfl)|(apply S.cmp;(iterate 4 exact rfl))|(apply S.lenR;exact rfl;exact rfl)|(apply S.gsF;exact rfl;exact rfl;exact rfl;intro hc;rotate_left;intro hc;rotate_right) | apply S.nil | apply T.regs|(apply T.cC;exact rfl)|(apply T.cSn;exact rfl;intro hc;rotate_left;intro hc;rotate_right) | apply T.seq|(apply T.skip;first | change T _ _ _ _ _ | change Done _ _ _ _ _ | change Next _ _ _ _ _ _ | skip)|(apply T.ret;change Done _ _ _ _ _) | apply T.block)
 all_goals first
  | exact doneV (by simp) Tryz.results81 rfl (congrArg Value.bool (decide_eq_false (fun h => by have := h.1;omega)).symm)
  | exact doneV (by simp) Tryz.results81 rfl (congrArg Value.bool (decide_eq_false (fun h => by have := h.2.1;contradiction)).symm)
  | skip
 have hs8 : l.length ≤ 8 := by omega
 refine T.loopS (fun k => k ≤ l.length ∧ ∀ x ∈ l.take k, brickP x) (fun k => l.length - k) (fun k => [(15, .i k), (14, .i (l.map BrickR.row).length), (13, .sl (l.map BrickR.row)), (0, .sl (l.map BrickR.row)), (3, .i (sumB (l.take k)))]) (fun _ => []) 0 ⟨Nat.zero_le _, by simp⟩ (.cons rfl rfl (.cons rfl rfl (.cons rfl rfl (.cons rfl rfl (.cons rfl rfl .nil))))) .nil ?_
 rintro k ⟨hk, hok⟩
 have hsum := sumB_le hok
 have hlk : (l.take k).length ≤ 8 := by simp;omega
 by_cases hlt : k < l.length
 ·have h1 : (k : Int) < ((l.map BrickR.row).length : Nat) := by omega
  obtain ⟨x, hx⟩ : ∃ x, l[k]? = some x := ⟨l[k], List.getElem?_eq_getElem hlt⟩
  have hb : (l.map BrickR.row)[((k : Nat) : Int).toNat]? = some (BrickR.row x) := by rw [Int.toNat_natCast, List.getElem?_map, hx];rfl
  have hsn : l.take (k + 1) = l.take k ++ [x] := by rw [List.take_add_one, hx];rfl
  have hmem : x ∈ l := List.mem_of_getElem? hx
  repeat' (first|(apply S.move;exact rfl;exact rfl)|(apply S.assign;exact rfl;exact rfl)|(apply S.gCN;(iterate 4 exact rfl))|(apply S.gFT;exact rfl;exact rfl;assumption;exact rfl)|(apply S.gFFn;exact rfl;exact rfl;assumption)|(apply S.fieldP;exact rfl;exact rfl;exact rfl)|(apply S.loadP;(iterate 4 exact rfl))|(apply S.pC;exact rfl;exact rfl;exact rfl)|(apply S.pTp;exact rfl;assumption;exact rfl;exact rfl)|(apply S.pFn;exact rfl;assumption;exact rfl;exact rfl)|(apply S.indexR;exact rfl;exact rfl;exact rfl;exact hb;omega;exact rfl)|(apply S.loadRW;(iterate 4 exact rfl))|(apply S.call;exact rfl;exact rfl;exact dec_isName _;exact rfl)|(apply S.call;exact rfl;exact rfl;exact bat_between _ _ _;exact rfl)|(apply S.arith;(iterate 4 exact rfl);omega)|(apply S.alloc;(iterate 5 exact rfl))|(apply S.store;(iterate 7 exact rfl))|(apply S.cmp;(iterate 4 exact rfl))|(apply S.notP;exact rfl;exact rfl)|(apply S.gsFn;exact rfl;exact rfl;exact rfl;intro hc;rotate_left;intro hc;rotate_right) | apply S.nil | apply T.regs | apply T.reg|(apply T.cC;exact rfl)|(apply T.cT;exact rfl;assumption)|(apply T.cSn;exact rfl;intro hc;rotate_left;intro hc;rotate_right) | apply T.seq|(apply T.skip;first | change T _ _ _ _ _ | change Done _ _ _ _ _ | change Next _ _ _ _ _ _ | skip)|(apply T.ret;change Done _ _ _ _ _) | apply T.block)
  all_goals (try change Next _ _ _ _ _ _)
  all_goals first
   | exact Next.go (k + 1) ⟨by omega, by rw [hsn];intro y hy;rcases List.mem_append.1 hy with hy | hy;exact hok y hy;obtain rfl : y = x := (by simpa using hy);exact ⟨by assumption, by assumption, by assumption⟩⟩ (by omega) (.cons rfl rfl (.cons rfl rfl (.cons rfl rfl (.cons rfl rfl (.cons (by rw [hsn, sumB_snoc];rfl) rfl .nil))))) .nil
   | exact doneV (by simp) Tryz.results81 rfl (congrArg Value.bool (decide_eq_false (fun h => by
     have h3 := h.2.2.1 x hmem
     unfold brickP at h3
     simp_all)).symm)
 ·have h1 : ¬ (k : Int) < ((l.map BrickR.row).length : Nat) := by omega
  have hk2 : l.take k = l := List.take_of_length_le (by omega)
  rw [hk2] at hok hsum
  rw [hk2]
  repeat' (first|(apply S.move;exact rfl;exact rfl)|(apply S.assign;exact rfl;exact rfl)|(apply S.cmp;(iterate 4 exact rfl)) | apply S.nil | apply T.regs|(apply T.cF;exact rfl;assumption) | apply T.seq|(apply T.ret;change Done _ _ _ _ _)|(apply T.exit;first | change T _ _ _ _ _ | change Done _ _ _ _ _ | change Next _ _ _ _ _ _ | skip))
  exact doneV (by simp) Tryz.results81 rfl (congrArg Value.bool (decide_eq_decide.2 ⟨fun h => ⟨hs8, by first | assumption | exact Classical.byContradiction (by assumption), hok, h⟩, fun h => h.2.2.2⟩))

/-! ### Lift lines -/
def linesP (l : List Int) (len : Int) : Prop := (2 ≤ l.length ∧ l.length ≤ 10) ∧ (∀ x ∈ l, 0 ≤ x ∧ x ≤ len) ∧ l.Pairwise (· < ·)
noncomputable instance (l : List Int) (len : Int) : Decidable (linesP l len) := Classical.propDecidable _
theorem pw_get {l : List Int} (h : l.Pairwise (· < ·)) {i j : Nat} {a b : Int} (hi : l[i]? = some a) (hj : l[j]? = some b) (hij : i < j) : a < b := by
 rw [List.pairwise_iff_getElem] at h
 obtain ⟨h1, rfl⟩ := List.getElem?_eq_some_iff.1 hi
 obtain ⟨h2, rfl⟩ := List.getElem?_eq_some_iff.1 hj
 exact h i j h1 h2 hij
theorem pw_snoc {l : List Int} {x y : Int} {k : Nat} (h : (l.take (k + 1)).Pairwise (· < ·)) (hy : l[k]? = some y) (hx : l[k + 1]? = some x) : (l.take (k + 2)).Pairwise (· < ·) ↔ y < x := by
 have hsn : l.take (k + 2) = l.take (k + 1) ++ [x] := by rw [List.take_add_one, hx];rfl
 have hyk : (l.take (k + 1))[k]? = some y := by rw [List.getElem?_take_of_lt (by omega)];exact hy
 rw [hsn, List.pairwise_append]
 constructor
 ·rintro ⟨_, _, h3⟩
  exact h3 y (List.mem_of_getElem? hyk) x (by simp)
 ·intro hlt
  refine ⟨h, by simp, fun a ha b hb => ?_⟩
  obtain rfl : b = x := by simpa using hb
  obtain ⟨i, hi⟩ := List.getElem?_of_mem ha
  have hik : i < k + 1 := by
   have := (List.getElem?_eq_some_iff.1 hi).1
   simp at this;omega
  rcases Nat.lt_or_ge i k with h1 | h1
  ·have := pw_get h hi hyk h1
   omega
  ·obtain rfl : i = k := by omega
   rw [hi] at hyk
   injection hyk with hyk
   omega
set_option maxHeartbeats 4000000 in
theorem bat_lines (l : List Int) (len : Int) (hs : l.length ≤ 9223372036854775807) : Fn0 Tryz.prog 79 [.sl (l.map intRow), .i len] (.b (decide (linesP l len))) := by
 have hle : (l.map intRow).length = l.length := List.length_map _
 by_cases h2 : (2 : Int) ≤ ((l.map intRow).length : Nat) ∧ (((l.map intRow).length : Nat) : Int) ≤ 10
 ·obtain ⟨a, ha⟩ : ∃ a, l[0]? = some a := ⟨l[0], List.getElem?_eq_getElem (by omega)⟩
  obtain ⟨z, hz⟩ : ∃ z, l[l.length - 1]? = some z := ⟨l[l.length - 1], List.getElem?_eq_getElem (by omega)⟩
  have hb0 : (l.map intRow)[((0 : Int)).toNat]? = some (intRow a) := by rw [show ((0 : Int)).toNat = 0 from rfl, List.getElem?_map, ha];rfl
  have hbz : (l.map intRow)[((((l.map intRow).length : Nat) : Int) - 1).toNat]? = some (intRow z) := by rw [show ((((l.map intRow).length : Nat) : Int) - 1).toNat = l.length - 1 by omega, List.getElem?_map, hz];rfl
  refine Fn0.of Tryz.func79 Tryz.ntmps79 rfl rfl rfl ?_
  simp only [entryTm]
  repeat' (first|(apply S.move;exact rfl;exact rfl)|(apply S.assign;exact rfl;exact rfl)|(apply S.gFF;exact rfl;exact rfl;assumption)|(apply S.gFT;exact rfl;exact rfl;assumption;exact rfl)|(apply S.gFFn;exact rfl;exact rfl;assumption)|(apply S.loadR;exact rfl;exact rfl;exact rfl)|(apply S.pTp;exact rfl;assumption;exact rfl;exact rfl)|(apply S.pFp;exact rfl;assumption;exact rfl;exact rfl)|(apply S.pFn;exact rfl;assumption;exact rfl;exact rfl)|(apply S.call;exact rfl;exact rfl;exact bat_between _ _ _;exact rfl)|(apply S.indexR;exact rfl;exact rfl;exact rfl;exact hb0;omega;exact rfl)|(apply S.indexR;exact rfl;exact rfl;exact rfl;exact hbz;omega;exact rfl)|(apply S.arith;(iterate 4 exact rfl);omega)|(apply S.cmp;(iterate 4 exact rfl))|(apply S.notP;exact rfl;exact rfl)|(apply S.lenR;exact rfl;exact rfl)|(apply S.gsF;exact rfl;exact rfl;exact rfl;intro hc;rotate_left;intro hc;rotate_right) | apply S.nil | apply T.regs|(apply T.cC;exact rfl)|(apply T.cS;exact rfl;intro hc;rotate_left;intro hc;rotate_right) | apply T.seq|(apply T.skip;first | change T _ _ _ _ _ | change Done _ _ _ _ _ | change Next _ _ _ _ _ _ | skip)|(apply T.ret;change Done _ _ _ _ _) | apply T.block)
  all_goals first
   | exact doneV (by simp) Tryz.results79 rfl (congrArg Value.bool (decide_eq_false (fun h => by
     have h3 := h.2.1 a (List.mem_of_getElem? ha)
     have h4 := h.2.1 z (List.mem_of_getElem? hz)
     omega)).symm)
   | skip
  refine T.loopS (fun k => 1 ≤ k ∧ k ≤ l.length ∧ (l.take k).Pairwise (· < ·)) (fun k => l.length - k) (fun k => [(5, .i k), (0, .sl (l.map intRow)), (1, .i len)]) (fun _ => []) 1 ⟨Nat.le_refl _, by omega, by rw [show (1 : Nat) = 0 + 1 from rfl, List.take_add_one, ha];simp⟩ (.cons rfl rfl (.cons rfl rfl (.cons rfl rfl .nil))) .nil ?_
  rintro k ⟨hk0, hk, hok⟩
  by_cases hlt : k < l.length
  ·have h1 : (k : Int) < ((l.map intRow).length : Nat) := by omega
   obtain ⟨j, rfl⟩ : ∃ j, k = j + 1 := ⟨k - 1, by omega⟩
   obtain ⟨x, hx⟩ : ∃ x, l[j + 1]? = some x := ⟨l[j + 1], List.getElem?_eq_getElem hlt⟩
   obtain ⟨y, hy⟩ : ∃ y, l[j]? = some y := ⟨l[j], List.getElem?_eq_getElem (by omega)⟩
   have hb : (l.map intRow)[((((j + 1 : Nat)) : Int)).toNat]? = some (intRow x) := by rw [Int.toNat_natCast, List.getElem?_map, hx];rfl
   have hb2 : (l.map intRow)[((((j + 1 : Nat)) : Int) - 1).toNat]? = some (intRow y) := by rw [show ((((j + 1 : Nat)) : Int) - 1).toNat = j by omega, List.getElem?_map, hy];rfl
   have hps := pw_snoc hok hy hx
   repeat' (first|(apply S.move;exact rfl;exact rfl)|(apply S.assign;exact rfl;exact rfl)|(apply S.loadR;exact rfl;exact rfl;exact rfl)|(apply T.drawAll anyOrder (by kernel_rfl))|(apply S.indexR;exact rfl;exact rfl;exact rfl;exact hb;omega;exact rfl)|(apply S.indexR;exact rfl;exact rfl;exact rfl;exact hb2;omega;exact rfl)|(apply S.arith;(iterate 4 exact rfl);omega)|(apply S.cmp;(iterate 4 exact rfl))|(apply S.lenR;exact rfl;exact rfl) | apply S.nil | apply T.regs | apply T.reg|(apply T.cT;exact rfl;assumption)|(apply T.cS;exact rfl;intro hc;rotate_left;intro hc;rotate_right) | apply T.seq|(apply T.skip;first | change T _ _ _ _ _ | change Done _ _ _ _ _ | change Next _ _ _ _ _ _ | skip)|(apply T.ret;change Done _ _ _ _ _) | apply T.block)
   all_goals (try change Next _ _ _ _ _ _)
   all_goals first
    | exact Next.go (j + 1 + 1) ⟨by omega, by omega, hps.2 (by omega)⟩ (by omega) (.cons rfl rfl (.cons rfl rfl (.cons rfl rfl .nil))) .nil
    | exact doneV (by simp) Tryz.results79 rfl (congrArg Value.bool (decide_eq_false (fun h => by
      have := pw_get h.2.2 hy hx (by omega)
      omega)).symm)
  ·have h1 : ¬ (k : Int) < ((l.map intRow).length : Nat) := by omega
   rw [List.take_of_length_le (by omega)] at hok
   repeat' (first|(apply S.move;exact rfl;exact rfl)|(apply S.assign;exact rfl;exact rfl)|(apply S.cmp;(iterate 4 exact rfl))|(apply S.lenR;exact rfl;exact rfl) | apply S.nil | apply T.regs|(apply T.cF;exact rfl;assumption) | apply T.seq|(apply T.ret;change Done _ _ _ _ _)|(apply T.exit;first | change T _ _ _ _ _ | change Done _ _ _ _ _ | change Next _ _ _ _ _ _ | skip))
   refine doneV (by simp) Tryz.results79 rfl (congrArg Value.bool (decide_eq_true ⟨by omega, fun x hx => ?_, hok⟩).symm)
   obtain ⟨i, hi⟩ := List.getElem?_of_mem hx
   have hil := (List.getElem?_eq_some_iff.1 hi).1
   have g1 : a ≤ x := by
    rcases Nat.eq_zero_or_pos i with e | e
    ·subst e;rw [ha] at hi;injection hi with hi;omega
    ·have := pw_get hok ha hi e;omega
   have g2 : x ≤ z := by
    rcases Nat.lt_or_ge i (l.length - 1) with e | e
    ·have := pw_get hok hi hz e;omega
    ·obtain rfl : i = l.length - 1 := by omega
     rw [hz] at hi;injection hi with hi;omega
   omega
 ·skip
  refine Fn0.of Tryz.func79 Tryz.ntmps79 rfl rfl rfl ?_
  simp only [entryTm]
  repeat' (first|(apply S.move;exact rfl;exact rfl)|(apply S.assign;exact rfl;exact rfl)|(apply S.gCN;(iterate 4 exact rfl))|(apply S.gFT;exact rfl;exact rfl;assumption;exact rfl)|(apply S.pC;exact rfl;exact rfl;exact rfl)|(apply S.pTp;exact rfl;assumption;exact rfl;exact rfl)|(apply S.call;exact rfl;exact rfl;exact bat_between _ _ _;exact rfl)|(apply S.notP;exact rfl;exact rfl)|(apply S.lenR;exact rfl;exact rfl) | apply S.nil | apply T.regs|(apply T.cC;exact rfl) | apply T.seq|(apply T.ret;change Done _ _ _ _ _))
  all_goals exact doneV (by simp) Tryz.results79 rfl (congrArg Value.bool (decide_eq_false (fun h => by have := h.1;omega)).symm)
end Go.Proofs.YtlncmkafjjomgaaGreat
set_option linter.unusedSimpArgs false
namespace Go.Proofs.YtlncmkafjjomgaaGreat
set_option linter.unusedVariables false
open Go.RowKit

def setP (s : SetR) : Prop := nameB s.name = true ∧ (0 ≤ s.depth ∧ s.depth ≤ 1048576) ∧ 0 ≤ s.low ∧ s.low ≤ s.high ∧ s.high ≤ 1048576 ∧ (1000 ≤ s.length ∧ s.length ≤ 1048576) ∧ s.length % 1000 = 0 ∧ linesP s.lines s.length ∧
 (0 ≤ s.pipe ∧ s.pipe ≤ 1048576) ∧ (0 ≤ s.arbor ∧ s.arbor ≤ 1048576) ∧ (1 ≤ s.purchase ∧ s.purchase ≤ 2) ∧ (1 ≤ s.most ∧ s.most ≤ 67108864) ∧ (0 ≤ s.brake ∧ s.brake ≤ 67108864) ∧ itemsP s.items s.length ∧ bricksP s.bricks
noncomputable instance (s : SetR) : Decidable (setP s) := Classical.propDecidable _
def SetR.fits (s : SetR) : Prop := s.lines.length ≤ 9223372036854775807 ∧ s.items.length ≤ 9223372036854775807 ∧ s.bricks.length ≤ 9223372036854775807
set_option maxHeartbeats 8000000 in
theorem bat_valid (s : SetR) (hf : s.fits) : Fn0 Tryz.prog 43 [rowA s.row] (.b (decide (setP s))) := by
 refine Fn0.of Tryz.func43 Tryz.ntmps43 rfl rfl rfl ?_
 simp only [entryTm]
 repeat' (first|(apply S.move;exact rfl;exact rfl)|(apply S.assign;exact rfl;exact rfl)|(apply S.gCN;(iterate 4 exact rfl))|(apply S.gTT;exact rfl;exact rfl;assumption)|(apply S.gTF;exact rfl;exact rfl;assumption;exact rfl)|(apply S.fieldP;exact rfl;exact rfl;exact rfl)|(apply S.loadP;(iterate 4 exact rfl))|(apply S.pCN;exact rfl;exact rfl;exact rfl)|(apply S.pTp;exact rfl;assumption;exact rfl;exact rfl)|(apply S.pFp;exact rfl;assumption;exact rfl;exact rfl)|(apply S.call;exact rfl;exact rfl;exact dec_isName _;exact rfl)|(apply S.call;exact rfl;exact rfl;exact bat_between _ _ _;exact rfl)|(apply S.call;exact rfl;exact rfl;exact bat_lines s.lines s.length hf.1;exact rfl)|(apply S.call;exact rfl;exact rfl;exact bat_items s.items s.length (by omega) hf.2.1;exact rfl)|(apply S.call;exact rfl;exact rfl;exact bat_bricks s.bricks hf.2.2;exact rfl)|(apply S.rem;exact rfl;exact rfl;exact rfl;omega)|(apply S.box;(iterate 6 exact rfl))|(apply S.cmp;(iterate 4 exact rfl))|(apply S.gsT;exact rfl;exact rfl;exact rfl;intro hc;rotate_left;intro hc;rotate_right) | apply S.nil | apply T.regs|(apply T.ret;change Done _ _ _ _ _))
 all_goals exact doneV (by simp) Tryz.results43 rfl (by simp only [setP];simp [*])

/-! ### Beams -/
theorem names_snoc {α : Type} (nm : α → ByteArray) (m : List α) (x : α) : ((m ++ [x]).map nm).Nodup ↔ (m.map nm).Nodup ∧ ¬ ∃ y ∈ m, nm y = nm x := by
 rw [List.map_append, List.map_singleton, nodup_snoc]
 simp
/-! ### Houses -/
end Go.Proofs.YtlncmkafjjomgaaGreat
