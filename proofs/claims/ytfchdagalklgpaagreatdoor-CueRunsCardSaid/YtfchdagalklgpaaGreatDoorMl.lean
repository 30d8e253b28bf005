/- Contracts of the reference's functions that say whether a house is valid, the last of them; moves; cues that are right. No conditions but those of each statement. | Contracts: moves, cues that are right (the program's and the reference's side). No conditions but those of each statement. -/
import Derived.Test.YtfchdagalklgpaaGreatDoorMk
set_option linter.unusedSimpArgs false
namespace Go.Proofs.YtfchdagalklgpaaGreatDoor
set_option linter.unusedVariables false
open Go.RowKit

/-! ### Line sets and houses -/
set_option maxHeartbeats 8000000 in
theorem r21_valid (s : SetR) (hf : s.fits) : Fn0 Tryz.prog 52 [rowA s.row] (.b (decide (setP s))) := by
  have hle : (s.lines.map intRow).length = s.lines.length := List.length_map _
  refine Fn0.of Tryz.func52 Tryz.ntmps52 rfl rfl rfl ?_
  simp only [entryTm]
  repeat' (first
    | (apply S.move; exact rfl; exact rfl)
    | (apply S.assign; exact rfl; exact rfl)
    | (apply S.gCN; exact rfl; exact rfl; exact rfl; exact rfl)
    | (apply S.gFT; exact rfl; exact rfl; assumption; exact rfl)
    | (apply S.gFFn; exact rfl; exact rfl; assumption)
    | (apply S.fieldP; exact rfl; exact rfl; exact rfl)
    | (apply S.loadP; exact rfl; exact rfl; exact rfl; exact rfl)
    | (apply S.pC; exact rfl; exact rfl; exact rfl)
    | (apply S.pTp; exact rfl; assumption; exact rfl; exact rfl)
    | (apply S.pFn; exact rfl; assumption; exact rfl; exact rfl)
    | (apply S.call; exact rfl; exact rfl; exact r01_isName _; exact rfl)
    | (apply S.call; exact rfl; exact rfl; exact r21_between _ _ _; exact rfl)
    | (apply S.rem; exact rfl; exact rfl; exact rfl; omega)
    | (apply S.box; exact rfl; exact rfl; exact rfl; exact rfl; exact rfl; exact rfl)
    | (apply S.cmp; exact rfl; exact rfl; exact rfl; exact rfl)
    | (apply S.notP; exact rfl; exact rfl)
    | (apply S.lenR; exact rfl; exact rfl)
    | (apply S.gsFn; exact rfl; exact rfl; exact rfl; intro hc; rotate_left; intro hc; rotate_right)
    | apply S.nil
    | apply T.regs
    | (apply T.cC; exact rfl)
    | (apply T.cSn; exact rfl; intro hc; rotate_left; intro hc; rotate_right)
    | apply T.seq
    | (apply T.skip; first | change T _ _ _ _ _ | change Done _ _ _ _ _ | change Next _ _ _ _ _ _ | skip)
    | (apply T.ret; change Done _ _ _ _ _)
    | apply T.block)
  all_goals first
    | exact doneV (by simp) Tryz.results52 rfl (congrArg Value.bool (decide_eq_false (fun h => by
        obtain ⟨g1, g2, g3, g4, g5, g6, g7, g8, g9, g10, g11, g12, g13, _⟩ := h
        have g14 := g8.1
        first | contradiction | omega)).symm)
    | skip
  have hln : 2 ≤ s.lines.length ∧ s.lines.length ≤ 10 := by omega
  have hlen : 0 ≤ s.length ∧ s.length ≤ 1048576 := by omega
  refine T.loopS (fun k => k ≤ s.lines.length ∧ (∀ x ∈ s.lines.take k, 0 ≤ x ∧ x ≤ s.length) ∧ (s.lines.take k).Pairwise (· < ·)) (fun k => s.lines.length - k) (fun k => [(3, .i k), (1, .ptr 0 0)]) (fun _ => [.live (s.row.map .lf)]) 0 ⟨Nat.zero_le _, by simp, by simp⟩ (.cons rfl rfl (.cons rfl rfl .nil)) (.live rfl .nil) ?_
  rintro k ⟨hk, hin, hpw⟩
  by_cases hlt : k < s.lines.length
  · have h1 : (k : Int) < ((s.lines.map intRow).length : Nat) := by omega
    obtain ⟨x, hx⟩ := get_at hlt
    have hb := row_at (R := intRow) hx
    have hsn := snoc_at hx
    have hmem : x ∈ s.lines := List.mem_of_getElem? hx
    rcases Nat.eq_zero_or_pos k with rfl | hpos
    · have h0 : ¬ (((0 : Nat)) : Int) > 0 := by omega
      have h0' : ¬ (0 : Int) < (((0 : Nat)) : Int) := by omega
      repeat' (first
        | (apply S.move; exact rfl; exact rfl)
        | (apply S.assign; exact rfl; exact rfl)
        | (apply S.gCN; exact rfl; exact rfl; exact rfl; exact rfl)
        | (apply S.gU; exact rfl; exact rfl; exact rfl)
        | (apply S.gFT; exact rfl; exact rfl; assumption; exact rfl)
        | (apply S.gFFn; exact rfl; exact rfl; assumption)
        | (apply S.fieldP; exact rfl; exact rfl; exact rfl)
        | (apply S.loadP; exact rfl; exact rfl; exact rfl; exact rfl)
        | (apply S.loadR; exact rfl; exact rfl; exact rfl)
        | (apply S.pCN; exact rfl; exact rfl; exact rfl)
        | (apply S.pTp; exact rfl; assumption; exact rfl; exact rfl)
        | (apply S.pFn; exact rfl; assumption; exact rfl; exact rfl)
        | (apply T.drawAll anyOrder (by kernel_rfl))
        | (apply S.indexR; exact rfl; exact rfl; exact rfl; exact hb; omega; exact rfl)
        | (apply S.call; exact rfl; exact rfl; exact r21_between _ _ _; exact rfl)
        | (apply S.arith; exact rfl; exact rfl; exact rfl; exact rfl; omega)
        | (apply S.cmp; exact rfl; exact rfl; exact rfl; exact rfl)
        | (apply S.notP; exact rfl; exact rfl)
        | (apply S.lenR; exact rfl; exact rfl)
        | (apply S.gsFn; exact rfl; exact rfl; exact rfl; intro hc; rotate_left; intro hc; rotate_right)
        | apply S.nil
        | apply T.regs
        | apply T.reg
        | (apply T.cC; exact rfl)
        | (apply T.cCN; exact rfl)
        | (apply T.cT; exact rfl; assumption)
        | apply T.seq
        | (apply T.skip; first | change T _ _ _ _ _ | change Done _ _ _ _ _ | change Next _ _ _ _ _ _ | skip)
        | (apply T.ret; change Done _ _ _ _ _)
        | apply T.block)
      all_goals (try change Next _ _ _ _ _ _)
      all_goals first
        | exact Next.go (0 + 1) ⟨by omega, by rw [hsn]; intro y hy; obtain rfl : y = x := (by simpa using hy); omega, by rw [hsn]; simp⟩ (by omega) (.cons rfl rfl (.cons rfl rfl .nil)) (.live rfl .nil)
        | exact doneV (by simp) Tryz.results52 rfl (congrArg Value.bool (decide_eq_false (fun h => by
            obtain ⟨g1, g2, g3, g4, g5, g6, g7, g8, _⟩ := h
            have := g8.2.1 x hmem
            first | contradiction | omega)).symm)
    · obtain ⟨j, rfl⟩ : ∃ j, k = j + 1 := ⟨k - 1, by omega⟩
      have h0 : (((j + 1 : Nat)) : Int) > 0 := by omega
      have h0' : (0 : Int) < (((j + 1 : Nat)) : Int) := by omega
      obtain ⟨y, hy⟩ := get_at (l := s.lines) (k := j) (by omega)
      have hb2 : (s.lines.map intRow)[((((j + 1 : Nat)) : Int) - 1).toNat]? = some (intRow y) := by rw [show ((((j + 1 : Nat)) : Int) - 1).toNat = j by omega, List.getElem?_map, hy]; rfl
      have hps := pw_snoc hpw hy hx
      repeat' (first
        | (apply S.move; exact rfl; exact rfl)
        | (apply S.assign; exact rfl; exact rfl)
        | (apply S.gU; exact rfl; exact rfl; exact rfl)
        | (apply S.gTT; exact rfl; exact rfl; assumption)
        | (apply S.gFT; exact rfl; exact rfl; assumption; exact rfl)
        | (apply S.gFFn; exact rfl; exact rfl; assumption)
        | (apply S.fieldP; exact rfl; exact rfl; exact rfl)
        | (apply S.loadP; exact rfl; exact rfl; exact rfl; exact rfl)
        | (apply S.loadR; exact rfl; exact rfl; exact rfl)
        | (apply S.pTp; exact rfl; assumption; exact rfl; exact rfl)
        | (apply S.pFn; exact rfl; assumption; exact rfl; exact rfl)
        | (apply T.drawAll anyOrder (by kernel_rfl))
        | (apply S.indexR; exact rfl; exact rfl; exact rfl; exact hb; omega; exact rfl)
        | (apply S.indexR; exact rfl; exact rfl; exact rfl; exact hb2; omega; exact rfl)
        | (apply S.call; exact rfl; exact rfl; exact r21_between _ _ _; exact rfl)
        | (apply S.arith; exact rfl; exact rfl; exact rfl; exact rfl; omega)
        | (apply S.cmp; exact rfl; exact rfl; exact rfl; exact rfl)
        | (apply S.notP; exact rfl; exact rfl)
        | (apply S.lenR; exact rfl; exact rfl)
        | (apply S.gsFn; exact rfl; exact rfl; exact rfl; intro hc; rotate_left; intro hc; rotate_right)
        | apply S.nil
        | apply T.regs
        | apply T.reg
        | (apply T.cC; exact rfl)
        | (apply T.cT; exact rfl; assumption)
        | (apply T.cS; exact rfl; intro hc; rotate_left; intro hc; rotate_right)
        | apply T.seq
        | (apply T.skip; first | change T _ _ _ _ _ | change Done _ _ _ _ _ | change Next _ _ _ _ _ _ | skip)
        | (apply T.ret; change Done _ _ _ _ _)
        | apply T.block)
      all_goals (try change Next _ _ _ _ _ _)
      all_goals first
        | exact Next.go (j + 1 + 1) ⟨by omega, by rw [hsn]; intro z hz; rcases List.mem_append.1 hz with hz | hz; exact hin z hz; obtain rfl : z = x := (by simpa using hz); omega, hps.2 (by omega)⟩ (by omega) (.cons rfl rfl (.cons rfl rfl .nil)) (.live rfl .nil)
        | exact doneV (by simp) Tryz.results52 rfl (congrArg Value.bool (decide_eq_false (fun h => by
            obtain ⟨g1, g2, g3, g4, g5, g6, g7, g8, _⟩ := h
            have h3 := g8.2.1 x hmem
            have h4 := pw_get g8.2.2 hy hx (by omega)
            first | contradiction | omega)).symm)
  · have h1 : ¬ (k : Int) < ((s.lines.map intRow).length : Nat) := by omega
    have hk2 : s.lines.take k = s.lines := List.take_of_length_le (by omega)
    rw [hk2] at hin hpw
    have hlines : linesP s.lines s.length := ⟨hln, hin, hpw⟩
    repeat' (first
      | (apply S.move; exact rfl; exact rfl)
      | (apply S.assign; exact rfl; exact rfl)
      | (apply S.gTT; exact rfl; exact rfl; assumption)
      | (apply S.gTF; exact rfl; exact rfl; assumption; exact rfl)
      | (apply S.fieldP; exact rfl; exact rfl; exact rfl)
      | (apply S.loadP; exact rfl; exact rfl; exact rfl; exact rfl)
      | (apply S.pTp; exact rfl; assumption; exact rfl; exact rfl)
      | (apply S.pFp; exact rfl; assumption; exact rfl; exact rfl)
      | (apply S.call; exact rfl; exact rfl; exact r21_items s hlen hf.2.1; exact rfl)
      | (apply S.call; exact rfl; exact rfl; exact r21_bricks s.bricks hf.2.2; exact rfl)
      | (apply S.loadPA; exact rfl; exact rfl; exact rfl; exact rfl)
      | (apply S.cmp; exact rfl; exact rfl; exact rfl; exact rfl)
      | (apply S.lenR; exact rfl; exact rfl)
      | (apply S.gsT; exact rfl; exact rfl; exact rfl; intro hc; rotate_left; intro hc; rotate_right)
      | apply S.nil
      | apply T.regs
      | (apply T.cF; exact rfl; assumption)
      | apply T.seq
      | (apply T.ret; change Done _ _ _ _ _)
      | (apply T.exit; first | change T _ _ _ _ _ | change Done _ _ _ _ _ | change Next _ _ _ _ _ _ | skip))
    all_goals exact doneV (by simp) Tryz.results52 rfl (by simp only [setP]; simp_all; try omega)
theorem idx_take {α : Type} {p : α → Prop} [DecidablePred p] {l : List α} {k : Nat} (h : ∀ x ∈ l.take k, ¬ p x) (hk : l.length ≤ k) : idx p l = -1 := idx_none (by rw [List.take_of_length_le hk] at h; exact h)
set_option maxHeartbeats 4000000 in
theorem r30_findSet (h : HouseR) (n : ByteArray) (hs : h.sets.length ≤ 9223372036854775807) : Fn0 Tryz.prog 53 [rowA h.row, .s n] (.i (setIdx h n)) := by
  have hle : (h.sets.map SetR.row).length = h.sets.length := List.length_map _
  refine Fn0.of Tryz.func53 Tryz.ntmps53 rfl rfl rfl ?_
  simp only [entryTm]
  repeat' (first
    | (apply S.assign; exact rfl; exact rfl)
    | (apply S.box; exact rfl; exact rfl; exact rfl; exact rfl; exact rfl; exact rfl)
    | apply S.nil
    | apply T.regs
    | apply T.seq
    | apply T.block)
  refine T.loopS (fun k => k ≤ h.sets.length ∧ ∀ s ∈ h.sets.take k, ¬ s.name = n) (fun k => h.sets.length - k) (fun k => [(5, .i k), (2, .ptr 0 0), (1, .s n)]) (fun _ => [.live (h.row.map .lf)]) 0 ⟨Nat.zero_le _, by simp⟩ (.cons rfl rfl (.cons rfl rfl (.cons rfl rfl .nil))) (.live rfl .nil) ?_
  rintro k ⟨hk, hno⟩
  by_cases hlt : k < h.sets.length
  · have h1 : (k : Int) < ((h.sets.map SetR.row).length : Nat) := by omega
    obtain ⟨x, hx⟩ := get_at hlt
    have hb := row_at (R := SetR.row) hx
    have hsn := snoc_at hx
    repeat' (first
      | (apply S.move; exact rfl; exact rfl)
      | (apply S.assign; exact rfl; exact rfl)
      | (apply S.fieldP; exact rfl; exact rfl; exact rfl)
      | (apply S.loadP; exact rfl; exact rfl; exact rfl; exact rfl)
      | (apply S.fieldR; exact rfl; exact rfl)
      | (apply S.loadR; exact rfl; exact rfl; exact rfl)
      | (apply S.indexR; exact rfl; exact rfl; exact rfl; exact hb; omega; exact rfl)
      | (apply S.arith; exact rfl; exact rfl; exact rfl; exact rfl; omega)
      | (apply S.cmp; exact rfl; exact rfl; exact rfl; exact rfl)
      | (apply S.strEq; exact rfl; exact rfl; exact rfl)
      | (apply S.lenR; exact rfl; exact rfl)
      | apply S.nil
      | apply T.regs
      | apply T.reg
      | (apply T.cT; exact rfl; assumption)
      | (apply T.cS; exact rfl; intro hc; rotate_left; intro hc; rotate_right)
      | apply T.seq
      | (apply T.skip; first | change T _ _ _ _ _ | change Done _ _ _ _ _ | change Next _ _ _ _ _ _ | skip)
      | (apply T.ret; change Done _ _ _ _ _)
      | apply T.block)
    all_goals (try change Next _ _ _ _ _ _)
    all_goals first
      | exact Next.go (k + 1) ⟨by omega, by rw [hsn]; intro y hy; rcases List.mem_append.1 hy with hy | hy; exact hno y hy; obtain rfl : y = x := (by simpa using hy); assumption⟩ (by omega) (.cons rfl rfl (.cons rfl rfl (.cons rfl rfl .nil))) (.live rfl .nil)
      | exact doneV (by simp) Tryz.results53 rfl (by rw [setIdx, idx_at hx hno (by assumption)])
  · have h1 : ¬ (k : Int) < ((h.sets.map SetR.row).length : Nat) := by omega
    repeat' (first
      | (apply S.move; exact rfl; exact rfl)
      | (apply S.assign; exact rfl; exact rfl)
      | (apply S.fieldP; exact rfl; exact rfl; exact rfl)
      | (apply S.loadP; exact rfl; exact rfl; exact rfl; exact rfl)
      | (apply S.cmp; exact rfl; exact rfl; exact rfl; exact rfl)
      | (apply S.lenR; exact rfl; exact rfl)
      | apply S.nil
      | apply T.regs
      | (apply T.cF; exact rfl; assumption)
      | apply T.seq
      | (apply T.ret; change Done _ _ _ _ _)
      | (apply T.exit; first | change T _ _ _ _ _ | change Done _ _ _ _ _ | change Next _ _ _ _ _ _ | skip))
    exact doneV (by simp) Tryz.results53 rfl (by rw [setIdx, idx_take hno (by omega)])
set_option maxHeartbeats 8000000 in
theorem r30_valid (h : HouseR) (hf : h.fits) : Fn0 Tryz.prog 27 [rowA h.row] (.b (decide (houseP h))) := by
  obtain ⟨hf1, hf2, hf3⟩ := hf
  have hle : (h.sets.map SetR.row).length = h.sets.length := List.length_map _
  refine Fn0.of Tryz.func27 Tryz.ntmps27 rfl rfl rfl ?_
  simp only [entryTm]
  repeat' (first
    | (apply S.move; exact rfl; exact rfl)
    | (apply S.assign; exact rfl; exact rfl)
    | (apply S.gCN; exact rfl; exact rfl; exact rfl; exact rfl)
    | (apply S.gFF; exact rfl; exact rfl; assumption)
    | (apply S.gFT; exact rfl; exact rfl; assumption; exact rfl)
    | (apply S.gFFn; exact rfl; exact rfl; assumption)
    | (apply S.fieldP; exact rfl; exact rfl; exact rfl)
    | (apply S.loadP; exact rfl; exact rfl; exact rfl; exact rfl)
    | (apply S.pC; exact rfl; exact rfl; exact rfl)
    | (apply S.pTp; exact rfl; assumption; exact rfl; exact rfl)
    | (apply S.pFp; exact rfl; assumption; exact rfl; exact rfl)
    | (apply S.pFn; exact rfl; assumption; exact rfl; exact rfl)
    | (apply S.call; exact rfl; exact rfl; exact r01_isName _; exact rfl)
    | (apply S.call; exact rfl; exact rfl; exact r19_valid h.roofs hf2; exact rfl)
    | (apply S.box; exact rfl; exact rfl; exact rfl; exact rfl; exact rfl; exact rfl)
    | (apply S.cmp; exact rfl; exact rfl; exact rfl; exact rfl)
    | (apply S.notP; exact rfl; exact rfl)
    | (apply S.lenR; exact rfl; exact rfl)
    | (apply S.gsFn; exact rfl; exact rfl; exact rfl; intro hc; rotate_left; intro hc; rotate_right)
    | (apply S.gsF; exact rfl; exact rfl; exact rfl; intro hc; rotate_left; intro hc; rotate_right)
    | apply S.nil
    | apply T.regs
    | (apply T.cC; exact rfl)
    | (apply T.cSn; exact rfl; intro hc; rotate_left; intro hc; rotate_right)
    | apply T.seq
    | (apply T.skip; first | change T _ _ _ _ _ | change Done _ _ _ _ _ | change Next _ _ _ _ _ _ | skip)
    | (apply T.ret; change Done _ _ _ _ _)
    | apply T.block)
  all_goals first
    | exact doneV (by simp) Tryz.results27 rfl (congrArg Value.bool (decide_eq_false (fun hh => by
        obtain ⟨g1, g2, g3, g4, g5, _⟩ := hh
        first | contradiction | omega)).symm)
    | skip
  have hs60 : h.sets.length ≤ 60 := by omega
  refine T.loopS (fun k => k ≤ h.sets.length ∧ (∀ s ∈ h.sets.take k, setP s ∧ s.high ≤ h.height) ∧ ((h.sets.take k).map SetR.name).Nodup) (fun k => h.sets.length - k) (fun k => [(3, .i k), (1, .ptr 0 0)]) (fun _ => [.live (h.row.map .lf)]) 0 ⟨Nat.zero_le _, by simp⟩ (.cons rfl rfl (.cons rfl rfl .nil)) (.live rfl .nil) ?_
  rintro k ⟨hk, hok, hnd⟩
  by_cases hlt : k < h.sets.length
  · have h1 : (k : Int) < ((h.sets.map SetR.row).length : Nat) := by omega
    obtain ⟨x, hx⟩ := get_at hlt
    have hb := row_at (R := SetR.row) hx
    have hsn := snoc_at hx
    have hmem : x ∈ h.sets := List.mem_of_getElem? hx
    have hidx : setIdx h x.name = (k : Int) ↔ _ := idx_eq_iff (p := fun s : SetR => s.name = x.name) hx rfl
    repeat' (first
      | (apply S.move; exact rfl; exact rfl)
      | (apply S.assign; exact rfl; exact rfl)
      | (apply S.gCN; exact rfl; exact rfl; exact rfl; exact rfl)
      | (apply S.gFF; exact rfl; exact rfl; assumption)
      | (apply S.gFT; exact rfl; exact rfl; assumption; exact rfl)
      | (apply S.gFFn; exact rfl; exact rfl; assumption)
      | (apply S.fieldP; exact rfl; exact rfl; exact rfl)
      | (apply S.loadP; exact rfl; exact rfl; exact rfl; exact rfl)
      | (apply S.fieldR; exact rfl; exact rfl)
      | (apply S.loadR; exact rfl; exact rfl; exact rfl)
      | (apply S.pC; exact rfl; exact rfl; exact rfl)
      | (apply S.pTp; exact rfl; assumption; exact rfl; exact rfl)
      | (apply S.pFp; exact rfl; assumption; exact rfl; exact rfl)
      | (apply S.pFn; exact rfl; assumption; exact rfl; exact rfl)
      | (apply T.drawAll anyOrder (by kernel_rfl))
      | (apply S.indexR; exact rfl; exact rfl; exact rfl; exact hb; omega; exact rfl)
      | (apply S.loadRW; exact rfl; exact rfl; exact rfl; exact rfl)
      | (apply S.call; exact rfl; exact rfl; exact r21_valid x (hf3 x hmem); exact rfl)
      | (apply S.call; exact rfl; exact rfl; exact r30_findSet h x.name hf1; exact rfl)
      | (apply S.arith; exact rfl; exact rfl; exact rfl; exact rfl; omega)
      | (apply S.loadPA; exact rfl; exact rfl; exact rfl; exact rfl)
      | (apply S.cmp; exact rfl; exact rfl; exact rfl; exact rfl)
      | (apply S.notP; exact rfl; exact rfl)
      | (apply S.lenR; exact rfl; exact rfl)
      | (apply S.gsFn; exact rfl; exact rfl; exact rfl; intro hc; rotate_left; intro hc; rotate_right)
      | (apply S.gsF; exact rfl; exact rfl; exact rfl; intro hc; rotate_left; intro hc; rotate_right)
      | apply S.nil
      | apply T.regs
      | apply T.reg
      | (apply T.cC; exact rfl)
      | (apply T.cT; exact rfl; assumption)
      | (apply T.cSn; exact rfl; intro hc; rotate_left; intro hc; rotate_right)
      | apply T.seq
      | (apply T.skip; first | change T _ _ _ _ _ | change Done _ _ _ _ _ | change Next _ _ _ _ _ _ | skip)
      | (apply T.ret; change Done _ _ _ _ _)
      | apply T.block)
    all_goals (try change Next _ _ _ _ _ _)
    all_goals first
      | exact Next.go (k + 1) ⟨by omega, by rw [hsn]; intro y hy; rcases List.mem_append.1 hy with hy | hy; exact hok y hy; obtain rfl : y = x := (by simpa using hy); exact ⟨by assumption, by omega⟩, by rw [hsn]; exact (names_snoc _ _ _).2 ⟨hnd, hidx.1 (by first | assumption | exact Classical.byContradiction (by assumption))⟩⟩ (by omega) (.cons rfl rfl (.cons rfl rfl .nil)) (.live rfl .nil)
      | exact doneV (by simp) Tryz.results27 rfl (congrArg Value.bool (decide_eq_false (fun hh => by
          obtain ⟨_, _, _, _, _, g6, g7⟩ := hh
          have h3 := g6 x hmem
          have h4 := names_take g7 (k + 1)
          rw [hsn] at h4
          have h5 := hidx.2 ((names_snoc _ _ _).1 h4).2
          first | contradiction | exact absurd h3.1 (by assumption) | (have := h3.2; omega))).symm)
  · have h1 : ¬ (k : Int) < ((h.sets.map SetR.row).length : Nat) := by omega
    have hk2 : h.sets.take k = h.sets := List.take_of_length_le (by omega)
    rw [hk2] at hok hnd
    repeat' (first
      | (apply S.move; exact rfl; exact rfl)
      | (apply S.assign; exact rfl; exact rfl)
      | (apply S.fieldP; exact rfl; exact rfl; exact rfl)
      | (apply S.loadP; exact rfl; exact rfl; exact rfl; exact rfl)
      | (apply S.cmp; exact rfl; exact rfl; exact rfl; exact rfl)
      | (apply S.lenR; exact rfl; exact rfl)
      | apply S.nil
      | apply T.regs
      | (apply T.cF; exact rfl; assumption)
      | apply T.seq
      | (apply T.ret; change Done _ _ _ _ _)
      | (apply T.exit; first | change T _ _ _ _ _ | change Done _ _ _ _ _ | change Next _ _ _ _ _ _ | skip))
    exact doneV (by simp) Tryz.results27 rfl (congrArg Value.bool (decide_eq_true ⟨by assumption, by omega, by omega, hs60, by assumption, hok, hnd⟩).symm)
end Go.Proofs.YtfchdagalklgpaaGreatDoor
set_option linter.unusedSimpArgs false
namespace Go.Proofs.YtfchdagalklgpaaGreatDoor
set_option linter.unusedVariables false
open Go.RowKit

/-! ### Moves -/
structure MoveR where
  set : ByteArray
  to : Int
  speed : Int
  rise : Int
  fall : Int
def MoveR.row (m : MoveR) : List Lf := [.s m.set, .i m.to, .i m.speed, .i m.rise, .i m.fall]
structure CueR where
  name : ByteArray
  after : ByteArray
  link : Int
  delay : Int
  moves : List MoveR
  crew : Int
  power : Int
def CueR.row (q : CueR) : List Lf := [.s q.name, .s q.after, .i q.link, .i q.delay, .sl (q.moves.map MoveR.row), .i q.crew, .i q.power]
def moveP (m : MoveR) : Prop := nameB m.set = true ∧ (-1048576 ≤ m.to ∧ m.to ≤ 1048576) ∧ (1 ≤ m.speed ∧ m.speed ≤ 8192) ∧ (1 ≤ m.rise ∧ m.rise ≤ 16384) ∧ 1 ≤ m.fall ∧ m.fall ≤ 16384
instance (m : MoveR) : Decidable (moveP m) := by unfold moveP; exact inferInstance
theorem prof_within (n lo hi : Int) : Fn0 Tryz.prog 95 [.i n, .i lo, .i hi] (.b (decide (lo ≤ n ∧ n ≤ hi))) := by
  refine Fn0.of Tryz.func95 Tryz.ntmps95 rfl rfl rfl ?_
  simp only [entryTm]
  repeat' (first
    | (apply S.move; exact rfl; exact rfl)
    | (apply S.assign; exact rfl; exact rfl)
    | (apply S.gTT; exact rfl; exact rfl; assumption)
    | (apply S.gTF; exact rfl; exact rfl; assumption; exact rfl)
    | (apply S.pTp; exact rfl; assumption; exact rfl; exact rfl)
    | (apply S.pFp; exact rfl; assumption; exact rfl; exact rfl)
    | (apply S.cmp; exact rfl; exact rfl; exact rfl; exact rfl)
    | (apply S.gsT; exact rfl; exact rfl; exact rfl; intro hc; rotate_left; intro hc; rotate_right)
    | apply S.nil
    | apply T.regs
    | (apply T.ret; change Done _ _ _ _ _))
  all_goals exact doneV (by simp) Tryz.results95 rfl (by simp [*])
set_option maxHeartbeats 4000000 in
theorem prof_valid (m : MoveR) : Fn0 Tryz.prog 61 [rowA m.row] (.b (decide (moveP m))) := by
  refine Fn0.of Tryz.func61 Tryz.ntmps61 rfl rfl rfl ?_
  simp only [entryTm]
  repeat' (first
    | (apply S.move; exact rfl; exact rfl)
    | (apply S.assign; exact rfl; exact rfl)
    | (apply S.gCN; exact rfl; exact rfl; exact rfl; exact rfl)
    | (apply S.gTT; exact rfl; exact rfl; assumption)
    | (apply S.gTF; exact rfl; exact rfl; assumption; exact rfl)
    | (apply S.fieldP; exact rfl; exact rfl; exact rfl)
    | (apply S.loadP; exact rfl; exact rfl; exact rfl; exact rfl)
    | (apply S.pCN; exact rfl; exact rfl; exact rfl)
    | (apply S.pTp; exact rfl; assumption; exact rfl; exact rfl)
    | (apply S.pFp; exact rfl; assumption; exact rfl; exact rfl)
    | (apply S.call; exact rfl; exact rfl; exact dec_isName _; exact rfl)
    | (apply S.call; exact rfl; exact rfl; exact prof_within _ _ _; exact rfl)
    | (apply S.box; exact rfl; exact rfl; exact rfl; exact rfl; exact rfl; exact rfl)
    | (apply S.gsT; exact rfl; exact rfl; exact rfl; intro hc; rotate_left; intro hc; rotate_right)
    | apply S.nil
    | apply T.regs
    | (apply T.ret; change Done _ _ _ _ _))
  all_goals exact doneV (by simp) Tryz.results61 rfl (by simp only [moveP]; simp [*])
theorem r34_within (n hi : Int) : Fn0 Tryz.prog 83 [.i n, .i hi] (.b (decide (1 ≤ n ∧ n ≤ hi))) := by
  refine Fn0.of Tryz.func83 Tryz.ntmps83 rfl rfl rfl ?_
  simp only [entryTm]
  repeat' (first
    | (apply S.move; exact rfl; exact rfl)
    | (apply S.assign; exact rfl; exact rfl)
    | (apply S.gTT; exact rfl; exact rfl; assumption)
    | (apply S.gTF; exact rfl; exact rfl; assumption; exact rfl)
    | (apply S.pTp; exact rfl; assumption; exact rfl; exact rfl)
    | (apply S.pFp; exact rfl; assumption; exact rfl; exact rfl)
    | (apply S.cmp; exact rfl; exact rfl; exact rfl; exact rfl)
    | (apply S.gsT; exact rfl; exact rfl; exact rfl; intro hc; rotate_left; intro hc; rotate_right)
    | apply S.nil
    | apply T.regs
    | (apply T.ret; change Done _ _ _ _ _))
  all_goals exact doneV (by simp) Tryz.results83 rfl (by simp [*])
set_option maxHeartbeats 4000000 in
theorem r34_valid (m : MoveR) : Fn0 Tryz.prog 54 [rowA m.row] (.b (decide (moveP m))) := by
  refine Fn0.of Tryz.func54 Tryz.ntmps54 rfl rfl rfl ?_
  simp only [entryTm]
  repeat' (first
    | (apply S.move; exact rfl; exact rfl)
    | (apply S.assign; exact rfl; exact rfl)
    | (apply S.gCN; exact rfl; exact rfl; exact rfl; exact rfl)
    | (apply S.gTT; exact rfl; exact rfl; assumption)
    | (apply S.gTF; exact rfl; exact rfl; assumption; exact rfl)
    | (apply S.gFF; exact rfl; exact rfl; assumption)
    | (apply S.gFT; exact rfl; exact rfl; assumption; exact rfl)
    | (apply S.gFFn; exact rfl; exact rfl; assumption)
    | (apply S.fieldP; exact rfl; exact rfl; exact rfl)
    | (apply S.loadP; exact rfl; exact rfl; exact rfl; exact rfl)
    | (apply S.pC; exact rfl; exact rfl; exact rfl)
    | (apply S.pCN; exact rfl; exact rfl; exact rfl)
    | (apply S.pTp; exact rfl; assumption; exact rfl; exact rfl)
    | (apply S.pFp; exact rfl; assumption; exact rfl; exact rfl)
    | (apply S.pFn; exact rfl; assumption; exact rfl; exact rfl)
    | (apply S.call; exact rfl; exact rfl; exact r01_isName _; exact rfl)
    | (apply S.call; exact rfl; exact rfl; exact r34_within _ _; exact rfl)
    | (apply S.box; exact rfl; exact rfl; exact rfl; exact rfl; exact rfl; exact rfl)
    | (apply S.cmp; exact rfl; exact rfl; exact rfl; exact rfl)
    | (apply S.notP; exact rfl; exact rfl)
    | (apply S.gsFn; exact rfl; exact rfl; exact rfl; intro hc; rotate_left; intro hc; rotate_right)
    | (apply S.gsT; exact rfl; exact rfl; exact rfl; intro hc; rotate_left; intro hc; rotate_right)
    | (apply S.gsF; exact rfl; exact rfl; exact rfl; intro hc; rotate_left; intro hc; rotate_right)
    | apply S.nil
    | apply T.regs
    | (apply T.cC; exact rfl)
    | (apply T.cS; exact rfl; intro hc; rotate_left; intro hc; rotate_right)
    | apply T.seq
    | (apply T.skip; first | change T _ _ _ _ _ | change Done _ _ _ _ _ | change Next _ _ _ _ _ _ | skip)
    | (apply T.ret; change Done _ _ _ _ _))
  all_goals exact doneV (by simp) Tryz.results54 rfl (by simp only [moveP]; simp_all; try omega)

/-! ### Cues that are right -/
def moveIn (h : HouseR) (m : MoveR) : Prop := moveP m ∧ ∃ s, 0 ≤ setIdx h m.set ∧ h.sets[(setIdx h m.set).toNat]? = some s ∧ s.low ≤ m.to ∧ m.to ≤ s.high
def rightP (h : HouseR) (q : CueR) : Prop := nameB q.name = true ∧ (1 ≤ q.link ∧ q.link ≤ 3) ∧ (0 ≤ q.delay ∧ q.delay ≤ 2147483648) ∧ (0 ≤ q.crew ∧ q.crew ≤ 100) ∧ (0 ≤ q.power ∧ q.power ≤ 100) ∧ (∀ m ∈ q.moves, moveIn h m) ∧ (q.moves.map MoveR.set).Nodup
noncomputable instance (h : HouseR) (q : CueR) : Decidable (rightP h q) := Classical.propDecidable _
theorem idx_get {α : Type} {p : α → Prop} [DecidablePred p] {l : List α} (h : ¬ idx p l < 0) : ∃ x, l[(idx p l).toNat]? = some x := by
  have := idx_lt p l
  exact ⟨l[(idx p l).toNat]'(by omega), List.getElem?_eq_getElem _⟩
theorem row_at' {α : Type} {l : List α} {R : α → List Lf} {i : Int} {x : α} (hx : l[i.toNat]? = some x) : (l.map R)[i.toNat]? = some (R x) := by rw [List.getElem?_map, hx]; rfl
theorem moveIn_iff {h : HouseR} {m : MoveR} {s : SetR} (hk : ¬ setIdx h m.set < 0) (hs : h.sets[(setIdx h m.set).toNat]? = some s) : moveIn h m ↔ moveP m ∧ s.low ≤ m.to ∧ m.to ≤ s.high := by
  constructor
  · rintro ⟨h1, t, h2, h3, h4⟩
    rw [hs] at h3; injection h3 with h3; subst h3
    exact ⟨h1, h4⟩
  · rintro ⟨h1, h2⟩
    exact ⟨h1, s, by omega, hs, h2⟩
theorem cue_right1 (m x : MoveR) : Fn0 Tryz.prog 63 [rowA x.row, .rop m.row] (.b (decide (x.set = m.set))) := by
  refine Fn0.of Tryz.func63 Tryz.ntmps63 rfl rfl rfl ?_
  simp only [entryTm]
  repeat' (first
    | (apply S.assign; exact rfl; exact rfl)
    | (apply S.fieldP; exact rfl; exact rfl; exact rfl)
    | (apply S.loadP; exact rfl; exact rfl; exact rfl; exact rfl)
    | (apply S.fieldR; exact rfl; exact rfl)
    | (apply S.loadR; exact rfl; exact rfl; exact rfl)
    | (apply S.box; exact rfl; exact rfl; exact rfl; exact rfl; exact rfl; exact rfl)
    | (apply S.strEq; exact rfl; exact rfl; exact rfl)
    | apply S.nil
    | apply T.regs
    | (apply T.ret; change Done _ _ _ _ _))
  all_goals exact doneV (by simp) Tryz.results63 rfl (by rfl)
theorem right_contains (l : List MoveR) (k : Nat) (m : MoveR) (hs : l.length ≤ 9223372036854775807) :
    Fn0 Tryz.prog 62 [.sl ((l.map MoveR.row).take ((k : Nat) : Int).toNat), .fn (.func 63) [] [.rop m.row]] (.b (decide (∃ y ∈ l.take k, y.set = m.set))) := by
  rw [Int.toNat_natCast, ← List.map_take]
  exact containsFuncMove (l.take k) MoveR.row (fun y => y.set = m.set) _ _ (fun _ => rfl) (by simp; omega) rfl fun y hy => cue_right1 m y
theorem moves_false {h : HouseR} {q : CueR} {k : Nat} {m : MoveR} (hm : q.moves[k]? = some m) (hn : ¬ moveIn h m ∨ ∃ y ∈ q.moves.take k, y.set = m.set) : ¬ rightP h q := by
  rintro ⟨_, _, _, _, _, h6, h7⟩
  rcases hn with hn | hn
  · exact hn (h6 m (List.mem_of_getElem? hm))
  · have h4 := names_take h7 (k + 1)
    rw [snoc_at hm] at h4
    exact ((names_snoc _ _ _).1 h4).2 hn
set_option maxHeartbeats 8000000 in
theorem cue_right (h : HouseR) (q : CueR) (hf : h.sets.length ≤ 9223372036854775807) (hq : q.moves.length ≤ 9223372036854775807) : Fn0 Tryz.prog 34 [rowA h.row, rowA q.row] (.b (decide (rightP h q))) := by
  have hle : (q.moves.map MoveR.row).length = q.moves.length := List.length_map _
  have hles : (h.sets.map SetR.row).length = h.sets.length := List.length_map _
  refine Fn0.of Tryz.func34 Tryz.ntmps34 rfl rfl rfl ?_
  simp only [entryTm]
  repeat' (first
    | (apply S.move; exact rfl; exact rfl)
    | (apply S.assign; exact rfl; exact rfl)
    | (apply S.gC; exact rfl; exact rfl; exact rfl)
    | (apply S.gCN; exact rfl; exact rfl; exact rfl; exact rfl)
    | (apply S.gU; exact rfl; exact rfl; exact rfl)
    | (apply S.gTT; exact rfl; exact rfl; assumption)
    | (apply S.gFT; exact rfl; exact rfl; assumption; exact rfl)
    | (apply S.gTFn; exact rfl; exact rfl; assumption; exact rfl)
    | (apply S.gFFn; exact rfl; exact rfl; assumption)
    | (apply S.fieldP; exact rfl; exact rfl; exact rfl)
    | (apply S.loadP; exact rfl; exact rfl; exact rfl; exact rfl)
    | (apply S.pC; exact rfl; exact rfl; exact rfl)
    | (apply S.pCN; exact rfl; exact rfl; exact rfl)
    | (apply S.pTp; exact rfl; assumption; exact rfl; exact rfl)
    | (apply S.pFn; exact rfl; assumption; exact rfl; exact rfl)
    | (apply S.call; exact rfl; exact rfl; exact dec_isName _; exact rfl)
    | (apply S.call; exact rfl; exact rfl; exact cue_between _ _ _; exact rfl)
    | (apply S.box; exact rfl; exact rfl; exact rfl; exact rfl; exact rfl; exact rfl)
    | (apply S.cmp; exact rfl; exact rfl; exact rfl; exact rfl)
    | (apply S.notP; exact rfl; exact rfl)
    | (apply S.lenR; exact rfl; exact rfl)
    | (apply S.gsTn; exact rfl; exact rfl; exact rfl; intro hc; rotate_left; intro hc; rotate_right)
    | (apply S.gsFn; exact rfl; exact rfl; exact rfl; intro hc; rotate_left; intro hc; rotate_right)
    | apply S.nil
    | apply T.regs
    | (apply T.cC; exact rfl)
    | (apply T.cSn; exact rfl; intro hc; rotate_left; intro hc; rotate_right)
    | apply T.seq
    | (apply T.skip; first | change T _ _ _ _ _ | change Done _ _ _ _ _ | change Next _ _ _ _ _ _ | skip)
    | (apply T.ret; change Done _ _ _ _ _)
    | apply T.block)
  all_goals first
    | exact doneV (by simp) Tryz.results34 rfl (congrArg Value.bool (decide_eq_false (fun hh => by
        obtain ⟨g1, g2, g3, g4, g5, _⟩ := hh
        first | contradiction | omega)).symm)
    | skip
  all_goals
    refine T.loopS (fun k => k ≤ q.moves.length ∧ (∀ m ∈ q.moves.take k, moveIn h m) ∧ ((q.moves.take k).map MoveR.set).Nodup) (fun k => q.moves.length - k) (fun k => [(48, .i k), (47, .i (q.moves.map MoveR.row).length), (46, .sl (q.moves.map MoveR.row)), (2, .ptr 0 0), (3, .ptr 1 0)]) (fun _ => [.live (h.row.map .lf), .live (q.row.map .lf)]) 0 ⟨Nat.zero_le _, by simp⟩ (.cons rfl rfl (.cons rfl rfl (.cons rfl rfl (.cons rfl rfl (.cons rfl rfl .nil))))) (.live rfl (.live rfl .nil)) ?_
    rintro k ⟨hk, hok, hnd⟩
    by_cases hlt : k < q.moves.length
    · have h1 : (k : Int) < ((q.moves.map MoveR.row).length : Nat) := by omega
      obtain ⟨m, hm⟩ := get_at hlt
      have hb := row_at (R := MoveR.row) hm
      have hsn := snoc_at hm
      have hmf := moves_false (h := h) hm
      by_cases hk0 : setIdx h m.set < 0
      · have hbad : ¬ moveIn h m := fun ⟨_, _, hh, _⟩ => by omega
        repeat' (first
          | (apply S.move; exact rfl; exact rfl)
          | (apply S.assign; exact rfl; exact rfl)
          | (apply S.gCN; exact rfl; exact rfl; exact rfl; exact rfl)
          | (apply S.gFT; exact rfl; exact rfl; assumption; exact rfl)
          | (apply S.gFFn; exact rfl; exact rfl; assumption)
          | (apply S.fieldP; exact rfl; exact rfl; exact rfl)
          | (apply S.loadP; exact rfl; exact rfl; exact rfl; exact rfl)
          | (apply S.pC; exact rfl; exact rfl; exact rfl)
          | (apply S.pTp; exact rfl; assumption; exact rfl; exact rfl)
          | (apply S.pFn; exact rfl; assumption; exact rfl; exact rfl)
          | (apply T.drawAll anyOrder (by kernel_rfl))
          | (apply S.indexR; exact rfl; exact rfl; exact rfl; exact hb; omega; exact rfl)
          | (apply S.loadRW; exact rfl; exact rfl; exact rfl; exact rfl)
          | (apply S.call; exact rfl; exact rfl; exact prof_valid m; exact rfl)
          | (apply S.call; exact rfl; exact rfl; exact cue_set h m.set hf; exact rfl)
          | (apply S.loadPA; exact rfl; exact rfl; exact rfl; exact rfl)
          | (apply S.alloc; exact rfl; exact rfl; exact rfl; exact rfl; exact rfl)
          | (apply S.store; exact rfl; exact rfl; exact rfl; exact rfl; exact rfl; exact rfl; exact rfl)
          | (apply S.cmp; exact rfl; exact rfl; exact rfl; exact rfl)
          | (apply S.notP; exact rfl; exact rfl)
          | (apply S.gsFn; exact rfl; exact rfl; exact rfl; intro hc; rotate_left; intro hc; rotate_right)
          | apply S.nil
          | apply T.regs
          | (apply T.cC; exact rfl)
          | (apply T.cT; exact rfl; assumption)
          | apply T.seq
          | (apply T.skip; first | change T _ _ _ _ _ | change Done _ _ _ _ _ | change Next _ _ _ _ _ _ | skip)
          | (apply T.ret; change Done _ _ _ _ _)
          | apply T.block)
        all_goals exact doneV (by simp) Tryz.results34 rfl (congrArg Value.bool (decide_eq_false (hmf (.inl hbad))).symm)
      · obtain ⟨s, hs⟩ := idx_get hk0
        have hbs := row_at' (R := SetR.row) hs
        have hin := moveIn_iff hk0 hs
        have hid := idx_lt (fun s : SetR => s.name = m.set) h.sets
        repeat' (first
          | (apply S.move; exact rfl; exact rfl)
          | (apply S.assign; exact rfl; exact rfl)
          | (apply S.gCN; exact rfl; exact rfl; exact rfl; exact rfl)
          | (apply S.gFF; exact rfl; exact rfl; assumption)
          | (apply S.gFT; exact rfl; exact rfl; assumption; exact rfl)
          | (apply S.gFFn; exact rfl; exact rfl; assumption)
          | (apply S.fieldP; exact rfl; exact rfl; exact rfl)
          | (apply S.loadP; exact rfl; exact rfl; exact rfl; exact rfl)
          | (apply S.fieldR; exact rfl; exact rfl)
          | (apply S.loadR; exact rfl; exact rfl; exact rfl)
          | (apply S.pC; exact rfl; exact rfl; exact rfl)
          | (apply S.pTp; exact rfl; assumption; exact rfl; exact rfl)
          | (apply S.pFp; exact rfl; assumption; exact rfl; exact rfl)
          | (apply S.pFn; exact rfl; assumption; exact rfl; exact rfl)
          | (apply T.drawAll anyOrder (by kernel_rfl))
          | (apply S.indexR; exact rfl; exact rfl; exact rfl; exact hb; omega; exact rfl)
          | (apply S.indexR; exact rfl; exact rfl; exact rfl; exact hbs; omega; exact rfl)
          | (apply S.loadRW; exact rfl; exact rfl; exact rfl; exact rfl)
          | (apply S.call; exact rfl; exact rfl; exact prof_valid m; exact rfl)
          | (apply S.call; exact rfl; exact rfl; exact cue_set h m.set hf; exact rfl)
          | (apply S.call; exact rfl; exact rfl; exact cue_between _ _ _; exact rfl)
          | (apply S.sliceTo; exact rfl; exact rfl; exact rfl; omega; (intro row hr; obtain ⟨z, _, rfl⟩ := List.mem_map.1 hr; rfl))
          | (apply S.callV; exact rfl; exact right_contains q.moves k m hq; exact .cons (.one (.lf _)) (.cons (.fn (.cons (.ptr0 rfl) .nil)) .nil); exact rfl; exact rfl)
          | (apply S.arith; exact rfl; exact rfl; exact rfl; exact rfl; omega)
          | (apply S.loadPA; exact rfl; exact rfl; exact rfl; exact rfl)
          | (apply S.alloc; exact rfl; exact rfl; exact rfl; exact rfl; exact rfl)
          | (apply S.store; exact rfl; exact rfl; exact rfl; exact rfl; exact rfl; exact rfl; exact rfl)
          | (apply S.cmp; exact rfl; exact rfl; exact rfl; exact rfl)
          | (apply S.notP; exact rfl; exact rfl)
          | (apply S.makeFunc; exact rfl; exact rfl)
          | (apply S.gsFn; exact rfl; exact rfl; exact rfl; intro hc; rotate_left; intro hc; rotate_right)
          | apply S.nil
          | apply T.regs
          | apply T.reg
          | (apply T.cC; exact rfl)
          | (apply T.cT; exact rfl; assumption)
          | (apply T.cS; exact rfl; intro hc; rotate_left; intro hc; rotate_right)
          | apply T.seq
          | (apply T.skip; first | change T _ _ _ _ _ | change Done _ _ _ _ _ | change Next _ _ _ _ _ _ | skip)
          | (apply T.ret; change Done _ _ _ _ _)
          | apply T.block)
        all_goals (try change Next _ _ _ _ _ _)
        all_goals first
          | exact Next.go (k + 1) ⟨by omega, by rw [hsn]; intro y hy; rcases List.mem_append.1 hy with hy | hy; exact hok y hy; obtain rfl : y = m := (by simpa using hy); exact hin.2 ⟨by assumption, by assumption⟩, by rw [hsn]; exact (names_snoc _ _ _).2 ⟨hnd, by assumption⟩⟩ (by omega) (.cons rfl rfl (.cons rfl rfl (.cons rfl rfl (.cons rfl rfl (.cons rfl rfl .nil))))) (.live rfl (.live rfl .nil))
          | exact doneV (by simp) Tryz.results34 rfl (congrArg Value.bool (decide_eq_false (hmf (.inr (by assumption)))).symm)
          | exact doneV (by simp) Tryz.results34 rfl (congrArg Value.bool (decide_eq_false (hmf (.inl (fun hh => by
              have h3 := hin.1 hh
              first | exact absurd h3.1 (by assumption) | exact absurd h3.2 (by assumption))))).symm)
    · have h1 : ¬ (k : Int) < ((q.moves.map MoveR.row).length : Nat) := by omega
      have hk2 : q.moves.take k = q.moves := List.take_of_length_le (by omega)
      rw [hk2] at hok hnd
      repeat' (first
        | (apply S.assign; exact rfl; exact rfl)
        | (apply S.cmp; exact rfl; exact rfl; exact rfl; exact rfl)
        | apply S.nil
        | apply T.regs
        | (apply T.cF; exact rfl; assumption)
        | apply T.seq
        | (apply T.ret; change Done _ _ _ _ _)
        | (apply T.exit; first | change T _ _ _ _ _ | change Done _ _ _ _ _ | change Next _ _ _ _ _ _ | skip))
      exact doneV (by simp) Tryz.results34 rfl (congrArg Value.bool (decide_eq_true ⟨by assumption, by omega, by omega, by omega, by omega, hok, hnd⟩).symm)
set_option maxHeartbeats 8000000 in
theorem r36_right (h : HouseR) (q : CueR) (hf : h.sets.length ≤ 9223372036854775807) (hq : q.moves.length ≤ 9223372036854775807) : Fn0 Tryz.prog 28 [rowA h.row, rowA q.row] (.b (decide (rightP h q))) := by
  have hle : (q.moves.map MoveR.row).length = q.moves.length := List.length_map _
  have hles : (h.sets.map SetR.row).length = h.sets.length := List.length_map _
  refine Fn0.of Tryz.func28 Tryz.ntmps28 rfl rfl rfl ?_
  simp only [entryTm]
  repeat' (first
    | (apply S.move; exact rfl; exact rfl)
    | (apply S.assign; exact rfl; exact rfl)
    | (apply S.gCN; exact rfl; exact rfl; exact rfl; exact rfl)
    | (apply S.gFF; exact rfl; exact rfl; assumption)
    | (apply S.gFT; exact rfl; exact rfl; assumption; exact rfl)
    | (apply S.gFFn; exact rfl; exact rfl; assumption)
    | (apply S.fieldP; exact rfl; exact rfl; exact rfl)
    | (apply S.loadP; exact rfl; exact rfl; exact rfl; exact rfl)
    | (apply S.pC; exact rfl; exact rfl; exact rfl)
    | (apply S.pTp; exact rfl; assumption; exact rfl; exact rfl)
    | (apply S.pFp; exact rfl; assumption; exact rfl; exact rfl)
    | (apply S.pFn; exact rfl; assumption; exact rfl; exact rfl)
    | (apply S.call; exact rfl; exact rfl; exact r01_isName _; exact rfl)
    | (apply S.box; exact rfl; exact rfl; exact rfl; exact rfl; exact rfl; exact rfl)
    | (apply S.cmp; exact rfl; exact rfl; exact rfl; exact rfl)
    | (apply S.notP; exact rfl; exact rfl)
    | (apply S.gsFn; exact rfl; exact rfl; exact rfl; intro hc; rotate_left; intro hc; rotate_right)
    | (apply S.gsF; exact rfl; exact rfl; exact rfl; intro hc; rotate_left; intro hc; rotate_right)
    | apply S.nil
    | apply T.regs
    | (apply T.cC; exact rfl)
    | (apply T.cS; exact rfl; intro hc; rotate_left; intro hc; rotate_right)
    | apply T.seq
    | (apply T.skip; first | change T _ _ _ _ _ | change Done _ _ _ _ _ | change Next _ _ _ _ _ _ | skip)
    | (apply T.ret; change Done _ _ _ _ _)
    | apply T.block)
  all_goals first
    | exact doneV (by simp) Tryz.results28 rfl (congrArg Value.bool (decide_eq_false (fun hh => by
        obtain ⟨g1, g2, g3, g4, g5, _⟩ := hh
        first | contradiction | omega)).symm)
    | skip
  refine T.loopS (fun k => k ≤ q.moves.length ∧ (∀ m ∈ q.moves.take k, moveIn h m) ∧ ((q.moves.take k).map MoveR.set).Nodup) (fun k => q.moves.length - k) (fun k => [(5, .i k), (2, .ptr 0 0), (3, .ptr 1 0)]) (fun _ => [.live (h.row.map .lf), .live (q.row.map .lf)]) 0 ⟨Nat.zero_le _, by simp⟩ (.cons rfl rfl (.cons rfl rfl (.cons rfl rfl .nil))) (.live rfl (.live rfl .nil)) ?_
  rintro k ⟨hk, hok, hnd⟩
  by_cases hlt : k < q.moves.length
  · have h1 : (k : Int) < ((q.moves.map MoveR.row).length : Nat) := by omega
    obtain ⟨m, hm⟩ := get_at hlt
    have hb := row_at (R := MoveR.row) hm
    have hsn := snoc_at hm
    have hmf := moves_false (h := h) hm
    by_cases hk0 : setIdx h m.set < 0
    · have hbad : ¬ moveIn h m := fun ⟨_, _, hh, _⟩ => by omega
      repeat' (first
        | (apply S.move; exact rfl; exact rfl)
        | (apply S.assign; exact rfl; exact rfl)
        | (apply S.gCN; exact rfl; exact rfl; exact rfl; exact rfl)
        | (apply S.gFT; exact rfl; exact rfl; assumption; exact rfl)
        | (apply S.gFFn; exact rfl; exact rfl; assumption)
        | (apply S.fieldP; exact rfl; exact rfl; exact rfl)
        | (apply S.loadP; exact rfl; exact rfl; exact rfl; exact rfl)
        | (apply S.pC; exact rfl; exact rfl; exact rfl)
        | (apply S.pTp; exact rfl; assumption; exact rfl; exact rfl)
        | (apply S.pFn; exact rfl; assumption; exact rfl; exact rfl)
        | (apply T.drawAll anyOrder (by kernel_rfl))
        | (apply S.indexR; exact rfl; exact rfl; exact rfl; exact hb; omega; exact rfl)
        | (apply S.loadRW; exact rfl; exact rfl; exact rfl; exact rfl)
        | (apply S.call; exact rfl; exact rfl; exact r34_valid m; exact rfl)
        | (apply S.call; exact rfl; exact rfl; exact r30_findSet h m.set hf; exact rfl)
        | (apply S.loadPA; exact rfl; exact rfl; exact rfl; exact rfl)
        | (apply S.alloc; exact rfl; exact rfl; exact rfl; exact rfl; exact rfl)
        | (apply S.store; exact rfl; exact rfl; exact rfl; exact rfl; exact rfl; exact rfl; exact rfl)
        | (apply S.cmp; exact rfl; exact rfl; exact rfl; exact rfl)
        | (apply S.notP; exact rfl; exact rfl)
        | (apply S.lenR; exact rfl; exact rfl)
        | (apply S.gsFn; exact rfl; exact rfl; exact rfl; intro hc; rotate_left; intro hc; rotate_right)
        | apply S.nil
        | apply T.regs
        | (apply T.cC; exact rfl)
        | (apply T.cT; exact rfl; assumption)
        | apply T.seq
        | (apply T.skip; first | change T _ _ _ _ _ | change Done _ _ _ _ _ | change Next _ _ _ _ _ _ | skip)
        | (apply T.ret; change Done _ _ _ _ _)
        | apply T.block)
      all_goals exact doneV (by simp) Tryz.results28 rfl (congrArg Value.bool (decide_eq_false (hmf (.inl hbad))).symm)
    · obtain ⟨s, hs⟩ := idx_get hk0
      have hbs := row_at' (R := SetR.row) hs
      have hin := moveIn_iff hk0 hs
      have hid := idx_lt (fun s : SetR => s.name = m.set) h.sets
      repeat' (first
        | (apply S.move; exact rfl; exact rfl)
        | (apply S.assign; exact rfl; exact rfl)
        | (apply S.gCN; exact rfl; exact rfl; exact rfl; exact rfl)
        | (apply S.gFF; exact rfl; exact rfl; assumption)
        | (apply S.gFT; exact rfl; exact rfl; assumption; exact rfl)
        | (apply S.gFFn; exact rfl; exact rfl; assumption)
        | (apply S.fieldP; exact rfl; exact rfl; exact rfl)
        | (apply S.loadP; exact rfl; exact rfl; exact rfl; exact rfl)
        | (apply S.fieldR; exact rfl; exact rfl)
        | (apply S.loadR; exact rfl; exact rfl; exact rfl)
        | (apply S.pC; exact rfl; exact rfl; exact rfl)
        | (apply S.pTp; exact rfl; assumption; exact rfl; exact rfl)
        | (apply S.pFp; exact rfl; assumption; exact rfl; exact rfl)
        | (apply S.pFn; exact rfl; assumption; exact rfl; exact rfl)
        | (apply T.drawAll anyOrder (by kernel_rfl))
        | (apply S.indexR; exact rfl; exact rfl; exact rfl; exact hb; omega; exact rfl)
        | (apply S.indexR; exact rfl; exact rfl; exact rfl; exact hbs; omega; exact rfl)
        | (apply S.loadRW; exact rfl; exact rfl; exact rfl; exact rfl)
        | (apply S.call; exact rfl; exact rfl; exact r34_valid m; exact rfl)
        | (apply S.call; exact rfl; exact rfl; exact r30_findSet h m.set hf; exact rfl)
        | (apply S.loadPA; exact rfl; exact rfl; exact rfl; exact rfl)
        | (apply S.alloc; exact rfl; exact rfl; exact rfl; exact rfl; exact rfl)
        | (apply S.store; exact rfl; exact rfl; exact rfl; exact rfl; exact rfl; exact rfl; exact rfl)
        | (apply S.cmp; exact rfl; exact rfl; exact rfl; exact rfl)
        | (apply S.notP; exact rfl; exact rfl)
        | (apply S.lenR; exact rfl; exact rfl)
        | (apply S.gsFn; exact rfl; exact rfl; exact rfl; intro hc; rotate_left; intro hc; rotate_right)
        | (apply S.gsF; exact rfl; exact rfl; exact rfl; intro hc; rotate_left; intro hc; rotate_right)
        | apply S.nil
        | apply T.regs
        | (apply T.cC; exact rfl)
        | (apply T.cT; exact rfl; assumption)
        | (apply T.cS; exact rfl; intro hc; rotate_left; intro hc; rotate_right)
        | apply T.seq
        | (apply T.skip; first | change T _ _ _ _ _ | change Done _ _ _ _ _ | change Next _ _ _ _ _ _ | skip)
        | (apply T.ret; change Done _ _ _ _ _)
        | apply T.block)
      all_goals first
        | exact doneV (by simp) Tryz.results28 rfl (congrArg Value.bool (decide_eq_false (hmf (.inl (fun hh => by
            have h3 := hin.1 hh
            first | exact absurd h3.1 (by assumption) | (have := h3.2; omega))))).symm)
        | skip
      have hmr : moveIn h m := hin.2 ⟨by first | assumption | exact Classical.byContradiction (by assumption), by omega⟩
      refine T.loopS (fun j => j ≤ k ∧ ∀ y ∈ q.moves.take j, y.set ≠ m.set) (fun j => k - j) (fun j => [(8, .i j), (5, .i k), (2, .ptr 0 0), (3, .ptr 1 0), (6, .ptr 2 0)]) (fun _ => [.live (h.row.map .lf), .live (q.row.map .lf), .live (m.row.map .lf)]) 0 ⟨Nat.zero_le _, by simp⟩ (.cons rfl rfl (.cons rfl rfl (.cons rfl rfl (.cons rfl rfl (.cons rfl rfl .nil))))) (.live rfl (.live rfl (.live rfl .nil))) ?_
      rintro j ⟨hj, hne⟩
      by_cases hjk : j < k
      · have h2 : (j : Int) < k := by omega
        obtain ⟨y, hy⟩ := get_at (l := q.moves) (k := j) (by omega)
        have hby := row_at (R := MoveR.row) hy
        have hsj := snoc_at hy
        repeat' (first
          | (apply S.move; exact rfl; exact rfl)
          | (apply S.assign; exact rfl; exact rfl)
          | (apply S.fieldP; exact rfl; exact rfl; exact rfl)
          | (apply S.loadP; exact rfl; exact rfl; exact rfl; exact rfl)
          | (apply S.fieldR; exact rfl; exact rfl)
          | (apply S.loadR; exact rfl; exact rfl; exact rfl)
          | (apply T.drawAll anyOrder (by kernel_rfl))
          | (apply S.indexR; exact rfl; exact rfl; exact rfl; exact hby; omega; exact rfl)
          | (apply S.arith; exact rfl; exact rfl; exact rfl; exact rfl; omega)
          | (apply S.cmp; exact rfl; exact rfl; exact rfl; exact rfl)
          | (apply S.strEq; exact rfl; exact rfl; exact rfl)
          | apply S.nil
          | apply T.regs
          | apply T.reg
          | (apply T.cT; exact rfl; assumption)
          | (apply T.cS; exact rfl; intro hc; rotate_left; intro hc; rotate_right)
          | apply T.seq
          | (apply T.skip; first | change T _ _ _ _ _ | change Done _ _ _ _ _ | change Next _ _ _ _ _ _ | skip)
          | (apply T.ret; change Done _ _ _ _ _)
          | apply T.block)
        all_goals (try change Next _ _ _ _ _ _)
        all_goals first
          | exact Next.go (j + 1) ⟨by omega, by rw [hsj]; intro z hz; rcases List.mem_append.1 hz with hz | hz; exact hne z hz; obtain rfl : z = y := (by simpa using hz); assumption⟩ (by omega) (.cons rfl rfl (.cons rfl rfl (.cons rfl rfl (.cons rfl rfl (.cons rfl rfl .nil))))) (.live rfl (.live rfl (.live rfl .nil)))
          | exact doneV (by simp) Tryz.results28 rfl (congrArg Value.bool (decide_eq_false (hmf (.inr ⟨y, List.mem_of_getElem? (by rw [List.getElem?_take_of_lt hjk]; exact hy), by assumption⟩))).symm)
      · have h2 : ¬ (j : Int) < k := by omega
        obtain rfl : j = k := by omega
        repeat' (first
          | (apply S.move; exact rfl; exact rfl)
          | (apply S.assign; exact rfl; exact rfl)
          | (apply S.arith; exact rfl; exact rfl; exact rfl; exact rfl; omega)
          | (apply S.cmp; exact rfl; exact rfl; exact rfl; exact rfl)
          | apply S.nil
          | apply T.regs
          | apply T.reg
          | (apply T.cF; exact rfl; assumption)
          | apply T.seq
          | (apply T.exit; first | change T _ _ _ _ _ | change Done _ _ _ _ _ | change Next _ _ _ _ _ _ | skip))
        all_goals (try change Next _ _ _ _ _ _)
        exact Next.go (j + 1) ⟨by omega, by rw [hsn]; intro y hy; rcases List.mem_append.1 hy with hy | hy; exact hok y hy; obtain rfl : y = m := (by simpa using hy); exact hmr, by rw [hsn]; exact (names_snoc _ _ _).2 ⟨hnd, fun ⟨y, hy, he⟩ => hne y hy he⟩⟩ (by omega) (.cons rfl rfl (.cons rfl rfl (.cons rfl rfl .nil))) (.live rfl (.live rfl .nil))
  · have h1 : ¬ (k : Int) < ((q.moves.map MoveR.row).length : Nat) := by omega
    have hk2 : q.moves.take k = q.moves := List.take_of_length_le (by omega)
    rw [hk2] at hok hnd
    repeat' (first
      | (apply S.move; exact rfl; exact rfl)
      | (apply S.assign; exact rfl; exact rfl)
      | (apply S.fieldP; exact rfl; exact rfl; exact rfl)
      | (apply S.loadP; exact rfl; exact rfl; exact rfl; exact rfl)
      | (apply S.cmp; exact rfl; exact rfl; exact rfl; exact rfl)
      | (apply S.lenR; exact rfl; exact rfl)
      | apply S.nil
      | apply T.regs
      | (apply T.cF; exact rfl; assumption)
      | apply T.seq
      | (apply T.ret; change Done _ _ _ _ _)
      | (apply T.exit; first | change T _ _ _ _ _ | change Done _ _ _ _ _ | change Next _ _ _ _ _ _ | skip))
    exact doneV (by simp) Tryz.results28 rfl (congrArg Value.bool (decide_eq_true ⟨by assumption, by omega, by omega, by omega, by omega, hok, hnd⟩).symm)
end Go.Proofs.YtfchdagalklgpaaGreatDoor
