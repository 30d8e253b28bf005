/- Contracts: sheets of cues that are valid (both sides). No conditions but those of each statement. | Contracts: sheets of cues that are valid (the reference's side). No conditions but those of each statement. | Contracts: the example of the chapter on cues. No conditions but those of each statement. | Contracts: what a law on cues asks ahead; the error of a house, trims and a cue (both sides). No conditions but those of each statement. -/
import Derived.Test.YtfchdagalklgpaaGreatDoorMm
import Derived.Test.YtfchdagalklgpaaGreatDoorMb
set_option linter.unusedSimpArgs false
namespace Go.Proofs.YtfchdagalklgpaaGreatDoor
set_option linter.unusedVariables false
open Go.RowKit

def sumM (l : List CueR) : Int := (l.map fun q => (q.moves.length : Int)).sum
theorem sumM_snoc (l : List CueR) (q : CueR) : sumM (l ++ [q]) = sumM l + q.moves.length := by simp [sumM, List.sum_append]
def okQ (h : HouseR) (l : List CueR) (i : Nat) (q : CueR) : Prop := sumM (l.take (i + 1)) ≤ 100 ∧ rightP h q ∧ (¬ ∃ y ∈ l.take i, y.name = q.name) ∧ (q.link = 1 → q.after = ⟨#[]⟩) ∧ (¬ q.link = 1 → ∃ y ∈ l.take i, y.name = q.after)
def cuesP (h : HouseR) (l : List CueR) : Prop := ∀ i q, l[i]? = some q → okQ h l i q
def validP (h : HouseR) (c : SheetR) : Prop := houseP h ∧ (c.cues.length : Int) ≤ 60 ∧ cuesP h c.cues ∧ pairsP c
noncomputable instance (h : HouseR) (c : SheetR) : Decidable (validP h c) := Classical.propDecidable _
theorem nameB_empty : ¬ nameB ⟨#[]⟩ = true := by simp [nameB]
/-- A cue with a link to another one has no empty name there, for names of cues are not empty. -/
theorem after_ne {h : HouseR} {l : List CueR} {k : Nat} {n : ByteArray} (hok : ∀ i q, i < k → l[i]? = some q → okQ h l i q) (hn : ∃ y ∈ l.take k, y.name = n) : ¬ n = ⟨#[]⟩ := by
  rintro rfl
  obtain ⟨y, hy, he⟩ := hn
  obtain ⟨i, hi⟩ := List.getElem?_of_mem hy
  have hik : i < k := by have := (List.getElem?_eq_some_iff.1 hi).1; simp at this; omega
  have := (hok i y hik (by rw [List.getElem?_take_of_lt hik] at hi; exact hi)).2.1.1
  rw [he] at this
  exact nameB_empty this
set_option maxHeartbeats 8000000 in
theorem cue_valid (h : HouseR) (c : SheetR) (hf : h.fits) (hc : c.fits) : Fn0 Tryz.prog 14 [rowA h.row, rowA c.row] (.b (decide (validP h c))) := by
  obtain ⟨hc1, hc2, hc3⟩ := hc
  have hf1 := hf.1
  have hle : (c.cues.map CueR.row).length = c.cues.length := List.length_map _
  refine Fn0.of Tryz.func14 Tryz.ntmps14 rfl rfl rfl ?_
  simp only [entryTm]
  repeat' (first
    | (apply S.move; exact rfl; exact rfl)
    | (apply S.assign; exact rfl; exact rfl)
    | (apply S.gFT; exact rfl; exact rfl; assumption; exact rfl)
    | (apply S.gFFn; exact rfl; exact rfl; assumption)
    | (apply S.fieldP; exact rfl; exact rfl; exact rfl)
    | (apply S.loadP; exact rfl; exact rfl; exact rfl; exact rfl)
    | (apply S.pTp; exact rfl; assumption; exact rfl; exact rfl)
    | (apply S.pFn; exact rfl; assumption; exact rfl; exact rfl)
    | (apply S.call; exact rfl; exact rfl; exact house_valid h hf; exact rfl)
    | (apply S.loadPA; exact rfl; exact rfl; exact rfl; exact rfl)
    | (apply S.box; exact rfl; exact rfl; exact rfl; exact rfl; exact rfl; exact rfl)
    | (apply S.cmp; exact rfl; exact rfl; exact rfl; exact rfl)
    | (apply S.notP; exact rfl; exact rfl)
    | (apply S.lenR; exact rfl; exact rfl)
    | (apply S.gsFn; exact rfl; exact rfl; exact rfl; intro hc; rotate_left; intro hc; rotate_right)
    | apply S.nil
    | apply T.regs
    | (apply T.cC; exact rfl)
    | (apply T.cS; exact rfl; intro hc; rotate_left; intro hc; rotate_right)
    | apply T.seq
    | (apply T.skip; first | change T _ _ _ _ _ | change Done _ _ _ _ _ | change Next _ _ _ _ _ _ | skip)
    | (apply T.ret; change Done _ _ _ _ _)
    | apply T.block)
  all_goals first
    | exact doneV (by simp) Tryz.results14 rfl (congrArg Value.bool (decide_eq_false (fun hh => by
        obtain ⟨g1, g2, _⟩ := hh
        first | contradiction | omega)).symm)
    | skip
  refine T.loopS (fun k => k ≤ c.cues.length ∧ (0 ≤ sumM (c.cues.take k) ∧ sumM (c.cues.take k) ≤ 100) ∧ ∀ i q, i < k → c.cues[i]? = some q → okQ h c.cues i q) (fun k => c.cues.length - k) (fun k => [(20, .i k), (19, .i (c.cues.map CueR.row).length), (18, .sl (c.cues.map CueR.row)), (2, .ptr 0 0), (3, .ptr 1 0), (5, .i (sumM (c.cues.take k)))]) (fun _ => [.live (h.row.map .lf), .live (c.row.map .lf)]) 0 ⟨Nat.zero_le _, by simp [sumM], by intro i q h; omega⟩ (.cons rfl rfl (.cons rfl rfl (.cons rfl rfl (.cons rfl rfl (.cons rfl rfl (.cons rfl rfl .nil)))))) (.live rfl (.live rfl .nil)) ?_
  rintro k ⟨hk, hsum, hok⟩
  by_cases hlt : k < c.cues.length
  · have h1 : (k : Int) < ((c.cues.map CueR.row).length : Nat) := by omega
    obtain ⟨q, hq⟩ := get_at hlt
    have hb := row_at (R := CueR.row) hq
    have hsn := snoc_at hq
    have hmem : q ∈ c.cues := List.mem_of_getElem? hq
    have hm3 := hc3 q hmem
    have hle3 : (q.moves.map MoveR.row).length = q.moves.length := List.length_map _
    have hss : sumM (c.cues.take (k + 1)) = sumM (c.cues.take k) + (q.moves.map MoveR.row).length := by rw [hsn, sumM_snoc, hle3]
    have hidx : cueIdx c.cues q.name = (k : Int) ↔ _ := idx_eq_iff (p := fun s : CueR => s.name = q.name) hq rfl
    have haft : 0 ≤ cueIdx (c.cues.take k) q.after ↔ _ := idx_nonneg
    have hne := after_ne (n := q.after) hok
    have hbad : ¬ okQ h c.cues k q → ¬ validP h c := fun g hh => g (hh.2.2.1 k q hq)
    repeat' (first
      | (apply S.move; exact rfl; exact rfl)
      | (apply S.assign; exact rfl; exact rfl)
      | (apply S.gCN; exact rfl; exact rfl; exact rfl; exact rfl)
      | (apply S.gU; exact rfl; exact rfl; exact rfl)
      | (apply S.gTT; exact rfl; exact rfl; assumption)
      | (apply S.gFF; exact rfl; exact rfl; assumption)
      | (apply S.gFT; exact rfl; exact rfl; assumption; exact rfl)
      | (apply S.gTFn; exact rfl; exact rfl; assumption; exact rfl)
      | (apply S.gFFn; exact rfl; exact rfl; assumption)
      | (apply S.fieldP; exact rfl; exact rfl; exact rfl)
      | (apply S.loadP; exact rfl; exact rfl; exact rfl; exact rfl)
      | (apply S.pC; exact rfl; exact rfl; exact rfl)
      | (apply S.pTp; exact rfl; assumption; exact rfl; exact rfl)
      | (apply S.pFp; exact rfl; assumption; exact rfl; exact rfl)
      | (apply S.pFn; exact rfl; assumption; exact rfl; exact rfl)
      | (apply T.drawAll anyOrder (by kernel_rfl))
      | (apply S.indexR; exact rfl; exact rfl; exact rfl; exact hb; omega; exact rfl)
      | (apply S.loadRW; exact rfl; exact rfl; exact rfl; exact rfl)
      | (apply S.boolNe; exact rfl; exact rfl; exact rfl)
      | (apply S.call; exact rfl; exact rfl; exact cue_right h q hf1 (by omega); exact rfl)
      | (apply S.call; exact rfl; exact rfl; exact cue_find c.cues q.name hc1; exact rfl)
      | (apply S.sliceTo; exact rfl; exact rfl; exact rfl; omega; (intro row hr; obtain ⟨z, _, rfl⟩ := List.mem_map.1 hr; rfl))
      | (apply S.call; exact rfl; exact rfl; exact cue_find_take c.cues k q.after hc1; exact rfl)
      | (apply S.arith; exact rfl; exact rfl; exact rfl; exact rfl; omega)
      | (apply S.loadPA; exact rfl; exact rfl; exact rfl; exact rfl)
      | (apply S.alloc; exact rfl; exact rfl; exact rfl; exact rfl; exact rfl)
      | (apply S.store; exact rfl; exact rfl; exact rfl; exact rfl; exact rfl; exact rfl; exact rfl)
      | (apply S.cmp; exact rfl; exact rfl; exact rfl; exact rfl)
      | (apply S.strEq; exact rfl; exact rfl; exact rfl)
      | (apply S.notP; exact rfl; exact rfl)
      | (apply S.lenR; exact rfl; exact rfl)
      | (apply S.gsTn; exact rfl; exact rfl; exact rfl; intro hc; rotate_left; intro hc; rotate_right)
      | (apply S.gsFn; exact rfl; exact rfl; exact rfl; intro hc; rotate_left; intro hc; rotate_right)
      | (apply S.gsF; exact rfl; exact rfl; exact rfl; intro hc; rotate_left; intro hc; rotate_right)
      | apply S.nil
      | apply T.regs
      | apply T.reg
      | (apply T.cC; exact rfl)
      | (apply T.cCN; exact rfl)
      | (apply T.cT; exact rfl; assumption)
      | (apply T.cSn; exact rfl; intro hc; rotate_left; intro hc; rotate_right)
      | (apply T.cS; exact rfl; intro hc; rotate_left; intro hc; rotate_right)
      | apply T.seq
      | (apply T.skip; first | change T _ _ _ _ _ | change Done _ _ _ _ _ | change Next _ _ _ _ _ _ | skip)
      | (apply T.ret; change Done _ _ _ _ _)
      | apply T.block)
    all_goals (try change Next _ _ _ _ _ _)
    all_goals first
      | exact doneV (by simp) Tryz.results14 rfl (congrArg Value.bool (decide_eq_false (hbad fun hh => by
          obtain ⟨g1, g2, g3, g4, g5⟩ := hh
          have g6 := hidx.2 g3
          first
            | contradiction
            | omega
            | exact (by assumption : ¬ (q.link = 1 ↔ q.after = ⟨#[]⟩)) ⟨g4, fun e => Classical.byContradiction fun hn => hne (g5 hn) e⟩
            | (have := haft.2 (g5 (by assumption)); omega))).symm)
      | exact Next.go (k + 1) ⟨by omega, by rw [hss]; omega, by
          intro i p hi hp
          rcases Nat.lt_or_ge i k with h9 | h9
          · exact hok i p h9 hp
          · obtain rfl : i = k := by omega
            obtain rfl : q = p := by rw [hq] at hp; injection hp
            have g7 : q.link = 1 ↔ q.after = ⟨#[]⟩ := by first | assumption | exact Classical.byContradiction (by assumption)
            exact ⟨by rw [hss]; omega, by assumption, hidx.1 (by first | assumption | exact Classical.byContradiction (by assumption)), g7.1, fun hn => haft.1 (by first | contradiction | omega)⟩⟩ (by omega) (.cons rfl rfl (.cons rfl rfl (.cons rfl rfl (.cons rfl rfl (.cons rfl rfl (.cons (by rw [hss]; rfl) rfl .nil)))))) (.live rfl (.live rfl .nil))
  · have h1 : ¬ (k : Int) < ((c.cues.map CueR.row).length : Nat) := by omega
    have hall : cuesP h c.cues := fun i p hp => hok i p (by have := (List.getElem?_eq_some_iff.1 hp).1; omega) hp
    repeat' (first
      | (apply S.assign; exact rfl; exact rfl)
      | (apply S.call; exact rfl; exact rfl; exact cue_apart c hc1 hc2; exact rfl)
      | (apply S.loadPA; exact rfl; exact rfl; exact rfl; exact rfl)
      | (apply S.cmp; exact rfl; exact rfl; exact rfl; exact rfl)
      | apply S.nil
      | apply T.regs
      | (apply T.cF; exact rfl; assumption)
      | apply T.seq
      | (apply T.ret; change Done _ _ _ _ _)
      | (apply T.exit; first | change T _ _ _ _ _ | change Done _ _ _ _ _ | change Next _ _ _ _ _ _ | skip))
    all_goals exact doneV (by simp) Tryz.results14 rfl (congrArg Value.bool (decide_eq_decide.2 ⟨fun g => ⟨by assumption, by omega, hall, g⟩, fun g => g.2.2.2⟩))
end Go.Proofs.YtfchdagalklgpaaGreatDoor
set_option linter.unusedSimpArgs false
namespace Go.Proofs.YtfchdagalklgpaaGreatDoor
set_option linter.unusedVariables false
open Go.RowKit
set_option maxHeartbeats 8000000 in
theorem r36_valid (h : HouseR) (c : SheetR) (hf : h.fits) (hc : c.fits) : Fn0 Tryz.prog 9 [rowA h.row, rowA c.row] (.b (decide (validP h c))) := by
  obtain ⟨hc1, hc2, hc3⟩ := hc
  have hf1 := hf.1
  have hle : (c.cues.map CueR.row).length = c.cues.length := List.length_map _
  have hle2 : (c.apart.map pairRow).length = c.apart.length := List.length_map _
  refine Fn0.of Tryz.func9 Tryz.ntmps9 rfl rfl rfl ?_
  simp only [entryTm]
  repeat' (first
    | (apply S.move; exact rfl; exact rfl)
    | (apply S.assign; exact rfl; exact rfl)
    | (apply S.gCN; exact rfl; exact rfl; exact rfl; exact rfl)
    | (apply S.gFF; exact rfl; exact rfl; assumption)
    | (apply S.gFT; exact rfl; exact rfl; assumption; exact rfl)
    | (apply S.gFFn; exact rfl; exact rfl; assumption)
    | (apply S.fieldP; exact rfl; exact rfl; exact rfl)
    | (apply S.loadP; exact rfl; exact rfl; exact rfl; exact rfl)
    | (apply S.pC; exact rfl; exact rfl; exact rfl)
    | (apply S.pTp; exact rfl; assumption; exact rfl; exact rfl)
    | (apply S.pFp; exact rfl; assumption; exact rfl; exact rfl)
    | (apply S.pFn; exact rfl; assumption; exact rfl; exact rfl)
    | (apply S.call; exact rfl; exact rfl; exact r30_valid h hf; exact rfl)
    | (apply S.loadPA; exact rfl; exact rfl; exact rfl; exact rfl)
    | (apply S.box; exact rfl; exact rfl; exact rfl; exact rfl; exact rfl; exact rfl)
    | (apply S.cmp; exact rfl; exact rfl; exact rfl; exact rfl)
    | (apply S.notP; exact rfl; exact rfl)
    | (apply S.lenR; exact rfl; exact rfl)
    | (apply S.gsFn; exact rfl; exact rfl; exact rfl; intro hc; rotate_left; intro hc; rotate_right)
    | (apply S.gsF; exact rfl; exact rfl; exact rfl; intro hc; rotate_left; intro hc; rotate_right)
    | apply S.nil
    | apply T.regs
    | (apply T.cC; exact rfl)
    | (apply T.cS; exact rfl; intro hc; rotate_left; intro hc; rotate_right)
    | apply T.seq
    | (apply T.skip; first | change T _ _ _ _ _ | change Done _ _ _ _ _ | change Next _ _ _ _ _ _ | skip)
    | (apply T.ret; change Done _ _ _ _ _)
    | apply T.block)
  all_goals first
    | exact doneV (by simp) Tryz.results9 rfl (congrArg Value.bool (decide_eq_false (fun hh => by
        obtain ⟨g1, g2, g3, g4⟩ := hh
        have g5 := g4.1
        first | contradiction | omega)).symm)
    | skip
  refine T.loopS (fun k => k ≤ c.cues.length ∧ (0 ≤ sumM (c.cues.take k) ∧ sumM (c.cues.take k) ≤ 100) ∧ ∀ i q, i < k → c.cues[i]? = some q → okQ h c.cues i q) (fun k => c.cues.length - k) (fun k => [(6, .i k), (2, .ptr 0 0), (3, .ptr 1 0), (5, .i (sumM (c.cues.take k)))]) (fun _ => [.live (h.row.map .lf), .live (c.row.map .lf)]) 0 ⟨Nat.zero_le _, by simp [sumM], by intro i q h; omega⟩ (.cons rfl rfl (.cons rfl rfl (.cons rfl rfl (.cons rfl rfl .nil)))) (.live rfl (.live rfl .nil)) ?_
  rintro k ⟨hk, hsum, hok⟩
  by_cases hlt : k < c.cues.length
  · have h1 : (k : Int) < ((c.cues.map CueR.row).length : Nat) := by omega
    obtain ⟨q, hq⟩ := get_at hlt
    have hb := row_at (R := CueR.row) hq
    have hsn := snoc_at hq
    have hmem : q ∈ c.cues := List.mem_of_getElem? hq
    have hm3 := hc3 q hmem
    have hle3 : (q.moves.map MoveR.row).length = q.moves.length := List.length_map _
    have hss : sumM (c.cues.take (k + 1)) = sumM (c.cues.take k) + (q.moves.map MoveR.row).length := by rw [hsn, sumM_snoc, hle3]
    have hidx : cueIdx c.cues q.name = (k : Int) ↔ _ := idx_eq_iff (p := fun s : CueR => s.name = q.name) hq rfl
    have haft : (0 ≤ cueIdx c.cues q.after ∧ cueIdx c.cues q.after < (k : Int)) ↔ _ := idx_lt_iff
    have hbad : ¬ okQ h c.cues k q → ¬ validP h c := fun g hh => g (hh.2.2.1 k q hq)
    repeat' (first
      | (apply S.move; exact rfl; exact rfl)
      | (apply S.assign; exact rfl; exact rfl)
      | (apply S.gCN; exact rfl; exact rfl; exact rfl; exact rfl)
      | (apply S.gU; exact rfl; exact rfl; exact rfl)
      | (apply S.gTT; exact rfl; exact rfl; assumption)
      | (apply S.gTF; exact rfl; exact rfl; assumption; exact rfl)
      | (apply S.gFF; exact rfl; exact rfl; assumption)
      | (apply S.gFT; exact rfl; exact rfl; assumption; exact rfl)
      | (apply S.gTFn; exact rfl; exact rfl; assumption; exact rfl)
      | (apply S.gFFn; exact rfl; exact rfl; assumption)
      | (apply S.fieldP; exact rfl; exact rfl; exact rfl)
      | (apply S.loadP; exact rfl; exact rfl; exact rfl; exact rfl)
      | (apply S.pC; exact rfl; exact rfl; exact rfl)
      | (apply S.pTp; exact rfl; assumption; exact rfl; exact rfl)
      | (apply S.pFp; exact rfl; assumption; exact rfl; exact rfl)
      | (apply S.pFn; exact rfl; assumption; exact rfl; exact rfl)
      | (apply S.indexR; exact rfl; exact rfl; exact rfl; exact hb; omega; exact rfl)
      | (apply S.loadRW; exact rfl; exact rfl; exact rfl; exact rfl)
      | (apply S.call; exact rfl; exact rfl; exact r36_right h q hf1 (by omega); exact rfl)
      | (apply S.call; exact rfl; exact rfl; exact r36_find c _ hc1; exact rfl)
      | (apply S.arith; exact rfl; exact rfl; exact rfl; exact rfl; omega)
      | (apply S.loadPA; exact rfl; exact rfl; exact rfl; exact rfl)
      | (apply S.alloc; exact rfl; exact rfl; exact rfl; exact rfl; exact rfl)
      | (apply S.store; exact rfl; exact rfl; exact rfl; exact rfl; exact rfl; exact rfl; exact rfl)
      | (apply S.cmp; exact rfl; exact rfl; exact rfl; exact rfl)
      | (apply S.strNe; exact rfl; exact rfl; exact rfl)
      | (apply S.notP; exact rfl; exact rfl)
      | (apply S.lenR; exact rfl; exact rfl)
      | (apply S.gsFn; exact rfl; exact rfl; exact rfl; intro hc; rotate_left; intro hc; rotate_right)
      | (apply S.gsT; exact rfl; exact rfl; exact rfl; intro hc; rotate_left; intro hc; rotate_right)
      | (apply S.gsF; exact rfl; exact rfl; exact rfl; intro hc; rotate_left; intro hc; rotate_right)
      | apply S.nil
      | apply T.regs
      | apply T.reg
      | (apply T.cC; exact rfl)
      | (apply T.cCN; exact rfl)
      | (apply T.cT; exact rfl; assumption)
      | (apply T.cSn; exact rfl; intro hc; rotate_left; intro hc; rotate_right)
      | (apply T.cS; exact rfl; intro hc; rotate_left; intro hc; rotate_right)
      | apply T.seq
      | (apply T.skip; first | change T _ _ _ _ _ | change Done _ _ _ _ _ | change Next _ _ _ _ _ _ | skip)
      | (apply T.ret; change Done _ _ _ _ _)
      | apply T.block)
    all_goals (try change Next _ _ _ _ _ _)
    all_goals first
      | exact doneV (by simp) Tryz.results9 rfl (congrArg Value.bool (decide_eq_false (hbad fun hh => by
          obtain ⟨g1, g2, g3, g4, g5⟩ := hh
          have g6 := hidx.2 g3
          first
            | contradiction
            | omega
            | exact (by assumption : ¬ q.after = (⟨#[]⟩ : ByteArray)) (g4 (by assumption))
            | (have := haft.2 (g5 (by assumption)); omega))).symm)
      | exact Next.go (k + 1) ⟨by omega, by rw [hss]; omega, by
          intro i p hi hp
          rcases Nat.lt_or_ge i k with h9 | h9
          · exact hok i p h9 hp
          · obtain rfl : i = k := by omega
            obtain rfl : q = p := by rw [hq] at hp; injection hp
            exact ⟨by rw [hss]; omega, by assumption, hidx.1 (by first | assumption | exact Classical.byContradiction (by assumption)), fun e => (by first | contradiction | assumption | exact Classical.byContradiction (by assumption)), fun hn => haft.1 (by first | contradiction | omega)⟩⟩ (by omega) (.cons rfl rfl (.cons rfl rfl (.cons rfl rfl (.cons (by rw [hss]; rfl) rfl .nil)))) (.live rfl (.live rfl .nil))
  · have h1 : ¬ (k : Int) < ((c.cues.map CueR.row).length : Nat) := by omega
    have hall : cuesP h c.cues := fun i p hp => hok i p (by have := (List.getElem?_eq_some_iff.1 hp).1; omega) hp
    repeat' (first
      | (apply S.move; exact rfl; exact rfl)
      | (apply S.assign; exact rfl; exact rfl)
      | (apply S.fieldP; exact rfl; exact rfl; exact rfl)
      | (apply S.loadP; exact rfl; exact rfl; exact rfl; exact rfl)
      | (apply S.cmp; exact rfl; exact rfl; exact rfl; exact rfl)
      | (apply S.lenR; exact rfl; exact rfl)
      | apply S.nil
      | apply T.regs
      | (apply T.cF; exact rfl; assumption)
      | apply T.seq
      | (apply T.exit; first | change T _ _ _ _ _ | change Done _ _ _ _ _ | change Next _ _ _ _ _ _ | skip)
      | apply T.block)
    refine T.loopS (fun k => k ≤ c.apart.length ∧ ∀ i p, i < k → c.apart[i]? = some p → okP c i p) (fun k => c.apart.length - k) (fun k => [(9, .i k), (2, .ptr 0 0), (3, .ptr 1 0)]) (fun _ => [.live (h.row.map .lf), .live (c.row.map .lf)]) 0 ⟨Nat.zero_le _, by intro i q h; omega⟩ (.cons rfl rfl (.cons rfl rfl (.cons rfl rfl .nil))) (.live rfl (.live rfl .nil)) ?_
    rintro k ⟨hk, hokp⟩
    by_cases hlt2 : k < c.apart.length
    · have h1 : (k : Int) < ((c.apart.map pairRow).length : Nat) := by omega
      obtain ⟨x, hx⟩ := get_at hlt2
      have hb := row_at (R := pairRow) hx
      have hsn := snoc_at hx
      have hbad : ¬ okP c k x → ¬ validP h c := fun g hh => g (hh.2.2.2.2 k x hx)
      repeat' (first
        | (apply S.move; exact rfl; exact rfl)
        | (apply S.assign; exact rfl; exact rfl)
        | (apply S.gCN; exact rfl; exact rfl; exact rfl; exact rfl)
        | (apply S.gFF; exact rfl; exact rfl; assumption)
        | (apply S.gFT; exact rfl; exact rfl; assumption; exact rfl)
        | (apply S.fieldP; exact rfl; exact rfl; exact rfl)
        | (apply S.loadP; exact rfl; exact rfl; exact rfl; exact rfl)
        | (apply S.loadR; exact rfl; exact rfl; exact rfl)
        | (apply S.pC; exact rfl; exact rfl; exact rfl)
        | (apply S.pTp; exact rfl; assumption; exact rfl; exact rfl)
        | (apply S.pFp; exact rfl; assumption; exact rfl; exact rfl)
        | (apply T.drawAll anyOrder (by kernel_rfl))
        | (apply S.indexR; exact rfl; exact rfl; exact rfl; exact hb; omega; exact rfl)
        | (apply S.idxAR; exact rfl; exact rfl; exact rfl; exact ⟨by decide, by decide⟩; exact rfl)
        | (apply S.call; exact rfl; exact rfl; exact r36_find c _ hc1; exact rfl)
        | (apply S.loadPA; exact rfl; exact rfl; exact rfl; exact rfl)
        | (apply S.cmp; exact rfl; exact rfl; exact rfl; exact rfl)
        | (apply S.strEq; exact rfl; exact rfl; exact rfl)
        | (apply S.lenR; exact rfl; exact rfl)
        | (apply S.gsF; exact rfl; exact rfl; exact rfl; intro hc; rotate_left; intro hc; rotate_right)
        | apply S.nil
        | apply T.regs
        | (apply T.cC; exact rfl)
        | (apply T.cT; exact rfl; assumption)
        | (apply T.cS; exact rfl; intro hc; rotate_left; intro hc; rotate_right)
        | apply T.seq
        | (apply T.skip; first | change T _ _ _ _ _ | change Done _ _ _ _ _ | change Next _ _ _ _ _ _ | skip)
        | (apply T.ret; change Done _ _ _ _ _)
        | apply T.block)
      all_goals first
        | exact doneV (by simp) Tryz.results9 rfl (congrArg Value.bool (decide_eq_false (hbad fun hh => by
            obtain ⟨⟨g1, g2⟩, g3, g4⟩ := hh
            first
              | contradiction
              | omega)).symm)
        | skip
      refine T.loopS (fun j => j ≤ k ∧ ∀ y ∈ c.apart.take j, ¬ samePair y x) (fun j => k - j) (fun j => [(12, .i j), (9, .i k), (2, .ptr 0 0), (3, .ptr 1 0), (10, .s x.1), (11, .s x.2)]) (fun _ => [.live (h.row.map .lf), .live (c.row.map .lf)]) 0 ⟨Nat.zero_le _, by simp⟩ (.cons rfl rfl (.cons rfl rfl (.cons rfl rfl (.cons rfl rfl (.cons rfl rfl (.cons rfl rfl .nil)))))) (.live rfl (.live rfl .nil)) ?_
      rintro j ⟨hj, hne⟩
      by_cases hjk : j < k
      · have h2 : (j : Int) < k := by omega
        obtain ⟨y, hy⟩ := get_at (l := c.apart) (k := j) (by omega)
        have hby := row_at (R := pairRow) hy
        have hsj := snoc_at hy
        have hyk : y ∈ c.apart.take k := List.mem_of_getElem? (by rw [List.getElem?_take_of_lt hjk]; exact hy)
        repeat' (first
          | (apply S.move; exact rfl; exact rfl)
          | (apply S.assign; exact rfl; exact rfl)
          | (apply S.gC; exact rfl; exact rfl; exact rfl)
          | (apply S.gU; exact rfl; exact rfl; exact rfl)
          | (apply S.gTT; exact rfl; exact rfl; assumption)
          | (apply S.gTF; exact rfl; exact rfl; assumption; exact rfl)
          | (apply S.gFF; exact rfl; exact rfl; assumption)
          | (apply S.gFT; exact rfl; exact rfl; assumption; exact rfl)
          | (apply S.fieldP; exact rfl; exact rfl; exact rfl)
          | (apply S.loadP; exact rfl; exact rfl; exact rfl; exact rfl)
          | (apply S.loadR; exact rfl; exact rfl; exact rfl)
          | (apply S.pCN; exact rfl; exact rfl; exact rfl)
          | (apply S.pTp; exact rfl; assumption; exact rfl; exact rfl)
          | (apply S.pFp; exact rfl; assumption; exact rfl; exact rfl)
          | (apply T.drawAll anyOrder (by kernel_rfl))
          | (apply S.indexR; exact rfl; exact rfl; exact rfl; exact hby; omega; exact rfl)
          | (apply S.idxAR; exact rfl; exact rfl; exact rfl; exact ⟨by decide, by decide⟩; exact rfl)
          | (apply S.arith; exact rfl; exact rfl; exact rfl; exact rfl; omega)
          | (apply S.cmp; exact rfl; exact rfl; exact rfl; exact rfl)
          | (apply S.strEq; exact rfl; exact rfl; exact rfl)
          | (apply S.gsT; exact rfl; exact rfl; exact rfl; intro hc; rotate_left; intro hc; rotate_right)
          | (apply S.gsF; exact rfl; exact rfl; exact rfl; intro hc; rotate_left; intro hc; rotate_right)
          | apply S.nil
          | apply T.regs
          | apply T.reg
          | (apply T.cC; exact rfl)
          | (apply T.cCN; exact rfl)
          | (apply T.cT; exact rfl; assumption)
          | (apply T.cS; exact rfl; intro hc; rotate_left; intro hc; rotate_right)
          | apply T.seq
          | (apply T.skip; first | change T _ _ _ _ _ | change Done _ _ _ _ _ | change Next _ _ _ _ _ _ | skip)
          | (apply T.ret; change Done _ _ _ _ _)
          | apply T.block)
        all_goals (try change Next _ _ _ _ _ _)
        all_goals first
          | exact doneV (by simp) Tryz.results9 rfl (congrArg Value.bool (decide_eq_false (hbad fun hh => by
              obtain ⟨_, _, g4⟩ := hh
              refine g4 ⟨y, hyk, ?_⟩
              first
                | exact .inl ⟨by assumption, by assumption⟩
                | exact .inr ⟨by assumption, by assumption⟩)).symm)
          | exact Next.go (j + 1) ⟨by omega, by rw [hsj]; intro z hz; rcases List.mem_append.1 hz with hz | hz; exact hne z hz; obtain rfl : z = y := (by simpa using hz); unfold samePair; rintro (⟨e1, e2⟩ | ⟨e1, e2⟩) <;> contradiction⟩ (by omega) (.cons rfl rfl (.cons rfl rfl (.cons rfl rfl (.cons rfl rfl (.cons rfl rfl (.cons rfl rfl .nil)))))) (.live rfl (.live rfl .nil))
      · have h2 : ¬ (j : Int) < k := by omega
        obtain rfl : j = k := by omega
        repeat' (first
          | (apply S.move; exact rfl; exact rfl)
          | (apply S.assign; exact rfl; exact rfl)
          | (apply S.arith; exact rfl; exact rfl; exact rfl; exact rfl; omega)
          | (apply S.cmp; exact rfl; exact rfl; exact rfl; exact rfl)
          | apply S.nil
          | apply T.regs
          | apply T.reg
          | (apply T.cF; exact rfl; assumption)
          | apply T.seq
          | (apply T.exit; first | change T _ _ _ _ _ | change Done _ _ _ _ _ | change Next _ _ _ _ _ _ | skip))
        all_goals (try change Next _ _ _ _ _ _)
        exact Next.go (j + 1) ⟨by omega, by
            intro i p hi hp
            rcases Nat.lt_or_ge i j with h9 | h9
            · exact hokp i p h9 hp
            · obtain rfl : i = j := by omega
              obtain rfl : x = p := by rw [hx] at hp; injection hp
              exact ⟨⟨by omega, by omega⟩, by assumption, fun ⟨y, hy, he⟩ => hne y hy he⟩⟩ (by omega) (.cons rfl rfl (.cons rfl rfl (.cons rfl rfl .nil))) (.live rfl (.live rfl .nil))
    · have h1 : ¬ (k : Int) < ((c.apart.map pairRow).length : Nat) := by omega
      have hallp : pairsP c := ⟨by omega, fun i p hp => hokp i p (by have := (List.getElem?_eq_some_iff.1 hp).1; omega) hp⟩
      repeat' (first
        | (apply S.move; exact rfl; exact rfl)
        | (apply S.assign; exact rfl; exact rfl)
        | (apply S.fieldP; exact rfl; exact rfl; exact rfl)
        | (apply S.loadP; exact rfl; exact rfl; exact rfl; exact rfl)
        | (apply S.cmp; exact rfl; exact rfl; exact rfl; exact rfl)
        | (apply S.lenR; exact rfl; exact rfl)
        | apply S.nil
        | apply T.regs
        | (apply T.cF; exact rfl; assumption)
        | apply T.seq
        | (apply T.ret; change Done _ _ _ _ _)
        | (apply T.exit; first | change T _ _ _ _ _ | change Done _ _ _ _ _ | change Next _ _ _ _ _ _ | skip))
      exact doneV (by simp) Tryz.results9 rfl (congrArg Value.bool (decide_eq_true ⟨by assumption, by omega, hall, hallp⟩).symm)
end Go.Proofs.YtfchdagalklgpaaGreatDoor
set_option linter.unusedSimpArgs false
namespace Go.Proofs.YtfchdagalklgpaaGreatDoor
set_option linter.unusedVariables false
open Go.RowKit
def exS : SetR := ⟨⟨#[115]⟩, 0, 0, 6000, 2000, [0, 2000], 0, 0, 1, 500, 0, [], []⟩
def exM : MoveR := ⟨⟨#[115]⟩, 2000, 500, 250, 500⟩
def exQ : CueR := ⟨⟨#[113]⟩, ⟨#[]⟩, 1, 0, [exM], 0, 0⟩
def exH : HouseR := ⟨⟨#[104]⟩, 7000, [exS], []⟩
theorem outL_refl {H : AH} (l : List Lf) : OutL H (l.map .lf) (l.map .lf) := by
  induction l with
  | nil => exact .nil
  | cons x l ih => exact .cons (.lf x) ih
theorem Res.row {P : Program} {st : St} {t b n : Nat} {ty : TypeId} {cells : List AV} {ds : TypeDesc} (cs : List Lf) [hu : HasU P ty ds] [hi : HasS P ty n] (h : st.tm.get t = some (.ptr b 0)) (hb : st.H.at b = .live cells) (hd : ds.isRow = true) (hc : cells = cs.map .lf) (hn : Nat.beq cs.length n = true) : Res P st (.cell t ty) (rowA cs) := by
  subst hc
  have hn' := Nat.eq_of_beq_eq_true hn
  have := Res.cells h hb hu.out hd hi.out (Nat.ble_eq_true_of_le (by simp; omega))
  rw [List.drop_zero, List.take_of_length_le (by simp; omega)] at this
  exact this
set_option maxHeartbeats 8000000 in
theorem law_example : Fn0 Tryz.prog 18 [] (.tup [rowA exH.row, rowA exQ.row]) := by
  refine Fn0.of Tryz.func18 Tryz.ntmps18 rfl rfl rfl ?_
  simp only [entryTm]
  repeat' (first
    | (apply T.orders anyOrder)
    | (apply Ords.nil; decide +kernel)
    | (apply Ords.one (i := 0); decide +kernel; exact rfl)
    | (apply Ords.one (i := 1); decide +kernel; exact rfl)
    | (apply Ords.one (i := 2); decide +kernel; exact rfl)
    | (apply Ords.one (i := 3); decide +kernel; exact rfl)
    | (apply Ords.one (i := 4); decide +kernel; exact rfl)
    | (apply Ords.one (i := 5); decide +kernel; exact rfl)
    | (apply Ords.two (i := 0) (j := 3); decide +kernel; exact rfl; exact rfl)
    | (apply Ords.two (i := 1) (j := 3); decide +kernel; exact rfl; exact rfl)
    | (apply Ords.two (i := 2) (j := 3); decide +kernel; exact rfl; exact rfl)
    | (apply Ords.two (i := 3) (j := 4); decide +kernel; exact rfl; exact rfl)
    | (apply S.buildSliceF; exact rfl; exact rfl; exact rfl; exact rfl; exact rfl; exact rfl; exact rfl; exact rfl)
    | (apply S.buildN; exact rfl; exact rfl; exact rfl)
    | (apply S.loadPA; exact rfl; exact rfl; exact rfl; exact rfl)
    | (apply S.alloc; exact rfl; exact rfl; exact rfl; exact rfl; exact rfl)
    | (apply S.store; exact rfl; exact rfl; exact rfl; exact rfl; exact rfl; exact rfl; exact rfl)
    | apply S.nil
    | apply T.regs
    | (apply T.ret; change Done _ _ _ _ _))
  all_goals exact ⟨.inr rfl, [rowA exH.row, rowA exQ.row], .cons (Res.row exH.row rfl rfl rfl rfl rfl) (.cons (Res.row exQ.row rfl rfl rfl rfl rfl) .nil), .tup (.cons (.agg (show OutL _ _ (exH.row.map .lf) from outL_refl exH.row)) (.cons (.agg (show OutL _ _ (exQ.row.map .lf) from outL_refl exQ.row)) .nil))⟩
end Go.Proofs.YtfchdagalklgpaaGreatDoor
set_option linter.unusedSimpArgs false
namespace Go.Proofs.YtfchdagalklgpaaGreatDoor
set_option linter.unusedVariables false
open Go.RowKit
noncomputable instance (h : HouseR) (c : SheetR) : Decidable (¬ smallH h 8 ∨ ¬ smallC c 8) := Classical.propDecidable _
set_option maxHeartbeats 4000000 in
theorem law_long (h : HouseR) (c : SheetR) (hf : h.fits) (hcf : c.fits) : Fn0 Tryz.prog 6 [rowA h.row, rowA c.row] (.b (decide (¬ smallH h 8 ∨ ¬ smallC c 8))) := by
  refine Fn0.of Tryz.func6 Tryz.ntmps6 rfl rfl rfl ?_
  simp only [entryTm]
  repeat' (first
    | (apply S.move; exact rfl; exact rfl)
    | (apply S.assign; exact rfl; exact rfl)
    | (apply S.gFT; exact rfl; exact rfl; assumption; exact rfl)
    | (apply S.gFFn; exact rfl; exact rfl; assumption)
    | (apply S.pTp; exact rfl; assumption; exact rfl; exact rfl)
    | (apply S.pFn; exact rfl; assumption; exact rfl; exact rfl)
    | (apply S.call; exact rfl; exact rfl; exact r30_small h 8 (by omega) hf; exact rfl)
    | (apply S.call; exact rfl; exact rfl; exact r36_small c 8 (by omega) hcf; exact rfl)
    | (apply S.loadPA; exact rfl; exact rfl; exact rfl; exact rfl)
    | (apply S.box; exact rfl; exact rfl; exact rfl; exact rfl; exact rfl; exact rfl)
    | (apply S.notP; exact rfl; exact rfl)
    | (apply S.gsFn; exact rfl; exact rfl; exact rfl; intro hc; rotate_left; intro hc; rotate_right)
    | apply S.nil
    | apply T.regs
    | (apply T.ret; change Done _ _ _ _ _))
  all_goals first
    | exact doneV (by simp) Tryz.results6 rfl (congrArg Value.bool (decide_eq_true (Or.inl (by assumption))).symm)
    | exact doneV (by simp) Tryz.results6 rfl (congrArg Value.bool (decide_eq_decide.2 ⟨Or.inr, fun g => g.resolve_left fun g2 => g2 (by assumption)⟩))
def loneOf (q : CueR) : SheetR := ⟨[q], []⟩
def trimsIn (h : HouseR) (l : List Int) : Prop := ∀ (i : Nat) (n : Int) (s : SetR), l[i]? = some n → h.sets[i]? = some s → s.low ≤ n ∧ n ≤ s.high
open Classical in
noncomputable def givenE (h : HouseR) (l : List Int) (q : CueR) : Int := if houseP h ∧ rightP h q then (if l.length = h.sets.length then (if trimsIn h l then 0 else 2) else 3) else 1
theorem givenE_1 {h : HouseR} {l : List Int} {q : CueR} (g : ¬ (houseP h ∧ rightP h q)) : givenE h l q = 1 := by unfold givenE; rw [if_neg g]
theorem givenE_3 {h : HouseR} {l : List Int} {q : CueR} (g : houseP h ∧ rightP h q) (g2 : ¬ l.length = h.sets.length) : givenE h l q = 3 := by unfold givenE; rw [if_pos g, if_neg g2]
theorem givenE_2 {h : HouseR} {l : List Int} {q : CueR} (g : houseP h ∧ rightP h q) (g2 : l.length = h.sets.length) (g3 : ¬ trimsIn h l) : givenE h l q = 2 := by unfold givenE; rw [if_pos g, if_pos g2, if_neg g3]
theorem givenE_0 {h : HouseR} {l : List Int} {q : CueR} (g : houseP h ∧ rightP h q) (g2 : l.length = h.sets.length) (g3 : trimsIn h l) : givenE h l q = 0 := by unfold givenE; rw [if_pos g, if_pos g2, if_pos g3]
set_option maxHeartbeats 8000000 in
theorem cue_given (h : HouseR) (l : List Int) (q : CueR) (hf : h.fits) (hq : q.moves.length ≤ 9223372036854775807) (hl : l.length ≤ 9223372036854775807) : Fn0 Tryz.prog 37 [rowA h.row, .sl (l.map intRow), rowA q.row] (.i (givenE h l q)) := by
  have hf1 := hf.1
  have hle : (h.sets.map SetR.row).length = h.sets.length := List.length_map _
  have hle2 : (l.map intRow).length = l.length := List.length_map _
  refine Fn0.of Tryz.func37 Tryz.ntmps37 rfl rfl rfl ?_
  simp only [entryTm]
  repeat' (first
    | (apply S.move; exact rfl; exact rfl)
    | (apply S.assign; exact rfl; exact rfl)
    | (apply S.gFT; exact rfl; exact rfl; assumption; exact rfl)
    | (apply S.gFFn; exact rfl; exact rfl; assumption)
    | (apply S.fieldP; exact rfl; exact rfl; exact rfl)
    | (apply S.loadP; exact rfl; exact rfl; exact rfl; exact rfl)
    | (apply S.pTp; exact rfl; assumption; exact rfl; exact rfl)
    | (apply S.pFn; exact rfl; assumption; exact rfl; exact rfl)
    | (apply S.call; exact rfl; exact rfl; exact house_valid h hf; exact rfl)
    | (apply S.call; exact rfl; exact rfl; exact cue_right h q hf1 hq; exact rfl)
    | (apply S.loadPA; exact rfl; exact rfl; exact rfl; exact rfl)
    | (apply S.box; exact rfl; exact rfl; exact rfl; exact rfl; exact rfl; exact rfl)
    | (apply S.cmp; exact rfl; exact rfl; exact rfl; exact rfl)
    | (apply S.notP; exact rfl; exact rfl)
    | (apply S.lenR; exact rfl; exact rfl)
    | (apply S.gsFn; exact rfl; exact rfl; exact rfl; intro hc; rotate_left; intro hc; rotate_right)
    | apply S.nil
    | apply T.regs
    | (apply T.cC; exact rfl)
    | (apply T.cSn; exact rfl; intro hc; rotate_left; intro hc; rotate_right)
    | apply T.seq
    | (apply T.skip; first | change T _ _ _ _ _ | change Done _ _ _ _ _ | change Next _ _ _ _ _ _ | skip)
    | (apply T.ret; change Done _ _ _ _ _)
    | apply T.block)
  all_goals first
    | exact doneV (by simp) Tryz.results37 rfl (congrArg (Value.int .i64) (givenE_1 (fun g => absurd g.1 (by assumption))).symm)
    | exact doneV (by simp) Tryz.results37 rfl (congrArg (Value.int .i64) (givenE_1 (fun g => absurd g.2 (by assumption))).symm)
    | exact doneV (by simp) Tryz.results37 rfl (congrArg (Value.int .i64) (givenE_3 ⟨by assumption, by assumption⟩ (by omega)).symm)
    | skip
  have hg : houseP h ∧ rightP h q := ⟨by assumption, by assumption⟩
  have hll : l.length = h.sets.length := by omega
  refine T.loopS (fun k => k ≤ l.length ∧ ∀ (i : Nat) (n : Int) (s : SetR), i < k → l[i]? = some n → h.sets[i]? = some s → s.low ≤ n ∧ n ≤ s.high) (fun k => l.length - k) (fun k => [(28, .i k), (27, .i (l.map intRow).length), (26, .sl (l.map intRow)), (3, .ptr 0 0)]) (fun _ => [.live (h.row.map .lf)]) 0 ⟨Nat.zero_le _, by intro i n s h; omega⟩ (.cons rfl rfl (.cons rfl rfl (.cons rfl rfl (.cons rfl rfl .nil)))) (.live rfl .nil) ?_
  rintro k ⟨hk, hok⟩
  by_cases hlt : k < l.length
  · have h1 : (k : Int) < ((l.map intRow).length : Nat) := by omega
    obtain ⟨x, hx⟩ := get_at hlt
    obtain ⟨s, hs⟩ := get_at (l := h.sets) (k := k) (by omega)
    have hb := row_at (R := intRow) hx
    have hbs := row_at (R := SetR.row) hs
    repeat' (first
      | (apply S.move; exact rfl; exact rfl)
      | (apply S.assign; exact rfl; exact rfl)
      | (apply S.fieldP; exact rfl; exact rfl; exact rfl)
      | (apply S.loadP; exact rfl; exact rfl; exact rfl; exact rfl)
      | (apply S.fieldR; exact rfl; exact rfl)
      | (apply S.loadR; exact rfl; exact rfl; exact rfl)
      | (apply T.drawAll anyOrder (by kernel_rfl))
      | (apply S.indexR; exact rfl; exact rfl; exact rfl; exact hb; omega; exact rfl)
      | (apply S.indexR; exact rfl; exact rfl; exact rfl; exact hbs; omega; exact rfl)
      | (apply S.call; exact rfl; exact rfl; exact cue_between _ _ _; exact rfl)
      | (apply S.arith; exact rfl; exact rfl; exact rfl; exact rfl; omega)
      | (apply S.cmp; exact rfl; exact rfl; exact rfl; exact rfl)
      | (apply S.notP; exact rfl; exact rfl)
      | apply S.nil
      | apply T.regs
      | apply T.reg
      | (apply T.cT; exact rfl; assumption)
      | (apply T.cSn; exact rfl; intro hc; rotate_left; intro hc; rotate_right)
      | apply T.seq
      | (apply T.skip; first | change T _ _ _ _ _ | change Done _ _ _ _ _ | change Next _ _ _ _ _ _ | skip)
      | (apply T.ret; change Done _ _ _ _ _)
      | apply T.block)
    all_goals (try change Next _ _ _ _ _ _)
    all_goals first
      | exact Next.go (k + 1) ⟨by omega, by
          intro i n t hi hn ht
          rcases Nat.lt_or_ge i k with h9 | h9
          · exact hok i n t h9 hn ht
          · obtain rfl : i = k := by omega
            obtain rfl : x = n := by rw [hx] at hn; injection hn
            obtain rfl : s = t := by rw [hs] at ht; injection ht
            assumption⟩ (by omega) (.cons rfl rfl (.cons rfl rfl (.cons rfl rfl (.cons rfl rfl .nil)))) (.live rfl .nil)
      | exact doneV (by simp) Tryz.results37 rfl (congrArg (Value.int .i64) (givenE_2 hg hll (fun g => absurd (g k x s hx hs) (by assumption))).symm)
  · have h1 : ¬ (k : Int) < ((l.map intRow).length : Nat) := by omega
    repeat' (first
      | (apply S.assign; exact rfl; exact rfl)
      | (apply S.cmp; exact rfl; exact rfl; exact rfl; exact rfl)
      | apply S.nil
      | apply T.regs
      | (apply T.cF; exact rfl; assumption)
      | apply T.seq
      | (apply T.ret; change Done _ _ _ _ _)
      | (apply T.exit; first | change T _ _ _ _ _ | change Done _ _ _ _ _ | change Next _ _ _ _ _ _ | skip))
    exact doneV (by simp) Tryz.results37 rfl (congrArg (Value.int .i64) (givenE_0 hg hll (fun i n s hn hs => hok i n s (by have := (List.getElem?_eq_some_iff.1 hn).1; omega) hn hs)).symm)
end Go.Proofs.YtfchdagalklgpaaGreatDoor
