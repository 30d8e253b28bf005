/- Contracts: the reference's Trims; slices.EqualFunc of two equal lists of lists. Conditions: those of each statement. | Contracts: the walk of the law on trims and texts. No conditions but those of each statement. -/
import Derived.Test.YtfchdagalklgpaaGreatDoorMs
import Derived.Test.YtfchdagalklgpaaGreatDoorMr
import Derived.Test.YtfchdagalklgpaaGreatDoorNa
set_option linter.unusedSimpArgs false
namespace Go.Proofs.YtfchdagalklgpaaGreatDoor
set_option linter.unusedVariables false
open Go.RowKit
def hiT : Nat → AV
  | 0 => .val (.slice none 0 0)
  | k + 1 => .own 1 0 (k + 1) 1
theorem seal_hi {P : Program} {N : Nat} {c : Code} {Q : Exit → St → Prop} {tm : Tm} {H : AH} {h : HouseR} {k : Nat} (hk : k = h.sets.length) (ht : tm.get 3 = some (hiT k)) (hb : H.at 1 = highB h.sets k) (hT : T P N c ⟨(3, .sl ((highs h).map intRow)) :: tm, H.put 1 .dead⟩ Q) : T P N c ⟨tm, H⟩ Q := by
  cases k with
  | zero =>
    have h0 : (highs h).map intRow = [] := by rw [highs, List.eq_nil_of_length_eq_zero hk.symm]; rfl
    rw [h0] at hT
    exact S.nilT 3 ht (T.kill 1 hT (by rw [hb]; rfl))
  | succ k => exact T.freeze 3 ht hb (own_highs hk) hT
set_option maxHeartbeats 16000000 in
theorem r36_high (h : HouseR) (hf : h.fits) (h60 : h.sets.length ≤ 60) : Fn0 Tryz.prog 30 [rowA h.row] (.sl ((highs h).map intRow)) := by
  have hle : (h.sets.map SetR.row).length = h.sets.length := List.length_map _
  refine Fn0.of Tryz.func30 Tryz.ntmps30 rfl rfl rfl ?_
  simp only [entryTm]
  repeat' (first
    | (apply S.assign; exact rfl; exact rfl)
    | (apply S.box; exact rfl; exact rfl; exact rfl; exact rfl; exact rfl; exact rfl)
    | apply S.nil
    | apply T.regs
    | apply T.seq
    | apply T.block)
  refine T.kill 1 ?_
  refine T.loopS (fun k => k ≤ h.sets.length) (fun k => h.sets.length - k) (fun k => [(4, .i k), (3, hiT k), (1, .ptr 0 0)]) (fun k => [.live (h.row.map .lf), highB h.sets k]) 0 (Nat.zero_le _) (.cons rfl rfl (.cons rfl rfl (.cons rfl rfl .nil))) (.live rfl (.dead .nil)) ?_
  intro k hk
  by_cases hlt : k < h.sets.length
  · have h1 : (k : Int) < ((h.sets.map SetR.row).length : Nat) := by omega
    obtain ⟨x, hx⟩ := get_at hlt
    have hb := row_at (R := SetR.row) hx
    have hsn := snoc_at hx
    cases k with
    | zero =>
      repeat' (first
        | (apply S.move; exact rfl; exact rfl)
        | (apply S.assign; exact rfl; exact rfl)
        | (apply S.fieldP; exact rfl; exact rfl; exact rfl)
        | (apply S.loadP; exact rfl; exact rfl; exact rfl; exact rfl)
        | (apply S.fieldR; exact rfl; exact rfl)
        | (apply S.loadR; exact rfl; exact rfl; exact rfl)
        | (apply S.indexR; exact rfl; exact rfl; exact rfl; exact hb; omega; exact rfl)
        | (apply S.buildSlice1; exact rfl; exact rfl; exact rfl; exact rfl; exact rfl; exact rfl; exact rfl)
        | (apply S.appendN 1 (rows := []); exact rfl; exact rfl; exact rfl; exact rfl; exact rfl; exact rfl; exact rfl; exact rfl; exact rows_one rfl; exact rfl; exact Nat.le_of_ble_eq_true rfl; exact Nat.le_of_ble_eq_true rfl)
        | (apply S.arith; exact rfl; exact rfl; exact rfl; exact rfl; omega)
        | (apply S.cmp; exact rfl; exact rfl; exact rfl; exact rfl)
        | (apply S.lenR; exact rfl; exact rfl)
        | apply S.nil
        | apply T.regs
        | apply T.reg
        | (apply T.cT; exact rfl; assumption)
        | apply T.seq
        | (apply T.skip; first | change T _ _ _ _ _ | change Done _ _ _ _ _ | change Next _ _ _ _ _ _ | skip)
        | apply T.block)
      change Next _ _ _ _ _ _
      exact Next.go 1 (by omega) (by omega) (.cons rfl rfl (.cons rfl rfl (.cons rfl rfl .nil))) (by
        show CovH _ _ [_, .live (cellsI ((h.sets.take (0 + 1)).map SetR.high))]
        rw [cellsI_snoc hsn]
        exact .live rfl (.live rfl .nil))
    | succ k =>
      have hcl : (cellsI ((h.sets.take (k + 1)).map SetR.high)).length = (k + 1) * 1 := by rw [cellsI_len, List.length_map, List.length_take]; omega
      repeat' (first
        | (apply S.move; exact rfl; exact rfl)
        | (apply S.assign; exact rfl; exact rfl)
        | (apply S.fieldP; exact rfl; exact rfl; exact rfl)
        | (apply S.loadP; exact rfl; exact rfl; exact rfl; exact rfl)
        | (apply S.fieldR; exact rfl; exact rfl)
        | (apply S.loadR; exact rfl; exact rfl; exact rfl)
        | (apply S.indexR; exact rfl; exact rfl; exact rfl; exact hb; omega; exact rfl)
        | (apply S.buildSlice1; exact rfl; exact rfl; exact rfl; exact rfl; exact rfl; exact rfl; exact rfl)
        | (apply S.appendO; exact rfl; exact rfl; exact rfl; exact rfl; exact rfl; exact rfl; exact rfl; exact rfl; exact hcl; exact rows_one rfl; exact rfl; exact clear_lf _ _; simp only [List.length_cons, List.length_nil]; omega; simp only [List.length_cons, List.length_nil]; omega)
        | (apply S.arith; exact rfl; exact rfl; exact rfl; exact rfl; omega)
        | (apply S.cmp; exact rfl; exact rfl; exact rfl; exact rfl)
        | (apply S.lenR; exact rfl; exact rfl)
        | apply S.nil
        | apply T.regs
        | apply T.reg
        | (apply T.cT; exact rfl; assumption)
        | apply T.seq
        | (apply T.skip; first | change T _ _ _ _ _ | change Done _ _ _ _ _ | change Next _ _ _ _ _ _ | skip)
        | apply T.block)
      change Next _ _ _ _ _ _
      exact Next.go (k + 2) (by omega) (by omega) (.cons rfl rfl (.cons rfl rfl (.cons rfl rfl .nil))) (by
        show CovH _ _ [_, .live (cellsI ((h.sets.take (k + 1 + 1)).map SetR.high))]
        rw [cellsI_snoc hsn]
        exact .live rfl (.live (by rw [← List.map_append]; exact under_lf _ _) .nil))
  · have h1 : ¬ (k : Int) < ((h.sets.map SetR.row).length : Nat) := by omega
    refine seal_hi (h := h) (k := k) (by omega) rfl rfl ?_
    repeat' (first
      | (apply S.move; exact rfl; exact rfl)
      | (apply S.assign; exact rfl; exact rfl)
      | (apply S.fieldP; exact rfl; exact rfl; exact rfl)
      | (apply S.loadP; exact rfl; exact rfl; exact rfl; exact rfl)
      | (apply S.cmp; exact rfl; exact rfl; exact rfl; exact rfl)
      | (apply S.lenR; exact rfl; exact rfl)
      | apply S.nil
      | apply T.regs
      | (apply T.cF; exact rfl; assumption)
      | apply T.seq
      | (apply T.ret; change Done _ _ _ _ _)
      | (apply T.exit; first | change T _ _ _ _ _ | change Done _ _ _ _ _ | change Next _ _ _ _ _ _ | skip))
    exact done1 (by first | exact .inl rfl | exact .inr rfl) Tryz.results30 rfl (.one (.one (.lf _)))
theorem cellsT_at (h : HouseR) (c : SheetR) (n k : Nat) (hk : k < n) : (cellsT h c n)[k]? = some (.lf (.sl ((nowL h c k).map intRow))) := by
  have e : ((trimsL h c n).map tRow).flatten = (trimsL h c n).map fun l => Lf.sl (l.map intRow) := by
    generalize trimsL h c n = L
    induction L with
    | nil => rfl
    | cons x L ih => rw [List.map_cons, List.flatten_cons, ih]; rfl
  rw [cellsT, List.getElem?_map, e, List.getElem?_map, trimsL, List.getElem?_map, List.getElem?_range hk]
  rfl
set_option maxHeartbeats 16000000 in
theorem r36_trims (h : HouseR) (c : SheetR) (hf : h.fits) (hc : c.fits) (v : validP h c) : Fn0 Tryz.prog 11 [rowA h.row, rowA c.row] (.sl ((trimsL h c (c.cues.length + 1)).map tRow)) := by
  obtain ⟨_, _, _, hs60, _⟩ := v.1
  have hc60 := v.2.1
  have hle2 : (c.cues.map CueR.row).length = c.cues.length := List.length_map _
  have ch := r36_high h hf hs60
  refine Fn0.of Tryz.func11 Tryz.ntmps11 rfl rfl rfl ?_
  simp only [entryTm]
  repeat' (first
    | (apply S.assign; exact rfl; exact rfl)
    | (apply S.call; exact rfl; exact rfl; exact ch; exact rfl)
    | (apply S.buildSliceO; exact rfl; exact rfl; exact rfl; exact rfl; exact rfl; exact rfl)
    | (apply S.loadPA; exact rfl; exact rfl; exact rfl; exact rfl)
    | (apply S.box; exact rfl; exact rfl; exact rfl; exact rfl; exact rfl; exact rfl)
    | apply S.nil
    | apply T.regs
    | apply T.seq
    | apply T.block)
  refine T.loopS (fun k => k ≤ c.cues.length) (fun k => c.cues.length - k) (fun k => [(6, .i k), (5, .own 2 0 (k + 1) 1), (2, .ptr 0 0), (3, .ptr 1 0)]) (fun k => [.live (h.row.map .lf), .live (c.row.map .lf), .live (cellsT h c (k + 1))]) 0 (Nat.zero_le _) (.cons rfl rfl (.cons rfl rfl (.cons rfl rfl (.cons rfl rfl .nil)))) (.live rfl (.live rfl (.live rfl .nil))) ?_
  intro j hj
  by_cases hlt2 : j < c.cues.length
  · have h2 : (j : Int) < ((c.cues.map CueR.row).length : Nat) := by omega
    obtain ⟨y, hy⟩ := get_at hlt2
    have hb2 := row_at (R := CueR.row) hy
    have cm := r36_after h (nowL h c j) y hf (by have := hc.2.2 y (List.mem_of_getElem? hy); omega) (now_given v hy)
    rw [← nowL_succ hy] at cm
    have hct := cellsT_len h c (j + 1)
    have hcell : (cellsT h c (j + 1))[0 + ((j : Nat) : Int).toNat * 1]? = some (.lf (.sl ((nowL h c j).map intRow))) := by
      rw [Nat.zero_add, Nat.mul_one, Int.toNat_natCast]; exact cellsT_at h c (j + 1) j (by omega)
    repeat' (first
      | (apply S.move; exact rfl; exact rfl)
      | (apply S.assign; exact rfl; exact rfl)
      | (apply S.fieldP; exact rfl; exact rfl; exact rfl)
      | (apply S.loadP; exact rfl; exact rfl; exact rfl; exact rfl)
      | (apply T.drawR 13 anyOrder (by decide +kernel); simp only [List.take_succ_cons, List.take_zero, List.drop_succ_cons, List.drop_zero])
      | (apply S.indexR; exact rfl; exact rfl; exact rfl; exact hb2; omega; exact rfl)
      | (apply S.buildSlice1; exact rfl; exact rfl; exact rfl; exact rfl; exact rfl; exact rfl; exact rfl)
      | (apply S.appendO; exact rfl; exact rfl; exact rfl; exact rfl; exact rfl; exact rfl; exact rfl; exact rfl; exact hct; exact rows_one rfl; exact rfl; exact clear_lf _ _; simp only [List.length_cons, List.length_nil]; omega; simp only [List.length_cons, List.length_nil]; omega)
      | (apply S.call; exact rfl; exact rfl; exact cm; exact rfl)
      | (apply S.indexO; exact rfl; exact rfl; exact rfl; exact rfl; omega; exact rfl)
      | (apply S.loadP; exact rfl; exact rfl; exact hcell; exact rfl)
      | (apply S.arith; exact rfl; exact rfl; exact rfl; exact rfl; omega)
      | (apply S.loadPA; exact rfl; exact rfl; exact rfl; exact rfl)
      | (apply S.loadRA; exact rfl; exact rfl; exact rfl; exact rfl)
      | (apply S.cmp; exact rfl; exact rfl; exact rfl; exact rfl)
      | (apply S.lenR; exact rfl; exact rfl)
      | apply S.nil
      | apply T.regs
      | apply T.reg
      | (apply T.cT; exact rfl; assumption)
      | apply T.seq
      | (apply T.skip; first | change T _ _ _ _ _ | change Done _ _ _ _ _ | change Next _ _ _ _ _ _ | skip)
      | apply T.block)
    change Next _ _ _ _ _ _
    exact Next.go (j + 1) (by omega) (by omega) (.cons rfl rfl (.cons rfl rfl (.cons rfl rfl (.cons rfl rfl .nil)))) (by
      show CovH _ _ [_, _, .live (cellsT h c (j + 1 + 1))]
      rw [cellsT_snoc]
      exact .live rfl (.live rfl (.live (by rw [← List.map_append]; exact under_lf _ _) .nil)))
  · have h2 : ¬ (j : Int) < ((c.cues.map CueR.row).length : Nat) := by omega
    have hj2 : j = c.cues.length := by omega
    repeat' (first
      | (apply S.move; exact rfl; exact rfl)
      | (apply S.assign; exact rfl; exact rfl)
      | (apply S.fieldP; exact rfl; exact rfl; exact rfl)
      | (apply S.loadP; exact rfl; exact rfl; exact rfl; exact rfl)
      | (apply S.cmp; exact rfl; exact rfl; exact rfl; exact rfl)
      | (apply S.lenR; exact rfl; exact rfl)
      | apply S.nil
      | apply T.regs
      | (apply T.cF; exact rfl; assumption)
      | apply T.seq
      | (apply T.ret; change Done _ _ _ _ _)
      | (apply T.exit; first | change T _ _ _ _ _ | change Done _ _ _ _ _ | change Next _ _ _ _ _ _ | skip))
    refine done1 (by first | exact .inl rfl | exact .inr rfl) Tryz.results11 rfl (.one (.one (.own (cells := cellsT h c (j + 1)) rfl ?_)))
    have := OwnRows.of ((trimsL h c (j + 1)).map tRow).flatten (tRow_len _) rfl
    rw [List.length_map, trimsL, List.length_map, List.length_range] at this
    rw [← hj2]
    exact this
set_option maxHeartbeats 8000000 in
theorem equalFunc_same (a : List (List Int)) (ha : a.length ≤ 9223372036854775807) (hx : ∀ l ∈ a, l.length ≤ 9223372036854775807) : Fn0 Tryz.prog 10 [.sl (a.map tRow), .sl (a.map tRow), .fn (.func 12) [] []] (.b true) := by
  have hle : (a.map tRow).length = a.length := List.length_map _
  have hee : ((a.map tRow).length : Int) = ((a.map tRow).length : Nat) := rfl
  refine Fn0.of Tryz.func10 Tryz.ntmps10 rfl rfl rfl ?_
  simp only [entryTm]
  repeat' (first
    | (apply S.move; exact rfl; exact rfl)
    | (apply S.assign; exact rfl; exact rfl)
    | (apply S.cmp; exact rfl; exact rfl; exact rfl; exact rfl)
    | (apply S.lenR; exact rfl; exact rfl)
    | apply S.nil
    | apply T.regs
    | (apply T.cFn; exact rfl; assumption)
    | apply T.seq
    | (apply T.skip; first | change T _ _ _ _ _ | change Done _ _ _ _ _ | change Next _ _ _ _ _ _ | skip)
    | apply T.block)
  refine T.loopS (fun k => k ≤ a.length) (fun k => a.length - k) (fun k => [(17, .i k), (16, .i (a.map tRow).length), (15, .sl (a.map tRow)), (1, .sl (a.map tRow)), (2, .fn (.func 12) [] [])]) (fun _ => []) 0 (Nat.zero_le _) (.cons rfl rfl (.cons rfl rfl (.cons rfl rfl (.cons rfl rfl (.cons rfl rfl .nil))))) .nil ?_
  intro k hk
  by_cases hlt : k < a.length
  · have h1 : (k : Int) < ((a.map tRow).length : Nat) := by omega
    obtain ⟨x, hx'⟩ := get_at hlt
    have hb := row_at (R := tRow) hx'
    have hxl := hx x (List.mem_of_getElem? hx')
    have he := equal_ints x x hxl hxl
    have hxx : x = x := rfl
    repeat' (first
      | (apply S.move; exact rfl; exact rfl)
      | (apply S.assign; exact rfl; exact rfl)
      | (apply S.loadR; exact rfl; exact rfl; exact rfl)
      | (apply S.indexR; exact rfl; exact rfl; exact rfl; exact hb; omega; exact rfl)
      | (apply S.callF; exact rfl; exact rfl; exact he; exact rfl; exact rfl)
      | (apply S.arith; exact rfl; exact rfl; exact rfl; exact rfl; omega)
      | (apply S.cmp; exact rfl; exact rfl; exact rfl; exact rfl)
      | (apply S.notP; exact rfl; exact rfl)
      | apply S.nil
      | apply T.regs
      | apply T.reg
      | (apply T.cT; exact rfl; assumption)
      | (apply T.cFn; exact rfl; assumption)
      | apply T.seq
      | (apply T.skip; first | change T _ _ _ _ _ | change Done _ _ _ _ _ | change Next _ _ _ _ _ _ | skip)
      | apply T.block)
    change Next _ _ _ _ _ _
    exact Next.go (k + 1) (by omega) (by omega) (.cons rfl rfl (.cons rfl rfl (.cons rfl rfl (.cons rfl rfl (.cons rfl rfl .nil))))) .nil
  · have h1 : ¬ (k : Int) < ((a.map tRow).length : Nat) := by omega
    repeat' (first
      | (apply S.assign; exact rfl; exact rfl)
      | (apply S.cmp; exact rfl; exact rfl; exact rfl; exact rfl)
      | apply S.nil
      | apply T.regs
      | (apply T.cF; exact rfl; assumption)
      | apply T.seq
      | (apply T.ret; change Done _ _ _ _ _)
      | (apply T.exit; first | change T _ _ _ _ _ | change Done _ _ _ _ _ | change Next _ _ _ _ _ _ | skip))
    all_goals exact doneV (by simp) Tryz.results10 rfl rfl
end Go.Proofs.YtfchdagalklgpaaGreatDoor
set_option linter.unusedSimpArgs false
namespace Go.Proofs.YtfchdagalklgpaaGreatDoor
set_option linter.unusedVariables false
open Go.RowKit
theorem textOk_of {h : HouseR} {c : SheetR} (v : validP h c) (hs : smallC c 8) : TextOk c := ⟨hs, fun q hq => by
  obtain ⟨k, hk⟩ := List.mem_iff_getElem?.1 hq
  obtain ⟨_, _, a3, a4, a5, a6, _⟩ := v.cue hk
  exact ⟨a3, a4, a5, fun m hm => (a6 m hm).1⟩⟩
theorem cue_trims_err (h : HouseR) (c : SheetR) (hf : h.fits) (hc : c.fits) (v : ¬ validP h c) : Fn0 Tryz.prog 7 [rowA h.row, rowA c.row] (.tup [.val (.slice none 0 0), .i 1]) := by
  have cv := cue_valid h c hf hc
  refine Fn0.of Tryz.func7 Tryz.ntmps7 rfl rfl rfl ?_
  simp only [entryTm]
  repeat' (first
    | (apply S.assign; exact rfl; exact rfl)
    | (apply S.call; exact rfl; exact rfl; exact cv; exact rfl)
    | (apply S.loadPA; exact rfl; exact rfl; exact rfl; exact rfl)
    | (apply S.box; exact rfl; exact rfl; exact rfl; exact rfl; exact rfl; exact rfl)
    | (apply S.notP; exact rfl; exact rfl)
    | apply S.nil
    | apply T.regs
    | (apply T.cT; exact rfl; assumption)
    | apply T.seq
    | (apply T.ret; change Done _ _ _ _ _))
  all_goals exact ⟨.inr rfl, [.val (.slice none 0 0), .i 1], .cons (.tmp rfl) (.cons (.tmp rfl) .nil), .tup (.cons (.one (.lf _)) (.cons (.one (.lf _)) .nil))⟩
set_option maxHeartbeats 16000000 in
theorem law_cueTrims (h : HouseR) (c : SheetR) (hf : h.fits) (hc : c.fits) : Fn0 Tryz.prog 3 [rowA h.row, rowA c.row] (.b true) := by
  have cl := law_long h c hf hc
  have z0 : (0 : Int) = 0 := rfl
  have z1 : (1 : Int) = 1 := rfl
  have zs : (⟨#[]⟩ : ByteArray) = ⟨#[]⟩ := rfl
  by_cases hlong : ¬ smallH h 8 ∨ ¬ smallC c 8
  · skip
    refine Fn0.of Tryz.func3 Tryz.ntmps3 rfl rfl rfl ?_
    simp only [entryTm]
    repeat' (first
      | (apply S.assign; exact rfl; exact rfl)
      | (apply S.call; exact rfl; exact rfl; exact law_awake; exact rfl)
      | (apply S.call; exact rfl; exact rfl; exact cl; exact rfl)
      | (apply S.loadPA; exact rfl; exact rfl; exact rfl; exact rfl)
      | (apply S.box; exact rfl; exact rfl; exact rfl; exact rfl; exact rfl; exact rfl)
      | (apply S.not; exact rfl; exact rfl; exact rfl)
      | apply S.nil
      | apply T.regs
      | (apply T.cCN; exact rfl)
      | (apply T.cT; exact rfl; assumption)
      | apply T.seq
      | (apply T.skip; first | change T _ _ _ _ _ | change Done _ _ _ _ _ | change Next _ _ _ _ _ _ | skip)
      | (apply T.ret; change Done _ _ _ _ _))
    all_goals exact doneV (by simp) Tryz.results3 rfl (by simp [*])
  · have hs : smallC c 8 := Classical.byContradiction fun hh => hlong (.inr hh)
    have rv := r36_valid h c hf hc
    by_cases v : validP h c
    · have ht := textOk_of v hs
      have c1 := cue_trims_ok h c hf hc v
      have c2 := cue_text_ok h c hf hc v ht
      have c3 := r36_trims h c hf hc v
      have c4 := r36_text c ht
      have ce := equalFunc_same (trimsL h c (c.cues.length + 1)) (by simp [trimsL]; have := hs.1; omega) (fun l hl => by
        obtain ⟨k, hk, rfl⟩ := List.mem_map.1 hl
        have hk' := List.mem_range.1 hk
        have := (nowL_ok v k (by omega)).1
        obtain ⟨_, _, _, hs60, _⟩ := v.1
        omega)
      have zt : ofL (sheetL c) = ofL (sheetL c) := rfl
      refine Fn0.of Tryz.func3 Tryz.ntmps3 rfl rfl rfl ?_
      simp only [entryTm]
      repeat' (first
        | (apply S.move; exact rfl; exact rfl)
        | (apply S.assign; exact rfl; exact rfl)
        | (apply S.gC; exact rfl; exact rfl; exact rfl)
        | (apply S.pC; exact rfl; exact rfl; exact rfl)
        | (apply S.call; exact rfl; exact rfl; exact law_awake; exact rfl)
        | (apply S.call; exact rfl; exact rfl; exact cl; exact rfl)
        | (apply S.call; exact rfl; exact rfl; exact rv; exact rfl)
        | (apply S.call; exact rfl; exact rfl; exact c1; exact rfl)
        | (apply S.call; exact rfl; exact rfl; exact c2; exact rfl)
        | (apply S.call; exact rfl; exact rfl; exact c3; exact rfl)
        | (apply S.call; exact rfl; exact rfl; exact c4; exact rfl)
        | (apply S.call; exact rfl; exact rfl; exact ce; exact rfl)
        | (apply S.loadPA; exact rfl; exact rfl; exact rfl; exact rfl)
        | (apply S.box; exact rfl; exact rfl; exact rfl; exact rfl; exact rfl; exact rfl)
        | (apply S.cmp; exact rfl; exact rfl; exact rfl; exact rfl)
        | (apply S.strEq; exact rfl; exact rfl; exact rfl)
        | (apply S.notP; exact rfl; exact rfl)
        | (apply S.not; exact rfl; exact rfl; exact rfl)
        | (apply S.extract; exact rfl; exact rfl; exact rfl)
        | apply S.nil
        | apply T.regs
        | (apply T.cCN; exact rfl)
        | (apply T.cF; exact rfl; assumption)
        | (apply T.cFn; exact rfl; assumption)
        | apply T.seq
        | (apply T.skip; first | change T _ _ _ _ _ | change Done _ _ _ _ _ | change Next _ _ _ _ _ _ | skip)
        | (apply T.ret; change Done _ _ _ _ _))
      all_goals exact doneV (by simp) Tryz.results3 rfl (by simp [*])
    · have c1 := cue_trims_err h c hf hc v
      have c2 := cue_text_err h c hf hc v
      refine Fn0.of Tryz.func3 Tryz.ntmps3 rfl rfl rfl ?_
      simp only [entryTm]
      repeat' (first
        | (apply S.move; exact rfl; exact rfl)
        | (apply S.assign; exact rfl; exact rfl)
        | (apply S.gC; exact rfl; exact rfl; exact rfl)
        | (apply S.pC; exact rfl; exact rfl; exact rfl)
        | (apply S.call; exact rfl; exact rfl; exact law_awake; exact rfl)
        | (apply S.call; exact rfl; exact rfl; exact cl; exact rfl)
        | (apply S.call; exact rfl; exact rfl; exact rv; exact rfl)
        | (apply S.call; exact rfl; exact rfl; exact c1; exact rfl)
        | (apply S.call; exact rfl; exact rfl; exact c2; exact rfl)
        | (apply S.lenN; exact rfl; exact rfl)
        | (apply S.loadPA; exact rfl; exact rfl; exact rfl; exact rfl)
        | (apply S.box; exact rfl; exact rfl; exact rfl; exact rfl; exact rfl; exact rfl)
        | (apply S.cmp; exact rfl; exact rfl; exact rfl; exact rfl)
        | (apply S.strEq; exact rfl; exact rfl; exact rfl)
        | (apply S.notP; exact rfl; exact rfl)
        | (apply S.not; exact rfl; exact rfl; exact rfl)
        | (apply S.extract; exact rfl; exact rfl; exact rfl)
        | apply S.nil
        | apply T.regs
        | (apply T.cCN; exact rfl)
        | (apply T.cT; exact rfl; assumption)
        | (apply T.cF; exact rfl; assumption)
        | apply T.seq
        | (apply T.skip; first | change T _ _ _ _ _ | change Done _ _ _ _ _ | change Next _ _ _ _ _ _ | skip)
        | (apply T.ret; change Done _ _ _ _ _))
      all_goals exact doneV (by simp) Tryz.results3 rfl (by simp [*])
end Go.Proofs.YtfchdagalklgpaaGreatDoor
