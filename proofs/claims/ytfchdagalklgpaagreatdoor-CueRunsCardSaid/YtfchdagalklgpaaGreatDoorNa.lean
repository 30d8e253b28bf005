/- Contracts: cue.Text: the walk. Conditions: short names, few cues and moves, numbers in their ranges. | Contracts: cue.Text: the walk. Conditions: short names, few cues and moves, numbers in their ranges. -/
import Derived.Test.YtfchdagalklgpaaGreatDoorMz
import Derived.Test.YtfchdagalklgpaaGreatDoorMy
import Derived.Test.YtfchdagalklgpaaGreatDoorMc
import Derived.Test.YtfchdagalklgpaaGreatDoorMp
set_option linter.unusedSimpArgs false
namespace Go.Proofs.YtfchdagalklgpaaGreatDoor
set_option linter.unusedVariables false
open Go.RowKit
theorem lineB_list (ws : List ByteArray) : (lineB ws).data.toList = lineL ws := by
  unfold lineB lineL
  rw [ba_append]
  simp [joinB]
theorem strCells_line (ws : List ByteArray) : Lib.strCells (lineB ws) = Lib.byteCells (lineL ws) := by
  unfold Lib.strCells Lib.byteCells
  rw [← lineB_list]
theorem byteCells_append (a b : List UInt8) : Lib.byteCells (a ++ b) = Lib.byteCells a ++ Lib.byteCells b := by simp [Lib.byteCells]
theorem byteCells_len (a : List UInt8) : (Lib.byteCells a).length = a.length := by simp [Lib.byteCells]
/-- A line of words behind some bytes. -/
theorem line_at (ws : List ByteArray) (l : List UInt8) (hne : ws ≠ []) (hw : okWords ws) (hl : l.length ≤ 60000) : FnBld Tryz.prog 66 5 23 [.sl (ws.map strRow)] (Lib.byteCells l) (Lib.byteCells (l ++ lineL ws)) (.tup []) := by
  have h1 := line_le hw
  have h2 : (lineB ws).size = (lineL ws).length := by rw [← lineB_list]; rfl
  have := cue_line ws (Lib.byteCells l) hne (by have := hw.1; omega) (by rw [byteCells_len]; omega)
  rw [strCells_line, ← byteCells_append] at this
  exact this
theorem read_string (l : List UInt8) : FnRead Tryz.prog 66 5 26 (Lib.byteCells l) (.string (ofL l)) := by
  refine ⟨⟨_, Tryz.func26, rfl, rfl⟩, fun w k B hB hs => ?_⟩
  refine (Tryz.Builder_String_any_f B k l w hB hs).mono ?_
  rintro e w' ⟨rfl, _, hb⟩
  exact ⟨rfl, hb⟩
abbrev bldS (b2 : Nat) (l : List UInt8) : HB := .bld 66 5 b2 (Lib.byteCells l)
end Go.Proofs.YtfchdagalklgpaaGreatDoor
set_option linter.unusedSimpArgs false
namespace Go.Proofs.YtfchdagalklgpaaGreatDoor
set_option linter.unusedVariables false
open Go.RowKit
theorem CovH.bldE {n : Nat} {T e : TypeId} {b2 : Nat} {s s' : List UInt8} {H H' : AH} (h : s = s') (hb : Nat.blt b2 n = true) (c : CovH n H H') : CovH n (.bld T e b2 (Lib.byteCells s') :: H) (.bld T e b2 (Lib.byteCells s) :: H') := by
  subst h
  exact .bld hb c
theorem words_own (ws : List ByteArray) {cs : List AV} {n : Nat} (hc : cs = (ws.map fun s => AV.lf (.s s))) (hn : n = ws.length) : OwnRows cs 0 n 1 (ws.map strRow) := by
  subst hc hn
  have := OwnRows.of (n := 1) (ws.map fun s => (Lf.s s)) (rows := ws.map strRow) (fun r hr => by
    obtain ⟨s, _, rfl⟩ := List.mem_map.1 hr
    rfl) (by induction ws with
      | nil => rfl
      | cons x ws ih => simp [strRow] at ih ⊢; rw [← ih])
  rw [List.length_map] at this
  rw [List.map_map] at this
  exact this
set_option maxHeartbeats 32000000 in
theorem cue_text_ok (h : HouseR) (c : SheetR) (hf : h.fits) (hc : c.fits) (hv : validP h c) (ht : TextOk c) : Fn0 Tryz.prog 8 [rowA h.row, rowA c.row] (.tup [.val (.string (ofL (sheetL c))), .i 0]) := by
  have hle : (c.cues.map CueR.row).length = c.cues.length := List.length_map _
  have hle2 : (c.apart.map pairRow).length = c.apart.length := List.length_map _
  have hs := ht.small
  have hs1 := hs.1
  have hs2 := hs.2.1
  have cv := cue_valid h c hf hc
  refine Fn0.of Tryz.func8 Tryz.ntmps8 rfl rfl rfl ?_
  simp only [entryTm]
  repeat' (first
    | (apply S.move; exact rfl; exact rfl)
    | (apply S.assign; exact rfl; exact rfl)
    | (apply S.fieldP; exact rfl; exact rfl; exact rfl)
    | (apply S.loadP; exact rfl; exact rfl; exact rfl; exact rfl)
    | (apply S.call; exact rfl; exact rfl; exact cv; exact rfl)
    | (apply S.allocB 5; exact rfl; exact rfl)
    | (apply S.loadPA; exact rfl; exact rfl; exact rfl; exact rfl)
    | (apply S.box; exact rfl; exact rfl; exact rfl; exact rfl; exact rfl; exact rfl)
    | (apply S.notP; exact rfl; exact rfl)
    | (apply S.lenR; exact rfl; exact rfl)
    | apply S.nil
    | apply T.regs
    | (apply T.cFn; exact rfl; assumption)
    | apply T.seq
    | (apply T.skip; first | change T _ _ _ _ _ | change Done _ _ _ _ _ | change Next _ _ _ _ _ _ | skip)
    | apply T.block)
  refine T.loopS (fun k => k ≤ c.cues.length) (fun k => c.cues.length - k) (fun k => [(21, .i k), (20, .i (c.cues.map CueR.row).length), (19, .sl (c.cues.map CueR.row)), (3, .ptr 1 0), (6, .ptr 2 0)]) (fun k => [.live (h.row.map .lf), .live (c.row.map .lf), bldS 3 (bytesOf (linesC c k)), .hid]) 0 (Nat.zero_le _) (.cons rfl rfl (.cons rfl rfl (.cons rfl rfl (.cons rfl rfl (.cons rfl rfl .nil))))) (.live rfl (.live rfl (.bld rfl (.hid .nil)))) ?_
  intro k hk
  by_cases hlt : k < c.cues.length
  · have h1 : (k : Int) < ((c.cues.map CueR.row).length : Nat) := by omega
    obtain ⟨q, hq⟩ := get_at hlt
    have hb := row_at (R := CueR.row) hq
    have hsn := snoc_at hq
    have hmem : q ∈ c.cues := List.mem_of_getElem? hq
    obtain ⟨m1, m2, m3, m4⟩ := hs.2.2.1 q hmem
    obtain ⟨c1, c2, c3, c4⟩ := ht.cue q hmem
    obtain ⟨w1, w2, w3⟩ := ht.q hmem
    have i1 := str_itoa q.delay (by omega) (by omega)
    have i2 := str_itoa q.crew (by omega) (by omega)
    have i3 := str_itoa q.power (by omega) (by omega)
    have z1 := ht.szC k
    rw [ofL_size] at z1
    have e0 : bytesOf (linesC c k ++ linesQ q 0) = bytesOf (linesC c k) ++ lineL (cueWords q) := by rw [linesQ_zero, bytes_append, bytes_one]
    have hla := line_at (cueWords q) (bytesOf (linesC c k)) (by simp [cueWords]) w1 (by omega)
    have ow1 : q.link = 1 → OwnRows [.lf (.s sCue), .lf (.s q.name), .lf (.s sManual), .lf (.s (itoaB q.delay)), .lf (.s (itoaB q.crew)), .lf (.s (itoaB q.power))] 0 6 1 ((cueWords q).map strRow) := fun e => words_own (cueWords q) (by simp [cueWords, linkWords, e]) (by simp [cueWords, linkWords, e])
    have ow2 : ¬ q.link = 1 → q.link = 2 → OwnRows [.lf (.s sCue), .lf (.s q.name), .lf (.s sFollow), .lf (.s q.after), .lf (.s (itoaB q.delay)), .lf (.s (itoaB q.crew)), .lf (.s (itoaB q.power))] 0 7 1 ((cueWords q).map strRow) := fun e e' => words_own (cueWords q) (by simp [cueWords, linkWords, e']) (by simp [cueWords, linkWords, e'])
    have ow3 : ¬ q.link = 1 → ¬ q.link = 2 → OwnRows [.lf (.s sCue), .lf (.s q.name), .lf (.s sWith), .lf (.s q.after), .lf (.s (itoaB q.delay)), .lf (.s (itoaB q.crew)), .lf (.s (itoaB q.power))] 0 7 1 ((cueWords q).map strRow) := fun e e' => words_own (cueWords q) (by simp [cueWords, linkWords, e, e']) (by simp [cueWords, linkWords, e, e'])
    have hlm : (q.moves.map MoveR.row).length = q.moves.length := List.length_map _
    repeat' (first
      | (apply S.move; exact rfl; exact rfl)
      | (apply S.assign; exact rfl; exact rfl)
      | (apply S.fieldP; exact rfl; exact rfl; exact rfl)
      | (apply S.loadP; exact rfl; exact rfl; exact rfl; exact rfl)
      | (apply T.draw 11 anyOrder (by decide +kernel); simp only [List.take_succ_cons, List.take_zero, List.drop_succ_cons, List.drop_zero])
      | (apply S.indexR; exact rfl; exact rfl; exact rfl; exact hb; omega; exact rfl)
      | (apply S.buildSliceO (b := 5); exact rfl; exact rfl; exact rfl; exact rfl; exact rfl; exact rfl)
      | (apply S.buildSliceF; exact rfl; exact rfl; exact rfl; exact rfl; exact rfl; exact rfl; exact rfl; exact rfl)
      | (apply S.appendO; exact rfl; exact rfl; exact rfl; exact rfl; exact rfl; exact rfl; exact rfl; exact rfl; exact rfl; exact chunks_rows rfl; exact rfl; exact rfl; simp [chunks_len]; simp [chunks_len])
      | (apply S.call; exact rfl; exact rfl; exact i1; exact rfl)
      | (apply S.call; exact rfl; exact rfl; exact i2; exact rfl)
      | (apply S.call; exact rfl; exact rfl; exact i3; exact rfl)
      | (apply S.callBld hla; exact rfl; exact rfl; exact rfl; exact .cons (.one (.own rfl (by first | exact ow1 (by assumption) | exact ow2 (by assumption) (by assumption) | exact ow3 (by assumption) (by assumption)))) .nil; exact rfl; exact rfl; exact rfl; exact rfl)
      | (apply S.loadRA; exact rfl; exact rfl; exact rfl; exact rfl)
      | (apply S.alloc; exact rfl; exact rfl; exact rfl; exact rfl; exact rfl)
      | (apply S.store; exact rfl; exact rfl; exact rfl; exact rfl; exact rfl; exact rfl; exact rfl)
      | (apply S.cmp; exact rfl; exact rfl; exact rfl; exact rfl)
      | (apply S.lenR; exact rfl; exact rfl)
      | apply S.nil
      | apply T.regs
      | apply T.reg
      | (apply T.cT; exact rfl; assumption)
      | (apply T.cS; exact rfl; intro hc; rotate_left; intro hc; rotate_right)
      | apply T.seq
      | (apply T.skip; first | change T _ _ _ _ _ | change Done _ _ _ _ _ | change Next _ _ _ _ _ _ | skip)
      | apply T.block)
    all_goals refine T.loopS (fun j => j ≤ q.moves.length) (fun j => q.moves.length - j) (fun j => [(63, .i j), (62, .i (q.moves.map MoveR.row).length), (61, .sl (q.moves.map MoveR.row)), (21, .i k), (20, .i (c.cues.map CueR.row).length), (19, .sl (c.cues.map CueR.row)), (3, .ptr 1 0), (6, .ptr 2 0)]) (fun j => [.live (h.row.map .lf), .live (c.row.map .lf), bldS 3 (bytesOf (linesC c k ++ linesQ q j)), .hid]) 0 (Nat.zero_le _) (.cons rfl rfl (.cons rfl rfl (.cons rfl rfl (.cons rfl rfl (.cons rfl rfl (.cons rfl rfl (.cons rfl rfl (.cons rfl rfl .nil)))))))) (.live rfl (.live rfl (.bldE e0 rfl (.hid .nil)))) ?_
    all_goals
      intro j hj
      by_cases hlj : j < q.moves.length
      · have h2 : (j : Int) < ((q.moves.map MoveR.row).length : Nat) := by omega
        obtain ⟨m, hm⟩ := get_at hlj
        have hbm := row_at (R := MoveR.row) hm
        have hsm := snoc_at hm
        have hmm : m ∈ q.moves := List.mem_of_getElem? hm
        obtain ⟨_, d2, d3, d4, d5⟩ := c4 m hmm
        have t1 := str_itoa m.to (by omega) (by omega)
        have t2 := str_itoa m.speed (by omega) (by omega)
        have t3 := str_itoa m.rise (by omega) (by omega)
        have t4 := str_itoa m.fall (by omega) (by omega)
        have z2 := ht.szQ k j hmem
        rw [ofL_size] at z2
        have f0 : bytesOf (linesC c k ++ linesQ q (j + 1)) = bytesOf (linesC c k ++ linesQ q j) ++ lineL (moveWords m) := by rw [linesQ_snoc hsm, ← List.append_assoc, bytes_append, bytes_one]
        have hlb := line_at (moveWords m) (bytesOf (linesC c k ++ linesQ q j)) (by simp [moveWords]) (w3 m hmm) (by omega)
        repeat' (first
          | (apply S.move; exact rfl; exact rfl)
          | (apply S.fieldP; exact rfl; exact rfl; exact rfl)
          | (apply S.loadP; exact rfl; exact rfl; exact rfl; exact rfl)
          | (apply T.drawR 15 anyOrder (by decide +kernel); simp only [List.take_succ_cons, List.take_zero, List.drop_succ_cons, List.drop_zero])
          | (apply S.indexR; exact rfl; exact rfl; exact rfl; exact hbm; omega; exact rfl)
          | (apply S.buildSliceF; exact rfl; exact rfl; exact rfl; exact rfl; exact rfl; exact rfl; exact rfl; exact rfl)
          | (apply S.call; exact rfl; exact rfl; exact t1; exact rfl)
          | (apply S.call; exact rfl; exact rfl; exact t2; exact rfl)
          | (apply S.call; exact rfl; exact rfl; exact t3; exact rfl)
          | (apply S.call; exact rfl; exact rfl; exact t4; exact rfl)
          | (apply S.callBld hlb; exact rfl; exact rfl; exact rfl; exact .cons (.one (.lf _)) .nil; exact rfl; exact rfl; exact rfl; exact rfl)
          | (apply S.arith; exact rfl; exact rfl; exact rfl; exact rfl; omega)
          | (apply S.loadRA; exact rfl; exact rfl; exact rfl; exact rfl)
          | (apply S.alloc; exact rfl; exact rfl; exact rfl; exact rfl; exact rfl)
          | (apply S.store; exact rfl; exact rfl; exact rfl; exact rfl; exact rfl; exact rfl; exact rfl)
          | (apply S.cmp; exact rfl; exact rfl; exact rfl; exact rfl)
          | apply S.nil
          | apply T.regs
          | apply T.reg
          | (apply T.cT; exact rfl; assumption)
          | apply T.seq
          | (apply T.skip; first | change T _ _ _ _ _ | change Done _ _ _ _ _ | change Next _ _ _ _ _ _ | skip)
          | apply T.block)
        change Next _ _ _ _ _ _
        exact Next.go (j + 1) (by omega) (by omega) (.cons rfl rfl (.cons rfl rfl (.cons rfl rfl (.cons rfl rfl (.cons rfl rfl (.cons rfl rfl (.cons rfl rfl (.cons rfl rfl .nil)))))))) (.live rfl (.live rfl (.bldE f0 rfl (.hid .nil))))
      · have h2 : ¬ (j : Int) < ((q.moves.map MoveR.row).length : Nat) := by omega
        have hje : j = q.moves.length := by omega
        have g0 : bytesOf (linesC c (k + 1)) = bytesOf (linesC c k ++ linesQ q j) := by rw [linesC_snoc hsn, hje]
        repeat' (first
          | (apply S.move; exact rfl; exact rfl)
          | (apply S.arith; exact rfl; exact rfl; exact rfl; exact rfl; omega)
          | (apply S.cmp; exact rfl; exact rfl; exact rfl; exact rfl)
          | apply S.nil
          | apply T.regs
          | apply T.reg
          | (apply T.cF; exact rfl; assumption)
          | apply T.seq
          | (apply T.exit; first | change T _ _ _ _ _ | change Done _ _ _ _ _ | change Next _ _ _ _ _ _ | skip))
        change Next _ _ _ _ _ _
        exact Next.go (k + 1) (by omega) (by omega) (.cons rfl rfl (.cons rfl rfl (.cons rfl rfl (.cons rfl rfl (.cons rfl rfl .nil))))) (.live rfl (.live rfl (.bldE g0 rfl (.hid .nil))))
  · have h1 : ¬ (k : Int) < ((c.cues.map CueR.row).length : Nat) := by omega
    have hke : k = c.cues.length := by omega
    have g0 : bytesOf (linesA c 0) = bytesOf (linesC c k) := by rw [hke, linesC_all]
    repeat' (first
      | (apply S.move; exact rfl; exact rfl)
      | (apply S.fieldP; exact rfl; exact rfl; exact rfl)
      | (apply S.loadP; exact rfl; exact rfl; exact rfl; exact rfl)
      | (apply S.cmp; exact rfl; exact rfl; exact rfl; exact rfl)
      | (apply S.lenR; exact rfl; exact rfl)
      | apply S.nil
      | apply T.regs
      | (apply T.cF; exact rfl; assumption)
      | apply T.seq
      | (apply T.exit; first | change T _ _ _ _ _ | change Done _ _ _ _ _ | change Next _ _ _ _ _ _ | skip)
      | apply T.block)
    refine T.loopS (fun j => j ≤ c.apart.length) (fun j => c.apart.length - j) (fun j => [(88, .i j), (87, .i (c.apart.map pairRow).length), (86, .sl (c.apart.map pairRow)), (6, .ptr 2 0)]) (fun j => [.live (h.row.map .lf), .live (c.row.map .lf), bldS 3 (bytesOf (linesA c j)), .hid]) 0 (Nat.zero_le _) (.cons rfl rfl (.cons rfl rfl (.cons rfl rfl (.cons rfl rfl .nil)))) (.live rfl (.live rfl (.bldE g0 rfl (.hid .nil)))) ?_
    intro j hj
    by_cases hlj : j < c.apart.length
    · have h2 : (j : Int) < ((c.apart.map pairRow).length : Nat) := by omega
      obtain ⟨p, hp⟩ := get_at hlj
      have hbp := row_at (R := pairRow) hp
      have hsp := snoc_at hp
      have z3 := ht.szA j
      rw [ofL_size] at z3
      have f0 : bytesOf (linesA c (j + 1)) = bytesOf (linesA c j) ++ lineL (pairWords p) := by rw [linesA_snoc hsp, bytes_append, bytes_one]
      have hlb := line_at (pairWords p) (bytesOf (linesA c j)) (by simp [pairWords]) (ht.p (List.mem_of_getElem? hp)) (by omega)
      repeat' (first
        | (apply S.move; exact rfl; exact rfl)
        | (apply S.loadP; exact rfl; exact rfl; exact rfl; exact rfl)
        | (apply S.indexR; exact rfl; exact rfl; exact rfl; exact hbp; omega; exact rfl)
        | (apply S.buildSliceF; exact rfl; exact rfl; exact rfl; exact rfl; exact rfl; exact rfl; exact rfl; exact rfl)
        | (apply S.idxAP; exact rfl; exact rfl; exact rfl; exact rfl; exact ⟨by decide, by decide⟩; exact rfl)
        | (apply S.callBld hlb; exact rfl; exact rfl; exact rfl; exact .cons (.one (.lf _)) .nil; exact rfl; exact rfl; exact rfl; exact rfl)
        | (apply S.arith; exact rfl; exact rfl; exact rfl; exact rfl; omega)
        | (apply S.loadRA; exact rfl; exact rfl; exact rfl; exact rfl)
        | (apply S.alloc; exact rfl; exact rfl; exact rfl; exact rfl; exact rfl)
        | (apply S.store; exact rfl; exact rfl; exact rfl; exact rfl; exact rfl; exact rfl; exact rfl)
        | (apply S.cmp; exact rfl; exact rfl; exact rfl; exact rfl)
        | apply S.nil
        | apply T.regs
        | apply T.reg
        | (apply T.cT; exact rfl; assumption)
        | apply T.seq
        | (apply T.skip; first | change T _ _ _ _ _ | change Done _ _ _ _ _ | change Next _ _ _ _ _ _ | skip)
        | apply T.block)
      change Next _ _ _ _ _ _
      exact Next.go (j + 1) (by omega) (by omega) (.cons rfl rfl (.cons rfl rfl (.cons rfl rfl (.cons rfl rfl .nil)))) (.live rfl (.live rfl (.bldE f0 rfl (.hid .nil))))
    · have h2 : ¬ (j : Int) < ((c.apart.map pairRow).length : Nat) := by omega
      have hje : j = c.apart.length := by omega
      have z3 := ht.szA j
      rw [ofL_size] at z3
      have hfull : ¬ ((Lib.byteCells (bytesOf (linesA c j))).length : Int) > 262144 := by rw [byteCells_len]; omega
      have hsheet : sheetL c = bytesOf (linesA c j) := by rw [hje]; rfl
      have cl := bld_len (Lib.byteCells (bytesOf (linesA c j)))
      repeat' (first
        | (apply S.assign; exact rfl; exact rfl)
        | (apply S.callBld cl; exact rfl; exact rfl; exact rfl; exact .nil; exact rfl; exact rfl; exact rfl; exact rfl)
        | (apply S.endBld (read_string (bytesOf (linesA c j))); exact rfl; exact rfl; exact rfl)
        | (apply S.cmp; exact rfl; exact rfl; exact rfl; exact rfl)
        | apply S.nil
        | apply T.regs
        | (apply T.cF; exact rfl; assumption)
        | apply T.seq
        | (apply T.skip; first | change T _ _ _ _ _ | change Done _ _ _ _ _ | change Next _ _ _ _ _ _ | skip)
        | (apply T.ret; change Done _ _ _ _ _)
        | (apply T.exit; first | change T _ _ _ _ _ | change Done _ _ _ _ _ | change Next _ _ _ _ _ _ | skip))
      all_goals (rw [hsheet]; exact ⟨.inr rfl, [.val (.string (ofL (bytesOf (linesA c j)))), .i 0], .cons (.tmp rfl) (.cons (.tmp rfl) .nil), .tup (.cons (.one (.lf _)) (.cons (.one (.lf _)) .nil))⟩)
theorem cue_text_err (h : HouseR) (c : SheetR) (hf : h.fits) (hc : c.fits) (hv : ¬ validP h c) : Fn0 Tryz.prog 8 [rowA h.row, rowA c.row] (.tup [.val (.string ⟨#[]⟩), .i 1]) := by
  have cv := cue_valid h c hf hc
  refine Fn0.of Tryz.func8 Tryz.ntmps8 rfl rfl rfl ?_
  simp only [entryTm]
  repeat' (first
    | (apply S.assign; exact rfl; exact rfl)
    | (apply S.call; exact rfl; exact rfl; exact cv; exact rfl)
    | (apply S.loadPA; exact rfl; exact rfl; exact rfl; exact rfl)
    | (apply S.box; exact rfl; exact rfl; exact rfl; exact rfl; exact rfl; exact rfl)
    | (apply S.notP; exact rfl; exact rfl)
    | apply S.nil
    | apply T.regs
    | (apply T.cT; exact rfl; assumption)
    | apply T.seq
    | (apply T.ret; change Done _ _ _ _ _))
  all_goals exact ⟨.inr rfl, [.val (.string ⟨#[]⟩), .i 1], .cons (.tmp rfl) (.cons (.tmp rfl) .nil), .tup (.cons (.one (.lf _)) (.cons (.one (.lf _)) .nil))⟩
end Go.Proofs.YtfchdagalklgpaaGreatDoor
