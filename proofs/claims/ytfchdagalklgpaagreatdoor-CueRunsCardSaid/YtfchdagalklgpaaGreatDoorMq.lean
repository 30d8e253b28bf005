/- Contracts: profile.Time and the reference's Time: the same fraction. No conditions but those of each statement. | Contracts: the length of a cue (both sides): the same fraction. No conditions but those of each statement. -/
import Derived.Test.YtfchdagalklgpaaGreatDoorMp
import Derived.Test.YtfchdagalklgpaaGreatDoorMn
set_option linter.unusedSimpArgs false
namespace Go.Proofs.YtfchdagalklgpaaGreatDoor
set_option linter.unusedVariables false
open Go.RowKit
set_option maxHeartbeats 8000000 in
theorem prof_timeL (d : Int) (m : MoveR) (l : List PieceR) (x : PieceR) (hl : l.length ≤ 4) (hx : l[l.length - 1]? = some x) (hc : Fn0 Tryz.prog 101 [.i d, rowA m.row] (.tup [.sl (l.map PieceR.row), .i 0])) : Fn0 Tryz.prog 43 [.i d, rowA m.row] (.tup [rowA x.at, .i 0]) := by
  have h0 : l ≠ [] := by rintro rfl; simp at hx
  have hpos : 1 ≤ l.length := by
    cases l with
    | nil => exact absurd rfl h0
    | cons _ _ => simp
  have hk := prof_knots d m l hl h0 hc
  have hle : (l.map PieceR.at).length = l.length := List.length_map _
  have hb : (l.map PieceR.at)[(((l.map PieceR.at).length : Int) - 1).toNat]? = some x.at := by
    rw [hle, show ((l.length : Int) - 1).toNat = l.length - 1 by omega, List.getElem?_map, hx]; rfl
  refine Fn0.of Tryz.func43 Tryz.ntmps43 rfl rfl rfl ?_
  simp only [entryTm]
  repeat' (first
    | (apply S.move; exact rfl; exact rfl)
    | (apply S.assign; exact rfl; exact rfl)
    | (apply S.call; exact rfl; exact rfl; exact hk; exact rfl)
    | (apply S.indexR; exact rfl; exact rfl; exact rfl; exact hb; omega; exact rfl)
    | (apply S.arith; exact rfl; exact rfl; exact rfl; exact rfl; omega)
    | (apply S.loadPA; exact rfl; exact rfl; exact rfl; exact rfl)
    | (apply S.loadRA; exact rfl; exact rfl; exact rfl; exact rfl)
    | (apply S.box; exact rfl; exact rfl; exact rfl; exact rfl; exact rfl; exact rfl)
    | (apply S.alloc; exact rfl; exact rfl; exact rfl; exact rfl; exact rfl)
    | (apply S.store; exact rfl; exact rfl; exact rfl; exact rfl; exact rfl; exact rfl; exact rfl)
    | (apply S.cmp; exact rfl; exact rfl; exact rfl; exact rfl)
    | (apply S.extract; exact rfl; exact rfl; exact rfl)
    | (apply S.lenR; exact rfl; exact rfl)
    | apply S.nil
    | apply T.regs
    | (apply T.cCN; exact rfl)
    | apply T.seq
    | (apply T.skip; first | change T _ _ _ _ _ | change Done _ _ _ _ _ | change Next _ _ _ _ _ _ | skip)
    | (apply T.ret; change Done _ _ _ _ _))
  all_goals exact ⟨.inr rfl, [rowA x.at, .i 0], by rw [Tryz.results43]; exact .cons (Res.row x.at rfl rfl rfl rfl rfl) (.cons (.tmp rfl) .nil), .tup (.cons (.agg (outL_refl x.at)) (.cons (.one (.lf _)) .nil))⟩
def pieceP (f a b c : Rat) : PieceR := ⟨f.num, f.den, a.num, a.den, b.num, b.den, c.num, c.den⟩
def timeQ (d : Int) (m : MoveR) : Rat := if d = 0 then 0 else qEnd d m
theorem prof_time (d : Int) (m : MoveR) (hm : moveP m) (hd : 0 ≤ d ∧ d ≤ 1048576) : Fn0 Tryz.prog 43 [.i d, rowA m.row] (frE (timeQ d m) 0) := by
  unfold timeQ
  by_cases h : d = 0
  · subst h
    rw [if_pos rfl]
    exact prof_timeL 0 m [pieceP 0 0 0 0] (pieceP 0 0 0 0) (by decide) rfl (prof_curve0 m hm)
  · rw [if_neg h]
    have hc := prof_curve d m hm (by omega)
    by_cases hr : (qRun d m).num = 0
    · rw [show curveR d m = rows0 d m from if_pos hr] at hc
      exact prof_timeL d m [pieceP 0 0 0 (ratV m.rise 2), pieceP (qStop d m) (qTop d m) ((topS d m : Int) : Rat) (ratV (-m.fall) 2), pieceP (qEnd d m) (d : Rat) 0 0] (pieceP (qEnd d m) (d : Rat) 0 0) (by simp) rfl hc
    · rw [show curveR d m = rows1 d m from if_neg hr] at hc
      exact prof_timeL d m [pieceP 0 0 0 (ratV m.rise 2), pieceP (qStart d m) (qRise d m) ((topS d m : Int) : Rat) 0, pieceP (qStop d m) (qTop d m) ((topS d m : Int) : Rat) (ratV (-m.fall) 2), pieceP (qEnd d m) (d : Rat) 0 0] (pieceP (qEnd d m) (d : Rat) 0 0) (by simp) rfl hc
end Go.Proofs.YtfchdagalklgpaaGreatDoor
set_option linter.unusedSimpArgs false
namespace Go.Proofs.YtfchdagalklgpaaGreatDoor
set_option linter.unusedVariables false
open Go.RowKit
structure GivenOk (h : HouseR) (l : List Int) (q : CueR) : Prop where
  house : houseP h
  right : rightP h q
  len : l.length = h.sets.length
  trims : trimsIn h l
theorem givenOk_of {h : HouseR} {l : List Int} {q : CueR} (g : givenE h l q = 0) : GivenOk h l q := by
  by_cases h1 : houseP h ∧ rightP h q
  · by_cases h2 : l.length = h.sets.length
    · by_cases h3 : trimsIn h l
      · exact ⟨h1.1, h1.2, h2, h3⟩
      · rw [givenE_2 h1 h2 h3] at g; cases g
    · rw [givenE_3 h1 h2] at g; cases g
  · rw [givenE_1 h1] at g; cases g
/-- Where a move of a right cue begins. -/
theorem GivenOk.move {h : HouseR} {l : List Int} {q : CueR} (g : GivenOk h l q) {m : MoveR} (hm : m ∈ q.moves) : moveP m ∧ 0 ≤ setIdx h m.set ∧ (setIdx h m.set).toNat < l.length ∧ ∃ n, l[(setIdx h m.set).toNat]? = some n ∧ (0 ≤ n ∧ n ≤ 1048576) ∧ 0 ≤ m.to ∧ m.to ≤ 1048576 := by
  obtain ⟨_, _, _, _, _, hmv, _⟩ := g.right
  obtain ⟨h1, s, h2, h3, h4, h5⟩ := hmv m hm
  obtain ⟨_, _, _, _, _, hs, _⟩ := g.house
  obtain ⟨⟨_, _, s1, s2, s3, _⟩, _⟩ := hs s (List.mem_of_getElem? h3)
  have hlt : (setIdx h m.set).toNat < l.length := by
    rw [g.len]; exact (List.getElem?_eq_some_iff.1 h3).1
  have hn := List.getElem?_eq_getElem hlt
  have ht := g.trims _ _ s hn h3
  exact ⟨h1, h2, hlt, _, hn, ⟨by omega, by omega⟩, by omega, by omega⟩
def distI (h : HouseR) (l : List Int) (m : MoveR) : Int := max (m.to - l.getD (setIdx h m.set).toNat 0) (-(m.to - l.getD (setIdx h m.set).toNat 0))
theorem distI_at {h : HouseR} {l : List Int} {m : MoveR} {n : Int} (hn : l[(setIdx h m.set).toNat]? = some n) : distI h l m = max (m.to - n) (-(m.to - n)) := by
  unfold distI
  rw [List.getD_eq_getElem?_getD, hn]; rfl
theorem distI_range {h : HouseR} {l : List Int} {q : CueR} (g : GivenOk h l q) {m : MoveR} (hm : m ∈ q.moves) : 0 ≤ distI h l m ∧ distI h l m ≤ 1048576 := by
  obtain ⟨_, _, _, n, hn, _, _, _⟩ := g.move hm
  rw [distI_at hn]
  omega
def moveQ (h : HouseR) (l : List Int) (m : MoveR) : Rat := timeQ (distI h l m) m
theorem fits_time {d : Int} {m : MoveR} (hm : moveP m) (hd : 0 ≤ d ∧ d ≤ 1048576) : Fits (timeQ d m) := by
  unfold timeQ
  by_cases h : d = 0
  · rw [if_pos h]; exact fits_int (n := 0) (by omega) (by omega)
  · rw [if_neg h]; exact (curve_ok hm (by omega)).fin
theorem fits_move {h : HouseR} {l : List Int} {q : CueR} (g : GivenOk h l q) {m : MoveR} (hm : m ∈ q.moves) : Fits (moveQ h l m) := fits_time (g.move hm).1 (distI_range g hm)
def stepQ (h : HouseR) (l : List Int) (most : Rat) (m : MoveR) : Rat := if 0 < cmpQ (moveQ h l m) most then moveQ h l m else most
def lenF (h : HouseR) (l : List Int) (ms : List MoveR) : Rat := ms.foldl (stepQ h l) 0
theorem lenF_snoc (h : HouseR) (l : List Int) (ms : List MoveR) (m : MoveR) : lenF h l (ms ++ [m]) = stepQ h l (lenF h l ms) m := by simp [lenF]
theorem lenF_in (h : HouseR) (l : List Int) : ∀ (ms : List MoveR) (a : Rat), ms.foldl (stepQ h l) a = a ∨ ∃ m ∈ ms, ms.foldl (stepQ h l) a = moveQ h l m
  | [], a => .inl rfl
  | m :: ms, a => by
    rw [List.foldl_cons]
    rcases lenF_in h l ms (stepQ h l a m) with e | ⟨x, hx, e⟩
    · rw [e]
      unfold stepQ
      split
      · exact .inr ⟨m, by simp, rfl⟩
      · exact .inl rfl
    · exact .inr ⟨x, by simp [hx], e⟩
theorem fits_len {h : HouseR} {l : List Int} {q : CueR} (g : GivenOk h l q) {ms : List MoveR} (hms : ∀ m ∈ ms, m ∈ q.moves) : Fits (lenF h l ms) := by
  unfold lenF
  rcases lenF_in h l ms 0 with e | ⟨m, hm, e⟩
  · rw [e]; exact fits_int (n := 0) (by omega) (by omega)
  · rw [e]; exact fits_move g (hms m hm)
set_option maxHeartbeats 16000000 in
theorem cue_length_ok (h : HouseR) (l : List Int) (q : CueR) (hf : h.fits) (hq : q.moves.length ≤ 9223372036854775807) (hl : l.length ≤ 9223372036854775807) (g0 : givenE h l q = 0) : Fn0 Tryz.prog 19 [rowA h.row, .sl (l.map intRow), rowA q.row] (frE (lenF h l q.moves) 0) := by
  have g := givenOk_of g0
  have cg := cue_given h l q hf hq hl
  rw [g0] at cg
  have hf1 := hf.1
  have hle : (q.moves.map MoveR.row).length = q.moves.length := List.length_map _
  refine Fn0.of Tryz.func19 Tryz.ntmps19 rfl rfl rfl ?_
  simp only [entryTm]
  repeat' (first
    | (apply S.move; exact rfl; exact rfl)
    | (apply S.assign; exact rfl; exact rfl)
    | (apply S.fieldP; exact rfl; exact rfl; exact rfl)
    | (apply S.loadP; exact rfl; exact rfl; exact rfl; exact rfl)
    | (apply S.call; exact rfl; exact rfl; exact cg; exact rfl)
    | (apply S.loadPA; exact rfl; exact rfl; exact rfl; exact rfl)
    | (apply S.box; exact rfl; exact rfl; exact rfl; exact rfl; exact rfl; exact rfl)
    | (apply S.alloc; exact rfl; exact rfl; exact rfl; exact rfl; exact rfl)
    | (apply S.store; exact rfl; exact rfl; exact rfl; exact rfl; exact rfl; exact rfl; exact rfl)
    | (apply S.cmp; exact rfl; exact rfl; exact rfl; exact rfl)
    | (apply S.lenR; exact rfl; exact rfl)
    | (apply S.build; exact rfl; exact rfl; exact rfl)
    | apply S.nil
    | apply T.regs
    | (apply T.cCN; exact rfl)
    | apply T.seq
    | (apply T.skip; first | change T _ _ _ _ _ | change Done _ _ _ _ _ | change Next _ _ _ _ _ _ | skip)
    | apply T.block)
  refine T.loopS (fun k => k ≤ q.moves.length) (fun k => q.moves.length - k) (fun k => [(29, .i k), (28, .i (q.moves.map MoveR.row).length), (27, .sl (q.moves.map MoveR.row)), (1, .sl (l.map intRow)), (3, .ptr 0 0), (5, .ptr 1 0), (6, .ptr 2 0), (9, .ptr 3 0)]) (fun k => [.live (h.row.map .lf), .live (q.row.map .lf), .live [.i 0, .i 0], .live ((frR (lenF h l (q.moves.take k))).map .lf)]) 0 (Nat.zero_le _) (.cons rfl rfl (.cons rfl rfl (.cons rfl rfl (.cons rfl rfl (.cons rfl rfl (.cons rfl rfl (.cons rfl rfl (.cons rfl rfl .nil)))))))) (.live rfl (.live rfl (.live rfl (.live rfl .nil)))) ?_
  intro k hk
  by_cases hlt : k < q.moves.length
  · have h1 : (k : Int) < ((q.moves.map MoveR.row).length : Nat) := by omega
    obtain ⟨x, hx⟩ := get_at hlt
    have hb := row_at (R := MoveR.row) hx
    have hsn := snoc_at hx
    have hmem : x ∈ q.moves := List.mem_of_getElem? hx
    have hst : lenF h l (q.moves.take (k + 1)) = stepQ h l (lenF h l (q.moves.take k)) x := by rw [hsn, lenF_snoc]
    obtain ⟨m1, m2, m3, n, hn, m4, m5, m6⟩ := g.move hmem
    have hb2 : (l.map intRow)[(setIdx h x.set).toNat]? = some (intRow n) := row_at' hn
    have hd := distI_range g hmem
    have ct := prof_time (max (x.to - n) (-(x.to - n))) x m1 (by rw [← distI_at hn]; exact hd)
    rw [show timeQ (max (x.to - n) (-(x.to - n))) x = moveQ h l x by unfold moveQ; rw [distI_at hn]] at ct
    have cc := ratio_cmp (moveQ h l x) (lenF h l (q.moves.take k)) (fits_move g hmem) (fits_len g fun m hm => List.mem_of_mem_take hm)
    repeat' (first
      | (apply S.move; exact rfl; exact rfl)
      | (apply S.assign; exact rfl; exact rfl)
      | (apply S.fieldP; exact rfl; exact rfl; exact rfl)
      | (apply S.loadP; exact rfl; exact rfl; exact rfl; exact rfl)
      | (apply S.loadR; exact rfl; exact rfl; exact rfl)
      | (apply T.drawAll anyOrder (by decide +kernel))
      | (apply S.indexR; exact rfl; exact rfl; exact rfl; exact hb; omega; exact rfl)
      | (apply S.indexR; exact rfl; exact rfl; exact rfl; exact hb2; omega; exact rfl)
      | (apply S.call; exact rfl; exact rfl; exact cue_set h x.set hf1; exact rfl)
      | (apply S.call; exact rfl; exact rfl; exact ct; exact rfl)
      | (apply S.call; exact rfl; exact rfl; exact cc; exact rfl)
      | (apply S.neg; exact rfl; exact rfl; omega)
      | (apply S.max2; exact rfl; exact rfl; exact rfl)
      | (apply S.arith; exact rfl; exact rfl; exact rfl; exact rfl; omega)
      | (apply S.loadPA; exact rfl; exact rfl; exact rfl; exact rfl)
      | (apply S.loadRA; exact rfl; exact rfl; exact rfl; exact rfl)
      | (apply S.alloc; exact rfl; exact rfl; exact rfl; exact rfl; exact rfl)
      | (apply S.store; exact rfl; exact rfl; exact rfl; exact rfl; exact rfl; exact rfl; exact rfl)
      | (apply S.cmp; exact rfl; exact rfl; exact rfl; exact rfl)
      | (apply S.extract; exact rfl; exact rfl; exact rfl)
      | apply S.nil
      | apply T.regs
      | apply T.reg
      | (apply T.cCN; exact rfl)
      | (apply T.cT; exact rfl; assumption)
      | (apply T.cS; exact rfl; intro hc; rotate_left; intro hc; rotate_right)
      | apply T.seq
      | (apply T.skip; first | change T _ _ _ _ _ | change Done _ _ _ _ _ | change Next _ _ _ _ _ _ | skip)
      | apply T.block)
    all_goals (try change Next _ _ _ _ _ _)
    all_goals first
      | exact Next.go (k + 1) (by omega) (by omega) (.cons rfl rfl (.cons rfl rfl (.cons rfl rfl (.cons rfl rfl (.cons rfl rfl (.cons rfl rfl (.cons rfl rfl (.cons rfl rfl .nil)))))))) (by
          show CovH _ _ [_, _, _, .live ((frR (lenF h l (q.moves.take (k + 1)))).map .lf)]
          rw [hst, stepQ, if_pos (by assumption)]
          exact .live rfl (.live rfl (.live rfl (.live rfl .nil))))
      | exact Next.go (k + 1) (by omega) (by omega) (.cons rfl rfl (.cons rfl rfl (.cons rfl rfl (.cons rfl rfl (.cons rfl rfl (.cons rfl rfl (.cons rfl rfl (.cons rfl rfl .nil)))))))) (by
          show CovH _ _ [_, _, _, .live ((frR (lenF h l (q.moves.take (k + 1)))).map .lf)]
          rw [hst, stepQ, if_neg (by assumption)]
          exact .live rfl (.live rfl (.live rfl (.live rfl .nil))))
  · have h1 : ¬ (k : Int) < ((q.moves.map MoveR.row).length : Nat) := by omega
    have hkt : q.moves.take k = q.moves := List.take_of_length_le (by omega)
    rw [show lenF h l q.moves = lenF h l (q.moves.take k) by rw [hkt]]
    repeat' (first
      | (apply S.assign; exact rfl; exact rfl)
      | (apply S.loadPA; exact rfl; exact rfl; exact rfl; exact rfl)
      | (apply S.store; exact rfl; exact rfl; exact rfl; exact rfl; exact rfl; exact rfl; exact rfl)
      | (apply S.cmp; exact rfl; exact rfl; exact rfl; exact rfl)
      | apply S.nil
      | apply T.regs
      | (apply T.cF; exact rfl; assumption)
      | apply T.seq
      | (apply T.ret; change Done _ _ _ _ _)
      | (apply T.exit; first | change T _ _ _ _ _ | change Done _ _ _ _ _ | change Next _ _ _ _ _ _ | skip))
    exact ⟨.inr rfl, [rowA (frR (lenF h l (q.moves.take k))), .i 0], by rw [Tryz.results19]; exact .cons (Res.row (frR (lenF h l (q.moves.take k))) rfl rfl rfl rfl rfl) (.cons (.tmp rfl) .nil), .tup (.cons (.agg (outL_refl (frR (lenF h l (q.moves.take k))))) (.cons (.one (.lf _)) .nil))⟩
theorem cue_length_err (h : HouseR) (l : List Int) (q : CueR) (hf : h.fits) (hq : q.moves.length ≤ 9223372036854775807) (hl : l.length ≤ 9223372036854775807) (g0 : ¬ givenE h l q = 0) : Fn0 Tryz.prog 19 [rowA h.row, .sl (l.map intRow), rowA q.row] (.tup [rowA [.i 0, .i 0], .i (givenE h l q)]) := by
  have cg := cue_given h l q hf hq hl
  refine Fn0.of Tryz.func19 Tryz.ntmps19 rfl rfl rfl ?_
  simp only [entryTm]
  repeat' (first
    | (apply S.move; exact rfl; exact rfl)
    | (apply S.assign; exact rfl; exact rfl)
    | (apply S.call; exact rfl; exact rfl; exact cg; exact rfl)
    | (apply S.loadPA; exact rfl; exact rfl; exact rfl; exact rfl)
    | (apply S.box; exact rfl; exact rfl; exact rfl; exact rfl; exact rfl; exact rfl)
    | (apply S.alloc; exact rfl; exact rfl; exact rfl; exact rfl; exact rfl)
    | (apply S.store; exact rfl; exact rfl; exact rfl; exact rfl; exact rfl; exact rfl; exact rfl)
    | (apply S.cmp; exact rfl; exact rfl; exact rfl; exact rfl)
    | (apply S.build; exact rfl; exact rfl; exact rfl)
    | apply S.nil
    | apply T.regs
    | (apply T.cT; exact rfl; assumption)
    | apply T.seq
    | (apply T.ret; change Done _ _ _ _ _))
  all_goals exact ⟨.inr rfl, [rowA [.i 0, .i 0], .i (givenE h l q)], by rw [Tryz.results19]; exact .cons (Res.row [.i 0, .i 0] rfl rfl rfl rfl rfl) (.cons (.tmp rfl) .nil), .tup (.cons (.agg (outL_refl [.i 0, .i 0])) (.cons (.one (.lf _)) .nil))⟩
/-! ### The reference -/
end Go.Proofs.YtfchdagalklgpaaGreatDoor
