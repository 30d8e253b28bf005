/- Contracts: the trims after a cue (both sides): the same list. No conditions but those of each statement. | Contracts: slices.Equal of lists of integers; the example of the chapter is a right one. No conditions but those of each statement. -/
import Derived.Test.YtfchdagalklgpaaGreatDoorMq
import Derived.Test.YtfchdagalklgpaaGreatDoorMn
set_option linter.unusedSimpArgs false
namespace Go.Proofs.YtfchdagalklgpaaGreatDoor
set_option linter.unusedVariables false
open Go.RowKit
abbrev cellsI (l : List Int) : List AV := (l.map intRow).flatten.map .lf
theorem ints_row (l : List Int) : ∀ r ∈ l.map intRow, r.length = 1 := by
  intro r hr
  obtain ⟨n, _, rfl⟩ := List.mem_map.1 hr
  rfl
theorem ints_one (l : List Int) : (l.map intRow).flatten.all Lf.one = true := by
  rw [List.all_eq_true]
  intro x hx
  obtain ⟨r, hr, hxr⟩ := List.mem_flatten.1 hx
  obtain ⟨n, _, rfl⟩ := List.mem_map.1 hr
  simp only [intRow, List.mem_cons, List.not_mem_nil, or_false] at hxr
  subst hxr
  rfl
theorem cellsI_len (l : List Int) : (cellsI l).length = l.length := by
  rw [List.length_map, flatten_len _ (ints_row l), List.length_map, Nat.mul_one]
theorem cellsI_set : ∀ (l : List Int) (i : Nat) (n : Int), i < l.length → setA i [.i n] (cellsI l) = cellsI (l.set i n)
  | [], i, n, h => by simp at h
  | x :: l, 0, n, _ => by simp [cellsI, intRow, setA, setA_nil]
  | x :: l, i + 1, n, h => by
    have ih := cellsI_set l i n (by simpa using h)
    simp only [cellsI, List.map_cons, intRow, List.flatten_cons, List.map_append, List.map_nil, List.cons_append, List.nil_append, List.set_cons_succ] at ih ⊢
    rw [setA]
    exact congrArg _ ih
theorem cellsI_set' {l : List Int} {i : Nat} {n : Int} (h : i < l.length) : cellsI (l.set i n) = setA (0 + i * 1) [.i n] (cellsI l) := by
  rw [← cellsI_set l i n h, Nat.mul_one, Nat.zero_add]
theorem Res.own0 {P : Program} {st : St} {t b k n : Nat} (h : st.tm.get t = some (.own b 0 (0 + k) n)) : Res P st (.tmp t) (.own b 0 k n) := by
  rw [Nat.zero_add] at h
  exact .tmp h
set_option maxHeartbeats 8000000 in
theorem clone_ints (l : List Int) (hl : l.length ≤ 1000) : FnOwn Tryz.prog 46 [.sl (l.map intRow)] (l.map intRow) 1 := by
  have hle : (l.map intRow).length = l.length := List.length_map _
  refine FnOwn.of Tryz.func46 Tryz.ntmps46 rfl rfl rfl ?_
  simp only [entryTm]
  repeat' (first
    | (apply S.move; exact rfl; exact rfl)
    | (apply S.assign; exact rfl; exact rfl)
    | (apply S.eqNil; exact rfl; exact rfl; intro hnil; rotate_left; rotate_right)
    | (apply S.buildSliceO; exact rfl; exact rfl; exact rfl; exact rfl; exact rfl; exact rfl)
    | (apply S.appendO; exact rfl; exact rfl; exact rfl; exact rfl; exact rfl; exact rfl; exact rfl; exact rfl; exact rfl; exact ints_row l; exact ints_one l; exact rfl; omega; omega)
    | apply S.nil
    | apply T.regs
    | (apply T.cC; exact rfl)
    | (apply T.cCN; exact rfl)
    | apply T.seq
    | (apply T.skip; first | change T _ _ _ _ _ | change Done _ _ _ _ _ | change Next _ _ _ _ _ _ | skip))
  all_goals (apply T.ret; change DoneO _ _ _ _ _ _)
  · exact ⟨.inr rfl, .inl ⟨_, .cons (.tmp rfl) .nil, rfl, hnil⟩⟩
  · exact ⟨.inr rfl, .inr (.inr ⟨0, .cons (Res.own0 rfl) .nil, rfl⟩)⟩
def afterL (h : HouseR) (l : List Int) (ms : List MoveR) : List Int := ms.foldl (fun l m => l.set (setIdx h m.set).toNat m.to) l
theorem afterL_snoc (h : HouseR) (l : List Int) (ms : List MoveR) (m : MoveR) : afterL h l (ms ++ [m]) = (afterL h l ms).set (setIdx h m.set).toNat m.to := by simp [afterL]
theorem afterL_len (h : HouseR) : ∀ (ms : List MoveR) (l : List Int), (afterL h l ms).length = l.length
  | [], l => rfl
  | m :: ms, l => by
    have := afterL_len h ms (l.set (setIdx h m.set).toNat m.to)
    rw [List.length_set] at this
    exact this
theorem under_ints (n : Nat) (l : List Int) : (cellsI l).all (AV.under n) = true := under_lf n _
theorem own_ints (h : HouseR) (l : List Int) (ms : List MoveR) : OwnRows (cellsI (afterL h l ms)) 0 (l.map intRow).length 1 ((afterL h l ms).map intRow) := by
  have := OwnRows.of ((afterL h l ms).map intRow).flatten (ints_row (afterL h l ms)) rfl
  rw [List.length_map, afterL_len] at this
  rw [List.length_map]
  exact this
set_option maxHeartbeats 16000000 in
theorem cue_moved (h : HouseR) (l : List Int) (q : CueR) (hf : h.fits) (hq : q.moves.length ≤ 9223372036854775807) (g : GivenOk h l q) : Fn0 Tryz.prog 22 [rowA h.row, .sl (l.map intRow), rowA q.row] (.sl ((afterL h l q.moves).map intRow)) := by
  have hf1 := hf.1
  obtain ⟨_, _, _, hs60, _⟩ := g.house
  have hl60 : l.length ≤ 60 := by rw [g.len]; exact hs60
  have hle : (q.moves.map MoveR.row).length = q.moves.length := List.length_map _
  have hle2 : (l.map intRow).length = l.length := List.length_map _
  refine Fn0.of Tryz.func22 Tryz.ntmps22 rfl rfl rfl ?_
  simp only [entryTm]
  repeat' (first
    | (apply S.move; exact rfl; exact rfl)
    | (apply S.assign; exact rfl; exact rfl)
    | (apply S.fieldP; exact rfl; exact rfl; exact rfl)
    | (apply S.loadP; exact rfl; exact rfl; exact rfl; exact rfl)
    | (apply S.callOwn 2; exact clone_ints l (by omega); exact rfl; exact rfl; exact rfl; exact rfl; exact rfl; exact rfl; exact ints_row l; intro hnil; rotate_left; rotate_right)
    | (apply S.box; exact rfl; exact rfl; exact rfl; exact rfl; exact rfl; exact rfl)
    | (apply S.lenR; exact rfl; exact rfl)
    | apply S.nil
    | apply T.regs
    | apply T.seq
    | apply T.block)
  · have hl0 : l = [] := List.map_eq_nil_iff.1 hnil
    have hm0 : q.moves = [] := by
      cases hmv : q.moves with
      | nil => rfl
      | cons m ms =>
        obtain ⟨_, _, m3, _⟩ := g.move (m := m) (by rw [hmv]; simp)
        rw [hl0] at m3
        simp at m3
    have h1 : ¬ ((0 : Nat) : Int) < ((q.moves.map MoveR.row).length : Nat) := by rw [hle, hm0]; simp
    refine T.loopS (fun _ : Nat => True) (fun _ => 0) (fun k => [(15, .i ((0 : Nat) : Int)), (14, .i (q.moves.map MoveR.row).length), (7, .sl [])]) (fun _ => []) 0 trivial (.cons rfl rfl (.cons rfl rfl (.cons rfl rfl .nil))) .nil ?_
    intro k _
    repeat' (first
      | (apply S.move; exact rfl; exact rfl)
      | (apply S.assign; exact rfl; exact rfl)
      | (apply S.cmp; exact rfl; exact rfl; exact rfl; exact rfl)
      | apply S.nil
      | apply T.regs
      | (apply T.cF; exact rfl; assumption)
      | apply T.seq
      | (apply T.ret; change Done _ _ _ _ _)
      | (apply T.exit; first | change T _ _ _ _ _ | change Done _ _ _ _ _ | change Next _ _ _ _ _ _ | skip))
    have hres : (afterL h l q.moves).map intRow = [] := by rw [hl0, hm0]; rfl
    rw [hres]
    exact done1 (by first | exact .inl rfl | exact .inr rfl) Tryz.results22 rfl (.one (.one (.lf _)))
  · refine T.loopS (fun k => k ≤ q.moves.length) (fun k => q.moves.length - k) (fun k => [(15, .i k), (14, .i (q.moves.map MoveR.row).length), (13, .sl (q.moves.map MoveR.row)), (7, .own 2 0 (l.map intRow).length 1), (3, .ptr 0 0)]) (fun k => [.live (h.row.map .lf), .live (q.row.map .lf), .live (cellsI (afterL h l (q.moves.take k)))]) 0 (Nat.zero_le _) (.cons rfl rfl (.cons rfl rfl (.cons rfl rfl (.cons rfl rfl (.cons rfl rfl .nil))))) (.live rfl (.live rfl (.live (under_ints _ _) .nil))) ?_
    intro k hk
    by_cases hlt : k < q.moves.length
    · have h1 : (k : Int) < ((q.moves.map MoveR.row).length : Nat) := by omega
      obtain ⟨x, hx⟩ := get_at hlt
      have hb := row_at (R := MoveR.row) hx
      have hsn := snoc_at hx
      have hmem : x ∈ q.moves := List.mem_of_getElem? hx
      have hst : afterL h l (q.moves.take (k + 1)) = (afterL h l (q.moves.take k)).set (setIdx h x.set).toNat x.to := by rw [hsn, afterL_snoc]
      have hal := afterL_len h (q.moves.take k) l
      have hcl := cellsI_len (afterL h l (q.moves.take k))
      obtain ⟨m1, m2, m3, n, hn, m4, m5, m6⟩ := g.move hmem
      repeat' (first
        | (apply S.move; exact rfl; exact rfl)
        | (apply S.fieldP; exact rfl; exact rfl; exact rfl)
        | (apply S.loadP; exact rfl; exact rfl; exact rfl; exact rfl)
        | (apply T.drawR 8 anyOrder (by decide +kernel); simp only [List.take_succ_cons, List.take_zero, List.drop_succ_cons, List.drop_zero])
        | (apply S.indexR; exact rfl; exact rfl; exact rfl; exact hb; omega; exact rfl)
        | (apply S.call; exact rfl; exact rfl; exact cue_set h x.set hf1; exact rfl)
        | (apply S.indexO; exact rfl; exact rfl; exact rfl; exact rfl; omega; exact rfl)
        | (apply S.storeW; exact rfl; exact rfl; exact rfl; exact rfl; exact rfl; exact rfl; omega)
        | (apply S.arith; exact rfl; exact rfl; exact rfl; exact rfl; omega)
        | (apply S.loadPA; exact rfl; exact rfl; exact rfl; exact rfl)
        | (apply S.loadRA; exact rfl; exact rfl; exact rfl; exact rfl)
        | (apply S.alloc; exact rfl; exact rfl; exact rfl; exact rfl; exact rfl)
        | (apply S.store; exact rfl; exact rfl; exact rfl; exact rfl; exact rfl; exact rfl; exact rfl)
        | (apply S.cmp; exact rfl; exact rfl; exact rfl; exact rfl)
        | apply S.nil
        | apply T.regs
        | apply T.reg
        | (apply T.cT; exact rfl; assumption)
        | apply T.seq
        | (apply T.skip; first | change T _ _ _ _ _ | change Done _ _ _ _ _ | change Next _ _ _ _ _ _ | skip)
        | apply T.block)
      change Next _ _ _ _ _ _
      exact Next.go (k + 1) (by omega) (by omega) (.cons rfl rfl (.cons rfl rfl (.cons rfl rfl (.cons rfl rfl (.cons rfl rfl .nil))))) (by
        show CovH _ _ [_, _, .live (cellsI (afterL h l (q.moves.take (k + 1))))]
        have hlt2 : (setIdx h x.set).toNat < (afterL h l (q.moves.take k)).length := by omega
        have hu := under_ints 3 ((afterL h l (q.moves.take k)).set (setIdx h x.set).toNat x.to)
        rw [cellsI_set' hlt2] at hu
        rw [hst, cellsI_set' hlt2]
        exact .live rfl (.live rfl (.live hu .nil)))
    · have h1 : ¬ (k : Int) < ((q.moves.map MoveR.row).length : Nat) := by omega
      have hkt : q.moves.take k = q.moves := List.take_of_length_le (by omega)
      rw [show (afterL h l q.moves).map intRow = (afterL h l (q.moves.take k)).map intRow by rw [hkt]]
      repeat' (first
        | (apply S.move; exact rfl; exact rfl)
        | (apply S.assign; exact rfl; exact rfl)
        | (apply S.cmp; exact rfl; exact rfl; exact rfl; exact rfl)
        | apply S.nil
        | apply T.regs
        | (apply T.cF; exact rfl; assumption)
        | apply T.seq
        | (apply T.ret; change Done _ _ _ _ _)
        | (apply T.exit; first | change T _ _ _ _ _ | change Done _ _ _ _ _ | change Next _ _ _ _ _ _ | skip))
      refine done1 (by first | exact .inl rfl | exact .inr rfl) Tryz.results22 rfl (.one (.one ?_))
      exact .own rfl (own_ints h l (q.moves.take k))
theorem cue_after_ok (h : HouseR) (l : List Int) (q : CueR) (hf : h.fits) (hq : q.moves.length ≤ 9223372036854775807) (hl : l.length ≤ 9223372036854775807) (g0 : givenE h l q = 0) : Fn0 Tryz.prog 15 [rowA h.row, .sl (l.map intRow), rowA q.row] (.tup [.sl ((afterL h l q.moves).map intRow), .i 0]) := by
  have cg := cue_given h l q hf hq hl
  rw [g0] at cg
  have cm := cue_moved h l q hf hq (givenOk_of g0)
  refine Fn0.of Tryz.func15 Tryz.ntmps15 rfl rfl rfl ?_
  simp only [entryTm]
  repeat' (first
    | (apply S.move; exact rfl; exact rfl)
    | (apply S.assign; exact rfl; exact rfl)
    | (apply S.call; exact rfl; exact rfl; exact cg; exact rfl)
    | (apply S.call; exact rfl; exact rfl; exact cm; exact rfl)
    | (apply S.loadPA; exact rfl; exact rfl; exact rfl; exact rfl)
    | (apply S.box; exact rfl; exact rfl; exact rfl; exact rfl; exact rfl; exact rfl)
    | (apply S.cmp; exact rfl; exact rfl; exact rfl; exact rfl)
    | apply S.nil
    | apply T.regs
    | (apply T.cCN; exact rfl)
    | apply T.seq
    | (apply T.skip; first | change T _ _ _ _ _ | change Done _ _ _ _ _ | change Next _ _ _ _ _ _ | skip)
    | (apply T.ret; change Done _ _ _ _ _))
  all_goals exact ⟨.inr rfl, [.sl ((afterL h l q.moves).map intRow), .i 0], .cons (.tmp rfl) (.cons (.tmp rfl) .nil), .tup (.cons (.one (.lf _)) (.cons (.one (.lf _)) .nil))⟩
theorem cue_after_err (h : HouseR) (l : List Int) (q : CueR) (hf : h.fits) (hq : q.moves.length ≤ 9223372036854775807) (hl : l.length ≤ 9223372036854775807) (g0 : ¬ givenE h l q = 0) : Fn0 Tryz.prog 15 [rowA h.row, .sl (l.map intRow), rowA q.row] (.tup [.val (.slice none 0 0), .i (givenE h l q)]) := by
  have cg := cue_given h l q hf hq hl
  refine Fn0.of Tryz.func15 Tryz.ntmps15 rfl rfl rfl ?_
  simp only [entryTm]
  repeat' (first
    | (apply S.move; exact rfl; exact rfl)
    | (apply S.assign; exact rfl; exact rfl)
    | (apply S.call; exact rfl; exact rfl; exact cg; exact rfl)
    | (apply S.loadPA; exact rfl; exact rfl; exact rfl; exact rfl)
    | (apply S.box; exact rfl; exact rfl; exact rfl; exact rfl; exact rfl; exact rfl)
    | (apply S.cmp; exact rfl; exact rfl; exact rfl; exact rfl)
    | apply S.nil
    | apply T.regs
    | (apply T.cT; exact rfl; assumption)
    | apply T.seq
    | (apply T.ret; change Done _ _ _ _ _))
  all_goals exact ⟨.inr rfl, [.val (.slice none 0 0), .i (givenE h l q)], .cons (.tmp rfl) (.cons (.tmp rfl) .nil), .tup (.cons (.one (.lf _)) (.cons (.one (.lf _)) .nil))⟩
/-! ### The reference -/
set_option maxHeartbeats 16000000 in
theorem r36_after (h : HouseR) (l : List Int) (q : CueR) (hf : h.fits) (hq : q.moves.length ≤ 9223372036854775807) (g : GivenOk h l q) : Fn0 Tryz.prog 31 [rowA h.row, .sl (l.map intRow), rowA q.row] (.sl ((afterL h l q.moves).map intRow)) := by
  have hf1 := hf.1
  obtain ⟨_, _, _, hs60, _⟩ := g.house
  have hl60 : l.length ≤ 60 := by rw [g.len]; exact hs60
  have hle : (q.moves.map MoveR.row).length = q.moves.length := List.length_map _
  have hle2 : (l.map intRow).length = l.length := List.length_map _
  refine Fn0.of Tryz.func31 Tryz.ntmps31 rfl rfl rfl ?_
  simp only [entryTm]
  repeat' (first
    | (apply S.move; exact rfl; exact rfl)
    | (apply S.assign; exact rfl; exact rfl)
    | (apply S.buildSliceO; exact rfl; exact rfl; exact rfl; exact rfl; exact rfl; exact rfl)
    | (apply S.appendO; exact rfl; exact rfl; exact rfl; exact rfl; exact rfl; exact rfl; exact rfl; exact rfl; exact rfl; exact ints_row l; exact ints_one l; exact rfl; omega; omega)
    | (apply S.box; exact rfl; exact rfl; exact rfl; exact rfl; exact rfl; exact rfl)
    | apply S.nil
    | apply T.regs
    | apply T.seq
    | apply T.block)
  refine T.loopS (fun k => k ≤ q.moves.length) (fun k => q.moves.length - k) (fun k => [(8, .i k), (7, .own 2 0 (0 + (l.map intRow).length) 1), (3, .ptr 0 0), (5, .ptr 1 0)]) (fun k => [.live (h.row.map .lf), .live (q.row.map .lf), .live (cellsI (afterL h l (q.moves.take k)))]) 0 (Nat.zero_le _) (.cons rfl rfl (.cons rfl rfl (.cons rfl rfl (.cons rfl rfl .nil)))) (.live rfl (.live rfl (.live (under_ints _ _) .nil))) ?_
  intro k hk
  by_cases hlt : k < q.moves.length
  · have h1 : (k : Int) < ((q.moves.map MoveR.row).length : Nat) := by omega
    obtain ⟨x, hx⟩ := get_at hlt
    have hb := row_at (R := MoveR.row) hx
    have hsn := snoc_at hx
    have hmem : x ∈ q.moves := List.mem_of_getElem? hx
    have hst : afterL h l (q.moves.take (k + 1)) = (afterL h l (q.moves.take k)).set (setIdx h x.set).toNat x.to := by rw [hsn, afterL_snoc]
    have hal := afterL_len h (q.moves.take k) l
    have hcl := cellsI_len (afterL h l (q.moves.take k))
    obtain ⟨m1, m2, m3, n, hn, m4, m5, m6⟩ := g.move hmem
    repeat' (first
      | (apply S.move; exact rfl; exact rfl)
      | (apply S.assign; exact rfl; exact rfl)
      | (apply S.fieldP; exact rfl; exact rfl; exact rfl)
      | (apply S.loadP; exact rfl; exact rfl; exact rfl; exact rfl)
      | (apply S.fieldR; exact rfl; exact rfl)
      | (apply S.loadR; exact rfl; exact rfl; exact rfl)
      | (apply T.drawR 16 anyOrder (by decide +kernel); simp only [List.take_succ_cons, List.take_zero, List.drop_succ_cons, List.drop_zero])
      | (apply S.indexR; exact rfl; exact rfl; exact rfl; exact hb; omega; exact rfl)
      | (apply S.call; exact rfl; exact rfl; exact r30_findSet h x.set hf1; exact rfl)
      | (apply S.indexO; exact rfl; exact rfl; exact rfl; exact rfl; omega; exact rfl)
      | (apply S.storeW; exact rfl; exact rfl; exact rfl; exact rfl; exact rfl; exact rfl; omega)
      | (apply S.arith; exact rfl; exact rfl; exact rfl; exact rfl; omega)
      | (apply S.loadPA; exact rfl; exact rfl; exact rfl; exact rfl)
      | (apply S.cmp; exact rfl; exact rfl; exact rfl; exact rfl)
      | (apply S.lenR; exact rfl; exact rfl)
      | apply S.nil
      | apply T.regs
      | apply T.reg
      | (apply T.cT; exact rfl; assumption)
      | apply T.seq
      | (apply T.skip; first | change T _ _ _ _ _ | change Done _ _ _ _ _ | change Next _ _ _ _ _ _ | skip)
      | apply T.block)
    change Next _ _ _ _ _ _
    exact Next.go (k + 1) (by omega) (by omega) (.cons rfl rfl (.cons rfl rfl (.cons rfl rfl (.cons rfl rfl .nil)))) (by
      show CovH _ _ [_, _, .live (cellsI (afterL h l (q.moves.take (k + 1))))]
      have hlt2 : (setIdx h x.set).toNat < (afterL h l (q.moves.take k)).length := by omega
      have hu := under_ints 3 ((afterL h l (q.moves.take k)).set (setIdx h x.set).toNat x.to)
      rw [cellsI_set' hlt2] at hu
      rw [hst, cellsI_set' hlt2]
      exact .live rfl (.live rfl (.live hu .nil)))
  · have h1 : ¬ (k : Int) < ((q.moves.map MoveR.row).length : Nat) := by omega
    have hkt : q.moves.take k = q.moves := List.take_of_length_le (by omega)
    rw [show (afterL h l q.moves).map intRow = (afterL h l (q.moves.take k)).map intRow by rw [hkt]]
    repeat' (first
      | (apply S.move; exact rfl; exact rfl)
      | (apply S.assign; exact rfl; exact rfl)
      | (apply S.fieldP; exact rfl; exact rfl; exact rfl)
      | (apply S.loadP; exact rfl; exact rfl; exact rfl; exact rfl)
      | (apply S.cmp; exact rfl; exact rfl; exact rfl; exact rfl)
      | (apply S.lenR; exact rfl; exact rfl)
      | apply S.nil
      | apply T.regs
      | (apply T.cF; exact rfl; assumption)
      | apply T.seq
      | (apply T.ret; change Done _ _ _ _ _)
      | (apply T.exit; first | change T _ _ _ _ _ | change Done _ _ _ _ _ | change Next _ _ _ _ _ _ | skip))
    refine done1 (by first | exact .inl rfl | exact .inr rfl) Tryz.results31 rfl (.one (.one ?_))
    rw [Nat.zero_add]
    exact .own rfl (own_ints h l (q.moves.take k))
end Go.Proofs.YtfchdagalklgpaaGreatDoor
set_option linter.unusedSimpArgs false
namespace Go.Proofs.YtfchdagalklgpaaGreatDoor
set_option linter.unusedVariables false
open Go.RowKit
theorem take_eq_step {a b : List Int} {k : Nat} {x y : Int} (h : a.take k = b.take k) (hx : a[k]? = some x) (hy : b[k]? = some y) (e : x = y) : a.take (k + 1) = b.take (k + 1) := by
  rw [List.take_add_one, List.take_add_one, h, hx, hy, e]
set_option maxHeartbeats 8000000 in
theorem equal_ints (a b : List Int) (ha : a.length ≤ 9223372036854775807) (hb : b.length ≤ 9223372036854775807) : Fn0 Tryz.prog 12 [.sl (a.map intRow), .sl (b.map intRow)] (.b (decide (a = b))) := by
  have hla : (a.map intRow).length = a.length := List.length_map _
  have hlb : (b.map intRow).length = b.length := List.length_map _
  by_cases hl : a.length = b.length
  · have hl1 : ((a.map intRow).length : Int) = ((b.map intRow).length : Nat) := by omega
    refine Fn0.of Tryz.func12 Tryz.ntmps12 rfl rfl rfl ?_
    simp only [entryTm]
    repeat' (first
      | (apply S.move; exact rfl; exact rfl)
      | (apply S.assign; exact rfl; exact rfl)
      | (apply S.cmp; exact rfl; exact rfl; exact rfl; exact rfl)
      | (apply S.lenR; exact rfl; exact rfl)
      | apply S.nil
      | apply T.regs
      | (apply T.cFn; exact rfl; assumption)
      | apply T.seq
      | (apply T.skip; first | change T _ _ _ _ _ | change Done _ _ _ _ _ | change Next _ _ _ _ _ _ | skip)
      | apply T.block)
    refine T.loopS (fun k => k ≤ a.length ∧ a.take k = b.take k) (fun k => a.length - k) (fun k => [(13, .i k), (12, .i (a.map intRow).length), (0, .sl (a.map intRow)), (1, .sl (b.map intRow))]) (fun _ => []) 0 ⟨Nat.zero_le _, rfl⟩ (.cons rfl rfl (.cons rfl rfl (.cons rfl rfl (.cons rfl rfl .nil)))) .nil ?_
    rintro k ⟨hk, heq⟩
    by_cases hlt : k < a.length
    · have h1 : (k : Int) < ((a.map intRow).length : Nat) := by omega
      obtain ⟨x, hx⟩ := get_at hlt
      obtain ⟨y, hy⟩ := get_at (l := b) (k := k) (by omega)
      have hbx := row_at (R := intRow) hx
      have hby := row_at (R := intRow) hy
      repeat' (first
        | (apply S.move; exact rfl; exact rfl)
        | (apply S.assign; exact rfl; exact rfl)
        | (apply S.loadR; exact rfl; exact rfl; exact rfl)
        | (apply T.drawAll anyOrder (by decide +kernel))
        | (apply S.indexR; exact rfl; exact rfl; exact rfl; exact hbx; omega; exact rfl)
        | (apply S.indexR; exact rfl; exact rfl; exact rfl; exact hby; omega; exact rfl)
        | (apply S.arith; exact rfl; exact rfl; exact rfl; exact rfl; omega)
        | (apply S.cmp; exact rfl; exact rfl; exact rfl; exact rfl)
        | apply S.nil
        | apply T.regs
        | apply T.reg
        | (apply T.cT; exact rfl; assumption)
        | (apply T.cSn; exact rfl; intro hc; rotate_left; intro hc; rotate_right)
        | apply T.seq
        | (apply T.skip; first | change T _ _ _ _ _ | change Done _ _ _ _ _ | change Next _ _ _ _ _ _ | skip)
        | (apply T.ret; change Done _ _ _ _ _)
        | apply T.block)
      all_goals (try change Next _ _ _ _ _ _)
      all_goals first
        | exact Next.go (k + 1) ⟨by omega, take_eq_step heq hx hy (by assumption)⟩ (by omega) (.cons rfl rfl (.cons rfl rfl (.cons rfl rfl (.cons rfl rfl .nil)))) .nil
        | exact doneV (by simp) Tryz.results12 rfl (congrArg Value.bool (decide_eq_false fun e => by subst e; rw [hx] at hy; injection hy with hy; contradiction).symm)
    · have h1 : ¬ (k : Int) < ((a.map intRow).length : Nat) := by omega
      rw [List.take_of_length_le (by omega), List.take_of_length_le (by omega)] at heq
      repeat' (first
        | (apply S.assign; exact rfl; exact rfl)
        | (apply S.cmp; exact rfl; exact rfl; exact rfl; exact rfl)
        | apply S.nil
        | apply T.regs
        | (apply T.cF; exact rfl; assumption)
        | apply T.seq
        | (apply T.ret; change Done _ _ _ _ _)
        | (apply T.exit; first | change T _ _ _ _ _ | change Done _ _ _ _ _ | change Next _ _ _ _ _ _ | skip))
      exact doneV (by simp) Tryz.results12 rfl (congrArg Value.bool (decide_eq_true heq).symm)
  · have hl1 : ¬ ((a.map intRow).length : Int) = ((b.map intRow).length : Nat) := by omega
    refine Fn0.of Tryz.func12 Tryz.ntmps12 rfl rfl rfl ?_
    simp only [entryTm]
    repeat' (first
      | (apply S.move; exact rfl; exact rfl)
      | (apply S.assign; exact rfl; exact rfl)
      | (apply S.cmp; exact rfl; exact rfl; exact rfl; exact rfl)
      | (apply S.lenR; exact rfl; exact rfl)
      | apply S.nil
      | apply T.regs
      | (apply T.cT; exact rfl; assumption)
      | apply T.seq
      | (apply T.ret; change Done _ _ _ _ _))
    all_goals exact doneV (by simp) Tryz.results12 rfl (congrArg Value.bool (decide_eq_false fun e => hl (by rw [e])).symm)
theorem ex_len : (lenF exH [6000] exQ.moves).num = 19 ∧ (lenF exH [6000] exQ.moves).den = 2 := by decide +kernel
theorem ex_after : afterL exH [6000] exQ.moves = [2000] := by decide +kernel
theorem ex_fits : exH.fits := ⟨by decide, by decide, fun s hs => by
  simp only [exH, List.mem_cons, List.not_mem_nil, or_false] at hs
  subst hs
  exact ⟨by decide, by decide, by decide⟩⟩
end Go.Proofs.YtfchdagalklgpaaGreatDoor
