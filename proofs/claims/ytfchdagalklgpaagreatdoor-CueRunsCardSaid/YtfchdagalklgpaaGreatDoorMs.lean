/- The example of the chapter on cues is a right one. No conditions but those of each statement. | Contracts: the trims of a sheet (the program's side). No conditions but those of each statement. | Contracts: the law's awake, and the law on sheets that are valid. No conditions but those of each statement. -/
import Derived.Test.YtfchdagalklgpaaGreatDoorMr
import Derived.Laws.StructEq
set_option linter.unusedSimpArgs false
namespace Go.Proofs.YtfchdagalklgpaaGreatDoor
set_option linter.unusedVariables false
open Go.RowKit
theorem ex_set : setP exS := by
  refine ⟨by decide +kernel, by decide, by decide, by decide, by decide, by decide, by decide, ?_, by decide, by decide, by decide, by decide, by decide, ?_, ?_⟩
  · exact ⟨by decide, by decide, by decide⟩
  · refine ⟨by decide, by decide, ?_⟩
    exact ⟨by simp [exS], by simp [exS]⟩
  · exact ⟨by decide, by decide, by simp [exS], by decide⟩
theorem ex_house : houseP exH := by
  refine ⟨by decide +kernel, by decide, by decide, by decide, ⟨by decide, by simp [exH], by decide⟩, ?_, by decide +kernel⟩
  intro s hs
  simp only [exH, List.mem_cons, List.not_mem_nil, or_false] at hs
  subst hs
  exact ⟨ex_set, by decide⟩
theorem ex_right : rightP exH exQ := by
  refine ⟨by decide +kernel, by decide, by decide, by decide, by decide, ?_, by decide +kernel⟩
  intro m hm
  simp only [exQ, List.mem_cons, List.not_mem_nil, or_false] at hm
  subst hm
  exact ⟨by decide +kernel, exS, by decide +kernel, by rfl, by decide, by decide⟩
theorem ex_given : givenE exH [6000] exQ = 0 := by
  refine givenE_0 ⟨ex_house, ex_right⟩ rfl ?_
  intro i n s h1 h2
  match i, h1, h2 with
  | 0, h1, h2 =>
    simp only [exH, List.getElem?_cons_zero, Option.some.injEq] at h1 h2
    subst h1 h2
    exact ⟨by decide, by decide⟩
  | i + 1, h1, _ => simp at h1
abbrev exC : SheetR := ⟨[exQ], []⟩
theorem ex_valid : validP exH exC := by
  refine ⟨ex_house, by decide, ?_, by decide, fun i p h => by simp at h⟩
  intro i q h
  match i, h with
  | 0, h =>
    simp only [List.getElem?_cons_zero, Option.some.injEq] at h
    subst h
    exact ⟨by decide, ex_right, by simp, fun _ => rfl, fun h => absurd rfl h⟩
  | i + 1, h => simp at h
end Go.Proofs.YtfchdagalklgpaaGreatDoor
set_option linter.unusedSimpArgs false
namespace Go.Proofs.YtfchdagalklgpaaGreatDoor
set_option linter.unusedVariables false
open Go.RowKit
def highs (h : HouseR) : List Int := h.sets.map SetR.high
def nowL (h : HouseR) (c : SheetR) (k : Nat) : List Int := (c.cues.take k).foldl (fun l q => afterL h l q.moves) (highs h)
theorem nowL_succ {h : HouseR} {c : SheetR} {k : Nat} {q : CueR} (hq : c.cues[k]? = some q) : nowL h c (k + 1) = afterL h (nowL h c k) q.moves := by
  unfold nowL
  rw [List.take_add_one, hq]
  simp
def trimsL (h : HouseR) (c : SheetR) (n : Nat) : List (List Int) := (List.range n).map (nowL h c)
def tRow (l : List Int) : List Lf := [.sl (l.map intRow)]
theorem trimsIn_set {h : HouseR} {l : List Int} {i : Nat} {n : Int} (ht : trimsIn h l) (hn : ∀ s, h.sets[i]? = some s → s.low ≤ n ∧ n ≤ s.high) : trimsIn h (l.set i n) := fun j x s hj hs => by
  rw [List.getElem?_set] at hj
  by_cases e : i = j
  · rw [if_pos e] at hj
    subst e
    split at hj
    · injection hj with hj
      subst hj
      exact hn s hs
    · cases hj
  · rw [if_neg e] at hj
    exact ht j x s hj hs
theorem trimsIn_after {h : HouseR} {q : CueR} (hr : rightP h q) : ∀ (ms : List MoveR) (l : List Int), (∀ m ∈ ms, m ∈ q.moves) → trimsIn h l → trimsIn h (afterL h l ms)
  | [], l, _, ht => ht
  | m :: ms, l, hm, ht => by
    have ih := trimsIn_after hr ms (l.set (setIdx h m.set).toNat m.to) (fun x hx => hm x (by simp [hx])) (trimsIn_set ht fun s hs => by
      obtain ⟨_, t, _, h3, h4, h5⟩ := hr.2.2.2.2.2.1 m (hm m (by simp))
      rw [hs] at h3
      injection h3 with h3
      subst h3
      exact ⟨h4, h5⟩)
    exact ih
theorem validP.cue {h : HouseR} {c : SheetR} (v : validP h c) {q : CueR} {k : Nat} (hq : c.cues[k]? = some q) : rightP h q := (v.2.2.1 k q hq).2.1
theorem highs_ok {h : HouseR} (hh : houseP h) : trimsIn h (highs h) := fun i n s h1 h2 => by
  unfold highs at h1
  rw [List.getElem?_map, h2] at h1
  simp only [Option.map_some, Option.some.injEq] at h1
  subst h1
  obtain ⟨_, _, _, _, _, hs, _⟩ := hh
  obtain ⟨⟨_, _, _, s2, _⟩, _⟩ := hs s (List.mem_of_getElem? h2)
  exact ⟨s2, Int.le_refl _⟩
theorem nowL_ok {h : HouseR} {c : SheetR} (v : validP h c) : ∀ k, k ≤ c.cues.length → (nowL h c k).length = h.sets.length ∧ trimsIn h (nowL h c k)
  | 0, _ => ⟨by simp [nowL, highs], by show trimsIn h (highs h); exact highs_ok v.1⟩
  | k + 1, hk => by
    obtain ⟨i1, i2⟩ := nowL_ok v k (by omega)
    obtain ⟨q, hq⟩ := get_at (l := c.cues) (k := k) (by omega)
    rw [nowL_succ hq]
    exact ⟨by rw [afterL_len]; exact i1, trimsIn_after (v.cue hq) q.moves _ (fun m hm => hm) i2⟩
theorem now_given {h : HouseR} {c : SheetR} (v : validP h c) {k : Nat} {q : CueR} (hq : c.cues[k]? = some q) : GivenOk h (nowL h c k) q := by
  have hk : k < c.cues.length := (List.getElem?_eq_some_iff.1 hq).1
  obtain ⟨i1, i2⟩ := nowL_ok v k (by omega)
  exact ⟨v.1, v.cue hq, i1, i2⟩
theorem S.nilT {P : Program} {N : Nat} {c : Code} {Q : Exit → St → Prop} {tm : Tm} {H : AH} (q : Nat) (ht : tm.get q = some (.val (.slice none 0 0))) (h : T P N c ⟨(q, .sl []) :: tm, H⟩ Q) : T P N c ⟨tm, H⟩ Q :=
  ⟨fun E a w ρ hE hR => h.out E a w ρ hE ⟨hR.size, hR.defers, fun t x hx => by
    rw [Tm.get_cons] at hx
    obtain ⟨h1, h2⟩ := hR.tm q _ ht
    by_cases e : q = t
    · rw [if_pos e] at hx
      injection hx with hx
      subst hx e
      refine ⟨h1, ?_⟩
      have := h2.val_eq
      rw [this]
      exact .lf _ _ .slnil
    · rw [if_neg e] at hx
      exact hR.tm t x hx, hR.H, hR.fr, hR.mine, hR.lim⟩⟩
def highT : Nat → AV
  | 0 => .val (.slice none 0 0)
  | k + 1 => .own 2 0 (k + 1) 1
def highB (l : List SetR) : Nat → HB
  | 0 => .dead
  | k + 1 => .live (cellsI ((l.take (k + 1)).map SetR.high))
theorem cellsI_snoc {l : List SetR} {k : Nat} {x : SetR} (h : l.take (k + 1) = l.take k ++ [x]) : cellsI ((l.take (k + 1)).map SetR.high) = cellsI ((l.take k).map SetR.high) ++ ([intRow x.high].flatten).map AV.lf := by
  rw [h]; simp [cellsI]
theorem own_highs {h : HouseR} {k : Nat} (hk : k = h.sets.length) : OwnRows (cellsI ((h.sets.take k).map SetR.high)) 0 k 1 ((highs h).map intRow) := by
  have ht : h.sets.take k = h.sets := List.take_of_length_le (by omega)
  rw [ht]
  have := OwnRows.of ((highs h).map intRow).flatten (ints_row (highs h)) rfl
  rw [List.length_map, highs, List.length_map, ← hk] at this
  exact this
theorem seal_highs {P : Program} {N : Nat} {c : Code} {Q : Exit → St → Prop} {tm : Tm} {H : AH} {h : HouseR} {k : Nat} (hk : k = h.sets.length) (ht : tm.get 6 = some (highT k)) (hb : H.at 2 = highB h.sets k) (hT : T P N c ⟨(6, .sl ((highs h).map intRow)) :: tm, H.put 2 .dead⟩ Q) : T P N c ⟨tm, H⟩ Q := by
  cases k with
  | zero =>
    have h0 : (highs h).map intRow = [] := by rw [highs, List.eq_nil_of_length_eq_zero hk.symm]; rfl
    rw [h0] at hT
    exact S.nilT 6 ht (T.kill 2 hT (by rw [hb]; rfl))
  | succ k => exact T.freeze 6 ht hb (own_highs hk) hT
theorem tRow_len (l : List (List Int)) : ∀ r ∈ l.map tRow, r.length = 1 := by
  intro r hr
  obtain ⟨n, _, rfl⟩ := List.mem_map.1 hr
  rfl
abbrev cellsT (h : HouseR) (c : SheetR) (n : Nat) : List AV := ((trimsL h c n).map tRow).flatten.map .lf
theorem cellsT_len (h : HouseR) (c : SheetR) (n : Nat) : (cellsT h c n).length = n * 1 := by
  rw [List.length_map, flatten_len _ (tRow_len _), List.length_map]; simp [trimsL]
theorem cellsT_snoc (h : HouseR) (c : SheetR) (n : Nat) : cellsT h c (n + 1) = cellsT h c n ++ ([tRow (nowL h c n)].flatten).map AV.lf := by
  simp [cellsT, trimsL, List.range_succ]
set_option maxHeartbeats 16000000 in
theorem cue_trims_ok (h : HouseR) (c : SheetR) (hf : h.fits) (hc : c.fits) (v : validP h c) : Fn0 Tryz.prog 7 [rowA h.row, rowA c.row] (.tup [.sl ((trimsL h c (c.cues.length + 1)).map tRow), .i 0]) := by
  have cv := cue_valid h c hf hc
  rw [decide_eq_true v] at cv
  obtain ⟨_, _, _, hs60, _⟩ := v.1
  have hc60 := v.2.1
  have hle : (h.sets.map SetR.row).length = h.sets.length := List.length_map _
  have hle2 : (c.cues.map CueR.row).length = c.cues.length := List.length_map _
  refine Fn0.of Tryz.func7 Tryz.ntmps7 rfl rfl rfl ?_
  simp only [entryTm]
  repeat' (first
    | (apply S.move; exact rfl; exact rfl)
    | (apply S.assign; exact rfl; exact rfl)
    | (apply S.fieldP; exact rfl; exact rfl; exact rfl)
    | (apply S.loadP; exact rfl; exact rfl; exact rfl; exact rfl)
    | (apply S.call; exact rfl; exact rfl; exact cv; exact rfl)
    | (apply S.loadPA; exact rfl; exact rfl; exact rfl; exact rfl)
    | (apply S.box; exact rfl; exact rfl; exact rfl; exact rfl; exact rfl; exact rfl)
    | (apply S.not; exact rfl; exact rfl; exact rfl)
    | (apply S.lenR; exact rfl; exact rfl)
    | apply S.nil
    | apply T.regs
    | (apply T.cCN; exact rfl)
    | apply T.seq
    | (apply T.skip; first | change T _ _ _ _ _ | change Done _ _ _ _ _ | change Next _ _ _ _ _ _ | skip)
    | apply T.block)
  refine T.kill 2 ?_
  refine T.loopS (fun k => k ≤ h.sets.length) (fun k => h.sets.length - k) (fun k => [(19, .i k), (18, .i (h.sets.map SetR.row).length), (17, .sl (h.sets.map SetR.row)), (6, highT k), (2, .ptr 0 0), (3, .ptr 1 0)]) (fun k => [.live (h.row.map .lf), .live (c.row.map .lf), highB h.sets k]) 0 (Nat.zero_le _) (.cons rfl rfl (.cons rfl rfl (.cons rfl rfl (.cons rfl rfl (.cons rfl rfl (.cons rfl rfl .nil)))))) (.live rfl (.live rfl (.dead .nil))) ?_
  intro k hk
  by_cases hlt : k < h.sets.length
  · have h1 : (k : Int) < ((h.sets.map SetR.row).length : Nat) := by omega
    obtain ⟨x, hx⟩ := get_at hlt
    have hb := row_at (R := SetR.row) hx
    have hsn := snoc_at hx
    cases k with
    | zero =>
      repeat' (first
        | (apply S.move; exact rfl; exact rfl)
        | (apply S.assign; exact rfl; exact rfl)
        | (apply S.fieldP; exact rfl; exact rfl; exact rfl)
        | (apply S.loadP; exact rfl; exact rfl; exact rfl; exact rfl)
        | (apply S.indexR; exact rfl; exact rfl; exact rfl; exact hb; omega; exact rfl)
        | (apply S.buildSlice1; exact rfl; exact rfl; exact rfl; exact rfl; exact rfl; exact rfl; exact rfl)
        | (apply S.appendN 2 (rows := []); exact rfl; exact rfl; exact rfl; exact rfl; exact rfl; exact rfl; exact rfl; exact rfl; exact rows_one rfl; exact rfl; exact Nat.le_of_ble_eq_true rfl; exact Nat.le_of_ble_eq_true rfl)
        | (apply S.arith; exact rfl; exact rfl; exact rfl; exact rfl; omega)
        | (apply S.loadRA; exact rfl; exact rfl; exact rfl; exact rfl)
        | (apply S.alloc; exact rfl; exact rfl; exact rfl; exact rfl; exact rfl)
        | (apply S.store; exact rfl; exact rfl; exact rfl; exact rfl; exact rfl; exact rfl; exact rfl)
        | (apply S.cmp; exact rfl; exact rfl; exact rfl; exact rfl)
        | apply S.nil
        | apply T.regs
        | apply T.reg
        | (apply T.cT; exact rfl; assumption)
        | apply T.seq
        | (apply T.skip; first | change T _ _ _ _ _ | change Done _ _ _ _ _ | change Next _ _ _ _ _ _ | skip)
        | apply T.block)
      change Next _ _ _ _ _ _
      exact Next.go 1 (by omega) (by omega) (.cons rfl rfl (.cons rfl rfl (.cons rfl rfl (.cons rfl rfl (.cons rfl rfl (.cons rfl rfl .nil)))))) (by
        show CovH _ _ [_, _, .live (cellsI ((h.sets.take (0 + 1)).map SetR.high))]
        rw [cellsI_snoc hsn]
        exact .live rfl (.live rfl (.live rfl .nil)))
    | succ k =>
      have hcl : (cellsI ((h.sets.take (k + 1)).map SetR.high)).length = (k + 1) * 1 := by rw [cellsI_len, List.length_map, List.length_take]; omega
      repeat' (first
        | (apply S.move; exact rfl; exact rfl)
        | (apply S.assign; exact rfl; exact rfl)
        | (apply S.fieldP; exact rfl; exact rfl; exact rfl)
        | (apply S.loadP; exact rfl; exact rfl; exact rfl; exact rfl)
        | (apply S.indexR; exact rfl; exact rfl; exact rfl; exact hb; omega; exact rfl)
        | (apply S.buildSlice1; exact rfl; exact rfl; exact rfl; exact rfl; exact rfl; exact rfl; exact rfl)
        | (apply S.appendO; exact rfl; exact rfl; exact rfl; exact rfl; exact rfl; exact rfl; exact rfl; exact rfl; exact hcl; exact rows_one rfl; exact rfl; exact clear_lf _ _; simp only [List.length_cons, List.length_nil]; omega; simp only [List.length_cons, List.length_nil]; omega)
        | (apply S.arith; exact rfl; exact rfl; exact rfl; exact rfl; omega)
        | (apply S.loadRA; exact rfl; exact rfl; exact rfl; exact rfl)
        | (apply S.alloc; exact rfl; exact rfl; exact rfl; exact rfl; exact rfl)
        | (apply S.store; exact rfl; exact rfl; exact rfl; exact rfl; exact rfl; exact rfl; exact rfl)
        | (apply S.cmp; exact rfl; exact rfl; exact rfl; exact rfl)
        | apply S.nil
        | apply T.regs
        | apply T.reg
        | (apply T.cT; exact rfl; assumption)
        | apply T.seq
        | (apply T.skip; first | change T _ _ _ _ _ | change Done _ _ _ _ _ | change Next _ _ _ _ _ _ | skip)
        | apply T.block)
      change Next _ _ _ _ _ _
      exact Next.go (k + 2) (by omega) (by omega) (.cons rfl rfl (.cons rfl rfl (.cons rfl rfl (.cons rfl rfl (.cons rfl rfl (.cons rfl rfl .nil)))))) (by
        show CovH _ _ [_, _, .live (cellsI ((h.sets.take (k + 1 + 1)).map SetR.high))]
        rw [cellsI_snoc hsn]
        exact .live rfl (.live rfl (.live (by rw [← List.map_append]; exact under_lf _ _) .nil)))
  · have h1 : ¬ (k : Int) < ((h.sets.map SetR.row).length : Nat) := by omega
    refine seal_highs (h := h) (k := k) (by omega) rfl rfl ?_
    repeat' (first
      | (apply S.move; exact rfl; exact rfl)
      | (apply S.assign; exact rfl; exact rfl)
      | (apply S.fieldP; exact rfl; exact rfl; exact rfl)
      | (apply S.loadP; exact rfl; exact rfl; exact rfl; exact rfl)
      | (apply S.buildSliceO; exact rfl; exact rfl; exact rfl; exact rfl; exact rfl; exact rfl)
      | (apply S.cmp; exact rfl; exact rfl; exact rfl; exact rfl)
      | (apply S.lenR; exact rfl; exact rfl)
      | apply S.nil
      | apply T.regs
      | (apply T.cF; exact rfl; assumption)
      | apply T.seq
      | (apply T.exit; first | change T _ _ _ _ _ | change Done _ _ _ _ _ | change Next _ _ _ _ _ _ | skip)
      | apply T.block)
    refine T.loopS (fun k => k ≤ c.cues.length) (fun k => c.cues.length - k) (fun k => [(34, .i k), (33, .i (c.cues.map CueR.row).length), (32, .sl (c.cues.map CueR.row)), (6, .sl ((nowL h c k).map intRow)), (9, .own 3 0 (k + 1) 1), (2, .ptr 0 0), (3, .ptr 1 0)]) (fun k => [.live (h.row.map .lf), .live (c.row.map .lf), .dead, .live (cellsT h c (k + 1))]) 0 (Nat.zero_le _) (.cons rfl rfl (.cons rfl rfl (.cons rfl rfl (.cons rfl rfl (.cons rfl rfl (.cons rfl rfl (.cons rfl rfl .nil))))))) (.live rfl (.live rfl (.dead (.live rfl .nil)))) ?_
    intro j hj
    by_cases hlt2 : j < c.cues.length
    · have h2 : (j : Int) < ((c.cues.map CueR.row).length : Nat) := by omega
      obtain ⟨y, hy⟩ := get_at hlt2
      have hb2 := row_at (R := CueR.row) hy
      have cm := cue_moved h (nowL h c j) y hf (by have := hc.2.2 y (List.mem_of_getElem? hy); omega) (now_given v hy)
      rw [← nowL_succ hy] at cm
      have hct := cellsT_len h c (j + 1)
      repeat' (first
        | (apply S.move; exact rfl; exact rfl)
        | (apply S.assign; exact rfl; exact rfl)
        | (apply S.indexR; exact rfl; exact rfl; exact rfl; exact hb2; omega; exact rfl)
        | (apply S.buildSlice1; exact rfl; exact rfl; exact rfl; exact rfl; exact rfl; exact rfl; exact rfl)
        | (apply S.appendO; exact rfl; exact rfl; exact rfl; exact rfl; exact rfl; exact rfl; exact rfl; exact rfl; exact hct; exact rows_one rfl; exact rfl; exact clear_lf _ _; simp only [List.length_cons, List.length_nil]; omega; simp only [List.length_cons, List.length_nil]; omega)
        | (apply S.call; exact rfl; exact rfl; exact cm; exact rfl)
        | (apply S.arith; exact rfl; exact rfl; exact rfl; exact rfl; omega)
        | (apply S.loadPA; exact rfl; exact rfl; exact rfl; exact rfl)
        | (apply S.loadRA; exact rfl; exact rfl; exact rfl; exact rfl)
        | (apply S.alloc; exact rfl; exact rfl; exact rfl; exact rfl; exact rfl)
        | (apply S.store; exact rfl; exact rfl; exact rfl; exact rfl; exact rfl; exact rfl; exact rfl)
        | (apply S.cmp; exact rfl; exact rfl; exact rfl; exact rfl)
        | apply S.nil
        | apply T.regs
        | apply T.reg
        | (apply T.cT; exact rfl; assumption)
        | apply T.seq
        | (apply T.skip; first | change T _ _ _ _ _ | change Done _ _ _ _ _ | change Next _ _ _ _ _ _ | skip)
        | apply T.block)
      change Next _ _ _ _ _ _
      exact Next.go (j + 1) (by omega) (by omega) (.cons rfl rfl (.cons rfl rfl (.cons rfl rfl (.cons rfl rfl (.cons rfl rfl (.cons rfl rfl (.cons rfl rfl .nil))))))) (by
        show CovH _ _ [_, _, _, .live (cellsT h c (j + 1 + 1))]
        rw [cellsT_snoc]
        exact .live rfl (.live rfl (.dead (.live (by rw [← List.map_append]; exact under_lf _ _) .nil))))
    · have h2 : ¬ (j : Int) < ((c.cues.map CueR.row).length : Nat) := by omega
      have hj2 : j = c.cues.length := by omega
      repeat' (first
        | (apply S.move; exact rfl; exact rfl)
        | (apply S.assign; exact rfl; exact rfl)
        | (apply S.cmp; exact rfl; exact rfl; exact rfl; exact rfl)
        | apply S.nil
        | apply T.regs
        | (apply T.cF; exact rfl; assumption)
        | apply T.seq
        | (apply T.ret; change Done _ _ _ _ _)
        | (apply T.exit; first | change T _ _ _ _ _ | change Done _ _ _ _ _ | change Next _ _ _ _ _ _ | skip))
      refine ⟨.inr rfl, [_, _], .cons (.tmp rfl) (.cons (.tmp rfl) .nil), .tup (.cons (.one (.own (cells := cellsT h c (j + 1)) (rows := (trimsL h c (c.cues.length + 1)).map tRow) rfl ?_)) (.cons (.one (.lf _)) .nil))⟩
      have := OwnRows.of ((trimsL h c (j + 1)).map tRow).flatten (tRow_len _) rfl
      rw [List.length_map, trimsL, List.length_map, List.length_range] at this
      rw [← hj2]
      exact this
end Go.Proofs.YtfchdagalklgpaaGreatDoor
set_option linter.unusedSimpArgs false
namespace Go.Proofs.YtfchdagalklgpaaGreatDoor
set_option linter.unusedVariables false
open Go.RowKit
set_option maxRecDepth 100000 in
theorem fracFields : Tryz.prog.fieldsOf 57 = #[⟨"Num", 3, 0, false, "", "", 0⟩, ⟨"Den", 3, 1, false, "", "", 8⟩] := by
  unfold Program.fieldsOf
  rw [Tryz.underlying57]
theorem fracStood : Tryz.prog.stoodInHeld 57 = false := by kernel_rfl
theorem fracGuard : Tryz.prog.eqGuardType Tryz.prog.depth 57 = false := by kernel_rfl
theorem fracIs : Tryz.prog.underlying 57 = some (.struct (Tryz.prog.fieldsOf 57)) := by
  rw [fracFields]; exact Tryz.underlying57
set_option maxRecDepth 100000 in
instance : HasEq2 Tryz.prog 57 := ⟨fun o η w x y u a b c d ho hx hy => by
  have h1 := fun d' (k : IntKind) (a b : Int) => run_equalIn_int (P := Tryz.prog) w d' 3 k .i64 a b Tryz.underlying3
  have h2 := run_equalIn_agg (P := Tryz.prog) w 9999 57 #[.int .i64 a, .int .i64 b] #[.int .i64 c, .int .i64 d] fracIs fracStood
  have h3 := run_eqGuard_agg (P := Tryz.prog) w .eql 57 x y #[.int .i64 a, .int .i64 b] #[.int .i64 c, .int .i64 d] fracGuard
  have h4 := run_eql_struct (P := Tryz.prog) w 57 #[.int .i64 a, .int .i64 b] #[.int .i64 c, .int .i64 d]
  rw [fracFields] at h2
  simp only [execOp, ho, hx, hy, Sem.run_bind, h3, Result.andThen_ok, h4]
  rw [h2]
  simp [Op.eqFields, go_sem, h1]
  by_cases e1 : a = c <;> by_cases e2 : b = d <;> simp [*]⟩
theorem ex_trims : trimsL exH exC (exC.cues.length + 1) = [[6000], [2000]] := by decide +kernel
set_option maxHeartbeats 16000000 in
theorem law_awake : Fn0 Tryz.prog 5 [] (.b true) := by
  have cl := cue_length_ok exH [6000] exQ ex_fits (by decide) (by decide) ex_given
  have hc : exC.fits := ⟨by decide, by decide, fun q hq => by
    simp only [List.mem_cons, List.not_mem_nil, or_false] at hq
    subst hq
    decide⟩
  have ct := cue_trims_ok exH exC ex_fits hc ex_valid
  rw [ex_trims] at ct
  have e1 := equal_ints [6000] [6000] (by decide) (by decide)
  have e2 := equal_ints [2000] [2000] (by decide) (by decide)
  rw [decide_eq_true rfl] at e1 e2
  obtain ⟨n1, n2⟩ := ex_len
  have hq : (lenF exH [6000] exQ.moves).num = 19 ∧ ((lenF exH [6000] exQ.moves).den : Int) = 2 := ⟨n1, by rw [n2]; rfl⟩
  have h00 : (0 : Int) = 0 := rfl
  have h22 : ((([[6000], [2000]] : List (List Int)).map tRow).length : Int) = 2 := rfl
  have hb0 : (([[6000], [2000]] : List (List Int)).map tRow)[(0 : Int).toNat]? = some (tRow [6000]) := rfl
  have hb1 : (([[6000], [2000]] : List (List Int)).map tRow)[(1 : Int).toNat]? = some (tRow [2000]) := rfl
  refine Fn0.of Tryz.func5 Tryz.ntmps5 rfl rfl rfl ?_
  simp only [entryTm]
  repeat' (first
    | (apply S.move; exact rfl; exact rfl)
    | (apply S.assign; exact rfl; exact rfl)
    | (apply S.gC; exact rfl; exact rfl; exact rfl)
    | (apply S.gTT; exact rfl; exact rfl; assumption)
    | (apply S.loadR; exact rfl; exact rfl; exact rfl)
    | (apply S.pC; exact rfl; exact rfl; exact rfl)
    | (apply S.pTp; exact rfl; assumption; exact rfl; exact rfl)
    | (apply S.call; exact rfl; exact rfl; exact law_example; exact rfl)
    | (apply S.call; exact rfl; exact rfl; exact cl; exact rfl)
    | (apply S.call; exact rfl; exact rfl; exact ct; exact rfl)
    | (apply S.call; exact rfl; exact rfl; exact e1; exact rfl)
    | (apply S.call; exact rfl; exact rfl; exact e2; exact rfl)
    | (apply S.indexR; exact rfl; exact rfl; exact rfl; exact hb0; omega; exact rfl)
    | (apply S.indexR; exact rfl; exact rfl; exact rfl; exact hb1; omega; exact rfl)
    | (apply S.buildSlice1; exact rfl; exact rfl; exact rfl; exact rfl; exact rfl; exact rfl; exact rfl)
    | (apply S.eq2; exact rfl; exact rfl; exact rfl)
    | (apply S.buildN; exact rfl; exact rfl; exact rfl)
    | (apply S.loadPA; exact rfl; exact rfl; exact rfl; exact rfl)
    | (apply S.alloc; exact rfl; exact rfl; exact rfl; exact rfl; exact rfl)
    | (apply S.store; exact rfl; exact rfl; exact rfl; exact rfl; exact rfl; exact rfl; exact rfl)
    | (apply S.cmp; exact rfl; exact rfl; exact rfl; exact rfl)
    | (apply S.extract; exact rfl; exact rfl; exact rfl)
    | (apply S.lenR; exact rfl; exact rfl)
    | apply S.nil
    | apply T.regs
    | (apply T.ret; change Done _ _ _ _ _))
  all_goals exact doneV (by simp) Tryz.results5 rfl rfl
theorem S.boolEq {P : Program} {N : Nat} {ops : Array Oper} {m : Option Nat} {K : Tm → AH → Prop} {tm : Tm} {H : AH} {rest : List Oper} {ty : TypeId} {pos : String} {af : Array Edge} {d : Nat} {x y : Operand} {t u : TypeId} {a b : Bool} [hu : HasU P t .bool] (hx : evT tm x = some (.val (.bool a))) (hy : evT tm y = some (.val (.bool b))) (hN : Nat.ble (d + 1) N = true) (h : Reg m P N ops rest ((d, .val (.bool (a == b))) :: tm) H K) : Reg m P N ops (⟨some d, .binOp .eql t x y u, ty, pos, af, none⟩ :: rest) tm H K := by
  refine S.val (OpV.mk fun L w ρ η hη hH => ?_) hN h
  have h1 := (hη x (by simp [Op.operands]) _ hx).val_eq
  have h2 := (hη y (by simp [Op.operands]) _ hy).val_eq
  exact ⟨_, by simp [execOp, h1, h2, eqGuard, run_eql_bool _ t a b hu.out], relV_val _⟩
end Go.Proofs.YtfchdagalklgpaaGreatDoor
