/- Plain laws of the texts of sheets: a line has one newline, its last byte; a part of a sheet, from the beginning, is a sheet. No conditions but those of each statement. | Contracts: the walk of the law on runs of cues. No conditions but those of each statement. -/
import Derived.Test.YtfchdagalklgpaaGreatDoorNb
import Derived.Test.YtfchdagalklgpaaGreatDoorMv
set_option linter.unusedSimpArgs false
namespace Go.Proofs.YtfchdagalklgpaaGreatDoor
set_option linter.unusedVariables false
open Go.RowKit
theorem dec_range : ∀ (k m : Nat), m ≤ k → ∀ x ∈ Lib.decDigits m, 48 ≤ x.toNat ∧ x.toNat ≤ 57
  | k, m, hk, x, hx => by
    by_cases h : m < 10
    · rw [Lib.decDigits_one h] at hx
      simp only [List.mem_cons, List.not_mem_nil, or_false] at hx
      subst hx
      rw [UInt8.toNat_ofNat']
      omega
    · rw [dec_step h] at hx
      rcases List.mem_append.1 hx with hx | hx
      · cases k with
        | zero => omega
        | succ k => exact dec_range k (m / 10) (by omega) x hx
      · simp only [List.mem_cons, List.not_mem_nil, or_false] at hx
        subst hx
        rw [UInt8.toNat_ofNat']
        omega
def noNL (s : ByteArray) : Prop := (10 : UInt8) ∉ s.data.toList
instance (s : ByteArray) : Decidable (noNL s) := by unfold noNL; exact inferInstance
theorem itoa_noNL (n : Int) : noNL (itoaB n) := by
  unfold noNL itoaB Lib.itoa
  intro h
  simp only at h
  split at h
  · rcases List.mem_cons.1 h with h | h
    · exact absurd h (by decide)
    · have := dec_range _ _ (Nat.le_refl _) _ h
      simp at this
  · have := dec_range _ _ (Nat.le_refl _) _ h
    simp at this
theorem name_noNL {s : ByteArray} (h : nameB s = true) : noNL s := by
  simp only [nameB, Bool.and_eq_true, decide_eq_true_eq] at h
  obtain ⟨_, hw⟩ := h
  unfold noNL
  intro h10
  have hl : s.data.toList.takeWhile (fun c => decide (wordI c.toNat)) = s.data.toList := by
    refine (List.takeWhile_prefix _).eq_of_length ?_
    have : (wordLen s : Int) = s.size := hw
    unfold wordLen at this
    rw [Array.length_toList]
    exact Int.ofNat.inj this
  have ha := List.all_takeWhile (p := fun c : UInt8 => decide (wordI c.toNat)) (l := s.data.toList)
  rw [hl] at ha
  have := List.all_eq_true.1 ha 10 h10
  revert this
  decide
theorem count_join (ws : List (List UInt8)) (h : ∀ w ∈ ws, (10 : UInt8) ∉ w) : (10 : UInt8) ∉ Lib.join ws [32] := by
  cases ws with
  | nil => simp [Lib.join_nil]
  | cons w ws =>
    rw [Lib.join_cons]
    intro hm
    rcases List.mem_append.1 hm with hm | hm
    · exact h w (by simp) hm
    · unfold Lib.joinTail at hm
      obtain ⟨l, hl, hm⟩ := List.mem_flatten.1 hm
      obtain ⟨x, hx, rfl⟩ := List.mem_map.1 hl
      rcases List.mem_append.1 hm with hm | hm
      · simp at hm
      · exact h x (by simp [hx]) hm
theorem count_line {ws : List ByteArray} (h : ∀ w ∈ ws, noNL w) : (lineL ws).count 10 = 1 := by
  have := count_join (ws.map (·.data.toList)) fun w hw => by
    obtain ⟨x, hx, rfl⟩ := List.mem_map.1 hw
    exact h x hx
  rw [lineL, List.count_append, List.count_eq_zero.2 this]
  rfl
theorem count_bytes : ∀ (L : List (List ByteArray)), (∀ ws ∈ L, ∀ w ∈ ws, noNL w) → (bytesOf L).count 10 = L.length
  | [], _ => rfl
  | ws :: L, h => by
    have h1 := count_line (h ws (by simp))
    have h2 := count_bytes L fun x hx => h x (by simp [hx])
    have e : bytesOf (ws :: L) = lineL ws ++ bytesOf L := rfl
    rw [e, List.count_append, h1, h2, List.length_cons]
    omega
theorem suffix_bytes (L : List (List ByteArray)) : bytesOf L = [] ∨ Lib.hasSuffix (bytesOf L) [10] = true := by
  rcases List.eq_nil_or_concat L with rfl | ⟨M, ws, rfl⟩
  · exact .inl rfl
  · refine .inr ?_
    rw [List.concat_eq_append, bytes_append, bytes_one, lineL]
    unfold Lib.hasSuffix
    rw [List.isSuffixOf_iff_suffix]
    exact ⟨bytesOf M ++ Lib.join (ws.map (·.data.toList)) [32], by simp⟩
theorem words_noNL {h : HouseR} {c : SheetR} (v : validP h c) {k : Nat} {q : CueR} (hq : c.cues[k]? = some q) : (∀ w ∈ cueWords q, noNL w) ∧ ∀ m ∈ q.moves, ∀ w ∈ moveWords m, noNL w := by
  obtain ⟨_, hr, _, h1, h2⟩ := v.2.2.1 k q hq
  have hn := name_noNL hr.1
  have ha : noNL q.after := by
    by_cases hl : q.link = 1
    · rw [h1 hl]; simp [noNL]
    · obtain ⟨y, hy, e⟩ := h2 hl
      obtain ⟨i, hi⟩ := List.mem_iff_getElem?.1 (List.mem_of_mem_take hy)
      rw [← e]
      exact name_noNL (v.2.2.1 i y hi).2.1.1
  refine ⟨fun w hw => ?_, fun m hm w hw => ?_⟩
  · unfold cueWords linkWords at hw
    have c1 : noNL sCue := by decide
    have c2 : noNL sManual := by decide
    have c3 : noNL sFollow := by decide
    have c4 : noNL sWith := by decide
    have i1 := itoa_noNL q.delay
    have i2 := itoa_noNL q.crew
    have i3 := itoa_noNL q.power
    split at hw
    · simp only [List.cons_append, List.nil_append, List.mem_cons, List.not_mem_nil, or_false] at hw
      rcases hw with rfl | rfl | rfl | rfl | rfl | rfl <;> assumption
    · split at hw
      · simp only [List.cons_append, List.nil_append, List.mem_cons, List.not_mem_nil, or_false] at hw
        rcases hw with rfl | rfl | rfl | rfl | rfl | rfl | rfl <;> assumption
      · simp only [List.cons_append, List.nil_append, List.mem_cons, List.not_mem_nil, or_false] at hw
        rcases hw with rfl | rfl | rfl | rfl | rfl | rfl | rfl <;> assumption
  · have c5 : noNL sMove := by decide
    have hm1 := name_noNL (hr.2.2.2.2.2.1 m hm).1.1
    have i1 := itoa_noNL m.to
    have i2 := itoa_noNL m.speed
    have i3 := itoa_noNL m.rise
    have i4 := itoa_noNL m.fall
    simp only [moveWords, List.mem_cons, List.not_mem_nil, or_false] at hw
    rcases hw with rfl | rfl | rfl | rfl | rfl | rfl <;> assumption
/-- A cue that is found has the name. -/
theorem cueIdx_name {l : List CueR} {n : ByteArray} (h : 0 ≤ cueIdx l n) : ∃ q ∈ l, q.name = n := by
  have key : ∀ (l : List CueR), ¬ idx (fun q : CueR => q.name = n) l < 0 → ∃ q ∈ l, q.name = n := by
    intro l
    induction l with
    | nil => intro h; exact absurd (show (-1 : Int) < 0 by decide) h
    | cons x l ih =>
      intro h0
      rw [idx] at h0
      by_cases hx : x.name = n
      · exact ⟨x, by simp, hx⟩
      · rw [if_neg hx] at h0
        split at h0
        · exact absurd (by omega) h0
        · rename_i hneg
          obtain ⟨q, hq, e⟩ := ih (by have := idx_ge_neg (fun q : CueR => q.name = n) l; omega)
          exact ⟨q, by simp [hq], e⟩
  exact key l (by show ¬ cueIdx l n < 0; omega)
theorem pair_noNL {h : HouseR} {c : SheetR} (v : validP h c) {p : ByteArray × ByteArray} (hp : p ∈ c.apart) : ∀ w ∈ pairWords p, noNL w := by
  obtain ⟨i, hi⟩ := List.mem_iff_getElem?.1 hp
  obtain ⟨⟨h1, h2⟩, _⟩ := v.2.2.2.2 i p hi
  have name : ∀ {n}, 0 ≤ cueIdx c.cues n → noNL n := fun {n} hn => by
    obtain ⟨q, hq, e⟩ := cueIdx_name hn
    obtain ⟨j, hj⟩ := List.mem_iff_getElem?.1 hq
    rw [← e]
    exact name_noNL (v.2.2.1 j q hj).2.1.1
  intro w hw
  have c6 : noNL sApart := by decide
  have n1 := name h1
  have n2 := name h2
  simp only [pairWords, List.mem_cons, List.not_mem_nil, or_false] at hw
  rcases hw with rfl | rfl | rfl <;> assumption
theorem count_sheet {h : HouseR} {c : SheetR} (v : validP h c) : (sheetL c).count 10 = c.apart.length + (linesC c c.cues.length).length := by
  have e : linesA c c.apart.length = linesC c c.cues.length ++ c.apart.map pairWords := by simp [linesA, linesC]
  rw [sheetL, count_bytes _ fun ws hws w hw => ?_, e, List.length_append, List.length_map, Nat.add_comm]
  rw [e] at hws
  rcases List.mem_append.1 hws with hws | hws
  · obtain ⟨q, hq, hws⟩ := List.mem_flatMap.1 hws
    obtain ⟨k, hk⟩ := List.mem_iff_getElem?.1 (List.mem_of_mem_take hq)
    obtain ⟨a1, a2⟩ := words_noNL v hk
    rcases List.mem_cons.1 hws with rfl | hws
    · exact a1 w hw
    · obtain ⟨m, hm, rfl⟩ := List.mem_map.1 hws
      exact a2 m hm w hw
  · obtain ⟨p, hp, rfl⟩ := List.mem_map.1 hws
    exact pair_noNL v hp w hw
/-- The first cues of a sheet, without pairs. -/
def partC (c : SheetR) (n : Nat) : SheetR := { cues := c.cues.take n, apart := [] }
theorem part_valid {h : HouseR} {c : SheetR} (v : validP h c) (n : Nat) : validP h (partC c n) := by
  refine ⟨v.1, ?_, fun i q hq => ?_, by simp [partC], fun i p hp => by simp [partC] at hp⟩
  · have := v.2.1
    simp only [partC, List.length_take]
    omega
  · have hi : i < n := by
      have := (List.getElem?_eq_some_iff.1 hq).1
      simp only [partC, List.length_take] at this
      omega
    have hq' : c.cues[i]? = some q := by
      simp only [partC] at hq
      rw [List.getElem?_take, if_pos hi] at hq
      exact hq
    obtain ⟨a1, a2, a3, a4, a5⟩ := v.2.2.1 i q hq'
    have t1 : (partC c n).cues.take (i + 1) = c.cues.take (i + 1) := by simp only [partC]; rw [List.take_take]; congr 1; omega
    have t2 : (partC c n).cues.take i = c.cues.take i := by simp only [partC]; rw [List.take_take]; congr 1; omega
    exact ⟨by rw [t1]; exact a1, a2, by rw [t2]; exact a3, a4, by rw [t2]; exact a5⟩
theorem part_now {h : HouseR} {c : SheetR} {n k : Nat} (hk : k ≤ n) : nowL h (partC c n) k = nowL h c k := by
  unfold nowL partC
  rw [List.take_take]
  congr 2
  omega
theorem part_trims {h : HouseR} {c : SheetR} {n : Nat} (hn : n ≤ c.cues.length) : trimsL h (partC c n) (n + 1) = (trimsL h c (c.cues.length + 1)).take (n + 1) := by
  apply List.ext_getElem?
  intro i
  rw [List.getElem?_take]
  unfold trimsL
  by_cases hi : i < n + 1
  · rw [if_pos hi, List.getElem?_map, List.getElem?_map, List.getElem?_range hi, List.getElem?_range (by omega)]
    simp only [Option.map_some]
    rw [part_now (by omega)]
  · rw [if_neg hi, List.getElem?_eq_none (by simp; omega)]
theorem trims_at {h : HouseR} {c : SheetR} {n k : Nat} (hk : k < n) : (trimsL h c n)[k]? = some (nowL h c k) := by
  unfold trimsL
  rw [List.getElem?_map, List.getElem?_range hk]
  rfl
theorem linesC_len {c : SheetR} {k : Nat} {q : CueR} (hq : c.cues[k]? = some q) : (linesC c (k + 1)).length = (linesC c k).length + (1 + q.moves.length) := by
  rw [linesC_snoc (snoc_at hq), List.length_append]
  simp [linesQ]
  omega
end Go.Proofs.YtfchdagalklgpaaGreatDoor
set_option linter.unusedSimpArgs false
namespace Go.Proofs.YtfchdagalklgpaaGreatDoor
set_option linter.unusedVariables false
open Go.RowKit
theorem str_count1 (s : ByteArray) : Fn0 Tryz.prog 16 [.val (.string s), .val (.string ⟨#[10]⟩)] (.i (s.data.toList.count 10 : Nat)) := by
  refine ⟨⟨_, Tryz.func16, rfl, rfl⟩, fun L w vs hG hL hl hv => ?_⟩
  match vs, hl with
  | [u, v], _ =>
    obtain rfl := (hv 0 (.val (.string s)) u rfl rfl).val_eq
    obtain rfl := (hv 1 (.val (.string ⟨#[10]⟩)) v rfl rfl).val_eq
    refine (Tryz.strings_Count_one s 10 w).mono ?_
    rintro e w' ⟨rfl, rfl⟩
    exact ⟨_, rfl, relV_val _, Below.refl _ _⟩
theorem str_suffix (s p : ByteArray) (hs : s.size ≤ 9223372036854775807) : Fn0 Tryz.prog 17 [.val (.string s), .val (.string p)] (.b (decide (Lib.hasSuffix s.data.toList p.data.toList = true))) := by
  refine ⟨⟨_, Tryz.func17, rfl, rfl⟩, fun L w vs hG hL hl hv => ?_⟩
  match vs, hl with
  | [u, v], _ =>
    obtain rfl := (hv 0 (.val (.string s)) u rfl rfl).val_eq
    obtain rfl := (hv 1 (.val (.string p)) v rfl rfl).val_eq
    refine (Tryz.strings_HasSuffix s p w hs).mono ?_
    rintro e w' ⟨rfl, rfl⟩
    refine ⟨_, rfl, ?_, Below.refl _ _⟩
    rw [Bool.decide_eq_true]
    exact relV_val _
set_option maxHeartbeats 64000000 in
theorem law_cueRuns (h : HouseR) (c : SheetR) (hf : h.fits) (hc : c.fits) : Fn0 Tryz.prog 4 [rowA h.row, rowA c.row] (.b true) := by
  have cl := law_long h c hf hc
  have cv := cue_valid h c hf hc
  have z0 : (0 : Int) = 0 := rfl
  have z1 : (1 : Int) = 1 := rfl
  by_cases hlong : ¬ smallH h 8 ∨ ¬ smallC c 8
  · skip
    refine Fn0.of Tryz.func4 Tryz.ntmps4 rfl rfl rfl ?_
    simp only [entryTm]
    repeat' (first
      | (apply S.assign; exact rfl; exact rfl)
      | (apply S.call; exact rfl; exact rfl; exact law_awake; exact rfl)
      | (apply S.call; exact rfl; exact rfl; exact cl; exact rfl)
      | (apply S.loadPA; exact rfl; exact rfl; exact rfl; exact rfl)
      | (apply S.box; exact rfl; exact rfl; exact rfl; exact rfl; exact rfl; exact rfl)
      | (apply S.not; exact rfl; exact rfl; exact rfl)
      | apply S.nil
      | apply T.regs
      | (apply T.cCN; exact rfl)
      | (apply T.cT; exact rfl; assumption)
      | apply T.seq
      | (apply T.skip; first | change T _ _ _ _ _ | change Done _ _ _ _ _ | change Next _ _ _ _ _ _ | skip)
      | (apply T.ret; change Done _ _ _ _ _))
    all_goals exact doneV (by simp) Tryz.results4 rfl (by simp [*])
  · have hs : smallC c 8 := Classical.byContradiction fun hh => hlong (.inr hh)
    by_cases v : validP h c
    · have ht := textOk_of v hs
      have c1 := cue_trims_ok h c hf hc v
      have c2 := cue_text_ok h c hf hc v ht
      have hs1 := hs.1
      have hs2 := hs.2.1
      obtain ⟨_, _, _, hs60, _⟩ := v.1
      have hle : (c.cues.map CueR.row).length = c.cues.length := List.length_map _
      have hle2 : (c.apart.map pairRow).length = c.apart.length := List.length_map _
      have hle3 : (h.sets.map SetR.row).length = h.sets.length := List.length_map _
      have htl : ((trimsL h c (c.cues.length + 1)).map tRow).length = c.cues.length + 1 := by simp [trimsL]
      have htl1 : (((trimsL h c (c.cues.length + 1)).map tRow).length : Int) = ((c.cues.map CueR.row).length : Nat) + 1 := by rw [htl, hle]; rfl
      have hl0 := (nowL_ok v 0 (Nat.zero_le _)).1
      have hb0 : ((trimsL h c (c.cues.length + 1)).map tRow)[(0 : Int).toNat]? = some (tRow (nowL h c 0)) := row_at' (R := tRow) (i := 0) (trims_at (Nat.zero_lt_succ _))
      refine Fn0.of Tryz.func4 Tryz.ntmps4 rfl rfl rfl ?_
      simp only [entryTm]
      repeat' (first
        | (apply S.move; exact rfl; exact rfl)
        | (apply S.assign; exact rfl; exact rfl)
        | (apply S.gFFn; exact rfl; exact rfl; assumption)
        | (apply S.fieldP; exact rfl; exact rfl; exact rfl)
        | (apply S.loadP; exact rfl; exact rfl; exact rfl; exact rfl)
        | (apply S.pFn; exact rfl; assumption; exact rfl; exact rfl)
        | (apply S.call; exact rfl; exact rfl; exact law_awake; exact rfl)
        | (apply S.call; exact rfl; exact rfl; exact cl; exact rfl)
        | (apply S.call; exact rfl; exact rfl; exact c1; exact rfl)
        | (apply S.call; exact rfl; exact rfl; exact cv; exact rfl)
        | (apply S.arith; exact rfl; exact rfl; exact rfl; exact rfl; omega)
        | (apply S.loadPA; exact rfl; exact rfl; exact rfl; exact rfl)
        | (apply S.box; exact rfl; exact rfl; exact rfl; exact rfl; exact rfl; exact rfl)
        | (apply S.cmp; exact rfl; exact rfl; exact rfl; exact rfl)
        | (apply S.notP; exact rfl; exact rfl)
        | (apply S.not; exact rfl; exact rfl; exact rfl)
        | (apply S.extract; exact rfl; exact rfl; exact rfl)
        | (apply S.lenR; exact rfl; exact rfl)
        | apply S.nil
        | apply T.regs
        | (apply T.cCN; exact rfl)
        | (apply T.cF; exact rfl; assumption)
        | (apply T.cFn; exact rfl; assumption)
        | apply T.seq
        | (apply T.skip; first | change T _ _ _ _ _ | change Done _ _ _ _ _ | change Next _ _ _ _ _ _ | skip)
        | apply T.block)
      refine T.loopS (fun j => j ≤ h.sets.length) (fun j => h.sets.length - j) (fun j => [(59, .i j), (58, .i (h.sets.map SetR.row).length), (57, .sl (h.sets.map SetR.row)), (5, .sl ((trimsL h c (c.cues.length + 1)).map tRow)), (7, .i (c.apart.map pairRow).length), (2, .ptr 0 0), (3, .ptr 1 0)]) (fun _ => [.live (h.row.map .lf), .live (c.row.map .lf)]) 0 (Nat.zero_le _) (.cons rfl rfl (.cons rfl rfl (.cons rfl rfl (.cons rfl rfl (.cons rfl rfl (.cons rfl rfl (.cons rfl rfl .nil))))))) (.live rfl (.live rfl .nil)) ?_
      intro j hj
      by_cases hlt : j < h.sets.length
      · have h1 : (j : Int) < ((h.sets.map SetR.row).length : Nat) := by omega
        obtain ⟨s, hss⟩ := get_at hlt
        have hb := row_at (R := SetR.row) hss
        have hnl : ((nowL h c 0).map intRow).length = (nowL h c 0).length := List.length_map _
        have hnn : ¬ (j : Int) ≥ (((nowL h c 0).map intRow).length : Nat) := by omega
        have hbn : ((nowL h c 0).map intRow)[((j : Nat) : Int).toNat]? = some (intRow s.high) := by
          refine row_at (R := intRow) ?_
          show ((h.sets.map SetR.high))[j]? = some s.high
          rw [List.getElem?_map, hss]
          rfl
        have zh : s.high = s.high := rfl
        repeat' (first
          | (apply S.move; exact rfl; exact rfl)
          | (apply S.assign; exact rfl; exact rfl)
          | (apply S.gFF; exact rfl; exact rfl; assumption)
          | (apply S.fieldP; exact rfl; exact rfl; exact rfl)
          | (apply S.loadP; exact rfl; exact rfl; exact rfl; exact rfl)
          | (apply S.loadR; exact rfl; exact rfl; exact rfl)
          | (apply S.pFp; exact rfl; assumption; exact rfl; exact rfl)
          | (apply T.drawAll anyOrder (by decide +kernel))
          | (apply S.indexR; exact rfl; exact rfl; exact rfl; exact hb; omega; exact rfl)
          | (apply S.indexR; exact rfl; exact rfl; exact rfl; exact hb0; omega; exact rfl)
          | (apply S.indexR; exact rfl; exact rfl; exact rfl; exact hbn; omega; exact rfl)
          | (apply S.arith; exact rfl; exact rfl; exact rfl; exact rfl; omega)
          | (apply S.loadRA; exact rfl; exact rfl; exact rfl; exact rfl)
          | (apply S.alloc; exact rfl; exact rfl; exact rfl; exact rfl; exact rfl)
          | (apply S.store; exact rfl; exact rfl; exact rfl; exact rfl; exact rfl; exact rfl; exact rfl)
          | (apply S.cmp; exact rfl; exact rfl; exact rfl; exact rfl)
          | (apply S.lenR; exact rfl; exact rfl)
          | apply S.nil
          | apply T.regs
          | apply T.reg
          | (apply T.cT; exact rfl; assumption)
          | (apply T.cFn; exact rfl; assumption)
          | apply T.seq
          | (apply T.skip; first | change T _ _ _ _ _ | change Done _ _ _ _ _ | change Next _ _ _ _ _ _ | skip)
          | apply T.block)
        change Next _ _ _ _ _ _
        exact Next.go (j + 1) (by omega) (by omega) (.cons rfl rfl (.cons rfl rfl (.cons rfl rfl (.cons rfl rfl (.cons rfl rfl (.cons rfl rfl (.cons rfl rfl .nil))))))) (.live rfl (.live rfl .nil))
      · have h1 : ¬ (j : Int) < ((h.sets.map SetR.row).length : Nat) := by omega
        repeat' (first
          | (apply S.move; exact rfl; exact rfl)
          | (apply S.fieldP; exact rfl; exact rfl; exact rfl)
          | (apply S.loadP; exact rfl; exact rfl; exact rfl; exact rfl)
          | (apply S.cmp; exact rfl; exact rfl; exact rfl; exact rfl)
          | (apply S.lenR; exact rfl; exact rfl)
          | apply S.nil
          | apply T.regs
          | (apply T.cF; exact rfl; assumption)
          | apply T.seq
          | (apply T.exit; first | change T _ _ _ _ _ | change Done _ _ _ _ _ | change Next _ _ _ _ _ _ | skip)
          | apply T.block)
        refine T.loopS (fun k => k ≤ c.cues.length) (fun k => c.cues.length - k) (fun k => [(85, .i k), (84, .i (c.cues.map CueR.row).length), (83, .sl (c.cues.map CueR.row)), (5, .sl ((trimsL h c (c.cues.length + 1)).map tRow)), (7, .i (((c.apart.map pairRow).length : Nat) + ((linesC c k).length : Nat))), (2, .ptr 0 0), (3, .ptr 1 0)]) (fun _ => [.live (h.row.map .lf), .live (c.row.map .lf)]) 0 (Nat.zero_le _) (.cons rfl rfl (.cons rfl rfl (.cons rfl rfl (.cons rfl rfl (.cons (congrArg (fun n => some (AV.i n)) (by simp [linesC])) rfl (.cons rfl rfl (.cons rfl rfl .nil))))))) (.live rfl (.live rfl .nil)) ?_
        intro k hk
        have hlc := (ht.c k).2
        by_cases hlk : k < c.cues.length
        · have h2 : (k : Int) < ((c.cues.map CueR.row).length : Nat) := by omega
          obtain ⟨q, hq⟩ := get_at hlk
          have hb := row_at (R := CueR.row) hq
          have hqm : q.moves.length ≤ 8 := (ht.q (List.mem_of_getElem? hq)).2.1
          have hbk := row_at (R := tRow) (trims_at (h := h) (c := c) (n := c.cues.length + 1) (k := k) (by omega))
          have hbk1 : ((trimsL h c (c.cues.length + 1)).map tRow)[((k : Int) + 1).toNat]? = some (tRow (nowL h c (k + 1))) := row_at' (R := tRow) (i := (k : Int) + 1) (by rw [show ((k : Int) + 1).toNat = k + 1 by omega]; exact trims_at (by omega))
          have hnl := (nowL_ok v k (by omega)).1
          have hnl1 := (nowL_ok v (k + 1) (by omega)).1
          have ca := cue_after_ok h (nowL h c k) q hf (by omega) (by omega) (givenE_of (now_given v hq))
          rw [← nowL_succ hq] at ca
          have ce := equal_ints (nowL h c (k + 1)) (nowL h c (k + 1)) (by omega) (by omega)
          have hnn : nowL h c (k + 1) = nowL h c (k + 1) := rfl
          have hll := linesC_len hq
          have hlm : (q.moves.map MoveR.row).length = q.moves.length := List.length_map _
          repeat' (first
            | (apply S.move; exact rfl; exact rfl)
            | (apply S.assign; exact rfl; exact rfl)
            | (apply S.gC; exact rfl; exact rfl; exact rfl)
            | (apply S.fieldP; exact rfl; exact rfl; exact rfl)
            | (apply S.loadP; exact rfl; exact rfl; exact rfl; exact rfl)
            | (apply S.loadR; exact rfl; exact rfl; exact rfl)
            | (apply S.pCN; exact rfl; exact rfl; exact rfl)
            | (apply T.drawAll anyOrder (by decide +kernel))
            | (apply S.indexR; exact rfl; exact rfl; exact rfl; exact hb; omega; exact rfl)
            | (apply S.indexR; exact rfl; exact rfl; exact rfl; exact hbk; omega; exact rfl)
            | (apply S.indexR; exact rfl; exact rfl; exact rfl; exact hbk1; omega; exact rfl)
            | (apply S.call; exact rfl; exact rfl; exact ca; exact rfl)
            | (apply S.call; exact rfl; exact rfl; exact ce; exact rfl)
            | (apply S.arith; exact rfl; exact rfl; exact rfl; exact rfl; omega)
            | (apply S.loadPA; exact rfl; exact rfl; exact rfl; exact rfl)
            | (apply S.loadRA; exact rfl; exact rfl; exact rfl; exact rfl)
            | (apply S.alloc; exact rfl; exact rfl; exact rfl; exact rfl; exact rfl)
            | (apply S.store; exact rfl; exact rfl; exact rfl; exact rfl; exact rfl; exact rfl; exact rfl)
            | (apply S.cmp; exact rfl; exact rfl; exact rfl; exact rfl)
            | (apply S.notP; exact rfl; exact rfl)
            | (apply S.extract; exact rfl; exact rfl; exact rfl)
            | (apply S.lenR; exact rfl; exact rfl)
            | apply S.nil
            | apply T.regs
            | apply T.reg
            | (apply T.cT; exact rfl; assumption)
            | (apply T.cFn; exact rfl; assumption)
            | apply T.seq
            | (apply T.skip; first | change T _ _ _ _ _ | change Done _ _ _ _ _ | change Next _ _ _ _ _ _ | skip)
            | apply T.block)
          change Next _ _ _ _ _ _
          exact Next.go (k + 1) (by omega) (by omega) (.cons rfl rfl (.cons rfl rfl (.cons rfl rfl (.cons rfl rfl (.cons (congrArg (fun n => some (AV.i n)) (by omega)) rfl (.cons rfl rfl (.cons rfl rfl .nil))))))) (.live rfl (.live rfl .nil))
        · have h2 : ¬ (k : Int) < ((c.cues.map CueR.row).length : Nat) := by omega
          have hke : k = c.cues.length := by omega
          have cc := str_count1 (ofL (sheetL c))
          have hsz : (ofL (sheetL c)).size ≤ 50000 := ht.szA c.apart.length
          have cs := str_suffix (ofL (sheetL c)) ⟨#[10]⟩ (by omega)
          have hcnt : (((ofL (sheetL c)).data.toList.count 10 : Nat) : Int) = ((c.apart.map pairRow).length : Nat) + ((linesC c k).length : Nat) := by
            rw [ofL_list, count_sheet v, hke, hle2]
            omega
          obtain ⟨n, hn⟩ : ∃ n, n = ((((c.cues.map CueR.row).length : Nat) : Int) / 2).toNat := ⟨_, rfl⟩
          have hnle : n ≤ c.cues.length := by omega
          have pc : (partC c n).cues.length = n := by simp only [partC, List.length_take]; omega
          have hpr : rowA (partC c n).row = .agg [.lf (.sl ((c.cues.map CueR.row).take n)), .lf (.sl [])] := by simp [rowA, SheetR.row, partC, List.map_take]
          have hcp : (partC c n).fits := ⟨by omega, by simp [partC], fun q hq => hc.2.2 q (List.mem_of_mem_take hq)⟩
          have c3 := cue_trims_ok h (partC c n) hf hcp (part_valid v n)
          rw [hpr] at c3
          have htk : ((c.cues.map CueR.row).take n).length = n := by rw [List.length_take]; omega
          have hsame : ((trimsL h c (c.cues.length + 1)).map tRow).take (((((c.cues.map CueR.row).take n).length : Nat) : Int) + 1).toNat = (trimsL h (partC c n) ((partC c n).cues.length + 1)).map tRow := by
            rw [pc, part_trims hnle, htk, List.map_take]
            congr 1
          have ce := equalFunc_same (trimsL h (partC c n) ((partC c n).cues.length + 1)) (by simp [trimsL]; omega) (fun l hl => by
            obtain ⟨j, hj, rfl⟩ := List.mem_map.1 hl
            have hj' := List.mem_range.1 hj
            have := (nowL_ok (part_valid v n) j (by omega)).1
            omega)
          have ce2 : Fn0 Tryz.prog 10 [.sl ((trimsL h (partC c n) ((partC c n).cues.length + 1)).map tRow), .sl (((trimsL h c (c.cues.length + 1)).map tRow).take (((((c.cues.map CueR.row).take n).length : Nat) : Int) + 1).toNat), .fn (.func 12) [] []] (.b true) := by
            rw [hsame]; exact ce
          rw [hn] at c3 ce2
          have htk' : (((c.cues.map CueR.row).take ((((c.cues.map CueR.row).length : Nat) : Int) / 2).toNat).length : Int) ≤ c.cues.length := by rw [← hn, htk]; omega
          have hr7 : ∀ r ∈ c.cues.map CueR.row, r.length = 7 := fun r hr => by
            obtain ⟨q, _, rfl⟩ := List.mem_map.1 hr
            rfl
          by_cases hE : ofL (sheetL c) = ⟨#[]⟩
          · skip
            repeat' (first
              | (apply S.move; exact rfl; exact rfl)
              | (apply S.assign; exact rfl; exact rfl)
              | (apply S.gC; exact rfl; exact rfl; exact rfl)
              | (apply S.gTFn; exact rfl; exact rfl; assumption; exact rfl)
              | (apply S.gFFn; exact rfl; exact rfl; assumption)
              | (apply S.fieldP; exact rfl; exact rfl; exact rfl)
              | (apply S.loadP; exact rfl; exact rfl; exact rfl; exact rfl)
              | (apply S.pC; exact rfl; exact rfl; exact rfl)
              | (apply S.pCN; exact rfl; exact rfl; exact rfl)
              | (apply S.pFn; exact rfl; assumption; exact rfl; exact rfl)
              | (apply S.call; exact rfl; exact rfl; exact c2; exact rfl)
              | (apply S.call; exact rfl; exact rfl; exact cc; exact rfl)
              | (apply S.call; exact rfl; exact rfl; exact c3; exact rfl)
              | (apply S.call; exact rfl; exact rfl; exact ce2; exact rfl)
              | (apply S.quo; exact rfl; exact rfl; exact rfl; omega)
              | (apply S.sliceTo; exact rfl; exact rfl; exact rfl; omega; exact hr7)
              | (apply S.sliceTo; exact rfl; exact rfl; exact rfl; omega; exact tRow_len _)
              | (apply S.buildN; exact rfl; exact rfl; exact rfl)
              | (apply S.arith; exact rfl; exact rfl; exact rfl; exact rfl; omega)
              | (apply S.loadPA; exact rfl; exact rfl; exact rfl; exact rfl)
              | (apply S.alloc; exact rfl; exact rfl; exact rfl; exact rfl; exact rfl)
              | (apply S.store; exact rfl; exact rfl; exact rfl; exact rfl; exact rfl; exact rfl; exact rfl)
              | (apply S.cmp; exact rfl; exact rfl; exact rfl; exact rfl)
              | (apply S.strNe; exact rfl; exact rfl; exact rfl)
              | (apply S.extract; exact rfl; exact rfl; exact rfl)
              | (apply S.lenR; exact rfl; exact rfl)
              | apply S.nil
              | apply T.regs
              | (apply T.cCN; exact rfl)
              | (apply T.cF; exact rfl; assumption)
              | apply T.seq
              | (apply T.skip; first | change T _ _ _ _ _ | change Done _ _ _ _ _ | change Next _ _ _ _ _ _ | skip)
              | (apply T.ret; change Done _ _ _ _ _)
              | (apply T.exit; first | change T _ _ _ _ _ | change Done _ _ _ _ _ | change Next _ _ _ _ _ _ | skip))
            all_goals exact doneV (by simp) Tryz.results4 rfl rfl
          · have hsf : Lib.hasSuffix (ofL (sheetL c)).data.toList (⟨#[10]⟩ : ByteArray).data.toList = true := by
              rw [ofL_list]
              rcases suffix_bytes (linesA c c.apart.length) with hh | hh
              · exact absurd (by unfold sheetL; rw [hh]; rfl) hE
              · exact hh
            repeat' (first
              | (apply S.move; exact rfl; exact rfl)
              | (apply S.assign; exact rfl; exact rfl)
              | (apply S.gC; exact rfl; exact rfl; exact rfl)
              | (apply S.gTT; exact rfl; exact rfl; assumption)
              | (apply S.gFFn; exact rfl; exact rfl; assumption)
              | (apply S.fieldP; exact rfl; exact rfl; exact rfl)
              | (apply S.loadP; exact rfl; exact rfl; exact rfl; exact rfl)
              | (apply S.pC; exact rfl; exact rfl; exact rfl)
              | (apply S.pCN; exact rfl; exact rfl; exact rfl)
              | (apply S.pTp; exact rfl; assumption; exact rfl; exact rfl)
              | (apply S.pFn; exact rfl; assumption; exact rfl; exact rfl)
              | (apply S.call; exact rfl; exact rfl; exact c2; exact rfl)
              | (apply S.call; exact rfl; exact rfl; exact cc; exact rfl)
              | (apply S.call; exact rfl; exact rfl; exact cs; exact rfl)
              | (apply S.call; exact rfl; exact rfl; exact c3; exact rfl)
              | (apply S.call; exact rfl; exact rfl; exact ce2; exact rfl)
              | (apply S.quo; exact rfl; exact rfl; exact rfl; omega)
              | (apply S.sliceTo; exact rfl; exact rfl; exact rfl; omega; exact hr7)
              | (apply S.sliceTo; exact rfl; exact rfl; exact rfl; omega; exact tRow_len _)
              | (apply S.buildN; exact rfl; exact rfl; exact rfl)
              | (apply S.arith; exact rfl; exact rfl; exact rfl; exact rfl; omega)
              | (apply S.loadPA; exact rfl; exact rfl; exact rfl; exact rfl)
              | (apply S.alloc; exact rfl; exact rfl; exact rfl; exact rfl; exact rfl)
              | (apply S.store; exact rfl; exact rfl; exact rfl; exact rfl; exact rfl; exact rfl; exact rfl)
              | (apply S.cmp; exact rfl; exact rfl; exact rfl; exact rfl)
              | (apply S.strNe; exact rfl; exact rfl; exact rfl)
              | (apply S.notP; exact rfl; exact rfl)
              | (apply S.extract; exact rfl; exact rfl; exact rfl)
              | (apply S.lenR; exact rfl; exact rfl)
              | apply S.nil
              | apply T.regs
              | (apply T.cF; exact rfl; assumption)
              | (apply T.cFn; exact rfl; assumption)
              | apply T.seq
              | (apply T.skip; first | change T _ _ _ _ _ | change Done _ _ _ _ _ | change Next _ _ _ _ _ _ | skip)
              | (apply T.ret; change Done _ _ _ _ _)
              | (apply T.exit; first | change T _ _ _ _ _ | change Done _ _ _ _ _ | change Next _ _ _ _ _ _ | skip))
            all_goals exact doneV (by simp) Tryz.results4 rfl rfl
    · have c1 := cue_trims_err h c hf hc v
      refine Fn0.of Tryz.func4 Tryz.ntmps4 rfl rfl rfl ?_
      simp only [entryTm]
      repeat' (first
        | (apply S.move; exact rfl; exact rfl)
        | (apply S.assign; exact rfl; exact rfl)
        | (apply S.gC; exact rfl; exact rfl; exact rfl)
        | (apply S.pC; exact rfl; exact rfl; exact rfl)
        | (apply S.call; exact rfl; exact rfl; exact law_awake; exact rfl)
        | (apply S.call; exact rfl; exact rfl; exact cl; exact rfl)
        | (apply S.call; exact rfl; exact rfl; exact c1; exact rfl)
        | (apply S.call; exact rfl; exact rfl; exact cv; exact rfl)
        | (apply S.loadPA; exact rfl; exact rfl; exact rfl; exact rfl)
        | (apply S.box; exact rfl; exact rfl; exact rfl; exact rfl; exact rfl; exact rfl)
        | (apply S.cmp; exact rfl; exact rfl; exact rfl; exact rfl)
        | (apply S.notP; exact rfl; exact rfl)
        | (apply S.not; exact rfl; exact rfl; exact rfl)
        | (apply S.extract; exact rfl; exact rfl; exact rfl)
        | apply S.nil
        | apply T.regs
        | (apply T.cC; exact rfl)
        | (apply T.cCN; exact rfl)
        | (apply T.cF; exact rfl; assumption)
        | apply T.seq
        | (apply T.skip; first | change T _ _ _ _ _ | change Done _ _ _ _ _ | change Next _ _ _ _ _ _ | skip)
        | (apply T.ret; change Done _ _ _ _ _))
      all_goals exact doneV (by simp) Tryz.results4 rfl (by simp [*])
end Go.Proofs.YtfchdagalklgpaaGreatDoor
