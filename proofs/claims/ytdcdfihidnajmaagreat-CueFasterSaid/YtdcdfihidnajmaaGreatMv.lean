/- Plain laws of cues: where sets stand after a cue; its length is the greatest time of its moves; repeated it takes no time. No conditions but those of each statement. | Contracts: the walk of the law on moves. No conditions but those of each statement. -/
import Derived.Test.YtdcdfihidnajmaaGreatMs
set_option linter.unusedSimpArgs false
namespace Go.Proofs.YtdcdfihidnajmaaGreat
set_option linter.unusedVariables false
open Go.RowKit
/-- The set that is found has the name. -/
theorem setIdx_name {h : HouseR} {n : ByteArray} (h0 : 0 ≤ setIdx h n) : ∃ s, h.sets[(setIdx h n).toNat]? = some s ∧ s.name = n := by
  obtain ⟨s, hs⟩ := idx_get (p := fun s : SetR => s.name = n) (l := h.sets) (by show ¬ setIdx h n < 0; omega)
  refine ⟨s, hs, ?_⟩
  have key : ∀ (l : List SetR) (s : SetR), ¬ idx (fun s : SetR => s.name = n) l < 0 → l[(idx (fun s : SetR => s.name = n) l).toNat]? = some s → s.name = n := by
    intro l
    induction l with
    | nil => intro s _ h; simp at h
    | cons x l ih =>
      intro s h0 h1
      rw [idx] at h0 h1
      by_cases hx : x.name = n
      · rw [if_pos hx] at h1
        simp at h1
        rw [← h1]; exact hx
      · rw [if_neg hx] at h0 h1
        split at h1
        · rename_i hneg
          rw [if_pos hneg] at h0
          omega
        · rename_i hneg
          have e : (idx (fun s : SetR => s.name = n) l + 1).toNat = (idx (fun s : SetR => s.name = n) l).toNat + 1 := by omega
          rw [e, List.getElem?_cons_succ] at h1
          exact ih s (by have := idx_ge_neg (fun s : SetR => s.name = n) l; omega) h1
  exact key h.sets s (by show ¬ setIdx h n < 0; omega) hs
theorem setIdx_inj {h : HouseR} {a b : ByteArray} (ha : 0 ≤ setIdx h a) (hb : 0 ≤ setIdx h b) (e : (setIdx h a).toNat = (setIdx h b).toNat) : a = b := by
  obtain ⟨s, h1, h2⟩ := setIdx_name ha
  obtain ⟨t, h3, h4⟩ := setIdx_name hb
  rw [e, h3] at h1
  injection h1 with h1
  rw [← h2, ← h4, h1]
/-- Moves of other sets leave a place alone. -/
theorem after_other {h : HouseR} {i : Nat} : ∀ (ms : List MoveR) (l : List Int), (∀ m ∈ ms, (setIdx h m.set).toNat ≠ i) → (afterL h l ms)[i]? = l[i]?
  | [], l, _ => rfl
  | m :: ms, l, hm => by
    have := after_other ms (l.set (setIdx h m.set).toNat m.to) fun x hx => hm x (by simp [hx])
    rw [List.getElem?_set_ne (hm m (by simp))] at this
    exact this
theorem after_split (h : HouseR) (l : List Int) (a b : List MoveR) : afterL h l (a ++ b) = afterL h (afterL h l a) b := by simp [afterL]
theorem after_at {h : HouseR} {l : List Int} {q : CueR} (g : GivenOk h l q) {m : MoveR} (hm : m ∈ q.moves) : (afterL h l q.moves)[(setIdx h m.set).toNat]? = some m.to := by
  obtain ⟨a, b, hab⟩ := List.append_of_mem hm
  obtain ⟨_, h0, hlt, _⟩ := g.move hm
  have hnd := g.right.2.2.2.2.2.2
  rw [hab, show a ++ m :: b = (a ++ [m]) ++ b by simp, after_split, after_other b _ fun x hx e => ?_, afterL_snoc, List.getElem?_set_self (by rw [afterL_len]; exact hlt)]
  have hx' : x ∈ q.moves := by rw [hab]; simp [hx]
  obtain ⟨_, hx0, _⟩ := g.move hx'
  have hs := setIdx_inj hx0 h0 e
  rw [hab, List.map_append, List.map_cons, List.nodup_append, List.nodup_cons] at hnd
  exact hnd.2.1.1 (hs ▸ List.mem_map.2 ⟨x, hx, rfl⟩)
theorem after_stays {h : HouseR} {l : List Int} {q : CueR} (g : GivenOk h l q) {i : Nat} {s : SetR} (hs : h.sets[i]? = some s) (hn : ¬ ∃ m ∈ q.moves, m.set = s.name) : (afterL h l q.moves)[i]? = l[i]? := by
  refine after_other q.moves l fun m hm e => hn ⟨m, hm, ?_⟩
  obtain ⟨_, h0, _⟩ := g.move hm
  obtain ⟨t, h1, h2⟩ := setIdx_name h0
  rw [e, hs] at h1
  injection h1 with h1
  rw [← h2, ← h1]
theorem given_after {h : HouseR} {l : List Int} {q : CueR} (g : GivenOk h l q) : GivenOk h (afterL h l q.moves) q :=
  ⟨g.house, g.right, by rw [afterL_len]; exact g.len, trimsIn_after g.right q.moves l (fun m hm => hm) g.trims⟩
theorem givenE_of {h : HouseR} {l : List Int} {q : CueR} (g : GivenOk h l q) : givenE h l q = 0 := givenE_0 ⟨g.house, g.right⟩ g.len g.trims
theorem cmpQ_pos {p q : Rat} : 0 < cmpQ p q ↔ q < p := by
  unfold cmpQ
  by_cases h1 : p < q
  · rw [if_pos h1]
    exact ⟨fun h => by omega, fun h => absurd (Rat.le_of_lt h1) (Rat.not_le.2 h)⟩
  · rw [if_neg h1]
    by_cases h2 : q < p
    · rw [if_pos h2]; exact ⟨fun _ => h2, fun _ => by omega⟩
    · rw [if_neg h2]; exact ⟨fun h => by omega, fun h => absurd h h2⟩
theorem stepQ_ge (h : HouseR) (l : List Int) (a : Rat) (m : MoveR) : a ≤ stepQ h l a m ∧ moveQ h l m ≤ stepQ h l a m := by
  unfold stepQ
  by_cases c : 0 < cmpQ (moveQ h l m) a
  · rw [if_pos c]
    exact ⟨Rat.le_of_lt (cmpQ_pos.1 c), Rat.le_refl⟩
  · rw [if_neg c]
    exact ⟨Rat.le_refl, Rat.not_lt.1 fun hh => c (cmpQ_pos.2 hh)⟩
theorem lenF_ge (h : HouseR) (l : List Int) : ∀ (ms : List MoveR) (a : Rat), a ≤ ms.foldl (stepQ h l) a ∧ ∀ m ∈ ms, moveQ h l m ≤ ms.foldl (stepQ h l) a
  | [], a => ⟨Rat.le_refl, fun m hm => by simp at hm⟩
  | m :: ms, a => by
    obtain ⟨s1, s2⟩ := stepQ_ge h l a m
    obtain ⟨i1, i2⟩ := lenF_ge h l ms (stepQ h l a m)
    rw [List.foldl_cons]
    refine ⟨Rat.le_trans s1 i1, fun x hx => ?_⟩
    rcases List.mem_cons.1 hx with rfl | hx
    · exact Rat.le_trans s2 i1
    · exact i2 x hx
theorem move_le {h : HouseR} {l : List Int} {q : CueR} {m : MoveR} (hm : m ∈ q.moves) : ¬ 0 < cmpQ (moveQ h l m) (lenF h l q.moves) := fun c =>
  Rat.not_le.2 (cmpQ_pos.1 c) ((lenF_ge h l q.moves 0).2 m hm)
theorem time_nonneg {d : Int} {m : MoveR} (hm : moveP m) (hd : 0 ≤ d ∧ d ≤ 1048576) : 0 ≤ timeQ d m := by
  unfold timeQ
  by_cases h : d = 0
  · rw [if_pos h]; exact Rat.le_refl
  · rw [if_neg h]
    have K := curve_ok hm (d := d) (by omega)
    rw [K.time]
    have hw := K.w
    obtain ⟨_, _, h3, h4, h5⟩ := hm
    have h1 : 0 ≤ 2 * m.rise * m.fall * d + topS d m * topS d m * (m.rise + m.fall) := by
      have a1 : 0 ≤ 2 * m.rise * m.fall * d := Int.mul_nonneg (Int.mul_nonneg (by omega) (by omega)) (by omega)
      have a2 : 0 ≤ (topS d m : Int) * topS d m * (m.rise + m.fall) := Int.mul_nonneg (Int.mul_nonneg (by omega) (by omega)) (by omega)
      omega
    have h2 : 0 < 2 * m.rise * m.fall * topS d m := Int.mul_pos (Int.mul_pos (by omega) (by omega)) (by omega)
    exact Rat.divInt_nonneg h1 (by omega)
theorem len_reached {h : HouseR} {l : List Int} {q : CueR} (g : GivenOk h l q) (hne : q.moves ≠ []) : ∃ m ∈ q.moves, moveQ h l m = lenF h l q.moves := by
  rcases lenF_in h l q.moves 0 with e | ⟨m, hm, e⟩
  · cases hq : q.moves with
    | nil => exact absurd hq hne
    | cons m ms =>
      have hm : m ∈ q.moves := by rw [hq]; simp
      rw [← hq]
      refine ⟨m, hm, ?_⟩
      have h1 := (lenF_ge h l q.moves 0).2 m hm
      have h2 : 0 ≤ moveQ h l m := time_nonneg (g.move hm).1 (distI_range g hm)
      have e' : lenF h l q.moves = 0 := e
      rw [show q.moves.foldl (stepQ h l) 0 = 0 from e] at h1
      rw [e']
      exact Rat.le_antisymm h1 h2
  · exact ⟨m, hm, e.symm⟩
theorem len_again {h : HouseR} {l : List Int} {q : CueR} (g : GivenOk h l q) : lenF h (afterL h l q.moves) q.moves = 0 := by
  have hz : ∀ m ∈ q.moves, moveQ h (afterL h l q.moves) m = 0 := fun m hm => by
    unfold moveQ
    rw [distI_at (after_at g hm), show max (m.to - m.to) (-(m.to - m.to)) = 0 by omega]
    rfl
  rcases lenF_in h (afterL h l q.moves) q.moves 0 with e | ⟨m, hm, e⟩
  · exact e
  · rw [lenF, e]; exact hz m hm
end Go.Proofs.YtdcdfihidnajmaaGreat
set_option linter.unusedSimpArgs false
namespace Go.Proofs.YtdcdfihidnajmaaGreat
set_option linter.unusedVariables false
open Go.RowKit
theorem moves_set (m : MoveR) (s : SetR) : Fn0 Tryz.prog 19 [rowA s.row, .rop m.row] (.b (decide (s.name = m.set))) := by
  refine Fn0.of Tryz.func19 Tryz.ntmps19 rfl rfl rfl ?_
  simp only [entryTm]
  repeat' (first
    | (apply S.assign; exact rfl; exact rfl)
    | (apply S.fieldP; exact rfl; exact rfl; exact rfl)
    | (apply S.loadP; exact rfl; exact rfl; exact rfl; exact rfl)
    | (apply S.fieldR; exact rfl; exact rfl)
    | (apply S.loadR; exact rfl; exact rfl; exact rfl)
    | (apply S.box; exact rfl; exact rfl; exact rfl; exact rfl; exact rfl; exact rfl)
    | (apply S.strEq; exact rfl; exact rfl; exact rfl)
    | apply S.nil
    | apply T.regs
    | (apply T.ret; change Done _ _ _ _ _))
  all_goals exact doneV (by simp) Tryz.results19 rfl (by rfl)
theorem moves_move (s : SetR) (m : MoveR) : Fn0 Tryz.prog 23 [rowA m.row, .rop s.row] (.b (decide (m.set = s.name))) := by
  refine Fn0.of Tryz.func23 Tryz.ntmps23 rfl rfl rfl ?_
  simp only [entryTm]
  repeat' (first
    | (apply S.assign; exact rfl; exact rfl)
    | (apply S.fieldP; exact rfl; exact rfl; exact rfl)
    | (apply S.loadP; exact rfl; exact rfl; exact rfl; exact rfl)
    | (apply S.fieldR; exact rfl; exact rfl)
    | (apply S.loadR; exact rfl; exact rfl; exact rfl)
    | (apply S.box; exact rfl; exact rfl; exact rfl; exact rfl; exact rfl; exact rfl)
    | (apply S.strEq; exact rfl; exact rfl; exact rfl)
    | apply S.nil
    | apply T.regs
    | (apply T.ret; change Done _ _ _ _ _))
  all_goals exact doneV (by simp) Tryz.results23 rfl (by rfl)
/-- A fraction that is the length. -/
def sameQ (p q : Rat) : Prop := p.num = q.num ∧ (p.den : Int) = (q.den : Int)
instance (p q : Rat) : Decidable (sameQ p q) := by unfold sameQ; exact inferInstance
def reachP (h : HouseR) (l : List Int) (q : CueR) (k : Nat) : Prop := (q.moves = [] ∧ (lenF h l q.moves).num = 0) ∨ ∃ m ∈ q.moves.take k, sameQ (moveQ h l m) (lenF h l q.moves)
noncomputable instance (h : HouseR) (l : List Int) (q : CueR) (k : Nat) : Decidable (reachP h l q k) := Classical.propDecidable _
theorem reach_end {h : HouseR} {l : List Int} {q : CueR} (g : GivenOk h l q) : reachP h l q q.moves.length := by
  by_cases hne : q.moves = []
  · refine .inl ⟨hne, ?_⟩
    rw [hne]; rfl
  · obtain ⟨m, hm, e⟩ := len_reached g hne
    exact .inr ⟨m, by rw [List.take_length]; exact hm, by rw [e]; exact ⟨rfl, rfl⟩⟩
theorem reach_succ {h : HouseR} {l : List Int} {q : CueR} {k : Nat} {x : MoveR} (hs : q.moves.take (k + 1) = q.moves.take k ++ [x]) : reachP h l q (k + 1) ↔ reachP h l q k ∨ sameQ (moveQ h l x) (lenF h l q.moves) := by
  unfold reachP
  rw [hs]
  constructor
  · rintro (h1 | ⟨m, hm, he⟩)
    · exact .inl (.inl h1)
    · rcases List.mem_append.1 hm with hm | hm
      · exact .inl (.inr ⟨m, hm, he⟩)
      · obtain rfl : m = x := by simpa using hm
        exact .inr he
  · rintro ((h1 | ⟨m, hm, he⟩) | he)
    · exact .inl h1
    · exact .inr ⟨m, by simp [hm], he⟩
    · exact .inr ⟨x, by simp, he⟩
theorem reach_0A {h : HouseR} {l : List Int} {q : CueR} (h0 : ((q.moves.map MoveR.row).length : Int) = 0) : some (AV.b (decide ((lenF h l q.moves).num = 0))) = some (AV.b (decide (reachP h l q 0))) := by
  have hm : q.moves = [] := by
    have : q.moves.length = 0 := by rw [List.length_map] at h0; omega
    exact List.eq_nil_of_length_eq_zero this
  refine congrArg (fun b => some (AV.b b)) (decide_eq_decide.2 ?_)
  unfold reachP
  constructor
  · intro e; exact .inl ⟨hm, e⟩
  · rintro (⟨_, e⟩ | ⟨m, hm', _⟩)
    · exact e
    · simp at hm'
theorem reach_0B {h : HouseR} {l : List Int} {q : CueR} (h0 : ¬ ((q.moves.map MoveR.row).length : Int) = 0) : some (AV.b false) = some (AV.b (decide (reachP h l q 0))) := by
  refine congrArg (fun b => some (AV.b b)) (decide_eq_false ?_).symm
  rintro (⟨e, _⟩ | ⟨m, hm', _⟩)
  · exact h0 (by rw [e]; rfl)
  · simp at hm'
set_option maxHeartbeats 32000000 in
theorem law_cueMoves (h : HouseR) (l : List Int) (q : CueR) (hf : h.fits) (hq : q.moves.length ≤ 140737488355328) (hl : l.length ≤ 9223372036854775807) : Fn0 Tryz.prog 5 [rowA h.row, .sl (l.map intRow), rowA q.row] (.b true) := by
  have hle : (l.map intRow).length = l.length := List.length_map _
  have hle2 : (q.moves.map MoveR.row).length = q.moves.length := List.length_map _
  have hq' : q.moves.length ≤ 9223372036854775807 := by omega
  have co := law_lone q
  have cl := law_long h (loneOf q) hf (lone_fits hq)
  have rg := r36_given h l q hf hq' hl
  by_cases g0 : givenE h l q = 0
  · have g := givenOk_of g0
    have c1 := cue_length_ok h l q hf hq' hl g0
    have c2 := cue_after_ok h l q hf hq' hl g0
    have g1 := givenE_of (given_after g)
    have hal : (afterL h l q.moves).length ≤ 9223372036854775807 := by rw [afterL_len]; exact hl
    have c3 := cue_length_ok h (afterL h l q.moves) q hf hq' hal g1
    rw [len_again g] at c3
    rw [g0] at rg
    have hlen : (((afterL h l q.moves).map intRow).length : Int) = ((l.map intRow).length : Nat) := by rw [List.length_map, List.length_map, afterL_len]
    refine Fn0.of Tryz.func5 Tryz.ntmps5 rfl rfl rfl ?_
    simp only [entryTm]
    repeat' (first
      | (apply S.move; exact rfl; exact rfl)
      | (apply S.assign; exact rfl; exact rfl)
      | (apply S.gC; exact rfl; exact rfl; exact rfl)
      | (apply S.gCN; exact rfl; exact rfl; exact rfl; exact rfl)
      | (apply S.gTT; exact rfl; exact rfl; assumption)
      | (apply S.gTF; exact rfl; exact rfl; assumption; exact rfl)
      | (apply S.gFF; exact rfl; exact rfl; assumption)
      | (apply S.gFT; exact rfl; exact rfl; assumption; exact rfl)
      | (apply S.fieldP; exact rfl; exact rfl; exact rfl)
      | (apply S.loadP; exact rfl; exact rfl; exact rfl; exact rfl)
      | (apply S.pC; exact rfl; exact rfl; exact rfl)
      | (apply S.pCN; exact rfl; exact rfl; exact rfl)
      | (apply S.pTp; exact rfl; assumption; exact rfl; exact rfl)
      | (apply S.pFp; exact rfl; assumption; exact rfl; exact rfl)
      | (apply T.drawAll anyOrder (by decide +kernel))
      | (apply S.call; exact rfl; exact rfl; exact law_awake; exact rfl)
      | (apply S.call; exact rfl; exact rfl; exact co; exact rfl)
      | (apply S.call; exact rfl; exact rfl; exact cl; exact rfl)
      | (apply S.call; exact rfl; exact rfl; exact rg; exact rfl)
      | (apply S.call; exact rfl; exact rfl; exact c1; exact rfl)
      | (apply S.call; exact rfl; exact rfl; exact c2; exact rfl)
      | (apply S.loadPA; exact rfl; exact rfl; exact rfl; exact rfl)
      | (apply S.box; exact rfl; exact rfl; exact rfl; exact rfl; exact rfl; exact rfl)
      | (apply S.alloc; exact rfl; exact rfl; exact rfl; exact rfl; exact rfl)
      | (apply S.store; exact rfl; exact rfl; exact rfl; exact rfl; exact rfl; exact rfl; exact rfl)
      | (apply S.cmp; exact rfl; exact rfl; exact rfl; exact rfl)
      | (apply S.not; exact rfl; exact rfl; exact rfl)
      | (apply S.extract; exact rfl; exact rfl; exact rfl)
      | (apply S.lenR; exact rfl; exact rfl)
      | (apply S.gsT; exact rfl; exact rfl; exact rfl; intro hc; rotate_left; intro hc; rotate_right)
      | (apply S.gsF; exact rfl; exact rfl; exact rfl; intro hc; rotate_left; intro hc; rotate_right)
      | apply S.nil
      | apply T.regs
      | (apply T.cC; exact rfl)
      | (apply T.cCN; exact rfl)
      | (apply T.cFn; exact rfl; assumption)
      | apply T.seq
      | (apply T.skip; first | change T _ _ _ _ _ | change Done _ _ _ _ _ | change Next _ _ _ _ _ _ | skip)
      | (apply T.ret; change Done _ _ _ _ _)
      | apply T.block)
    all_goals first
      | exact doneV (by simp) Tryz.results5 rfl rfl
      | skip
    all_goals refine T.loopS (fun k => k ≤ q.moves.length) (fun k => q.moves.length - k) (fun k => [(78, .i k), (77, .i (q.moves.map MoveR.row).length), (76, .sl (q.moves.map MoveR.row)), (11, .b (decide (reachP h l q k))), (9, .sl ((afterL h l q.moves).map intRow)), (1, .sl (l.map intRow)), (3, .ptr 0 0), (5, .ptr 1 0), (7, .ptr 2 0)]) (fun k => [.live (h.row.map .lf), .live (q.row.map .lf), .live ((frR (lenF h l q.moves)).map .lf)]) 0 (Nat.zero_le _) (.cons rfl rfl (.cons rfl rfl (.cons rfl rfl (.cons (by first | exact reach_0A (by assumption) | exact reach_0B (by assumption)) rfl (.cons rfl rfl (.cons rfl rfl (.cons rfl rfl (.cons rfl rfl (.cons rfl rfl .nil))))))))) (.live rfl (.live rfl (.live rfl .nil))) ?_
    all_goals
      intro k hk
      by_cases hlt : k < q.moves.length
      · have h1 : (k : Int) < ((q.moves.map MoveR.row).length : Nat) := by omega
        obtain ⟨x, hx⟩ := get_at hlt
        have hb := row_at (R := MoveR.row) hx
        have hsn := snoc_at hx
        have hmem : x ∈ q.moves := List.mem_of_getElem? hx
        obtain ⟨m1, m2, m3, n, hn, m4, m5, m6⟩ := g.move hmem
        have hb2 : (l.map intRow)[(setIdx h x.set).toNat]? = some (intRow n) := row_at' hn
        have hb3 : ((afterL h l q.moves).map intRow)[(setIdx h x.set).toNat]? = some (intRow x.to) := row_at' (after_at g hmem)
        have hi : Fn0 Tryz.prog 18 [.sl (h.sets.map SetR.row), .fn (.func 19) [] [.rop x.row]] (.i (setIdx h x.set)) :=
          indexFuncSet h.sets SetR.row (fun s => s.name = x.set) _ _ (fun _ => rfl) hf.1 rfl fun s _ => moves_set x s
        have ct := prof_time (max (x.to - n) (n - x.to)) x m1 (by omega)
        rw [show timeQ (max (x.to - n) (n - x.to)) x = moveQ h l x by unfold moveQ; rw [distI_at hn, show -(x.to - n) = n - x.to by omega]] at ct
        have cc := r02_cmp (moveQ h l x) (lenF h l q.moves) (fits_move g hmem) (fits_len g fun m hm => hm)
        have hml := move_le (h := h) (l := l) hmem
        have z0 : (0 : Int) = 0 := rfl
        have zx : x.to = x.to := rfl
        repeat' (first
          | (apply S.move; exact rfl; exact rfl)
          | (apply S.assign; exact rfl; exact rfl)
          | (apply S.gC; exact rfl; exact rfl; exact rfl)
          | (apply S.gFF; exact rfl; exact rfl; assumption)
          | (apply S.gFT; exact rfl; exact rfl; assumption; exact rfl)
          | (apply S.fieldP; exact rfl; exact rfl; exact rfl)
          | (apply S.loadP; exact rfl; exact rfl; exact rfl; exact rfl)
          | (apply S.loadR; exact rfl; exact rfl; exact rfl)
          | (apply S.pCN; exact rfl; exact rfl; exact rfl)
          | (apply S.pTp; exact rfl; assumption; exact rfl; exact rfl)
          | (apply S.pFp; exact rfl; assumption; exact rfl; exact rfl)
          | (apply T.drawAll anyOrder (by decide +kernel))
          | (apply S.indexR; exact rfl; exact rfl; exact rfl; exact hb; omega; exact rfl)
          | (apply S.indexR; exact rfl; exact rfl; exact rfl; exact hb2; omega; exact rfl)
          | (apply S.indexR; exact rfl; exact rfl; exact rfl; exact hb3; omega; exact rfl)
          | (apply S.callV; exact rfl; exact hi; exact .cons (.one (.lf _)) (.cons (.fn (.cons (.ptr0 (cs := x.row) rfl) .nil)) .nil); exact rfl; exact rfl)
          | (apply S.call; exact rfl; exact rfl; exact ct; exact rfl)
          | (apply S.call; exact rfl; exact rfl; exact cc; exact rfl)
          | (apply S.max2; exact rfl; exact rfl; exact rfl)
          | (apply S.eq2; exact rfl; exact rfl; exact rfl)
          | (apply S.arith; exact rfl; exact rfl; exact rfl; exact rfl; omega)
          | (apply S.loadPA; exact rfl; exact rfl; exact rfl; exact rfl)
          | (apply S.loadRA; exact rfl; exact rfl; exact rfl; exact rfl)
          | (apply S.alloc; exact rfl; exact rfl; exact rfl; exact rfl; exact rfl)
          | (apply S.store; exact rfl; exact rfl; exact rfl; exact rfl; exact rfl; exact rfl; exact rfl)
          | (apply S.storeD; exact rfl; exact rfl; exact rfl; exact rfl; exact rfl; exact rfl; exact rfl; exact rfl)
          | (apply S.cmp; exact rfl; exact rfl; exact rfl; exact rfl)
          | (apply S.extract; exact rfl; exact rfl; exact rfl)
          | (apply S.makeFunc; exact rfl; exact rfl)
          | (apply S.gsF; exact rfl; exact rfl; exact rfl; intro hc; rotate_left; intro hc; rotate_right)
          | apply S.nil
          | apply T.regs
          | apply T.reg
          | (apply T.cT; exact rfl; assumption)
          | (apply T.cFn; exact rfl; assumption)
          | apply T.seq
          | (apply T.skip; first | change T _ _ _ _ _ | change Done _ _ _ _ _ | change Next _ _ _ _ _ _ | skip)
          | apply T.block)
        all_goals (try change Next _ _ _ _ _ _)
        all_goals first
          | exact Next.go (k + 1) (by omega) (by omega) (.cons rfl rfl (.cons rfl rfl (.cons rfl rfl (.cons (congrArg (fun b => some (AV.b b)) (decide_eq_true ((reach_succ hsn).2 (.inl (by assumption)))).symm) rfl (.cons rfl rfl (.cons rfl rfl (.cons rfl rfl (.cons rfl rfl (.cons rfl rfl .nil))))))))) (.live rfl (.live rfl (.live rfl .nil)))
          | exact Next.go (k + 1) (by omega) (by omega) (.cons rfl rfl (.cons rfl rfl (.cons rfl rfl (.cons (congrArg (fun b => some (AV.b b)) (decide_eq_decide.2 ⟨fun e => (reach_succ hsn).2 (.inr e), fun e => ((reach_succ hsn).1 e).resolve_left (by assumption)⟩)) rfl (.cons rfl rfl (.cons rfl rfl (.cons rfl rfl (.cons rfl rfl (.cons rfl rfl .nil))))))))) (.live rfl (.live rfl (.live rfl .nil)))
      · have h1 : ¬ (k : Int) < ((q.moves.map MoveR.row).length : Nat) := by omega
        have hr : reachP h l q k := by rw [show k = q.moves.length by omega]; exact reach_end g
        have hles : (h.sets.map SetR.row).length = h.sets.length := List.length_map _
        have hfs := hf.1
        repeat' (first
          | (apply S.move; exact rfl; exact rfl)
          | (apply S.fieldP; exact rfl; exact rfl; exact rfl)
          | (apply S.loadP; exact rfl; exact rfl; exact rfl; exact rfl)
          | (apply S.cmp; exact rfl; exact rfl; exact rfl; exact rfl)
          | (apply S.lenR; exact rfl; exact rfl)
          | apply S.nil
          | apply T.regs
          | (apply T.cF; exact rfl; assumption)
          | apply T.seq
          | (apply T.exit; first | change T _ _ _ _ _ | change Done _ _ _ _ _ | change Next _ _ _ _ _ _ | skip)
          | apply T.block)
        refine T.loopS (fun j => j ≤ h.sets.length) (fun j => h.sets.length - j) (fun j => [(133, .i j), (132, .i (h.sets.map SetR.row).length), (131, .sl (h.sets.map SetR.row)), (11, .b (decide (reachP h l q k))), (9, .sl ((afterL h l q.moves).map intRow)), (1, .sl (l.map intRow)), (3, .ptr 0 0), (5, .ptr 1 0)]) (fun _ => [.live (h.row.map .lf), .live (q.row.map .lf)]) 0 (Nat.zero_le _) (.cons rfl rfl (.cons rfl rfl (.cons rfl rfl (.cons rfl rfl (.cons rfl rfl (.cons rfl rfl (.cons rfl rfl (.cons rfl rfl .nil)))))))) (.live rfl (.live rfl .nil)) ?_
        intro j hj
        by_cases hlt2 : j < h.sets.length
        · have h2 : (j : Int) < ((h.sets.map SetR.row).length : Nat) := by omega
          obtain ⟨s, hs⟩ := get_at hlt2
          have hb := row_at (R := SetR.row) hs
          have hgl := g.len
          obtain ⟨n, hn⟩ := get_at (l := l) (k := j) (by omega)
          obtain ⟨a, ha⟩ := get_at (l := afterL h l q.moves) (k := j) (by rw [afterL_len]; omega)
          have hbl := row_at (R := intRow) hn
          have hba := row_at (R := intRow) ha
          have hca : Fn0 Tryz.prog 22 [.sl (q.moves.map MoveR.row), .fn (.func 23) [] [.rop s.row]] (.b (decide (∃ y ∈ q.moves, y.set = s.name))) :=
            containsFuncMove q.moves MoveR.row (fun y => y.set = s.name) _ _ (fun _ => rfl) hq' rfl fun y _ => moves_move s y
          by_cases hex : ∃ y ∈ q.moves, y.set = s.name
          · repeat' (first
            | (apply S.move; exact rfl; exact rfl)
            | (apply S.assign; exact rfl; exact rfl)
            | (apply S.gTFn; exact rfl; exact rfl; assumption; exact rfl)
            | (apply S.fieldP; exact rfl; exact rfl; exact rfl)
            | (apply S.loadP; exact rfl; exact rfl; exact rfl; exact rfl)
            | (apply S.pFn; exact rfl; assumption; exact rfl; exact rfl)
            | (apply T.drawAll anyOrder (by decide +kernel))
            | (apply S.indexR; exact rfl; exact rfl; exact rfl; exact hb; omega; exact rfl)
            | (apply S.callV; exact rfl; exact hca; exact .cons (.one (.lf _)) (.cons (.fn (.cons (.ptr0 (cs := s.row) rfl) .nil)) .nil); exact rfl; exact rfl)
            | (apply S.arith; exact rfl; exact rfl; exact rfl; exact rfl; omega)
            | (apply S.loadRA; exact rfl; exact rfl; exact rfl; exact rfl)
            | (apply S.alloc; exact rfl; exact rfl; exact rfl; exact rfl; exact rfl)
            | (apply S.store; exact rfl; exact rfl; exact rfl; exact rfl; exact rfl; exact rfl; exact rfl)
            | (apply S.cmp; exact rfl; exact rfl; exact rfl; exact rfl)
            | (apply S.notP; exact rfl; exact rfl)
            | (apply S.makeFunc; exact rfl; exact rfl)
            | apply S.nil
            | apply T.regs
            | apply T.reg
            | (apply T.cCN; exact rfl)
            | (apply T.cT; exact rfl; assumption)
            | apply T.seq
            | (apply T.skip; first | change T _ _ _ _ _ | change Done _ _ _ _ _ | change Next _ _ _ _ _ _ | skip)
            | apply T.block)
            all_goals (try change Next _ _ _ _ _ _)
            all_goals exact Next.go (j + 1) (by omega) (by omega) (.cons rfl rfl (.cons rfl rfl (.cons rfl rfl (.cons rfl rfl (.cons rfl rfl (.cons rfl rfl (.cons rfl rfl (.cons rfl rfl .nil)))))))) (.live rfl (.live rfl .nil))
          · have hea : a = n := by
              have := after_stays g hs hex
              rw [ha, hn] at this
              injection this
            subst hea
            have zn : a = a := rfl
            repeat' (first
              | (apply S.move; exact rfl; exact rfl)
              | (apply S.assign; exact rfl; exact rfl)
              | (apply S.gTT; exact rfl; exact rfl; assumption)
              | (apply S.fieldP; exact rfl; exact rfl; exact rfl)
              | (apply S.loadP; exact rfl; exact rfl; exact rfl; exact rfl)
              | (apply S.loadR; exact rfl; exact rfl; exact rfl)
              | (apply S.pTp; exact rfl; assumption; exact rfl; exact rfl)
              | (apply T.drawAll anyOrder (by decide +kernel))
              | (apply S.indexR; exact rfl; exact rfl; exact rfl; exact hb; omega; exact rfl)
              | (apply S.indexR; exact rfl; exact rfl; exact rfl; exact hbl; omega; exact rfl)
              | (apply S.indexR; exact rfl; exact rfl; exact rfl; exact hba; omega; exact rfl)
              | (apply S.callV; exact rfl; exact hca; exact .cons (.one (.lf _)) (.cons (.fn (.cons (.ptr0 (cs := s.row) rfl) .nil)) .nil); exact rfl; exact rfl)
              | (apply S.arith; exact rfl; exact rfl; exact rfl; exact rfl; omega)
              | (apply S.loadRA; exact rfl; exact rfl; exact rfl; exact rfl)
              | (apply S.alloc; exact rfl; exact rfl; exact rfl; exact rfl; exact rfl)
              | (apply S.store; exact rfl; exact rfl; exact rfl; exact rfl; exact rfl; exact rfl; exact rfl)
              | (apply S.cmp; exact rfl; exact rfl; exact rfl; exact rfl)
              | (apply S.notP; exact rfl; exact rfl)
              | (apply S.makeFunc; exact rfl; exact rfl)
              | apply S.nil
              | apply T.regs
              | apply T.reg
              | (apply T.cT; exact rfl; assumption)
              | (apply T.cFn; exact rfl; assumption)
              | apply T.seq
              | (apply T.skip; first | change T _ _ _ _ _ | change Done _ _ _ _ _ | change Next _ _ _ _ _ _ | skip)
              | apply T.block)
            all_goals (try change Next _ _ _ _ _ _)
            all_goals exact Next.go (j + 1) (by omega) (by omega) (.cons rfl rfl (.cons rfl rfl (.cons rfl rfl (.cons rfl rfl (.cons rfl rfl (.cons rfl rfl (.cons rfl rfl (.cons rfl rfl .nil)))))))) (.live rfl (.live rfl .nil))
        · have h2 : ¬ (j : Int) < ((h.sets.map SetR.row).length : Nat) := by omega
          have z0 : (0 : Int) = 0 := rfl
          repeat' (first
            | (apply S.move; exact rfl; exact rfl)
            | (apply S.assign; exact rfl; exact rfl)
            | (apply S.gC; exact rfl; exact rfl; exact rfl)
            | (apply S.gTT; exact rfl; exact rfl; assumption)
            | (apply S.pC; exact rfl; exact rfl; exact rfl)
            | (apply S.pTp; exact rfl; assumption; exact rfl; exact rfl)
            | (apply S.call; exact rfl; exact rfl; exact c3; exact rfl)
            | (apply S.eq2; exact rfl; exact rfl; exact rfl)
            | (apply S.buildN; exact rfl; exact rfl; exact rfl)
            | (apply S.loadPA; exact rfl; exact rfl; exact rfl; exact rfl)
            | (apply S.alloc; exact rfl; exact rfl; exact rfl; exact rfl; exact rfl)
            | (apply S.store; exact rfl; exact rfl; exact rfl; exact rfl; exact rfl; exact rfl; exact rfl)
            | (apply S.cmp; exact rfl; exact rfl; exact rfl; exact rfl)
            | (apply S.extract; exact rfl; exact rfl; exact rfl)
            | apply S.nil
            | apply T.regs
            | (apply T.cF; exact rfl; assumption)
            | apply T.seq
            | (apply T.ret; change Done _ _ _ _ _)
            | (apply T.exit; first | change T _ _ _ _ _ | change Done _ _ _ _ _ | change Next _ _ _ _ _ _ | skip))
          all_goals exact doneV (by simp) Tryz.results5 rfl (congrArg Value.bool (decide_eq_true ⟨rfl, rfl⟩))
  · skip
    refine Fn0.of Tryz.func5 Tryz.ntmps5 rfl rfl rfl ?_
    simp only [entryTm]
    repeat' (first
      | (apply S.move; exact rfl; exact rfl)
      | (apply S.assign; exact rfl; exact rfl)
      | (apply S.gCN; exact rfl; exact rfl; exact rfl; exact rfl)
      | (apply S.gFF; exact rfl; exact rfl; assumption)
      | (apply S.gFT; exact rfl; exact rfl; assumption; exact rfl)
      | (apply S.pC; exact rfl; exact rfl; exact rfl)
      | (apply S.pTp; exact rfl; assumption; exact rfl; exact rfl)
      | (apply S.pFp; exact rfl; assumption; exact rfl; exact rfl)
      | (apply T.drawAll anyOrder (by decide +kernel))
      | (apply S.call; exact rfl; exact rfl; exact law_awake; exact rfl)
      | (apply S.call; exact rfl; exact rfl; exact co; exact rfl)
      | (apply S.call; exact rfl; exact rfl; exact cl; exact rfl)
      | (apply S.call; exact rfl; exact rfl; exact rg; exact rfl)
      | (apply S.loadPA; exact rfl; exact rfl; exact rfl; exact rfl)
      | (apply S.box; exact rfl; exact rfl; exact rfl; exact rfl; exact rfl; exact rfl)
      | (apply S.cmp; exact rfl; exact rfl; exact rfl; exact rfl)
      | (apply S.not; exact rfl; exact rfl; exact rfl)
      | (apply S.lenR; exact rfl; exact rfl)
      | (apply S.gsF; exact rfl; exact rfl; exact rfl; intro hc; rotate_left; intro hc; rotate_right)
      | apply S.nil
      | apply T.regs
      | (apply T.cC; exact rfl)
      | (apply T.cCN; exact rfl)
      | (apply T.cT; exact rfl; assumption)
      | apply T.seq
      | (apply T.skip; first | change T _ _ _ _ _ | change Done _ _ _ _ _ | change Next _ _ _ _ _ _ | skip)
      | (apply T.ret; change Done _ _ _ _ _))
    all_goals exact doneV (by simp) Tryz.results5 rfl (by simp [*])
end Go.Proofs.YtdcdfihidnajmaaGreat
