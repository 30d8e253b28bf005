/- Plain laws of cues: where sets stand after a cue; its length is the greatest time of its moves; repeated it takes no time. No conditions but those of each statement. -/
import Derived.Test.YtfchdagalklgpaaGreatDoorMs
set_option linter.unusedSimpArgs false
namespace Go.Proofs.YtfchdagalklgpaaGreatDoor
set_option linter.unusedVariables false
open Go.RowKit
/-- The set that is found has the name. -/
theorem setIdx_name {h : HouseR} {n : ByteArray} (h0 : 0 ≤ setIdx h n) : ∃ s, h.sets[(setIdx h n).toNat]? = some s ∧ s.name = n := by
  obtain ⟨s, hs⟩ := idx_get (p := fun s : SetR => s.name = n) (l := h.sets) (by show ¬ setIdx h n < 0; omega)
  refine ⟨s, hs, ?_⟩
  have key : ∀ (l : List SetR) (s : SetR), ¬ idx (fun s : SetR => s.name = n) l < 0 → l[(idx (fun s : SetR => s.name = n) l).toNat]? = some s → s.name = n := by
    intro l
    induction l with
    | nil => intro s _ h; simp at h
    | cons x l ih =>
      intro s h0 h1
      rw [idx] at h0 h1
      by_cases hx : x.name = n
      · rw [if_pos hx] at h1
        simp at h1
        rw [← h1]; exact hx
      · rw [if_neg hx] at h0 h1
        split at h1
        · rename_i hneg
          rw [if_pos hneg] at h0
          omega
        · rename_i hneg
          have e : (idx (fun s : SetR => s.name = n) l + 1).toNat = (idx (fun s : SetR => s.name = n) l).toNat + 1 := by omega
          rw [e, List.getElem?_cons_succ] at h1
          exact ih s (by have := idx_ge_neg (fun s : SetR => s.name = n) l; omega) h1
  exact key h.sets s (by show ¬ setIdx h n < 0; omega) hs
theorem setIdx_inj {h : HouseR} {a b : ByteArray} (ha : 0 ≤ setIdx h a) (hb : 0 ≤ setIdx h b) (e : (setIdx h a).toNat = (setIdx h b).toNat) : a = b := by
  obtain ⟨s, h1, h2⟩ := setIdx_name ha
  obtain ⟨t, h3, h4⟩ := setIdx_name hb
  rw [e, h3] at h1
  injection h1 with h1
  rw [← h2, ← h4, h1]
/-- Moves of other sets leave a place alone. -/
theorem after_other {h : HouseR} {i : Nat} : ∀ (ms : List MoveR) (l : List Int), (∀ m ∈ ms, (setIdx h m.set).toNat ≠ i) → (afterL h l ms)[i]? = l[i]?
  | [], l, _ => rfl
  | m :: ms, l, hm => by
    have := after_other ms (l.set (setIdx h m.set).toNat m.to) fun x hx => hm x (by simp [hx])
    rw [List.getElem?_set_ne (hm m (by simp))] at this
    exact this
theorem after_split (h : HouseR) (l : List Int) (a b : List MoveR) : afterL h l (a ++ b) = afterL h (afterL h l a) b := by simp [afterL]
theorem after_at {h : HouseR} {l : List Int} {q : CueR} (g : GivenOk h l q) {m : MoveR} (hm : m ∈ q.moves) : (afterL h l q.moves)[(setIdx h m.set).toNat]? = some m.to := by
  obtain ⟨a, b, hab⟩ := List.append_of_mem hm
  obtain ⟨_, h0, hlt, _⟩ := g.move hm
  have hnd := g.right.2.2.2.2.2.2
  rw [hab, show a ++ m :: b = (a ++ [m]) ++ b by simp, after_split, after_other b _ fun x hx e => ?_, afterL_snoc, List.getElem?_set_self (by rw [afterL_len]; exact hlt)]
  have hx' : x ∈ q.moves := by rw [hab]; simp [hx]
  obtain ⟨_, hx0, _⟩ := g.move hx'
  have hs := setIdx_inj hx0 h0 e
  rw [hab, List.map_append, List.map_cons, List.nodup_append, List.nodup_cons] at hnd
  exact hnd.2.1.1 (hs ▸ List.mem_map.2 ⟨x, hx, rfl⟩)
theorem after_stays {h : HouseR} {l : List Int} {q : CueR} (g : GivenOk h l q) {i : Nat} {s : SetR} (hs : h.sets[i]? = some s) (hn : ¬ ∃ m ∈ q.moves, m.set = s.name) : (afterL h l q.moves)[i]? = l[i]? := by
  refine after_other q.moves l fun m hm e => hn ⟨m, hm, ?_⟩
  obtain ⟨_, h0, _⟩ := g.move hm
  obtain ⟨t, h1, h2⟩ := setIdx_name h0
  rw [e, hs] at h1
  injection h1 with h1
  rw [← h2, ← h1]
theorem given_after {h : HouseR} {l : List Int} {q : CueR} (g : GivenOk h l q) : GivenOk h (afterL h l q.moves) q :=
  ⟨g.house, g.right, by rw [afterL_len]; exact g.len, trimsIn_after g.right q.moves l (fun m hm => hm) g.trims⟩
theorem givenE_of {h : HouseR} {l : List Int} {q : CueR} (g : GivenOk h l q) : givenE h l q = 0 := givenE_0 ⟨g.house, g.right⟩ g.len g.trims
theorem cmpQ_pos {p q : Rat} : 0 < cmpQ p q ↔ q < p := by
  unfold cmpQ
  by_cases h1 : p < q
  · rw [if_pos h1]
    exact ⟨fun h => by omega, fun h => absurd (Rat.le_of_lt h1) (Rat.not_le.2 h)⟩
  · rw [if_neg h1]
    by_cases h2 : q < p
    · rw [if_pos h2]; exact ⟨fun _ => h2, fun _ => by omega⟩
    · rw [if_neg h2]; exact ⟨fun h => by omega, fun h => absurd h h2⟩
theorem stepQ_ge (h : HouseR) (l : List Int) (a : Rat) (m : MoveR) : a ≤ stepQ h l a m ∧ moveQ h l m ≤ stepQ h l a m := by
  unfold stepQ
  by_cases c : 0 < cmpQ (moveQ h l m) a
  · rw [if_pos c]
    exact ⟨Rat.le_of_lt (cmpQ_pos.1 c), Rat.le_refl⟩
  · rw [if_neg c]
    exact ⟨Rat.le_refl, Rat.not_lt.1 fun hh => c (cmpQ_pos.2 hh)⟩
theorem lenF_ge (h : HouseR) (l : List Int) : ∀ (ms : List MoveR) (a : Rat), a ≤ ms.foldl (stepQ h l) a ∧ ∀ m ∈ ms, moveQ h l m ≤ ms.foldl (stepQ h l) a
  | [], a => ⟨Rat.le_refl, fun m hm => by simp at hm⟩
  | m :: ms, a => by
    obtain ⟨s1, s2⟩ := stepQ_ge h l a m
    obtain ⟨i1, i2⟩ := lenF_ge h l ms (stepQ h l a m)
    rw [List.foldl_cons]
    refine ⟨Rat.le_trans s1 i1, fun x hx => ?_⟩
    rcases List.mem_cons.1 hx with rfl | hx
    · exact Rat.le_trans s2 i1
    · exact i2 x hx
theorem move_le {h : HouseR} {l : List Int} {q : CueR} {m : MoveR} (hm : m ∈ q.moves) : ¬ 0 < cmpQ (moveQ h l m) (lenF h l q.moves) := fun c =>
  Rat.not_le.2 (cmpQ_pos.1 c) ((lenF_ge h l q.moves 0).2 m hm)
theorem time_nonneg {d : Int} {m : MoveR} (hm : moveP m) (hd : 0 ≤ d ∧ d ≤ 1048576) : 0 ≤ timeQ d m := by
  unfold timeQ
  by_cases h : d = 0
  · rw [if_pos h]; exact Rat.le_refl
  · rw [if_neg h]
    have K := curve_ok hm (d := d) (by omega)
    rw [K.time]
    have hw := K.w
    obtain ⟨_, _, h3, h4, h5⟩ := hm
    have h1 : 0 ≤ 2 * m.rise * m.fall * d + topS d m * topS d m * (m.rise + m.fall) := by
      have a1 : 0 ≤ 2 * m.rise * m.fall * d := Int.mul_nonneg (Int.mul_nonneg (by omega) (by omega)) (by omega)
      have a2 : 0 ≤ (topS d m : Int) * topS d m * (m.rise + m.fall) := Int.mul_nonneg (Int.mul_nonneg (by omega) (by omega)) (by omega)
      omega
    have h2 : 0 < 2 * m.rise * m.fall * topS d m := Int.mul_pos (Int.mul_pos (by omega) (by omega)) (by omega)
    exact Rat.divInt_nonneg h1 (by omega)
theorem len_reached {h : HouseR} {l : List Int} {q : CueR} (g : GivenOk h l q) (hne : q.moves ≠ []) : ∃ m ∈ q.moves, moveQ h l m = lenF h l q.moves := by
  rcases lenF_in h l q.moves 0 with e | ⟨m, hm, e⟩
  · cases hq : q.moves with
    | nil => exact absurd hq hne
    | cons m ms =>
      have hm : m ∈ q.moves := by rw [hq]; simp
      rw [← hq]
      refine ⟨m, hm, ?_⟩
      have h1 := (lenF_ge h l q.moves 0).2 m hm
      have h2 : 0 ≤ moveQ h l m := time_nonneg (g.move hm).1 (distI_range g hm)
      have e' : lenF h l q.moves = 0 := e
      rw [show q.moves.foldl (stepQ h l) 0 = 0 from e] at h1
      rw [e']
      exact Rat.le_antisymm h1 h2
  · exact ⟨m, hm, e.symm⟩
theorem len_again {h : HouseR} {l : List Int} {q : CueR} (g : GivenOk h l q) : lenF h (afterL h l q.moves) q.moves = 0 := by
  have hz : ∀ m ∈ q.moves, moveQ h (afterL h l q.moves) m = 0 := fun m hm => by
    unfold moveQ
    rw [distI_at (after_at g hm), show max (m.to - m.to) (-(m.to - m.to)) = 0 by omega]
    rfl
  rcases lenF_in h (afterL h l q.moves) q.moves 0 with e | ⟨m, hm, e⟩
  · exact e
  · rw [lenF, e]; exact hz m hm
end Go.Proofs.YtfchdagalklgpaaGreatDoor
