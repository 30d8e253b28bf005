/- Plain laws of cues: where sets stand after a cue;its length is the greatest time of its moves;repeated it takes no time. No conditions but those of each statement. -/
import Derived.Test.YtocoehahhohpgaaGreatMs
set_option linter.unusedSimpArgs false
set_option linter.unusedVariables false
namespace Go.Proofs.YtocoehahhohpgaaGreat
open Go.RowKit
theorem Ij {h : HouseR} {n : ByteArray} (h0 : 0 <= Aa h n) : ∃ s, h.sets[(Aa h n).toNat]? = some s /\ s.name = n := by
 obtain ⟨s, hs⟩ := Ga (p := fun s : SetR => s.name = n) (l := h.sets) (by show ¬ Aa h n < 0;omega)
 refine ⟨s, hs, ?_⟩
 have key : ∀ (l : List SetR) (s : SetR), ¬ idx (fun s : SetR => s.name = n) l < 0 -> l[(idx (fun s : SetR => s.name = n) l).toNat]? = some s -> s.name = n := by
  intro l
  induction l with
  | nil => intro s _ h;simp at h
  | cons x l ih =>
   intro s h0 h1
   rw [idx] at h0 h1
   by_cases hx : x.name = n
   ·rw [if_pos hx] at h1
    simp at h1
    rw [<- h1];exact hx
   ·rw [if_neg hx] at h0 h1
    split at h1
    ·rename_i hneg
     rw [if_pos hneg] at h0
     omega
    ·rename_i hneg
     have e : (idx (fun s : SetR => s.name = n) l + 1).toNat = (idx (fun s : SetR => s.name = n) l).toNat + 1 := by omega
     rw [e, List.getElem?_cons_succ] at h1
     exact ih s (by have := C1 (fun s : SetR => s.name = n) l;omega) h1
 exact key h.sets s (by show ¬ Aa h n < 0;omega) hs
theorem A2q {h : HouseR} {a b : ByteArray} (ha : 0 <= Aa h a) (hb : 0 <= Aa h b) (e : (Aa h a).toNat = (Aa h b).toNat) : a = b := by
 obtain ⟨s, h1, h2⟩ := Ij ha
 obtain ⟨t, h3, h4⟩ := Ij hb
 rw [e, h3] at h1
 injection h1 with h1
 rw [<- h2, <- h4, h1]
theorem Ky {h : HouseR} {i : Nat} : ∀ (ms : List MoveR) (l : List Int), (∀ m ∈ ms, (Aa h m.set).toNat ≠ i) -> (Ba h l ms)[i]? = l[i]?
 | [], l, _ => rfl
 | m :: ms, l, hm => by
  have := Ky ms (l.set (Aa h m.set).toNat m.to) fun x hx => hm x (by simp [hx])
  rw [List.getElem?_set_ne (hm m (by simp))] at this
  exact this
theorem Zg (h : HouseR) (l : List Int) (a b : List MoveR) : Ba h l (a ++ b) = Ba h (Ba h l a) b := by simp [Ba]
theorem A8t {h : HouseR} {l : List Int} {q : CueR} (g : GivenOk h l q) {m : MoveR} (hm : m ∈ q.moves) : (Ba h l q.moves)[(Aa h m.set).toNat]? = some m.to := by
 obtain ⟨a, b, hab⟩ := List.append_of_mem hm
 obtain ⟨_, h0, hlt, _⟩ := g.move hm
 have hnd := g.right.2.2.2.2.2.2
 rw [hab, show a ++ m :: b = (a ++ [m]) ++ b by simp, Zg, Ky b _ fun x hx e => ?_, Qi, List.getElem?_set_self (by rw [Hh];exact hlt)]
 have hx' : x ∈ q.moves := by rw [hab];simp [hx]
 obtain ⟨_, hx0, _⟩ := g.move hx'
 have hs := A2q hx0 h0 e
 rw [hab, List.map_append, List.map_cons, List.nodup_append, List.nodup_cons] at hnd
 exact hnd.2.1.1 (hs ▸ List.mem_map.2 ⟨x, hx, rfl⟩)
theorem Zl {h : HouseR} {l : List Int} {q : CueR} (g : GivenOk h l q) {i : Nat} {s : SetR} (hs : h.sets[i]? = some s) (hn : ¬ ∃ m ∈ q.moves, m.set = s.name) : (Ba h l q.moves)[i]? = l[i]? := by
 refine Ky q.moves l fun m hm e => hn ⟨m, hm, ?_⟩
 obtain ⟨_, h0, _⟩ := g.move hm
 obtain ⟨t, h1, h2⟩ := Ij h0
 rw [e, hs] at h1
 injection h1 with h1
 rw [<- h2, <- h1]
theorem cmpQ_pos {p q : Rat} : 0 < Bm p q ↔ q < p := by
 unfold Bm
 by_cases h1 : p < q
 ·rw [if_pos h1]
  exact ⟨fun h => by omega, fun h => absurd (Rat.le_of_lt h1) (Rat.not_le.2 h)⟩
 ·rw [if_neg h1]
  by_cases h2 : q < p
  ·rw [if_pos h2];exact ⟨fun _ => h2, fun _ => by omega⟩
  ·rw [if_neg h2];exact ⟨fun h => by omega, fun h => absurd h h2⟩
theorem A7d (h : HouseR) (l : List Int) (a : Rat) (m : MoveR) : a <= Em h l a m /\ Gl h l m <= Em h l a m := by
 unfold Em
 by_cases c : 0 < Bm (Gl h l m) a
 ·rw [if_pos c]
  exact ⟨Rat.le_of_lt (cmpQ_pos.1 c), Rat.le_refl⟩
 ·rw [if_neg c]
  exact ⟨Rat.le_refl, Rat.not_lt.1 fun hh => c (cmpQ_pos.2 hh)⟩
theorem A0g (h : HouseR) (l : List Int) : ∀ (ms : List MoveR) (a : Rat), a <= ms.foldl (Em h l) a /\ ∀ m ∈ ms, Gl h l m <= ms.foldl (Em h l) a
 | [], a => ⟨Rat.le_refl, fun m hm => by simp at hm⟩
 | m :: ms, a => by
  obtain ⟨s1, s2⟩ := A7d h l a m
  obtain ⟨i1, i2⟩ := A0g h l ms (Em h l a m)
  rw [List.foldl_cons]
  refine ⟨Rat.le_trans s1 i1, fun x hx => ?_⟩
  rcases List.mem_cons.1 hx with rfl | hx
  ·exact Rat.le_trans s2 i1
  ·exact i2 x hx
end Go.Proofs.YtocoehahhohpgaaGreat
