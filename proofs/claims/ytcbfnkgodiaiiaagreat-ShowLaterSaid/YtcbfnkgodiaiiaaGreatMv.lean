/- Plain laws of cues: where sets stand after a cue;its length is the greatest time of its moves;repeated it takes no time. No conditions but those of each statement. -/
import Derived.Test.YtcbfnkgodiaiiaaGreatMs
set_option linter.unusedSimpArgs false
set_option linter.unusedVariables false
namespace Go.Proofs.YtcbfnkgodiaiiaaGreat
open Go.RowKit
theorem Iu {h : HouseR} {n : ByteArray} (h0 : 0 <= Ad h n) : ∃ s, h.sets[(Ad h n).toNat]? = some s /\ s.name = n := by
 obtain ⟨s, hs⟩ := Hd (p := fun s : SetR => s.name = n) (l := h.sets) (by show ¬ Ad h n < 0;omega)
 refine ⟨s, hs, ?_⟩
 have key : ∀ (l : List SetR) (s : SetR), ¬ idx (fun s : SetR => s.name = n) l < 0 -> l[(idx (fun s : SetR => s.name = n) l).toNat]? = some s -> s.name = n := by
  intro l
  induction l with
  | nil => intro s _ h;simp at h
  | cons x l ih =>
   intro s h0 h1
   rw [idx] at h0 h1
   by_cases hx : x.name = n
   ·rw [if_pos hx] at h1
    simp at h1
    rw [<- h1];exact hx
   ·rw [if_neg hx] at h0 h1
    split at h1
    ·rename_i hneg
     rw [if_pos hneg] at h0
     omega
    ·rename_i hneg
     have e : (idx (fun s : SetR => s.name = n) l + 1).toNat = (idx (fun s : SetR => s.name = n) l).toNat + 1 := by omega
     rw [e, List.getElem?_cons_succ] at h1
     exact ih s (by have := Ch (fun s : SetR => s.name = n) l;omega) h1
 exact key h.sets s (by show ¬ Ad h n < 0;omega) hs
theorem A20 {h : HouseR} {a b : ByteArray} (ha : 0 <= Ad h a) (hb : 0 <= Ad h b) (e : (Ad h a).toNat = (Ad h b).toNat) : a = b := by
 obtain ⟨s, h1, h2⟩ := Iu ha
 obtain ⟨t, h3, h4⟩ := Iu hb
 rw [e, h3] at h1
 injection h1 with h1
 rw [<- h2, <- h4, h1]
theorem L8 {h : HouseR} {i : Nat} : ∀ (ms : List MoveR) (l : List Int), (∀ m ∈ ms, (Ad h m.set).toNat ≠ i) -> (Bd h l ms)[i]? = l[i]?
 | [], l, _ => rfl
 | m :: ms, l, hm => by
  have := L8 ms (l.set (Ad h m.set).toNat m.to) fun x hx => hm x (by simp [hx])
  rw [List.getElem?_set_ne (hm m (by simp))] at this
  exact this
theorem A0i (h : HouseR) (l : List Int) (a b : List MoveR) : Bd h l (a ++ b) = Bd h (Bd h l a) b := by simp [Bd]
theorem A7x {h : HouseR} {l : List Int} {q : CueR} (g : GivenOk h l q) {m : MoveR} (hm : m ∈ q.moves) : (Bd h l q.moves)[(Ad h m.set).toNat]? = some m.to := by
 obtain ⟨a, b, hab⟩ := List.append_of_mem hm
 obtain ⟨_, h0, hlt, _⟩ := g.move hm
 have hnd := g.right.2.2.2.2.2.2
 rw [hab, show a ++ m :: b = (a ++ [m]) ++ b by simp, A0i, L8 b _ fun x hx e => ?_, Qu, List.getElem?_set_self (by rw [Hz];exact hlt)]
 have hx' : x ∈ q.moves := by rw [hab];simp [hx]
 obtain ⟨_, hx0, _⟩ := g.move hx'
 have hs := A20 hx0 h0 e
 rw [hab, List.map_append, List.map_cons, List.nodup_append, List.nodup_cons] at hnd
 exact hnd.2.1.1 (hs ▸ List.mem_map.2 ⟨x, hx, rfl⟩)
theorem A04 {h : HouseR} {l : List Int} {q : CueR} (g : GivenOk h l q) {i : Nat} {s : SetR} (hs : h.sets[i]? = some s) (hn : ¬ ∃ m ∈ q.moves, m.set = s.name) : (Bd h l q.moves)[i]? = l[i]? := by
 refine L8 q.moves l fun m hm e => hn ⟨m, hm, ?_⟩
 obtain ⟨_, h0, _⟩ := g.move hm
 obtain ⟨t, h1, h2⟩ := Iu h0
 rw [e, hs] at h1
 injection h1 with h1
 rw [<- h2, <- h1]
theorem cmpQ_pos {p q : Rat} : 0 < C2 p q ↔ q < p := by
 unfold C2
 by_cases h1 : p < q
 ·rw [if_pos h1]
  exact ⟨fun h => by omega, fun h => absurd (Rat.le_of_lt h1) (Rat.not_le.2 h)⟩
 ·rw [if_neg h1]
  by_cases h2 : q < p
  ·rw [if_pos h2];exact ⟨fun _ => h2, fun _ => by omega⟩
  ·rw [if_neg h2];exact ⟨fun h => by omega, fun h => absurd h h2⟩
theorem A9m (h : HouseR) (l : List Int) (a : Rat) (m : MoveR) : a <= F3 h l a m /\ Gw h l m <= F3 h l a m := by
 unfold F3
 by_cases c : 0 < C2 (Gw h l m) a
 ·rw [if_pos c]
  exact ⟨Rat.le_of_lt (cmpQ_pos.1 c), Rat.le_refl⟩
 ·rw [if_neg c]
  exact ⟨Rat.le_refl, Rat.not_lt.1 fun hh => c (cmpQ_pos.2 hh)⟩
theorem A1n (h : HouseR) (l : List Int) : ∀ (ms : List MoveR) (a : Rat), a <= ms.foldl (F3 h l) a /\ ∀ m ∈ ms, Gw h l m <= ms.foldl (F3 h l) a
 | [], a => ⟨Rat.le_refl, fun m hm => by simp at hm⟩
 | m :: ms, a => by
  obtain ⟨s1, s2⟩ := A9m h l a m
  obtain ⟨i1, i2⟩ := A1n h l ms (F3 h l a m)
  rw [List.foldl_cons]
  refine ⟨Rat.le_trans s1 i1, fun x hx => ?_⟩
  rcases List.mem_cons.1 hx with rfl | hx
  ·exact Rat.le_trans s2 i1
  ·exact i2 x hx
end Go.Proofs.YtcbfnkgodiaiiaaGreat
