/- Lemmas of the proof. -/
import Derived.Test.YtlapbaiejnaeiaaGreatDoorPf
import Derived.Test.YtlapbaiejnaeiaaGreatDoorMq
import Derived.Test.YtlapbaiejnaeiaaGreatDoorOq
import Derived.Test.YtlapbaiejnaeiaaGreatDoorPe
set_option linter.all false
namespace Go.Proofs.YtlapbaiejnaeiaaGreatDoor
open Go Go.RowKit
theorem Hk {A B : List PcQ} {i : Nat} (h : i < A.length) : Ad (A ++ B) i = Ad A i := by
 unfold Ad
 rw [a0j, a0j, a1h h]
theorem Oi (A : List PcQ) (y : PcQ) : Ad (A ++ [y]) A.length = y := by
 unfold Ad
 simp
/-! ### The curve of a move -/
theorem A00 (d : Int) (m : MoveR) : ∃ y Y, Di d m = y :: Y /\ y.a = 0 /\ (y :: Y).getLast (by simp) = ⟨Fg d m, (d : Rat), 0, 0⟩ := by
 unfold Di
 split
 ·exact ⟨_, _, rfl, rfl, rfl⟩
 ·exact ⟨_, _, rfl, rfl, rfl⟩
theorem mvO_spec {q : CueR} {n : ByteArray} : (∀ m, mvO q n = some m -> m ∈ q.moves /\ m.set = n) /\ (mvO q n = none -> ¬ ∃ m ∈ q.moves, m.set = n) := by
 have key : ∀ (l : List MoveR), ¬ idx (fun m : MoveR => m.set = n) l < 0 -> ∀ m, l[(idx (fun m : MoveR => m.set = n) l).toNat]? = some m -> m.set = n := by
  intro l
  induction l with
  | nil => intro h0 m h;simp at h
  | cons x l ih =>
   intro h0 m h1
   rw [idx] at h0 h1
   by_cases hx : x.set = n
   ·rw [if_pos hx] at h1
    simp at h1
    rw [<- h1];exact hx
   ·rw [if_neg hx] at h0 h1
    split at h1
    ·rename_i hneg
     rw [if_pos hneg] at h0
     omega
    ·rename_i hneg
     have e : (idx (fun m : MoveR => m.set = n) l + 1).toNat = (idx (fun m : MoveR => m.set = n) l).toNat + 1 := by
      have := Bw (fun m : MoveR => m.set = n) l
      omega
     rw [e, a2g] at h1
     exact ih (by have := Bw (fun m : MoveR => m.set = n) l;omega) m h1
 constructor
 ·intro m hm
  refine ⟨A1z hm, ?_⟩
  unfold mvO at hm
  split at hm
  ·cases hm
  ·rename_i h0
   exact key q.moves h0 m hm
 ·rintro hn ⟨m, hm, e⟩
  have h0 : ¬ idx (fun m : MoveR => m.set = n) q.moves = -1 := H5 ⟨m, hm, e⟩
  have h1 := Bw (fun m : MoveR => m.set = n) q.moves
  have h2 : ¬ mvI q n < 0 := by show ¬ idx _ _ < 0;omega
  unfold mvO at hn
  rw [if_neg h2] at hn
  obtain ⟨x, hx⟩ := Ee (p := fun m : MoveR => m.set = n) (l := q.moves) h2
  change q.moves[(mvI q n).toNat]? = some x at hx
  rw [hx] at hn
  cases hn
theorem A7u {h : HouseR} (hp : Cm h) {k : Nat} {s : SetR} (hs : h.sets[k]? = some s) : Ae h s.name = k := by
 have hi : ¬ Ae h s.name = -1 := H5 ⟨s, a0b hs, rfl⟩
 have h2 : -1 <= Ae h s.name := Bw _ _
 obtain ⟨t, h3, h4⟩ := A0m (h := h) (n := s.name) (by omega)
 have := Aai hp.2.2.2.2.2.2 h3 hs h4
 omega
theorem Rm : mil 0 = 0 := by decide +kernel
structure PairP (h : HouseR) (c : SheetR) (G : List Int) (p : ByteArray × ByteArray) (a b : SetR) : Prop where
 ha : Fh h p.1 = some a
 hb : Fh h p.2 = some b
 e1 : Ce h c G p.1 = 0
 e2 : Ce h c G p.2 = 0
 two : Two a b (Az h c G p.1) (Az h c G p.2)
 ct : ctR h c G p = pr3 (Gi a b (Az h c G p.1) (Az h c G p.2) (Ez h c G))
theorem A74 {h : HouseR} {c : SheetR} {G : List Int} (hf : h.fits) (po : PlanOk h c G) {p : ByteArray × ByteArray} (hm : p ∈ Aa h) (g : Cq h c G p) : ∃ a b, PairP h c G p a b := by
 have hp := po.v.1
 obtain ⟨n1, n2⟩ := Rn hm
 obtain ⟨a, ha⟩ : ∃ a, h.sets[(Ae h p.1).toNat]? = some a := Ee n1
 obtain ⟨b, hb⟩ : ∃ b, h.sets[(Ae h p.2).toNat]? = some b := Ee n2
 have hsa : Fh h p.1 = some a := ha
 have hsb : Fh h p.2 = some b := hb
 have hct : ctR h c G p = if Ce h c G p.1 = 0 then (if Ce h c G p.2 = 0 then frT a b (Az h c G p.1) (Az h c G p.2) (Ez h c G) else (0, 0, Ce h c G p.2)) else (0, 0, Ce h c G p.1) := by unfold ctR;rw [hsa, hsb]
 have e1 : Ce h c G p.1 = 0 := a1x.1 fun k => by
  rw [if_neg k] at hct
  unfold Cq at g
  rw [hct] at g
  exact g.elim k (Px h c G p.1)
 rw [if_pos e1] at hct
 have e2 : Ce h c G p.2 = 0 := a1x.1 fun k => by
  rw [if_neg k] at hct
  unfold Cq at g
  rw [hct] at g
  exact g.elim k (Px h c G p.2)
 rw [if_pos e2] at hct
 obtain ⟨ox, x0, nx⟩ := T4 po hsa e1
 obtain ⟨oy, y0, ny⟩ := T4 po hsb e2
 have ma := a0b ha
 have mb := a0b hb
 have hs : Aj (Az h c G p.1) /\ Aj (Az h c G p.2) := a1x.1 fun k => by
  unfold frT at hct
  rw [if_neg k] at hct
  unfold Cq at g
  rw [hct] at g
  exact g.elim (by decide) (by decide)
 refine ⟨a, b, hsa, hsb, e1, e2, ⟨(hp.2.2.2.2.2.1 a ma).1, (hp.2.2.2.2.2.1 b mb).1, hf.2.2 a ma, hf.2.2 b mb, ox, oy, x0, y0, hs.1, hs.2, nx, ny⟩, ?_⟩
 rw [hct]
 unfold frT
 rw [if_pos hs]
end Go.Proofs.YtlapbaiejnaeiaaGreatDoor
