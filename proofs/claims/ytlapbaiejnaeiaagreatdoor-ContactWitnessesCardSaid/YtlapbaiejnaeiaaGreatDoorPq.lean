/- Lemmas of the proof. -/
import Derived.Test.YtlapbaiejnaeiaaGreatDoorPf
import Derived.Test.YtlapbaiejnaeiaaGreatDoorXg
import Derived.Test.YtlapbaiejnaeiaaGreatDoorOm
import Derived.Test.YtlapbaiejnaeiaaGreatDoorPe
import Derived.Test.YtlapbaiejnaeiaaGreatDoorPh
set_option linter.all false
namespace Go.Proofs.YtlapbaiejnaeiaaGreatDoor
open Go Go.RowKit
/-! ### The curve of a move -/
structure PairP (h : HouseR) (c : SheetR) (G : List Int) (p : ByteArray × ByteArray) (a b : SetR) : Prop where
 ha : Ip h p.1 = some a
 hb : Ip h p.2 = some b
 e1 : Cf h c G p.1 = 0
 e2 : Cf h c G p.2 = 0
 two : Two a b (Bc h c G p.1) (Bc h c G p.2)
 ct : ctR h c G p = pr3 (F8 a b (Bc h c G p.1) (Bc h c G p.2) (En h c G))
theorem A68 {h : HouseR} {c : SheetR} {G : List Int} (hf : h.fits) (po : PlanOk h c G) {p : ByteArray × ByteArray} (hm : p ∈ Di h) (g : Cx h c G p) : ∃ a b, PairP h c G p a b := by
 have hp := po.v.1
 obtain ⟨n1, n2⟩ := R5 hm
 obtain ⟨a, ha⟩ : ∃ a, h.sets[(Ae h p.1).toNat]? = some a := J5 n1
 obtain ⟨b, hb⟩ : ∃ b, h.sets[(Ae h p.2).toNat]? = some b := J5 n2
 have hsa : Ip h p.1 = some a := ha
 have hsb : Ip h p.2 = some b := hb
 have hct : ctR h c G p = if Cf h c G p.1 = 0 then (if Cf h c G p.2 = 0 then frT a b (Bc h c G p.1) (Bc h c G p.2) (En h c G) else (0, 0, Cf h c G p.2)) else (0, 0, Cf h c G p.1) := by unfold ctR;rw [hsa, hsb]
 have e1 : Cf h c G p.1 = 0 := a2l.1 fun k => by
  rw [if_neg k] at hct
  unfold Cx at g
  rw [hct] at g
  exact g.elim k (P9 h c G p.1)
 rw [if_pos e1] at hct
 have e2 : Cf h c G p.2 = 0 := a2l.1 fun k => by
  rw [if_neg k] at hct
  unfold Cx at g
  rw [hct] at g
  exact g.elim k (P9 h c G p.2)
 rw [if_pos e2] at hct
 obtain ⟨ox, x0, nx⟩ := So po hsa e1
 obtain ⟨oy, y0, ny⟩ := So po hsb e2
 have ma := a0c ha
 have mb := a0c hb
 have hs : Be (Bc h c G p.1) /\ Be (Bc h c G p.2) := a2l.1 fun k => by
  unfold frT at hct
  rw [if_neg k] at hct
  unfold Cx at g
  rw [hct] at g
  exact g.elim (by decide) (by decide)
 refine ⟨a, b, hsa, hsb, e1, e2, ⟨(hp.2.2.2.2.2.1 a ma).1, (hp.2.2.2.2.2.1 b mb).1, hf.2.2 a ma, hf.2.2 b mb, ox, oy, x0, y0, hs.1, hs.2, nx, ny⟩, ?_⟩
 rw [hct]
 unfold frT
 rw [if_pos hs]
end Go.Proofs.YtlapbaiejnaeiaaGreatDoor
