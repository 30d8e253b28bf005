/- Contracts of the functions that say whether a house is valid, continued: bricks, lift lines, line sets, beams, houses (the program's side). No conditions but those of each statement. | Contracts of the functions that say whether a house is valid, the last of them: line sets, beams, houses (the program's side). No conditions but those of each statement. -/
import Derived.Test.YtgegcgfdffmoeaaGreatMi
set_option linter.unusedSimpArgs false
namespace Go.Proofs.YtgegcgfdffmoeaaGreat
set_option linter.unusedVariables false
open Go.RowKit

/-! ### Bricks -/
def brickP (x : BrickR) : Prop := nameB x.name = true ∧ (1 ≤ x.weight ∧ x.weight ≤ 1048576) ∧ 0 ≤ x.count ∧ x.count ≤ 60
def sumB (l : List BrickR) : Int := (l.map BrickR.count).sum
def bricksP (l : List BrickR) : Prop := l.length ≤ 8 ∧ (l.map BrickR.name).Nodup ∧ (∀ x ∈ l, brickP x) ∧ sumB l ≤ 60
noncomputable instance (l : List BrickR) : Decidable (bricksP l) := Classical.propDecidable _
/-! ### Lift lines -/
def linesP (l : List Int) (len : Int) : Prop := (2 ≤ l.length ∧ l.length ≤ 10) ∧ (∀ x ∈ l, 0 ≤ x ∧ x ≤ len) ∧ l.Pairwise (· < ·)
noncomputable instance (l : List Int) (len : Int) : Decidable (linesP l len) := Classical.propDecidable _
end Go.Proofs.YtgegcgfdffmoeaaGreat
set_option linter.unusedSimpArgs false
namespace Go.Proofs.YtgegcgfdffmoeaaGreat
set_option linter.unusedVariables false
open Go.RowKit

def setP (s : SetR) : Prop := nameB s.name = true ∧ (0 ≤ s.depth ∧ s.depth ≤ 1048576) ∧ 0 ≤ s.low ∧ s.low ≤ s.high ∧ s.high ≤ 1048576 ∧ (1000 ≤ s.length ∧ s.length ≤ 1048576) ∧ s.length % 1000 = 0 ∧ linesP s.lines s.length ∧
  (0 ≤ s.pipe ∧ s.pipe ≤ 1048576) ∧ (0 ≤ s.arbor ∧ s.arbor ≤ 1048576) ∧ (1 ≤ s.purchase ∧ s.purchase ≤ 2) ∧ (1 ≤ s.most ∧ s.most ≤ 67108864) ∧ (0 ≤ s.brake ∧ s.brake ≤ 67108864) ∧ itemsP s.items s.length ∧ bricksP s.bricks
noncomputable instance (s : SetR) : Decidable (setP s) := Classical.propDecidable _
def SetR.fits (s : SetR) : Prop := s.lines.length ≤ 9223372036854775807 ∧ s.items.length ≤ 9223372036854775807 ∧ s.bricks.length ≤ 9223372036854775807
/-! ### Beams -/
def roofP (x : RoofR) : Prop := nameB x.name = true ∧ (0 ≤ x.from_ ∧ x.from_ ≤ 1048576) ∧ (0 ≤ x.to ∧ x.to ≤ 1048576) ∧ x.from_ ≤ x.to ∧ 0 ≤ x.most ∧ x.most ≤ 67108864
def roofsP (l : List RoofR) : Prop := l.length ≤ 20 ∧ (∀ x ∈ l, roofP x) ∧ (l.map RoofR.name).Nodup
noncomputable instance (l : List RoofR) : Decidable (roofsP l) := Classical.propDecidable _
/-! ### Houses -/
abbrev setIdx (h : HouseR) (n : ByteArray) : Int := idx (fun s : SetR => s.name = n) h.sets
def houseP (h : HouseR) : Prop := nameB h.name = true ∧ 1 ≤ h.height ∧ h.height ≤ 1048576 ∧ h.sets.length ≤ 60 ∧ roofsP h.roofs ∧ (∀ s ∈ h.sets, setP s ∧ s.high ≤ h.height) ∧ (h.sets.map SetR.name).Nodup
noncomputable instance (h : HouseR) : Decidable (houseP h) := Classical.propDecidable _
def HouseR.fits (h : HouseR) : Prop := h.sets.length ≤ 9223372036854775807 ∧ h.roofs.length ≤ 9223372036854775807 ∧ ∀ s ∈ h.sets, s.fits
end Go.Proofs.YtgegcgfdffmoeaaGreat
