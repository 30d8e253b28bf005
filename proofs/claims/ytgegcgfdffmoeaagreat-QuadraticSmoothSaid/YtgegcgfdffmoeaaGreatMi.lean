/- Contracts of the functions that say whether a house is valid: names, beams, items, bricks, line sets (the program's side). No conditions but those of each statement. | Contracts of the functions that say whether a house is valid, continued: lists of items and of bricks, lift lines (the program's side). No conditions but those of each statement. -/
import Derived.Test.YtgegcgfdffmoeaaGreatMh
set_option linter.unusedSimpArgs false
namespace Go.Proofs.YtgegcgfdffmoeaaGreat
set_option linter.unusedVariables false
open Go.RowKit

/-! ### Names -/
def nameB (s : ByteArray) : Bool := decide (¬ s = ⟨#[]⟩) && decide ((s.size : Int) ≤ 20) && (match s[0]? with | some c => decide (letI' c.toNat) | none => false) && decide ((wordLen s : Int) = s.size)
/-! ### Data -/
structure ItemR where
  name : ByteArray
  at_ : Int
  width : Int
  weight : Int
  hang : Int
  front : Int
  back : Int
def ItemR.row (x : ItemR) : List Lf := [.s x.name, .i x.at_, .i x.width, .i x.weight, .i x.hang, .i x.front, .i x.back]
structure BrickR where
  name : ByteArray
  weight : Int
  count : Int
def BrickR.row (x : BrickR) : List Lf := [.s x.name, .i x.weight, .i x.count]
structure SetR where
  name : ByteArray
  depth : Int
  low : Int
  high : Int
  length : Int
  lines : List Int
  pipe : Int
  arbor : Int
  purchase : Int
  most : Int
  brake : Int
  items : List ItemR
  bricks : List BrickR
def intRow (n : Int) : List Lf := [.i n]
def SetR.row (s : SetR) : List Lf := [.s s.name, .i s.depth, .i s.low, .i s.high, .i s.length, .sl (s.lines.map intRow), .i s.pipe, .i s.arbor, .i s.purchase, .i s.most, .i s.brake, .sl (s.items.map ItemR.row), .sl (s.bricks.map BrickR.row)]
structure RoofR where
  name : ByteArray
  from_ : Int
  to : Int
  most : Int
def RoofR.row (x : RoofR) : List Lf := [.s x.name, .i x.from_, .i x.to, .i x.most]
structure HouseR where
  name : ByteArray
  height : Int
  sets : List SetR
  roofs : List RoofR
def HouseR.row (h : HouseR) : List Lf := [.s h.name, .i h.height, .sl (h.sets.map SetR.row), .sl (h.roofs.map RoofR.row)]
abbrev rowA (l : List Lf) : AV := .agg (l.map .lf)

/-! ### Items -/
def aloneP (x : ItemR) : Prop := nameB x.name = true ∧ (0 ≤ x.weight ∧ x.weight ≤ 1048576) ∧ (0 ≤ x.hang ∧ x.hang ≤ 1048576) ∧ (0 ≤ x.front ∧ x.front ≤ 1048576) ∧ (0 ≤ x.back ∧ x.back ≤ 1048576)
instance (x : ItemR) : Decidable (aloneP x) := by unfold aloneP;exact inferInstance
def insideP (x : ItemR) (length : Int) : Prop := 0 ≤ x.at_ ∧ (1 ≤ x.width ∧ x.width ≤ 1048576) ∧ x.at_ ≤ length - x.width
instance (x : ItemR) (l : Int) : Decidable (insideP x l) := by unfold insideP;exact inferInstance
def apartP (x y : ItemR) : Prop := x.at_ + x.width ≤ y.at_ ∨ y.at_ + y.width ≤ x.at_
instance (x y : ItemR) : Decidable (apartP x y) := by unfold apartP;exact inferInstance
end Go.Proofs.YtgegcgfdffmoeaaGreat
set_option linter.unusedSimpArgs false
namespace Go.Proofs.YtgegcgfdffmoeaaGreat
set_option linter.unusedVariables false
open Go.RowKit
theorem anyOrder : Tryz.prog.follows .mixedOrders = true := by kernel_rfl

/-! ### Names that occur twice -/
def esOf {α : Type} (nm : α → ByteArray) (l : List α) : List (ByteArray × Value) := l.foldl (fun es x => putM es (nm x) (.agg #[])) []
/-! ### Lists of items -/
def okI (len : Int) (m : List ItemR) : Prop := (∀ x ∈ m, aloneP x ∧ insideP x len) ∧ m.Pairwise fun y x => apartP x y
def itemsP (l : List ItemR) (len : Int) : Prop := l.length ≤ 40 ∧ (l.map ItemR.name).Nodup ∧ okI len l
noncomputable instance (l : List ItemR) (len : Int) : Decidable (itemsP l len) := Classical.propDecidable _
end Go.Proofs.YtgegcgfdffmoeaaGreat
