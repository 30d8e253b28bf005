/- Contracts of the reference's functions that say whether a house is valid, the last of them;moves;cues that are right. No conditions but those of each statement. | Contracts: moves, cues that are right (the program's and the reference's side). No conditions but those of each statement. -/
import Derived.Test.YtgegcgfdffmoeaaGreatMk
set_option linter.unusedSimpArgs false
namespace Go.Proofs.YtgegcgfdffmoeaaGreat
set_option linter.unusedVariables false
open Go.RowKit

/-! ### Line sets and houses -/
end Go.Proofs.YtgegcgfdffmoeaaGreat
set_option linter.unusedSimpArgs false
namespace Go.Proofs.YtgegcgfdffmoeaaGreat
set_option linter.unusedVariables false
open Go.RowKit

/-! ### Moves -/
structure MoveR where
  set : ByteArray
  to : Int
  speed : Int
  rise : Int
  fall : Int
def MoveR.row (m : MoveR) : List Lf := [.s m.set, .i m.to, .i m.speed, .i m.rise, .i m.fall]
structure CueR where
  name : ByteArray
  after : ByteArray
  link : Int
  delay : Int
  moves : List MoveR
  crew : Int
  power : Int
def CueR.row (q : CueR) : List Lf := [.s q.name, .s q.after, .i q.link, .i q.delay, .sl (q.moves.map MoveR.row), .i q.crew, .i q.power]
def moveP (m : MoveR) : Prop := nameB m.set = true ∧ (-1048576 ≤ m.to ∧ m.to ≤ 1048576) ∧ (1 ≤ m.speed ∧ m.speed ≤ 8192) ∧ (1 ≤ m.rise ∧ m.rise ≤ 16384) ∧ 1 ≤ m.fall ∧ m.fall ≤ 16384
instance (m : MoveR) : Decidable (moveP m) := by unfold moveP;exact inferInstance
/-! ### Cues that are right -/
def moveIn (h : HouseR) (m : MoveR) : Prop := moveP m ∧ ∃ s, 0 ≤ setIdx h m.set ∧ h.sets[(setIdx h m.set).toNat]? = some s ∧ s.low ≤ m.to ∧ m.to ≤ s.high
def rightP (h : HouseR) (q : CueR) : Prop := nameB q.name = true ∧ (1 ≤ q.link ∧ q.link ≤ 3) ∧ (0 ≤ q.delay ∧ q.delay ≤ 2147483648) ∧ (0 ≤ q.crew ∧ q.crew ≤ 100) ∧ (0 ≤ q.power ∧ q.power ≤ 100) ∧ (∀ m ∈ q.moves, moveIn h m) ∧ (q.moves.map MoveR.set).Nodup
noncomputable instance (h : HouseR) (q : CueR) : Decidable (rightP h q) := Classical.propDecidable _
end Go.Proofs.YtgegcgfdffmoeaaGreat
