/- Contracts: the error of a distance and a move. No conditions but those of each statement. | Contracts: the top speed of a move (the program's side). No conditions but those of each statement. | Contracts: the top speed of a move (the reference's side). No conditions but those of each statement. -/
import Derived.Test.YtgegcgfdffmoeaaGreatMn
set_option linter.unusedSimpArgs false
namespace Go.Proofs.YtgegcgfdffmoeaaGreat
set_option linter.unusedVariables false
open Go.RowKit
def wayE (d : Int) (m : MoveR) : Int := if moveP m then (if 0 ≤ d ∧ d ≤ 1048576 then 0 else 2) else 1
end Go.Proofs.YtgegcgfdffmoeaaGreat
set_option linter.unusedSimpArgs false
namespace Go.Proofs.YtgegcgfdffmoeaaGreat
set_option linter.unusedVariables false
open Go.RowKit
def topN (P : Nat → Bool) : Nat → Nat
  | 0 => 0
  | k + 1 => if P (k + 1) = true then k + 1 else topN P k
def fitsW (d : Int) (m : MoveR) (w : Int) : Prop := w * w * (m.rise + m.fall) ≤ 2 * d * m.rise * m.fall
instance (d : Int) (m : MoveR) (w : Int) : Decidable (fitsW d m w) := by unfold fitsW;exact inferInstance
def topS (d : Int) (m : MoveR) : Nat := if d = 0 then 0 else topN (fun w => decide (fitsW d m w)) m.speed.toNat
end Go.Proofs.YtgegcgfdffmoeaaGreat
set_option linter.unusedSimpArgs false
namespace Go.Proofs.YtgegcgfdffmoeaaGreat
set_option linter.unusedVariables false
open Go.RowKit
end Go.Proofs.YtgegcgfdffmoeaaGreat
