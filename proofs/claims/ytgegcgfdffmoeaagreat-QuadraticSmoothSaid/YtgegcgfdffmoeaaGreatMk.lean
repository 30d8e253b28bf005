/- Contracts of the reference's functions that say whether a house is valid: names, beams. No conditions but those of each statement. | Contracts of the reference's functions that say whether a house is valid, continued: line sets. No conditions but those of each statement. -/
import Derived.Test.YtgegcgfdffmoeaaGreatMj
set_option linter.unusedSimpArgs false
namespace Go.Proofs.YtgegcgfdffmoeaaGreat
set_option linter.unusedVariables false
open Go.RowKit
/-! ### Beams -/
theorem row_at {α : Type} {l : List α} {R : α → List Lf} {k : Nat} {x : α} (hx : l[k]? = some x) : (l.map R)[((k : Nat) : Int).toNat]? = some (R x) := by rw [Int.toNat_natCast, List.getElem?_map, hx];rfl
theorem get_at {α : Type} {l : List α} {k : Nat} (h : k < l.length) : ∃ x, l[k]? = some x := ⟨l[k], List.getElem?_eq_getElem h⟩
end Go.Proofs.YtgegcgfdffmoeaaGreat
set_option linter.unusedSimpArgs false
namespace Go.Proofs.YtgegcgfdffmoeaaGreat
set_option linter.unusedVariables false
open Go.RowKit
end Go.Proofs.YtgegcgfdffmoeaaGreat
