/- Contracts: the trims after a cue (both sides): the same list. No conditions but those of each statement. -/
import Derived.Test.YtcfjofhapbkmfaaGreatDoorMu
import Derived.Test.YtcfjofhapbkmfaaGreatDoorMn
set_option linter.unusedSimpArgs false
set_option linter.unusedVariables false
namespace Go.Proofs.YtcfjofhapbkmfaaGreatDoor
open Go.RowKit
abbrev B9 (l : List Int) : List AV := (l.map A5).flatten.map .lf
theorem Ig (l : List Int) : ∀ r ∈ l.map A5, r.length = 1 := by
 intro r hr
 obtain ⟨n, _, rfl⟩ := List.mem_map.1 hr
 rfl
theorem Iy (l : List Int) : (B9 l).length = l.length := by
 rw [List.length_map, Ax _ (Ig l), List.length_map, Nat.mul_one]
/-! ### The reference -/
end Go.Proofs.YtcfjofhapbkmfaaGreatDoor
