/- Plain: the order and the starts of the cues of a valid sheet. No conditions but those of each statement. -/
import Derived.Test.YtcfjofhapbkmfaaGreatDoorPa
import Derived.Test.YtcfjofhapbkmfaaGreatDoorMn
import Derived.Test.YtcfjofhapbkmfaaGreatDoorMu
set_option linter.unusedSimpArgs false
set_option linter.unusedVariables false
namespace Go.Proofs.YtcfjofhapbkmfaaGreatDoor
open Go Go.RowKit
end Go.Proofs.YtcfjofhapbkmfaaGreatDoor
namespace Go.Proofs.YtcfjofhapbkmfaaGreatDoor
open Go.RowKit
abbrev Ba (l : List Int) : List AV := (l.map A8).flatten.map .lf
theorem D0 (l : List Int) : ∀ r ∈ l.map A8, r.length = 1 := by
 intro r hr
 obtain ⟨n, _, rfl⟩ := List.mem_map.1 hr
 rfl
theorem Po (l : List Int) : (l.map A8).flatten.all Lf.one = true := by
 rw [List.all_eq_true]
 intro x hx
 obtain ⟨r, hr, hxr⟩ := List.mem_flatten.1 hx
 obtain ⟨n, _, rfl⟩ := List.mem_map.1 hr
 simp only [A8, List.mem_cons, List.not_mem_nil, or_false] at hxr
 subst hxr
 rfl
theorem L2 (l : List Int) : (Ba l).length = l.length := by
 rw [List.length_map, B6 _ (D0 l), List.length_map, Nat.mul_one]
/-! ### The reference -/
end Go.Proofs.YtcfjofhapbkmfaaGreatDoor
namespace Go.Proofs.YtcfjofhapbkmfaaGreatDoor
open Go Go.RowKit
/-! ### Lengths, starts, ends -/
end Go.Proofs.YtcfjofhapbkmfaaGreatDoor
