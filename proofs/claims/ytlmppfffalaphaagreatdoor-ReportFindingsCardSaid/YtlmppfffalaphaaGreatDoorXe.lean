/- Contract: lists of contacts compared. No conditions but those of each statement. -/
import Derived.Test.YtlmppfffalaphaaGreatDoorPa
import Derived.Test.YtlmppfffalaphaaGreatDoorPf
import Derived.Test.YtlmppfffalaphaaGreatDoorMk
set_option linter.unusedSimpArgs false
set_option linter.unusedVariables false
namespace Go.Proofs.YtlmppfffalaphaaGreatDoor
open Go Go.RowKit
theorem La {α : Type} {a b : List α} {k : Nat} {x y : α} (h : a.take k = b.take k) (hx : a[k]? = some x) (hy : b[k]? = some y) (e : x = y) : a.take (k + 1) = b.take (k + 1) := by rw [D6 hx, D6 hy, h, e]
end Go.Proofs.YtlmppfffalaphaaGreatDoor
