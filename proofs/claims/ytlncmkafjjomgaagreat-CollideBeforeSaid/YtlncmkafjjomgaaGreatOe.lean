/- Contract: loftblockref08's Add. No conditions but those of each statement. -/
import Derived.Test.YtlncmkafjjomgaaGreatOd
set_option linter.unusedSimpArgs false
namespace Go.Proofs.YtlncmkafjjomgaaGreat
set_option linter.unusedVariables false
open Go Go.RowKit
theorem putQ_len (l : List Rat) (t : Rat) : (putQ l t).length ≤ l.length + 1 := by
 induction l with
 | nil => simp [putQ]
 | cons y l ih =>
  unfold putQ
  split
  ·simp;omega
  ·split <;> simp
theorem foldQ_len (l m : List Rat) : (l.foldl putQ m).length ≤ m.length + l.length := by
 induction l generalizing m with
 | nil => simp
 | cons y l ih =>
  have h1 := ih (putQ m y)
  have h2 := putQ_len m y
  rw [List.foldl_cons, List.length_cons]
  omega
end Go.Proofs.YtlncmkafjjomgaaGreat
