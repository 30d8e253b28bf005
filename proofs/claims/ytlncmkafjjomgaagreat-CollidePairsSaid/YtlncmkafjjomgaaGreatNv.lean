/- Plain facts: quadratic pieces below zero, searches by halves: the program's and the reference's. No program. No conditions but those of each statement. | Plain facts: the first time below zero by the program is that by the reference. No program. No conditions but those of each statement. -/
import Derived.Test.YtlncmkafjjomgaaGreatNu
set_option linter.unusedSimpArgs false
namespace Go.Proofs.YtlncmkafjjomgaaGreat
set_option linter.unusedVariables false
/-! ### A piece -/
theorem disc (p : PcQ) (t : Rat) : 4 * p.a * p.c - p.b * p.b = 4 * (p.c * vR p t) - sR p t * sR p t := by unfold vR sR;grind
/-! ### Milliseconds -/
/-! ### Searches -/
end Go.Proofs.YtlncmkafjjomgaaGreat
set_option linter.unusedSimpArgs false
namespace Go.Proofs.YtlncmkafjjomgaaGreat
set_option linter.unusedVariables false
/-! ### The pieces one after the other -/
theorem pcAt_cons (x : PcQ) (l : List PcQ) (i : Nat) : pcAt (x :: l) (i + 1) = pcAt l i := by unfold pcAt;simp
end Go.Proofs.YtlncmkafjjomgaaGreat
