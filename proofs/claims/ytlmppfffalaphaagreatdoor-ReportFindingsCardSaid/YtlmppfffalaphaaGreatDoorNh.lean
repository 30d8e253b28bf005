/- Contracts: package ratio's operations on any fractions;the methods of sums: keep, add, sub, mul, result, value, slope. No conditions but those of each statement. -/
import Derived.Test.YtlmppfffalaphaaGreatDoorMp
import Derived.Test.YtlmppfffalaphaaGreatDoorNe
set_option linter.unusedSimpArgs false
set_option linter.unusedVariables false
namespace Go.Proofs.YtlmppfffalaphaaGreatDoor
open Go.RowKit
theorem Fw (n d : Int) : Fn0 Tryz.prog 90 [A1 [.i n, .i d]] (.b (Br n d)) := Jj n d

/-! ### Operations that keep the first error -/
end Go.Proofs.YtlmppfffalaphaaGreatDoor
