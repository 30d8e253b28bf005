/- Contracts: package ratio's Make, Add, Sub, Div, Cmp and the reference's Make, Cmp, over rational numbers that fit. No conditions but those of each statement. -/
import Derived.Test.YtlmppfffalaphaaGreatDoorQb
import Derived.Test.YtlmppfffalaphaaGreatDoorMd
import Derived.Test.YtlmppfffalaphaaGreatDoorMn
import Derived.Test.YtlmppfffalaphaaGreatDoorMc
set_option linter.unusedSimpArgs false
set_option linter.unusedVariables false
namespace Go.Proofs.YtlmppfffalaphaaGreatDoor
open Go.RowKit
theorem L1 (n d : Int) (hd : d ≠ 0) (n1 : -9223372036854775808 <= n) (n2 : n <= 9223372036854775807) (d1 : -9223372036854775808 <= d) (d2 : d <= 9223372036854775807) (hf : Fits (Bm n d)) : Fn0 Tryz.prog 135 [.i n, .i d] (frE (Bm n d) 0) := Dn hf ▸ Ph n d hd n1 n2 d1 d2
theorem Q7 (n : Int) : Fn0 Tryz.prog 50 [.i n] (A1 [.i n, .i 1]) := by
 refine Fn0.of Tryz.func50 Tryz.ntmps50 rfl rfl rfl ?_
 simp only [A0]
 repeat' (first | refine W ?_ | refine V ?_|(refine W2 ?_ ?_ <;> intro hc))
 exact ⟨.inr rfl, [A1 [.i n, .i 1]], .cons (Res.row [.i n, .i 1] rfl rfl rfl rfl rfl) .nil, .one (.agg (A5 [.i n, .i 1]))⟩
end Go.Proofs.YtlmppfffalaphaaGreatDoor
