/- Contracts: the reference's findings: a line, Parse. Conditions: those of each statement (bounds on lengths). -/
import Derived.Test.YtkboebgkcjcpfaaGreatDoorYf
import Derived.Test.YtkboebgkcjcpfaaGreatDoorYa
import Derived.Test.YtkboebgkcjcpfaaGreatDoorMr
import Derived.Test.YtkboebgkcjcpfaaGreatDoorOl
import Derived.Test.YtkboebgkcjcpfaaGreatDoorYe
set_option linter.unusedSimpArgs false
set_option linter.unusedVariables false
namespace Go.Proofs.YtkboebgkcjcpfaaGreatDoor
open Go Go.RowKit
theorem A1k (n : Int) (h0 : -9223372036854775808 <= n) (h1 : n <= 9223372036854775807) : Fn0 Tryz.prog 26 [.i n] (.val (.string (Ao n))) := by
 have c := V8 n h0 h1
 refine Fn0.of Tryz.func26 Tryz.ntmps26 rfl rfl rfl ?_
 simp only [A0]
 repeat' (first
  | refine W ?_
  | refine Y ?_
  | refine V ?_
  | (refine W2 ?_ ?_ <;> intro hc))
 all_goals exact A5 (by simp) Tryz.results26 rfl rfl
section
variable {N : Nat} {ops : Array Oper} {m : Option Nat} {K : Tm -> AH -> Prop} {tm : Tm} {H : AH} {rest : List Oper} {ty : TypeId} {pos : String} {af : Array Edge} {d : Nat} {x y : Operand}
end
theorem Uw : Fn0 Tryz.prog 17 [] (A4 Cz) := by
 have c := Ot 1
 refine Fn0.of Tryz.func17 Tryz.ntmps17 rfl rfl rfl ?_
 simp only [A0]
 repeat' (first
  | refine W ?_
  | refine Y ?_|(apply S.buildSliceF;(iterate 8 exact rfl))
  | refine V ?_
  | (refine W2 ?_ ?_ <;> intro hc))
 all_goals exact ⟨.inr rfl, [A4 Cz], .cons (Res.row Cz rfl rfl rfl rfl rfl) .nil, .one (.agg (An _))⟩
def exF : List FinR := [⟨3, ⟨#[97]⟩⟩, ⟨12, ⟨#[98]⟩⟩]
theorem A2d : ofL (Cv exF) = ⟨#[51, 32, 97, 10, 49, 50, 32, 98, 10]⟩ := by decide +kernel
set_option maxHeartbeats 8000000 in
theorem Qq : Fn0 Tryz.prog 5 [] (.b true) := by
 have c1 := Uw
 have c2 := Xk
 have c3 := Pz exF (by decide) (by decide)
 rw [A2d] at c3
 have h2 : (⟨#[51, 32, 97, 10, 49, 50, 32, 98, 10]⟩ : ByteArray) = ⟨#[51, 32, 97, 10, 49, 50, 32, 98, 10]⟩ := rfl
 refine Fn0.of Tryz.func5 Tryz.ntmps5 rfl rfl rfl ?_
 simp only [A0]
 repeat' (first
  | refine W ?_
  | refine Y ?_|(apply S.buildSliceF;(iterate 8 exact rfl))
  | refine V ?_
  | (refine W2 ?_ ?_ <;> intro hc))
 all_goals exact A5 (by simp) Tryz.results5 rfl rfl
end Go.Proofs.YtkboebgkcjcpfaaGreatDoor
