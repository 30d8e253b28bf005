/- Contracts of the functions that look at names: letters, digits, words. No conditions but those of each statement. | Contracts of slices.IndexFunc and ContainsFunc at the program's types, for closures on pure data;names. No conditions but those of each statement. -/
import Derived.Test.YtgegcgfdffmoeaaGreatMt
import Derived.Test.YtgegcgfdffmoeaaGreatMb
set_option linter.unusedSimpArgs false
namespace Go.Proofs.YtgegcgfdffmoeaaGreat
set_option linter.unusedVariables false
open Go.RowKit
abbrev AV.i (n : Int) : AV := .val (.int .i64 n)
abbrev AV.b (b : Bool) : AV := .val (.bool b)
abbrev AV.s (s : ByteArray) : AV := .val (.string s)
abbrev Lf.i (n : Int) : Lf := .val (.int .i64 n)
abbrev Lf.s (s : ByteArray) : Lf := .val (.string s)
def letI' (n : Int) : Prop := 97 ≤ n ∧ n ≤ 122 ∨ 65 ≤ n ∧ n ≤ 90
instance (n : Int) : Decidable (letI' n) := by unfold letI';exact inferInstance
def digI (n : Int) : Prop := 48 ≤ n ∧ n ≤ 57
instance (n : Int) : Decidable (digI n) := by unfold digI;exact inferInstance
def wordI (n : Int) : Prop := letI' n ∨ digI n ∨ n = 95
instance (n : Int) : Decidable (wordI n) := by unfold wordI;exact inferInstance
def wordLen (s : ByteArray) : Nat := (s.data.toList.takeWhile fun c => decide (wordI c.toNat)).length
end Go.Proofs.YtgegcgfdffmoeaaGreat
set_option linter.unusedSimpArgs false
namespace Go.Proofs.YtgegcgfdffmoeaaGreat
set_option linter.unusedVariables false
open Go.RowKit
def idx {α : Type} (p : α → Prop) [DecidablePred p] : List α → Int
  | [] => -1
  | x :: l => if p x then 0 else (if idx p l = -1 then -1 else idx p l + 1)
def AV.cap : AV → Bool
  | .lf _ => true
  | .rop _ => true
  | _ => false
end Go.Proofs.YtgegcgfdffmoeaaGreat
