/-
  No cell of these rows narrows 'for every input' (looked for: loops, veiled, ifaces, maps, wideKeys, modest, calm, conditions, laid).
  DERIVED. THE GIVEN ROWS OF THIS SEAT. 4 by the template 'for every input the law returns true; each argument reads behind the call as it read before'; 0 by the template 'total and deterministic' (their statements: YtgegcgfdffmoeaaGreatTotals.lean).
  GIVEN WITH THE SEED: the statements are not yours to turn. If you find one false, say at which input.
  Laid BY PROGRAM, IN A SANDBOX (cutbox-rows.mjs): the forced cells as the released guide's own fill.sh prints them over the translation 04d9f69607aabe45… (all of the seat's roots in one cut). By AI agents, Wed Nov 11 2026. No macro, syntax, notation, axiom, sorry.
-/
import Derived.Test.YtgegcgfdffmoeaaGreatChecked
import GoSem.Claim
import GoSem.ClaimJoined
import GoSem.ClaimMapViews
import Derived.JoinedTies
import Derived.KernelRfl
namespace Go.Proofs.YtgegcgfdffmoeaaGreat
/- THE CELL 'sum', in the pinned program and in every row, IS THE sha256 OF THE DUMP (.gsa) THAT YtgegcgfdffmoeaaGreatProg.lean LOADS. Nothing in Lean hashes anything: it is a label: what it is worth is what the hold of that sum in a sandbox is worth. -/
noncomputable def Tryz.pinned : Pinned := { name := "ytgegcgfdffmoeaagreat", sum := "04d9f69607aabe45093f0693c35531957ef333221749dcddd412ab332366b3ab", checked := Tryz.checked }
namespace Rows
def none {H : Type} : Left H := { results := [], args := [] }

/-- 'loftblocklaw08.QuadraticLeast': WHATEVER THE INPUT: true; the input reads as it did. -/
def quadraticLeastSpec : ChangeSpec := { name := "quadraticLeast", fn := fun _ => fun
  | [d1, d2, d3] => { results := [.lit (.bool true)], args := [d1, d2, d3] }
  | _ => none }
def quadraticLeastRow : OpenClaim := { program := "ytgegcgfdffmoeaagreat", sum := "04d9f69607aabe45093f0693c35531957ef333221749dcddd412ab332366b3ab", func := "loftblock/loftblocklaw08.QuadraticLeast", spec := "quadraticLeast", inPlace := ["math/bits.Add64", "math/bits.Sub64"], named := ["math/bits.divideError", "math/bits.overflowError"], apart := false }
def QuadraticLeastSaid : Prop := quadraticLeastRow.holds Tryz.pinned (OpenSpec.ofChange quadraticLeastSpec)

/-- ITS FALSE NEIGHBOUR: 'it returns false'. Refute it at one input. -/
def quadraticLeastWrong : ChangeSpec := { name := "quadraticLeast", fn := fun _ => fun
  | [d1, d2, d3] => { results := [.lit (.bool false)], args := [d1, d2, d3] }
  | _ => none }
def QuadraticLeastWrongFalsely : Prop := quadraticLeastRow.holds Tryz.pinned (OpenSpec.ofChange quadraticLeastWrong)

/-- 'loftblocklaw08.QuadraticSums': WHATEVER THE INPUT: true; the input reads as it did. -/
def quadraticSumsSpec : ChangeSpec := { name := "quadraticSums", fn := fun _ => fun
  | [d1, d2, d3] => { results := [.lit (.bool true)], args := [d1, d2, d3] }
  | _ => none }
def quadraticSumsRow : OpenClaim := { program := "ytgegcgfdffmoeaagreat", sum := "04d9f69607aabe45093f0693c35531957ef333221749dcddd412ab332366b3ab", func := "loftblock/loftblocklaw08.QuadraticSums", spec := "quadraticSums", inPlace := ["math/bits.Add64", "math/bits.Sub64"], unfollowed := true, recurses := true, named := ["math/bits.divideError", "math/bits.overflowError"], apart := false }
def QuadraticSumsSaid : Prop := quadraticSumsRow.holds Tryz.pinned (OpenSpec.ofChange quadraticSumsSpec)

/-- ITS FALSE NEIGHBOUR: 'it returns false'. Refute it at one input. -/
def quadraticSumsWrong : ChangeSpec := { name := "quadraticSums", fn := fun _ => fun
  | [d1, d2, d3] => { results := [.lit (.bool false)], args := [d1, d2, d3] }
  | _ => none }
def QuadraticSumsWrongFalsely : Prop := quadraticSumsRow.holds Tryz.pinned (OpenSpec.ofChange quadraticSumsWrong)

/-- 'loftblocklaw08.QuadraticAdds': WHATEVER THE INPUT: true; the input reads as it did. -/
def quadraticAddsSpec : ChangeSpec := { name := "quadraticAdds", fn := fun _ => fun
  | [d1, d2, d3, d4] => { results := [.lit (.bool true)], args := [d1, d2, d3, d4] }
  | _ => none }
def quadraticAddsRow : OpenClaim := { program := "ytgegcgfdffmoeaagreat", sum := "04d9f69607aabe45093f0693c35531957ef333221749dcddd412ab332366b3ab", func := "loftblock/loftblocklaw08.QuadraticAdds", spec := "quadraticAdds", inPlace := ["math/bits.Add64", "math/bits.Sub64"], unfollowed := true, recurses := true, named := ["math/bits.divideError", "math/bits.overflowError"], apart := false }
def QuadraticAddsSaid : Prop := quadraticAddsRow.holds Tryz.pinned (OpenSpec.ofChange quadraticAddsSpec)

/-- ITS FALSE NEIGHBOUR: 'it returns false'. Refute it at one input. -/
def quadraticAddsWrong : ChangeSpec := { name := "quadraticAdds", fn := fun _ => fun
  | [d1, d2, d3, d4] => { results := [.lit (.bool false)], args := [d1, d2, d3, d4] }
  | _ => none }
def QuadraticAddsWrongFalsely : Prop := quadraticAddsRow.holds Tryz.pinned (OpenSpec.ofChange quadraticAddsWrong)

/-- 'loftblocklaw08.QuadraticSmooth': WHATEVER THE INPUT: true; the input reads as it did. -/
def quadraticSmoothSpec : ChangeSpec := { name := "quadraticSmooth", fn := fun _ => fun
  | [d1, d2, d3] => { results := [.lit (.bool true)], args := [d1, d2, d3] }
  | _ => none }
def quadraticSmoothRow : OpenClaim := { program := "ytgegcgfdffmoeaagreat", sum := "04d9f69607aabe45093f0693c35531957ef333221749dcddd412ab332366b3ab", func := "loftblock/loftblocklaw08.QuadraticSmooth", spec := "quadraticSmooth", inPlace := ["math/bits.Add64", "math/bits.Sub64"], unfollowed := true, recurses := true, named := ["math/bits.divideError", "math/bits.overflowError"], apart := false }
def QuadraticSmoothSaid : Prop := quadraticSmoothRow.holds Tryz.pinned (OpenSpec.ofChange quadraticSmoothSpec)

/-- ITS FALSE NEIGHBOUR: 'it returns false'. Refute it at one input. -/
def quadraticSmoothWrong : ChangeSpec := { name := "quadraticSmooth", fn := fun _ => fun
  | [d1, d2, d3] => { results := [.lit (.bool false)], args := [d1, d2, d3] }
  | _ => none }
def QuadraticSmoothWrongFalsely : Prop := quadraticSmoothRow.holds Tryz.pinned (OpenSpec.ofChange quadraticSmoothWrong)

/- THE SECOND FORM. 'bulk': how many values and letters a reading holds, each counted each time it is reached (what is shared counts as often as it is met; a slice's spare places count too). A statement '..UptoSaid' is the law's where the arguments, and the package variables that the reading takes, are together of bulk at most 1048576: NARROWER than '..Said'. Prove '..Said' where nothing that the law and all that it calls make is longer than what came in: it says more and counts as full. Else prove '..UptoSaid'. A law counts once. -/
mutual
def uptoBulk {H : Type} : DataW H → Nat
  | .lit (.string bytes) => bytes.length + 1
  | .lit _ => 1
  | .nil => 1
  | .ptr d => uptoBulk d + 1
  | .slice elems spare => uptoBulkAll elems + uptoBulkAll spare + 1
  | .agg parts => uptoBulkAll parts + 1
  | .iface _ d => uptoBulk d + 1
  | .map entries => uptoBulkEntries entries + 1
  | .held _ => 1
def uptoBulkAll {H : Type} : List (DataW H) → Nat
  | [] => 0
  | d :: r => uptoBulk d + uptoBulkAll r
def uptoBulkEntries {H : Type} : List (Lit × DataW H) → Nat
  | [] => 0
  | x :: r => uptoBulkEntry x + uptoBulkEntries r
def uptoBulkEntry {H : Type} : Lit × DataW H → Nat
  | (.string bytes, d) => bytes.length + uptoBulk d + 1
  | (_, d) => uptoBulk d + 1
 end
def uptoSmall : (H : Type) → List (DataW H) → Bool := fun _ ds => decide (uptoBulkAll ds ≤ 1048576)
def OpenSpec.upto (s : _root_.Go.ChangeSpec) : _root_.Go.OpenSpec := { _root_.Go.OpenSpec.ofChange s with cond := some uptoSmall }

/-- 'loftblocklaw08.QuadraticLeast', WHERE WHAT IT READS IS OF BULK AT MOST 1048576: true; the input reads as it did. -/
def quadraticLeastUptoRow : OpenClaim := { program := "ytgegcgfdffmoeaagreat", sum := "04d9f69607aabe45093f0693c35531957ef333221749dcddd412ab332366b3ab", func := "loftblock/loftblocklaw08.QuadraticLeast", spec := "quadraticLeast", inPlace := ["math/bits.Add64", "math/bits.Sub64"], named := ["math/bits.divideError", "math/bits.overflowError"], apart := false, narrowed := true }
def QuadraticLeastUptoSaid : Prop := quadraticLeastUptoRow.holds Tryz.pinned (OpenSpec.upto quadraticLeastSpec)

/-- 'loftblocklaw08.QuadraticSums', WHERE WHAT IT READS IS OF BULK AT MOST 1048576: true; the input reads as it did. -/
def quadraticSumsUptoRow : OpenClaim := { program := "ytgegcgfdffmoeaagreat", sum := "04d9f69607aabe45093f0693c35531957ef333221749dcddd412ab332366b3ab", func := "loftblock/loftblocklaw08.QuadraticSums", spec := "quadraticSums", inPlace := ["math/bits.Add64", "math/bits.Sub64"], unfollowed := true, recurses := true, named := ["math/bits.divideError", "math/bits.overflowError"], apart := false, narrowed := true }
def QuadraticSumsUptoSaid : Prop := quadraticSumsUptoRow.holds Tryz.pinned (OpenSpec.upto quadraticSumsSpec)

/-- 'loftblocklaw08.QuadraticAdds', WHERE WHAT IT READS IS OF BULK AT MOST 1048576: true; the input reads as it did. -/
def quadraticAddsUptoRow : OpenClaim := { program := "ytgegcgfdffmoeaagreat", sum := "04d9f69607aabe45093f0693c35531957ef333221749dcddd412ab332366b3ab", func := "loftblock/loftblocklaw08.QuadraticAdds", spec := "quadraticAdds", inPlace := ["math/bits.Add64", "math/bits.Sub64"], unfollowed := true, recurses := true, named := ["math/bits.divideError", "math/bits.overflowError"], apart := false, narrowed := true }
def QuadraticAddsUptoSaid : Prop := quadraticAddsUptoRow.holds Tryz.pinned (OpenSpec.upto quadraticAddsSpec)

/-- 'loftblocklaw08.QuadraticSmooth', WHERE WHAT IT READS IS OF BULK AT MOST 1048576: true; the input reads as it did. -/
def quadraticSmoothUptoRow : OpenClaim := { program := "ytgegcgfdffmoeaagreat", sum := "04d9f69607aabe45093f0693c35531957ef333221749dcddd412ab332366b3ab", func := "loftblock/loftblocklaw08.QuadraticSmooth", spec := "quadraticSmooth", inPlace := ["math/bits.Add64", "math/bits.Sub64"], unfollowed := true, recurses := true, named := ["math/bits.divideError", "math/bits.overflowError"], apart := false, narrowed := true }
def QuadraticSmoothUptoSaid : Prop := quadraticSmoothUptoRow.holds Tryz.pinned (OpenSpec.upto quadraticSmoothSpec)

end Rows
end Go.Proofs.YtgegcgfdffmoeaaGreat
