/-
  No cell of these rows narrows 'for every input' (looked for: loops, veiled, ifaces, maps, wideKeys, modest, calm, conditions, laid).
  DERIVED. THE GIVEN ROWS OF THIS SEAT. 2 by the template 'for every input the law returns true; each argument reads behind the call as it read before'; 0 by the template 'total and deterministic' (their statements: YtcaicpnepfjcmaaGreatTotals.lean).
  GIVEN WITH THE SEED: the statements are not yours to turn. If you find one false, say at which input.
  Laid BY PROGRAM, IN A SANDBOX (cutbox-rows.mjs): the forced cells as the released guide's own fill.sh prints them over the translation 3f6f15f927d3f99b… (all of the seat's roots in one cut). By AI agents, Wed Nov 11 2026. No macro, syntax, notation, axiom, sorry.
-/
import Derived.Test.YtcaicpnepfjcmaaGreatChecked
import GoSem.Claim
import GoSem.ClaimJoined
import GoSem.ClaimMapViews
import Derived.JoinedTies
import Derived.KernelRfl
namespace Go.Proofs.YtcaicpnepfjcmaaGreat
/- THE CELL 'sum', in the pinned program and in every row, IS THE sha256 OF THE DUMP (.gsa) THAT YtcaicpnepfjcmaaGreatProg.lean LOADS. Nothing in Lean hashes anything: it is a label: what it is worth is what the hold of that sum in a sandbox is worth. -/
noncomputable def Tryz.pinned : Pinned := { name := "ytcaicpnepfjcmaagreat", sum := "3f6f15f927d3f99b24641a7b118bbc5ba46b84e21ff61853a1e19cea674e96c8", checked := Tryz.checked }
namespace Rows
def none {H : Type} : Left H := { results := [], args := [] }

/-- 'loftblocklaw41.ShowChecks': WHATEVER THE INPUT: true; the input reads as it did. -/
def showChecksSpec : ChangeSpec := { name := "showChecks", fn := fun _ => fun
  | [d1, d2, d3] => { results := [.lit (.bool true)], args := [d1, d2, d3] }
  | _ => none }
def showChecksRow : OpenClaim := { program := "ytcaicpnepfjcmaagreat", sum := "3f6f15f927d3f99b24641a7b118bbc5ba46b84e21ff61853a1e19cea674e96c8", func := "loftblock/loftblocklaw41.ShowChecks", spec := "showChecks", inPlace := ["math/bits.Add64", "math/bits.Sub64"], unfollowed := true, recurses := true, named := ["math/bits.divideError", "math/bits.overflowError"], plainKeys := false, apart := false }
def ShowChecksSaid : Prop := showChecksRow.holds Tryz.pinned (OpenSpec.ofChange showChecksSpec)

/-- ITS FALSE NEIGHBOUR: 'it returns false'. Refute it at one input. -/
def showChecksWrong : ChangeSpec := { name := "showChecks", fn := fun _ => fun
  | [d1, d2, d3] => { results := [.lit (.bool false)], args := [d1, d2, d3] }
  | _ => none }
def ShowChecksWrongFalsely : Prop := showChecksRow.holds Tryz.pinned (OpenSpec.ofChange showChecksWrong)

/-- 'loftblocklaw41.ShowAccepts': WHATEVER THE INPUT: true; the input reads as it did. -/
def showAcceptsSpec : ChangeSpec := { name := "showAccepts", fn := fun _ => fun
  | [d1, d2, d3] => { results := [.lit (.bool true)], args := [d1, d2, d3] }
  | _ => none }
def showAcceptsRow : OpenClaim := { program := "ytcaicpnepfjcmaagreat", sum := "3f6f15f927d3f99b24641a7b118bbc5ba46b84e21ff61853a1e19cea674e96c8", func := "loftblock/loftblocklaw41.ShowAccepts", spec := "showAccepts", inPlace := ["math/bits.Add64", "math/bits.Sub64"], unfollowed := true, recurses := true, named := ["math/bits.divideError", "math/bits.overflowError"], plainKeys := false, apart := false }
def ShowAcceptsSaid : Prop := showAcceptsRow.holds Tryz.pinned (OpenSpec.ofChange showAcceptsSpec)

/-- ITS FALSE NEIGHBOUR: 'it returns false'. Refute it at one input. -/
def showAcceptsWrong : ChangeSpec := { name := "showAccepts", fn := fun _ => fun
  | [d1, d2, d3] => { results := [.lit (.bool false)], args := [d1, d2, d3] }
  | _ => none }
def ShowAcceptsWrongFalsely : Prop := showAcceptsRow.holds Tryz.pinned (OpenSpec.ofChange showAcceptsWrong)

/- THE SECOND FORM. 'bulk': how many values and letters a reading holds, each counted each time it is reached (what is shared counts as often as it is met; a slice's spare places count too). A statement '..UptoSaid' is the law's where the arguments, and the package variables that the reading takes, are together of bulk at most 1048576: NARROWER than '..Said'. Prove '..Said' where nothing that the law and all that it calls make is longer than what came in: it says more and counts as full. Else prove '..UptoSaid'. A law counts once. -/
mutual
def uptoBulk {H : Type} : DataW H → Nat
  | .lit (.string bytes) => bytes.length + 1
  | .lit _ => 1
  | .nil => 1
  | .ptr d => uptoBulk d + 1
  | .slice elems spare => uptoBulkAll elems + uptoBulkAll spare + 1
  | .agg parts => uptoBulkAll parts + 1
  | .iface _ d => uptoBulk d + 1
  | .map entries => uptoBulkEntries entries + 1
  | .held _ => 1
def uptoBulkAll {H : Type} : List (DataW H) → Nat
  | [] => 0
  | d :: r => uptoBulk d + uptoBulkAll r
def uptoBulkEntries {H : Type} : List (Lit × DataW H) → Nat
  | [] => 0
  | x :: r => uptoBulkEntry x + uptoBulkEntries r
def uptoBulkEntry {H : Type} : Lit × DataW H → Nat
  | (.string bytes, d) => bytes.length + uptoBulk d + 1
  | (_, d) => uptoBulk d + 1
 end
def uptoSmall : (H : Type) → List (DataW H) → Bool := fun _ ds => decide (uptoBulkAll ds ≤ 1048576)
def OpenSpec.upto (s : _root_.Go.ChangeSpec) : _root_.Go.OpenSpec := { _root_.Go.OpenSpec.ofChange s with cond := some uptoSmall }

/-- 'loftblocklaw41.ShowChecks', WHERE WHAT IT READS IS OF BULK AT MOST 1048576: true; the input reads as it did. -/
def showChecksUptoRow : OpenClaim := { program := "ytcaicpnepfjcmaagreat", sum := "3f6f15f927d3f99b24641a7b118bbc5ba46b84e21ff61853a1e19cea674e96c8", func := "loftblock/loftblocklaw41.ShowChecks", spec := "showChecks", inPlace := ["math/bits.Add64", "math/bits.Sub64"], unfollowed := true, recurses := true, named := ["math/bits.divideError", "math/bits.overflowError"], plainKeys := false, apart := false, narrowed := true }
def ShowChecksUptoSaid : Prop := showChecksUptoRow.holds Tryz.pinned (OpenSpec.upto showChecksSpec)

/-- 'loftblocklaw41.ShowAccepts', WHERE WHAT IT READS IS OF BULK AT MOST 1048576: true; the input reads as it did. -/
def showAcceptsUptoRow : OpenClaim := { program := "ytcaicpnepfjcmaagreat", sum := "3f6f15f927d3f99b24641a7b118bbc5ba46b84e21ff61853a1e19cea674e96c8", func := "loftblock/loftblocklaw41.ShowAccepts", spec := "showAccepts", inPlace := ["math/bits.Add64", "math/bits.Sub64"], unfollowed := true, recurses := true, named := ["math/bits.divideError", "math/bits.overflowError"], plainKeys := false, apart := false, narrowed := true }
def ShowAcceptsUptoSaid : Prop := showAcceptsUptoRow.holds Tryz.pinned (OpenSpec.upto showAcceptsSpec)

end Rows
end Go.Proofs.YtcaicpnepfjcmaaGreat
