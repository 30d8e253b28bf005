/-
  No cell of these rows narrows 'for every input' (looked for: loops, veiled, ifaces, maps, wideKeys, modest, calm, conditions, laid).
  DERIVED. THE GIVEN ROWS OF THIS SEAT. 4 by the template 'for every input the law returns true; each argument reads behind the call as it read before'; 0 by the template 'total and deterministic' (their statements: YtdcdfihidnajmaaGreatTotals.lean).
  GIVEN WITH THE SEED: the statements are not yours to turn. If you find one false, say at which input.
  Laid BY PROGRAM, IN A SANDBOX (cutbox-rows.mjs): the forced cells as the released guide's own fill.sh prints them over the translation 9072dccc79af9069… (all of the seat's roots in one cut). By AI agents, Wed Nov 11 2026. No macro, syntax, notation, axiom, sorry.
-/
import Derived.Test.YtdcdfihidnajmaaGreatChecked
import GoSem.Claim
import GoSem.ClaimJoined
import GoSem.ClaimMapViews
import Derived.JoinedTies
import Derived.KernelRfl
namespace Go.Proofs.YtdcdfihidnajmaaGreat
/- THE CELL 'sum', in the pinned program and in every row, IS THE sha256 OF THE DUMP (.gsa) THAT YtdcdfihidnajmaaGreatProg.lean LOADS. Nothing in Lean hashes anything: it is a label: what it is worth is what the hold of that sum in a sandbox is worth. -/
noncomputable def Tryz.pinned : Pinned := { name := "ytdcdfihidnajmaagreat", sum := "9072dccc79af90696591bc67797fe27974d8b70743d2e08c1c3ceb107764972a", checked := Tryz.checked }
namespace Rows
def none {H : Type} : Left H := { results := [], args := [] }

/-- 'loftblocklaw36.CueValid': WHATEVER THE INPUT: true; the input reads as it did. -/
def cueValidSpec : ChangeSpec := { name := "cueValid", fn := fun _ => fun
  | [d1, d2] => { results := [.lit (.bool true)], args := [d1, d2] }
  | _ => none }
def cueValidRow : OpenClaim := { program := "ytdcdfihidnajmaagreat", sum := "9072dccc79af90696591bc67797fe27974d8b70743d2e08c1c3ceb107764972a", func := "loftblock/loftblocklaw36.CueValid", spec := "cueValid", inPlace := ["math/bits.Add64", "math/bits.Sub64"], unfollowed := true, recurses := true, named := ["math/bits.divideError", "math/bits.overflowError"], plainKeys := false, apart := false }
def CueValidSaid : Prop := cueValidRow.holds Tryz.pinned (OpenSpec.ofChange cueValidSpec)

/-- ITS FALSE NEIGHBOUR: 'it returns false'. Refute it at one input. -/
def cueValidWrong : ChangeSpec := { name := "cueValid", fn := fun _ => fun
  | [d1, d2] => { results := [.lit (.bool false)], args := [d1, d2] }
  | _ => none }
def CueValidWrongFalsely : Prop := cueValidRow.holds Tryz.pinned (OpenSpec.ofChange cueValidWrong)

/-- 'loftblocklaw36.CueLengths': WHATEVER THE INPUT: true; the input reads as it did. -/
def cueLengthsSpec : ChangeSpec := { name := "cueLengths", fn := fun _ => fun
  | [d1, d2, d3] => { results := [.lit (.bool true)], args := [d1, d2, d3] }
  | _ => none }
def cueLengthsRow : OpenClaim := { program := "ytdcdfihidnajmaagreat", sum := "9072dccc79af90696591bc67797fe27974d8b70743d2e08c1c3ceb107764972a", func := "loftblock/loftblocklaw36.CueLengths", spec := "cueLengths", inPlace := ["math/bits.Add64", "math/bits.Sub64"], unfollowed := true, recurses := true, named := ["math/bits.divideError", "math/bits.overflowError"], plainKeys := false, apart := false }
def CueLengthsSaid : Prop := cueLengthsRow.holds Tryz.pinned (OpenSpec.ofChange cueLengthsSpec)

/-- ITS FALSE NEIGHBOUR: 'it returns false'. Refute it at one input. -/
def cueLengthsWrong : ChangeSpec := { name := "cueLengths", fn := fun _ => fun
  | [d1, d2, d3] => { results := [.lit (.bool false)], args := [d1, d2, d3] }
  | _ => none }
def CueLengthsWrongFalsely : Prop := cueLengthsRow.holds Tryz.pinned (OpenSpec.ofChange cueLengthsWrong)

/-- 'loftblocklaw36.CueMoves': WHATEVER THE INPUT: true; the input reads as it did. -/
def cueMovesSpec : ChangeSpec := { name := "cueMoves", fn := fun _ => fun
  | [d1, d2, d3] => { results := [.lit (.bool true)], args := [d1, d2, d3] }
  | _ => none }
def cueMovesRow : OpenClaim := { program := "ytdcdfihidnajmaagreat", sum := "9072dccc79af90696591bc67797fe27974d8b70743d2e08c1c3ceb107764972a", func := "loftblock/loftblocklaw36.CueMoves", spec := "cueMoves", inPlace := ["math/bits.Add64", "math/bits.Sub64"], unfollowed := true, recurses := true, named := ["math/bits.divideError", "math/bits.overflowError"], plainKeys := false, apart := false }
def CueMovesSaid : Prop := cueMovesRow.holds Tryz.pinned (OpenSpec.ofChange cueMovesSpec)

/-- ITS FALSE NEIGHBOUR: 'it returns false'. Refute it at one input. -/
def cueMovesWrong : ChangeSpec := { name := "cueMoves", fn := fun _ => fun
  | [d1, d2, d3] => { results := [.lit (.bool false)], args := [d1, d2, d3] }
  | _ => none }
def CueMovesWrongFalsely : Prop := cueMovesRow.holds Tryz.pinned (OpenSpec.ofChange cueMovesWrong)

/-- 'loftblocklaw36.CueFaster': WHATEVER THE INPUT: true; the input reads as it did. -/
def cueFasterSpec : ChangeSpec := { name := "cueFaster", fn := fun _ => fun
  | [d1, d2, d3, d4, d5] => { results := [.lit (.bool true)], args := [d1, d2, d3, d4, d5] }
  | _ => none }
def cueFasterRow : OpenClaim := { program := "ytdcdfihidnajmaagreat", sum := "9072dccc79af90696591bc67797fe27974d8b70743d2e08c1c3ceb107764972a", func := "loftblock/loftblocklaw36.CueFaster", spec := "cueFaster", inPlace := ["math/bits.Add64", "math/bits.Sub64"], unfollowed := true, recurses := true, named := ["math/bits.divideError", "math/bits.overflowError"], plainKeys := false, apart := false }
def CueFasterSaid : Prop := cueFasterRow.holds Tryz.pinned (OpenSpec.ofChange cueFasterSpec)

/-- ITS FALSE NEIGHBOUR: 'it returns false'. Refute it at one input. -/
def cueFasterWrong : ChangeSpec := { name := "cueFaster", fn := fun _ => fun
  | [d1, d2, d3, d4, d5] => { results := [.lit (.bool false)], args := [d1, d2, d3, d4, d5] }
  | _ => none }
def CueFasterWrongFalsely : Prop := cueFasterRow.holds Tryz.pinned (OpenSpec.ofChange cueFasterWrong)

/- THE SECOND FORM. 'bulk': how many values and letters a reading holds, each counted each time it is reached (what is shared counts as often as it is met; a slice's spare places count too). A statement '..UptoSaid' is the law's where the arguments, and the package variables that the reading takes, are together of bulk at most 1048576: NARROWER than '..Said'. Prove '..Said' where nothing that the law and all that it calls make is longer than what came in: it says more and counts as full. Else prove '..UptoSaid'. A law counts once. -/
mutual
def uptoBulk {H : Type} : DataW H → Nat
  | .lit (.string bytes) => bytes.length + 1
  | .lit _ => 1
  | .nil => 1
  | .ptr d => uptoBulk d + 1
  | .slice elems spare => uptoBulkAll elems + uptoBulkAll spare + 1
  | .agg parts => uptoBulkAll parts + 1
  | .iface _ d => uptoBulk d + 1
  | .map entries => uptoBulkEntries entries + 1
  | .held _ => 1
def uptoBulkAll {H : Type} : List (DataW H) → Nat
  | [] => 0
  | d :: r => uptoBulk d + uptoBulkAll r
def uptoBulkEntries {H : Type} : List (Lit × DataW H) → Nat
  | [] => 0
  | x :: r => uptoBulkEntry x + uptoBulkEntries r
def uptoBulkEntry {H : Type} : Lit × DataW H → Nat
  | (.string bytes, d) => bytes.length + uptoBulk d + 1
  | (_, d) => uptoBulk d + 1
 end
def uptoSmall : (H : Type) → List (DataW H) → Bool := fun _ ds => decide (uptoBulkAll ds ≤ 1048576)
def OpenSpec.upto (s : _root_.Go.ChangeSpec) : _root_.Go.OpenSpec := { _root_.Go.OpenSpec.ofChange s with cond := some uptoSmall }

/-- 'loftblocklaw36.CueValid', WHERE WHAT IT READS IS OF BULK AT MOST 1048576: true; the input reads as it did. -/
def cueValidUptoRow : OpenClaim := { program := "ytdcdfihidnajmaagreat", sum := "9072dccc79af90696591bc67797fe27974d8b70743d2e08c1c3ceb107764972a", func := "loftblock/loftblocklaw36.CueValid", spec := "cueValid", inPlace := ["math/bits.Add64", "math/bits.Sub64"], unfollowed := true, recurses := true, named := ["math/bits.divideError", "math/bits.overflowError"], plainKeys := false, apart := false, narrowed := true }
def CueValidUptoSaid : Prop := cueValidUptoRow.holds Tryz.pinned (OpenSpec.upto cueValidSpec)

/-- 'loftblocklaw36.CueLengths', WHERE WHAT IT READS IS OF BULK AT MOST 1048576: true; the input reads as it did. -/
def cueLengthsUptoRow : OpenClaim := { program := "ytdcdfihidnajmaagreat", sum := "9072dccc79af90696591bc67797fe27974d8b70743d2e08c1c3ceb107764972a", func := "loftblock/loftblocklaw36.CueLengths", spec := "cueLengths", inPlace := ["math/bits.Add64", "math/bits.Sub64"], unfollowed := true, recurses := true, named := ["math/bits.divideError", "math/bits.overflowError"], plainKeys := false, apart := false, narrowed := true }
def CueLengthsUptoSaid : Prop := cueLengthsUptoRow.holds Tryz.pinned (OpenSpec.upto cueLengthsSpec)

/-- 'loftblocklaw36.CueMoves', WHERE WHAT IT READS IS OF BULK AT MOST 1048576: true; the input reads as it did. -/
def cueMovesUptoRow : OpenClaim := { program := "ytdcdfihidnajmaagreat", sum := "9072dccc79af90696591bc67797fe27974d8b70743d2e08c1c3ceb107764972a", func := "loftblock/loftblocklaw36.CueMoves", spec := "cueMoves", inPlace := ["math/bits.Add64", "math/bits.Sub64"], unfollowed := true, recurses := true, named := ["math/bits.divideError", "math/bits.overflowError"], plainKeys := false, apart := false, narrowed := true }
def CueMovesUptoSaid : Prop := cueMovesUptoRow.holds Tryz.pinned (OpenSpec.upto cueMovesSpec)

/-- 'loftblocklaw36.CueFaster', WHERE WHAT IT READS IS OF BULK AT MOST 1048576: true; the input reads as it did. -/
def cueFasterUptoRow : OpenClaim := { program := "ytdcdfihidnajmaagreat", sum := "9072dccc79af90696591bc67797fe27974d8b70743d2e08c1c3ceb107764972a", func := "loftblock/loftblocklaw36.CueFaster", spec := "cueFaster", inPlace := ["math/bits.Add64", "math/bits.Sub64"], unfollowed := true, recurses := true, named := ["math/bits.divideError", "math/bits.overflowError"], plainKeys := false, apart := false, narrowed := true }
def CueFasterUptoSaid : Prop := cueFasterUptoRow.holds Tryz.pinned (OpenSpec.upto cueFasterSpec)

end Rows
end Go.Proofs.YtdcdfihidnajmaaGreat
