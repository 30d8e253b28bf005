/- Contracts: what is small;cues that are found. No conditions but those of each statement. | Contracts: cues that are found, pairs of cues, sheets that are valid (both sides). No conditions but those of each statement. -/
import Derived.Test.YtgegcgfdffmoeaaGreatMl
import Derived.Test.YtgegcgfdffmoeaaGreatMb
set_option linter.unusedSimpArgs false
namespace Go.Proofs.YtgegcgfdffmoeaaGreat
set_option linter.unusedVariables false
open Go.RowKit

/-! ### What is small -/
def smallS (s : SetR) (n : Int) : Prop := (s.name.size : Int) ≤ 60 ∧ (s.lines.length : Int) ≤ 12 ∧ ¬ (n < s.items.length ∧ (s.items.length : Int) ≤ 40) ∧ (s.items.length : Int) ≤ 45 ∧ (s.bricks.length : Int) ≤ 10 ∧ (∀ x ∈ s.items, (x.name.size : Int) ≤ 60) ∧ ∀ x ∈ s.bricks, (x.name.size : Int) ≤ 60
noncomputable instance (s : SetR) (n : Int) : Decidable (smallS s n) := Classical.propDecidable _
def smallH (h : HouseR) (n : Int) : Prop := (h.sets.length : Int) ≤ n ∧ (h.roofs.length : Int) ≤ n + 10 ∧ (h.name.size : Int) ≤ 60 ∧ (∀ s ∈ h.sets, smallS s 8) ∧ ∀ x ∈ h.roofs, (x.name.size : Int) ≤ 60
noncomputable instance (h : HouseR) (n : Int) : Decidable (smallH h n) := Classical.propDecidable _
structure SheetR where
  cues : List CueR
  apart : List (ByteArray × ByteArray)
def pairRow (p : ByteArray × ByteArray) : List Lf := [.s p.1, .s p.2]
def SheetR.row (c : SheetR) : List Lf := [.sl (c.cues.map CueR.row), .sl (c.apart.map pairRow)]
def SheetR.fits (c : SheetR) : Prop := c.cues.length ≤ 9223372036854775807 ∧ c.apart.length ≤ 9223372036854775807 ∧ ∀ q ∈ c.cues, q.moves.length ≤ 140737488355328
def smallQ (q : CueR) (n : Int) : Prop := (q.moves.length : Int) ≤ n ∧ (q.name.size : Int) ≤ 60 ∧ (q.after.size : Int) ≤ 60 ∧ ∀ m ∈ q.moves, (m.set.size : Int) ≤ 60
def smallC (c : SheetR) (n : Int) : Prop := (c.cues.length : Int) ≤ n ∧ (c.apart.length : Int) ≤ 2 * n ∧ (∀ q ∈ c.cues, smallQ q n) ∧ ∀ p ∈ c.apart, (p.1.size : Int) ≤ 60 ∧ (p.2.size : Int) ≤ 60
noncomputable instance (c : SheetR) (n : Int) : Decidable (smallC c n) := Classical.propDecidable _
end Go.Proofs.YtgegcgfdffmoeaaGreat
set_option linter.unusedSimpArgs false
namespace Go.Proofs.YtgegcgfdffmoeaaGreat
set_option linter.unusedVariables false
open Go.RowKit

/-! ### Cues that are found -/
abbrev cueIdx (l : List CueR) (n : ByteArray) : Int := idx (fun q : CueR => q.name = n) l
/-! ### Pairs of cues -/
def samePair (p q : ByteArray × ByteArray) : Prop := p.1 = q.1 ∧ p.2 = q.2 ∨ p.1 = q.2 ∧ p.2 = q.1
def normP (p : ByteArray × ByteArray) : ByteArray × ByteArray := if gtS p.1 p.2 then (p.2, p.1) else p
def seenOf (l : List (ByteArray × ByteArray)) : List ((ByteArray × ByteArray) × Value) := l.foldl (fun es x => putP es (normP x) (.agg #[])) []
def okP (c : SheetR) (i : Nat) (p : ByteArray × ByteArray) : Prop := (0 ≤ cueIdx c.cues p.1 ∧ 0 ≤ cueIdx c.cues p.2) ∧ ¬ p.1 = p.2 ∧ ¬ ∃ y ∈ c.apart.take i, samePair y p
def pairsP (c : SheetR) : Prop := (c.apart.length : Int) ≤ 1000 ∧ ∀ i p, c.apart[i]? = some p → okP c i p
noncomputable instance (c : SheetR) : Decidable (pairsP c) := Classical.propDecidable _
end Go.Proofs.YtgegcgfdffmoeaaGreat
