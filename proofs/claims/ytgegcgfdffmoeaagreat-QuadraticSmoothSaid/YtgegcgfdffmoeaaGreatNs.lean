/- Contracts: the reference's First. No conditions but those of each statement. | Contract: the reference's First, the search. No conditions but those of each statement. -/
import Derived.Test.YtgegcgfdffmoeaaGreatNr
import Derived.Test.YtgegcgfdffmoeaaGreatNe
import Derived.Test.YtgegcgfdffmoeaaGreatNj
set_option linter.unusedSimpArgs false
namespace Go.Proofs.YtgegcgfdffmoeaaGreat
set_option linter.unusedVariables false
open Go.RowKit
def rfP (l : List PcQ) (fr : Rat) (k : Int) : PcQ := if k < 0 then ⟨fr, (pcAt l 0).a, 0, 0⟩ else pcAt l k.toNat
def rfB (l : List PcQ) (fr : Rat) (k : Int) : Rat := if 0 ≤ k ∧ fr < (pcAt l k.toNat).f then (pcAt l k.toNat).f else fr
def rfE (l : List PcQ) (te : Rat) (k : Int) : Rat := if k + 1 < l.length ∧ (pcAt l (k + 1).toNat).f < te then (pcAt l (k + 1).toNat).f else te
def lowX (p : PcQ) : Rat := p.f + -p.b / (2 * p.c)
def rfS (p : PcQ) (b e : Rat) : Option (List Lf) :=
  if vR p b < 0 ∨ vR p b = 0 ∧ falR p b ∧ b < e then some (encR p b e true) else if vR p e < 0 then some (encR p b e false) else if p.c.num ≤ 0 then none
  else if b < lowX p ∧ lowX p < e ∧ vR p (lowX p) < 0 then some (encR p b (lowX p) false) else none
def rfStep (l : List PcQ) (fr te : Rat) (k : Int) : Option (List Lf) := rfS (rfP l fr k) (rfB l fr k) (rfE l te k)
def rfScan (l : List PcQ) (fr te : Rat) : Nat → Option (List Lf)
  | 0 => none
  | j + 1 => match rfScan l fr te j with
    | some r => some r
    | none => rfStep l fr te (rpI l fr + j)
def rfN (l : List PcQ) (fr te : Rat) : Nat := (rpI l te - rpI l fr + 1).toNat
def rfFirst (l : List PcQ) (fr te : Rat) : AV := match rfScan l fr te (rfN l fr te) with
  | some r => .tup [rowA r, .i 0]
  | none => spE 12
def lowN (p : PcQ) : XN := (XN.ofQ p.f).plus ((XN.mk (0 - p.b.num) p.b.den).over ((XN.ofQ 2).times (XN.ofQ p.c)))
end Go.Proofs.YtgegcgfdffmoeaaGreat
set_option linter.unusedSimpArgs false
namespace Go.Proofs.YtgegcgfdffmoeaaGreat
set_option linter.unusedVariables false
open Go.RowKit
end Go.Proofs.YtgegcgfdffmoeaaGreat
