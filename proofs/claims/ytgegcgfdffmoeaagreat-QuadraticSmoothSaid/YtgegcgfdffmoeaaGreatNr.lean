/- Contracts: the reference's integers: Neg, Sum, Int, Product. No conditions but those of each statement. | Contracts: the reference's integers: Product;its exact fractions. No conditions but those of each statement. | Contracts: the reference's exact, fall, enclosed. No conditions but those of each statement. -/
import Derived.Test.YtgegcgfdffmoeaaGreatNq
import Derived.Test.YtgegcgfdffmoeaaGreatMf
import Derived.Test.YtgegcgfdffmoeaaGreatNl
import Derived.Test.YtgegcgfdffmoeaaGreatNi
set_option linter.unusedSimpArgs false
namespace Go.Proofs.YtgegcgfdffmoeaaGreat
set_option linter.unusedVariables false
open Go.RowKit
abbrev zR (z : Int) : List Lf := bgR (decide (z < 0)) (R24.wds z.natAbs)
def bz (k : Nat) (z : Int) : Prop := z.natAbs < 16777216 ^ k
/-! ### Int -/
structure IntInv (n : Nat) (m : List Nat) (r i : Nat) : Prop where
  len : m.length = i
  eq : m ++ R24.wds r = R24.wds n
  le : r ≤ n
structure IntS where
  i : Nat
  m : List Nat
  r : Nat
end Go.Proofs.YtgegcgfdffmoeaaGreat
set_option linter.unusedSimpArgs false
namespace Go.Proofs.YtgegcgfdffmoeaaGreat
set_option linter.unusedVariables false
open Go.RowKit
structure MulA where
  i : Nat
  m : List Nat
structure MulB where
  k : Nat
  m : List Nat
  c : Nat
/-! ### Exact fractions -/
structure XN where
  n : Int
  d : Int
abbrev xR (n d : Int) : List Lf := [.val (.bool (decide (n < 0))), .sl (w24 (R24.wds n.natAbs)), .val (.bool (decide (d < 0))), .sl (w24 (R24.wds d.natAbs))]
abbrev XN.row (x : XN) : List Lf := xR x.n x.d
structure XN.bd (k : Nat) (x : XN) : Prop where
  n : bz k x.n
  d : bz k x.d
  p : 0 < x.d
def XN.plus (x y : XN) : XN := ⟨x.n * y.d + y.n * x.d, x.d * y.d⟩
def XN.less (x y : XN) : XN := ⟨x.n * y.d + -y.n * x.d, x.d * y.d⟩
def XN.times (x y : XN) : XN := ⟨x.n * y.n, x.d * y.d⟩
def XN.over (x y : XN) : XN := ⟨x.n * y.d, x.d * y.n⟩
def XN.val (x : XN) : Rat := Rat.divInt x.n x.d
def XN.sgn (x : XN) : Int := if x.n < 0 then -1 else if x.n = 0 then 0 else 1
end Go.Proofs.YtgegcgfdffmoeaaGreat
set_option linter.unusedSimpArgs false
namespace Go.Proofs.YtgegcgfdffmoeaaGreat
set_option linter.unusedVariables false
open Go.RowKit
def XN.ofQ (q : Rat) : XN := ⟨q.num, q.den⟩
def exU (p : PcQ) (t : XN) : XN := t.less (XN.ofQ p.f)
def exV (p : PcQ) (t : XN) : XN := (XN.ofQ p.a).plus (((XN.ofQ p.b).plus ((XN.ofQ p.c).times (exU p t))).times (exU p t))
def exD (p : PcQ) (t : XN) : XN := (XN.ofQ p.b).plus ((XN.ofQ 2).times ((XN.ofQ p.c).times (exU p t)))
def falR (p : PcQ) (t : Rat) : Prop := sR p t < 0 ∨ sR p t = 0 ∧ p.c.num < 0
instance (p : PcQ) (t : Rat) : Decidable (falR p t) := by unfold falR;exact inferInstance
/-! ### enclosed -/
def half2 (lo hi : Int) : Int := (lo + hi).tdiv 2
def bisT (B : Int → Prop) [DecidablePred B] : Nat → Int → Int → Int
  | 0, lo, _ => lo
  | n + 1, lo, hi => if 1 < hi - lo then (if B (half2 lo hi) then bisT B n (half2 lo hi) hi else bisT B n lo (half2 lo hi)) else lo
def encP (p : PcQ) (x y : Rat) (bg : Bool) (m : Int) : Prop := mil m ≤ x ∨ bg = false ∧ mil m ≤ y ∧ 0 ≤ vR p (mil m)
instance (p : PcQ) (x y : Rat) (bg : Bool) : DecidablePred (encP p x y bg) := fun m => by unfold encP;exact inferInstance
def encLo (p : PcQ) (x y : Rat) (bg : Bool) : Int := bisT (encP p x y bg) 52 (-2251799813685248) 2251799813685248
def encI (p : PcQ) (x : Rat) (bg : Bool) (m : Int) : Prop := bg = true ∧ mil m = x ∨ bg = false ∧ x ≤ mil m ∧ vR p (mil m) = 0 ∧ falR p (mil m)
instance (p : PcQ) (x : Rat) (bg : Bool) (m : Int) : Decidable (encI p x bg m) := by unfold encI;exact inferInstance
def encR (p : PcQ) (x y : Rat) (bg : Bool) : List Lf := if encI p x bg (encLo p x y bg) then [.i (encLo p x y bg), .i (encLo p x y bg)] else [.i (encLo p x y bg), .i (encLo p x y bg + 1)]
def XN.ofM (m : Int) : XN := ⟨m, 1000⟩
structure BisU where
  n : Nat
  lo : Int
  hi : Int
end Go.Proofs.YtgegcgfdffmoeaaGreat
