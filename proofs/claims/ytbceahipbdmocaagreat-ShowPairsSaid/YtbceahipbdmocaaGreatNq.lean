/- Plain facts on numbers by their digits to the base 2^24, the Td one first, as the reference reckons with them: no program. -/
import Derived.Test.YtbceahipbdmocaaGreatNf
import Derived.Test.YtbceahipbdmocaaGreatNe
import Derived.Test.YtbceahipbdmocaaGreatMp
import Derived.Test.YtbceahipbdmocaaGreatMf
import Derived.Test.YtbceahipbdmocaaGreatNk
import Derived.Test.YtbceahipbdmocaaGreatNi
import Derived.Test.YtbceahipbdmocaaGreatPa
import Derived.Test.YtbceahipbdmocaaGreatPl
set_option linter.unusedSimpArgs false
set_option linter.unusedVariables false
namespace Go.Proofs.YtbceahipbdmocaaGreat.R24

/-! ### Sums -/
/-! ### Differences -/
/-! ### Products -/
/-! ### Lists that grow -/
/-! ### The reference's product -/
/-! ### Comparison -/
end Go.Proofs.YtbceahipbdmocaaGreat.R24
namespace Go.Proofs.YtbceahipbdmocaaGreat
open Go.RowKit
def bz (k : Nat) (z : Int) : Prop := z.natAbs < 16777216 ^ k
/-! ### Int -/
/-! ### Exact fractions -/
/-! ### enclosed -/
def Aci (lo hi : Int) : Int := (lo + hi).tdiv 2
end Go.Proofs.YtbceahipbdmocaaGreat
namespace Go.Proofs.YtbceahipbdmocaaGreat
/-! ### The Td of a list, none if there is a none -/
/-! ### What both reckon -/
/-! ### The program's loop -/
/-! ### Where the times lie -/
theorem Wx {a b c : Rat} (h : a < b) (k : b <= c) : a < c := Rat.not_le.1 fun h2 => Rat.not_lt.2 (Rat.le_trans k h2) h
section
variable {l : List PcQ} {fr te : Rat} (hs : Ba l) (hle : fr <= te)
include hs
end
/-! ### A piece -/
theorem disc (p : PcQ) (t : Rat) : 4 * p.a * p.c - p.b * p.b = 4 * (p.c * vR p t) - sR p t * sR p t := by unfold vR sR;grind
/-! ### Milliseconds -/
theorem Gl (m : Int) : 1000 * mil m = (m : Rat) := by
 unfold mil
 rw [Rat.mkRat_eq_div]
 have : ((1000 : Nat) : Rat) = 1000 := rfl
 rw [this]
 have h : (1000 : Rat) ≠ 0 := by decide
 grind
theorem A16 (q : Rat) : ((q.den : Int) : Rat) * q = (q.num : Rat) := by
 have h1 := Rat.mkRat_self q
 rw [Rat.mkRat_eq_div] at h1
 have h2 : ((q.den : Int) : Rat) = (q.den : Rat) := Rat.intCast_natCast _
 have h3 : (0 : Rat) < ((q.den : Int) : Rat) := Rat.intCast_pos.2 (by have := q.den_pos;omega)
 rw [h2] at h3 ⊢
 have h4 : (q.den : Rat) ≠ 0 := by grind
 conv => lhs;rw [<- h1]
 grind
theorem A9k {m : Int} {q : Rat} : mil m <= q ↔ m * q.den <= 1000 * q.num := by
 have hd : (0 : Rat) < ((q.den : Int) : Rat) := Rat.intCast_pos.2 (by have := q.den_pos;omega)
 rw [<- Rat.intCast_le_intCast, Rat.intCast_mul, Rat.intCast_mul, <- A16 q, <- Gl m, show ((1000 : Int) : Rat) = 1000 from rfl]
 constructor
 ·intro h
  have := Rat.mul_le_mul_of_nonneg_left h (Rat.le_of_lt hd)
  grind
 ·intro h
  exact Rat.le_of_mul_le_mul_left (c := ((q.den : Int) : Rat)) (by grind) hd
theorem mil_le {m : Int} {q : Rat} : mil m <= q ↔ m <= As q := by
 rw [A9k, As, Int.le_ediv_iff_mul_le (by have := q.den_pos;omega)]
/-! ### Searches -/
theorem N9 {B : Int -> Prop} [DecidablePred B] : ∀ {n : Nat} {lo hi : Int}, ¬ B lo -> B hi -> lo < hi -> hi - lo <= 2 ^ n -> ¬ B (bis B n lo hi) /\ B (bis B n lo hi + 1)
 | 0, lo, hi, h1, h2, h3, h4 => by
  have : hi = lo + 1 := by simp at h4;omega
  subst this
  exact ⟨h1, h2⟩
 | n + 1, lo, hi, h1, h2, h3, h4 => by
  rw [bis]
  by_cases h : 1 < hi - lo
  ·have h4' : hi - lo <= 2 * 2 ^ n := by rw [Int.pow_succ] at h4;omega
   have g1 : hi - (lo + (hi - lo) / 2) <= 2 ^ n := by generalize (2 : Int) ^ n = W at *;omega
   have g2 : lo + (hi - lo) / 2 - lo <= 2 ^ n := by generalize (2 : Int) ^ n = W at *;omega
   rw [if_pos h]
   split
   ·rename_i hB;exact N9 h1 hB (by omega) g2
   ·rename_i hB;exact N9 hB h2 (by omega) g1
  ·rw [if_neg h]
   have : hi = lo + 1 := by omega
   subst this
   exact ⟨h1, h2⟩
theorem Iw {q : Rat} (h : Cm q) : -1099511627776000 <= As q /\ As q <= 1099511627776000 := by
 constructor
 ·refine mil_le.1 ?_
  have h1 := Gl (-1099511627776000)
  rw [show ((-1099511627776000 : Int) : Rat) = -1099511627776000 from rfl] at h1
  have := h.1
  grind
 ·rcases Int.lt_or_le 1099511627776000 (As q) with h2 | h2
  ·exfalso
   have h3 := mil_le.2 (show (1099511627776001 : Int) <= As q by omega)
   have h1 := Gl 1099511627776001
   rw [show ((1099511627776001 : Int) : Rat) = 1099511627776001 from rfl] at h1
   have := h.2
   grind
  ·exact h2
theorem Kt {a e : Rat} (h : a <= e) : As a <= As e := mil_le.1 (Rat.le_trans (mil_le.2 (Int.le_refl _)) h)
/-! ### The pieces one after the other -/
theorem A5a (x : PcQ) (l : List PcQ) (i : Nat) : Af (x :: l) (i + 1) = Af l i := by unfold Af;simp
end Go.Proofs.YtbceahipbdmocaaGreat
