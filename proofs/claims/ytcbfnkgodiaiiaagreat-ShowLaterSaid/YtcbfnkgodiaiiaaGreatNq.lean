/- Plain facts on numbers by their digits to the base 2^24, the T3 one first, as the reference reckons with them: no program. -/
import Derived.Test.YtcbfnkgodiaiiaaGreatNf
import Derived.Test.YtcbfnkgodiaiiaaGreatNe
import Derived.Test.YtcbfnkgodiaiiaaGreatMp
import Derived.Test.YtcbfnkgodiaiiaaGreatMd
import Derived.Test.YtcbfnkgodiaiiaaGreatNk
import Derived.Test.YtcbfnkgodiaiiaaGreatNi
import Derived.Test.YtcbfnkgodiaiiaaGreatPa
import Derived.Test.YtcbfnkgodiaiiaaGreatPl
set_option linter.unusedSimpArgs false
set_option linter.unusedVariables false
namespace Go.Proofs.YtcbfnkgodiaiiaaGreat.R24

/-! ### Sums -/
/-! ### Differences -/
/-! ### Products -/
/-! ### Lists that grow -/
/-! ### The reference's product -/
/-! ### Comparison -/
end Go.Proofs.YtcbfnkgodiaiiaaGreat.R24
namespace Go.Proofs.YtcbfnkgodiaiiaaGreat
open Go.RowKit
def bz (k : Nat) (z : Int) : Prop := z.natAbs < 16777216 ^ k
/-! ### Int -/
/-! ### Exact fractions -/
/-! ### enclosed -/
def Adu (lo hi : Int) : Int := (lo + hi).tdiv 2
end Go.Proofs.YtcbfnkgodiaiiaaGreat
namespace Go.Proofs.YtcbfnkgodiaiiaaGreat
/-! ### The T3 of a list, none if there is a none -/
/-! ### What both reckon -/
/-! ### The program's loop -/
/-! ### Where the times lie -/
theorem Xy {a b c : Rat} (h : a < b) (k : b <= c) : a < c := Rat.not_le.1 fun h2 => Rat.not_lt.2 (Rat.le_trans k h2) h
section
variable {l : List PcQ} {fr te : Rat} (hs : Ah l) (hle : fr <= te)
include hs
end
/-! ### A piece -/
theorem disc (p : PcQ) (t : Rat) : 4 * p.a * p.c - p.b * p.b = 4 * (p.c * vR p t) - sR p t * sR p t := by unfold vR sR;grind
/-! ### Milliseconds -/
theorem Co (m : Int) : 1000 * mil m = (m : Rat) := by
 unfold mil
 rw [Rat.mkRat_eq_div]
 have : ((1000 : Nat) : Rat) = 1000 := rfl
 rw [this]
 have h : (1000 : Rat) ≠ 0 := by decide
 grind
theorem Qb (q : Rat) : ((q.den : Int) : Rat) * q = (q.num : Rat) := by
 have h1 := Rat.mkRat_self q
 rw [Rat.mkRat_eq_div] at h1
 have h2 : ((q.den : Int) : Rat) = (q.den : Rat) := Rat.intCast_natCast _
 have h3 : (0 : Rat) < ((q.den : Int) : Rat) := Rat.intCast_pos.2 (by have := q.den_pos;omega)
 rw [h2] at h3 ⊢
 have h4 : (q.den : Rat) ≠ 0 := by grind
 conv => lhs;rw [<- h1]
 grind
theorem Ac7 {m : Int} {q : Rat} : mil m <= q ↔ m * q.den <= 1000 * q.num := by
 have hd : (0 : Rat) < ((q.den : Int) : Rat) := Rat.intCast_pos.2 (by have := q.den_pos;omega)
 rw [<- Rat.intCast_le_intCast, Rat.intCast_mul, Rat.intCast_mul, <- Qb q, <- Co m, show ((1000 : Int) : Rat) = 1000 from rfl]
 constructor
 ·intro h
  have := Rat.mul_le_mul_of_nonneg_left h (Rat.le_of_lt hd)
  grind
 ·intro h
  exact Rat.le_of_mul_le_mul_left (c := ((q.den : Int) : Rat)) (by grind) hd
theorem le_mil {m : Int} {q : Rat} : q <= mil m ↔ 1000 * q.num <= m * q.den := by
 have hd : (0 : Rat) < ((q.den : Int) : Rat) := Rat.intCast_pos.2 (by have := q.den_pos;omega)
 rw [<- Rat.intCast_le_intCast, Rat.intCast_mul, Rat.intCast_mul, <- Qb q, <- Co m, show ((1000 : Int) : Rat) = 1000 from rfl]
 constructor
 ·intro h
  have := Rat.mul_le_mul_of_nonneg_left h (Rat.le_of_lt hd)
  grind
 ·intro h
  exact Rat.le_of_mul_le_mul_left (c := ((q.den : Int) : Rat)) (by grind) hd
theorem mil_le {m : Int} {q : Rat} : mil m <= q ↔ m <= Aj q := by
 rw [Ac7, Aj, Int.le_ediv_iff_mul_le (by have := q.den_pos;omega)]
theorem K0 {m n : Int} (h : m <= n) : mil m <= mil n := by
 have h1 := Co m
 have h2 := Co n
 have h3 : (m : Rat) <= (n : Rat) := Rat.intCast_le_intCast.2 h
 grind
theorem Xc {q : Rat} : Gp q ↔ mil (Aj q) = q := by
 have hd : (0 : Int) < q.den := by have := q.den_pos;omega
 have h1 : mil (Aj q) <= q := mil_le.2 (Int.le_refl _)
 have h2 := Int.emod_add_mul_ediv (1000 * q.num) q.den
 have h3 := Int.emod_nonneg (1000 * q.num) (show (q.den : Int) ≠ 0 by omega)
 have h4 : (q.den : Int) * (1000 * q.num / q.den) = Aj q * q.den := Int.mul_comm _ _
 unfold Gp
 constructor
 ·intro h
  refine Rat.le_antisymm h1 (le_mil.2 ?_)
  omega
 ·intro h
  have := le_mil.1 (show q <= mil (Aj q) by rw [h];exact Rat.le_refl)
  omega
/-! ### Searches -/
theorem Mc {B : Int -> Prop} [DecidablePred B] : ∀ {n : Nat} {lo hi : Int}, ¬ B lo -> B hi -> lo < hi -> hi - lo <= 2 ^ n -> ¬ B (bis B n lo hi) /\ B (bis B n lo hi + 1)
 | 0, lo, hi, h1, h2, h3, h4 => by
  have : hi = lo + 1 := by simp at h4;omega
  subst this
  exact ⟨h1, h2⟩
 | n + 1, lo, hi, h1, h2, h3, h4 => by
  rw [bis]
  by_cases h : 1 < hi - lo
  ·have h4' : hi - lo <= 2 * 2 ^ n := by rw [Int.pow_succ] at h4;omega
   have g1 : hi - (lo + (hi - lo) / 2) <= 2 ^ n := by generalize (2 : Int) ^ n = W at *;omega
   have g2 : lo + (hi - lo) / 2 - lo <= 2 ^ n := by generalize (2 : Int) ^ n = W at *;omega
   rw [if_pos h]
   split
   ·rename_i hB;exact Mc h1 hB (by omega) g2
   ·rename_i hB;exact Mc hB h2 (by omega) g1
  ·rw [if_neg h]
   have : hi = lo + 1 := by omega
   subst this
   exact ⟨h1, h2⟩
theorem A57 {P : Int -> Prop} (hm : ∀ m n : Int, m <= n -> P n -> P m) {r s : Int} (h1 : P r) (h2 : ¬ P (r + 1)) (h3 : P s) (h4 : ¬ P (s + 1)) : r = s := by
 rcases Int.lt_trichotomy r s with h | h | h
 ·exact absurd (hm (r + 1) s (by omega) h3) h2
 ·exact h
 ·exact absurd (hm (s + 1) r (by omega) h1) h4
theorem Jo {q : Rat} (h : Cx q) : -1099511627776000 <= Aj q /\ Aj q <= 1099511627776000 := by
 constructor
 ·refine mil_le.1 ?_
  have h1 := Co (-1099511627776000)
  rw [show ((-1099511627776000 : Int) : Rat) = -1099511627776000 from rfl] at h1
  have := h.1
  grind
 ·rcases Int.lt_or_le 1099511627776000 (Aj q) with h2 | h2
  ·exfalso
   have h3 := mil_le.2 (show (1099511627776001 : Int) <= Aj q by omega)
   have h1 := Co 1099511627776001
   rw [show ((1099511627776001 : Int) : Rat) = 1099511627776001 from rfl] at h1
   have := h.2
   grind
  ·exact h2
theorem L6 {a e : Rat} (h : a <= e) : Aj a <= Aj e := mil_le.1 (Rat.le_trans (mil_le.2 (Int.le_refl _)) h)
theorem Yp (q : Rat) : q < mil (Aj q + 1) := Rat.not_le.1 fun h => by have := mil_le.1 h;omega
theorem A3l {q : Rat} {r : Int} (h1 : mil r <= q) (h2 : ¬ mil (r + 1) <= q) : r = Aj q :=
 A57 (P := fun m => mil m <= q) (fun m n hmn h => Rat.le_trans (K0 hmn) h) h1 h2 (mil_le.2 (Int.le_refl _)) (Rat.not_le.2 (Yp q))
/-! ### The pieces one after the other -/
theorem Fx (x : PcQ) (l : List PcQ) (i : Nat) : A6 (x :: l) (i + 1) = A6 l i := by unfold A6;simp
end Go.Proofs.YtcbfnkgodiaiiaaGreat
