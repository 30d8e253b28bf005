/- Plain facts on numbers by their digits to the base 2^24, the Sb one first, as the reference reckons with them: no program. -/
import Derived.Test.YtocoehahhohpgaaGreatNf
import Derived.Test.YtocoehahhohpgaaGreatNe
import Derived.Test.YtocoehahhohpgaaGreatMp
import Derived.Test.YtocoehahhohpgaaGreatMf
import Derived.Test.YtocoehahhohpgaaGreatNk
import Derived.Test.YtocoehahhohpgaaGreatNi
import Derived.Test.YtocoehahhohpgaaGreatPa
import Derived.Test.YtocoehahhohpgaaGreatPl
set_option linter.unusedSimpArgs false
set_option linter.unusedVariables false
namespace Go.Proofs.YtocoehahhohpgaaGreat.R24

/-! ### Sums -/
/-! ### Differences -/
/-! ### Products -/
/-! ### Lists that grow -/
/-! ### The reference's product -/
/-! ### Comparison -/
end Go.Proofs.YtocoehahhohpgaaGreat.R24
namespace Go.Proofs.YtocoehahhohpgaaGreat
open Go.RowKit
def bz (k : Nat) (z : Int) : Prop := z.natAbs < 16777216 ^ k
/-! ### Int -/
/-! ### Exact fractions -/
/-! ### enclosed -/
def Acr (lo hi : Int) : Int := (lo + hi).tdiv 2
theorem Kg (l : List PcQ) (t : Rat) : -1 <= rpI l t /\ rpI l t < l.length := by
 have := Y2 l t l.length
 unfold rpI
 omega
end Go.Proofs.YtocoehahhohpgaaGreat
namespace Go.Proofs.YtocoehahhohpgaaGreat
/-! ### The Sb of a list, none if there is a none -/
/-! ### What both reckon -/
/-! ### The program's loop -/
/-! ### Where the times lie -/
theorem A8q (l : List PcQ) (t : Rat) {m n : Nat} (h : m <= n) : rpN l t m <= rpN l t n := by
 induction n with
 | zero => obtain rfl : m = 0 := by omega
           exact Nat.le_refl _
 | succ n ih =>
  by_cases e : m = n + 1
  ·subst e;exact Nat.le_refl _
  ·have := ih (by omega)
   have h2 := Y2 l t n
   rw [rpN]
   split <;> omega
theorem Tt {l : List PcQ} {t : Rat} : ∀ {n i : Nat}, i < rpN l t n -> (A8 l i).f <= t
 | 0, i, h => by simp [rpN] at h
 | n + 1, i, h => by
  rw [rpN] at h
  split at h
  ·rename_i hc
   by_cases e : i = n
   ·subst e;exact hc.2
   ·exact Tt (n := n) (by rw [hc.1];omega)
  ·exact Tt h
theorem Om {l : List PcQ} (hs : Ah l) (t : Rat) {i : Nat} (hi : i < l.length) : (A8 l i).f <= t ↔ (i : Int) <= rpI l t := by
 unfold rpI
 constructor
 ·intro h
  have h1 := Qn hs t i hi h
  have h2 := A8q l t (m := i + 1) (n := l.length) hi
  omega
 ·intro h
  exact Tt (n := l.length) (by omega)
theorem O8 {a b c : Rat} (h : a < b) (k : b <= c) : a < c := Rat.not_le.1 fun h2 => Rat.not_lt.2 (Rat.le_trans k h2) h
theorem A4e {a b c : Rat} (h : a <= b) (k : b < c) : a < c := Rat.not_le.1 fun h2 => Rat.not_lt.2 (Rat.le_trans h2 h) k
section
variable {l : List PcQ} {fr te : Rat} (hs : Ah l) (hle : fr <= te)
include hs
end
/-! ### A piece -/
theorem Aaq (p : PcQ) (a t : Rat) : vR p t - vR p a = (t - a) * (sR p a + p.c * (t - a)) := by unfold vR sR;grind
theorem Aat (p : PcQ) (a t : Rat) : vR p t - vR p a = (t - a) * (sR p t - p.c * (t - a)) := by unfold vR sR;grind
theorem A0a (p : PcQ) (a t : Rat) : sR p t = sR p a + 2 * (p.c * (t - a)) := by unfold sR;grind
theorem disc (p : PcQ) (t : Rat) : 4 * p.a * p.c - p.b * p.b = 4 * (p.c * vR p t) - sR p t * sR p t := by unfold vR sR;grind
theorem A5f (x : Rat) : 0 <= x * x := by
 rcases (Rat.le_total : (0 : Rat) <= x \/ x <= 0) with h | h
 ·exact Rat.mul_nonneg h h
 ·have := Rat.mul_nonneg (a := -x) (b := -x) (by grind) (by grind)
  grind
theorem dip {p : PcQ} {a s t : Rat} (h1 : a <= s) (h2 : s <= t) (ha : 0 <= vR p a) (hs : vR p s < 0) (ht : 0 <= vR p t) : 0 < p.c /\ sR p a < 0 /\ 0 < sR p t := by
 have n1 : a < s := Rat.lt_of_le_of_ne h1 (fun e => by subst e;exact absurd hs (Rat.not_lt.2 ha))
 have n2 : s < t := Rat.lt_of_le_of_ne h2 (fun e => by subst e;exact absurd hs (Rat.not_lt.2 ht))
 have d1 : 0 < s - a := by grind
 have d2 : 0 < t - s := by grind
 have e1 := Aat p a s
 have e2 := Aaq p s t
 have g1 : sR p s - p.c * (s - a) < 0 := (Rat.mul_neg_iff_of_pos_left d1).1 (by rw [<- e1];grind)
 have g2 : 0 < sR p s + p.c * (t - s) := (Rat.mul_pos_iff_of_pos_left d2).1 (by rw [<- e2];grind)
 have g3 : 0 < (t - a) * p.c := by grind
 have hc : 0 < p.c := (Rat.mul_pos_iff_of_pos_left (by grind)).1 g3
 have k1 := Rat.mul_pos hc d1
 have k2 := Rat.mul_pos hc d2
 have k3 := A0a p a s
 have k4 := A0a p s t
 exact ⟨hc, by grind, by grind⟩
theorem Tf {p : PcQ} {a s t : Rat} (h0 : a < t) (h1 : a <= s) (h2 : s <= t) (hs : vR p s < 0) : Da p a t := by
 refine ⟨h0, ?_⟩
 by_cases ha : vR p a < 0
 ·exact .inl (.inl ha)
 by_cases ht : vR p t < 0
 ·exact .inl (.inr ht)
 obtain ⟨hc, g1, g2⟩ := dip h1 h2 (Rat.not_lt.1 ha) hs (Rat.not_lt.1 ht)
 refine .inr ⟨hc, g1, g2, ?_⟩
 rw [disc p s]
 have k1 := (Rat.mul_neg_iff_of_pos_left hc (b := vR p s)).2 hs
 have k2 := A5f (sR p s)
 grind
/-! ### Milliseconds -/
theorem C8 (m : Int) : 1000 * mil m = (m : Rat) := by
 unfold mil
 rw [Rat.mkRat_eq_div]
 have : ((1000 : Nat) : Rat) = 1000 := rfl
 rw [this]
 have h : (1000 : Rat) ≠ 0 := by decide
 grind
theorem Tz (q : Rat) : ((q.den : Int) : Rat) * q = (q.num : Rat) := by
 have h1 := Rat.mkRat_self q
 rw [Rat.mkRat_eq_div] at h1
 have h2 : ((q.den : Int) : Rat) = (q.den : Rat) := Rat.intCast_natCast _
 have h3 : (0 : Rat) < ((q.den : Int) : Rat) := Rat.intCast_pos.2 (by have := q.den_pos;omega)
 rw [h2] at h3 ⊢
 have h4 : (q.den : Rat) ≠ 0 := by grind
 conv => lhs;rw [<- h1]
 grind
theorem Aay {m : Int} {q : Rat} : mil m <= q ↔ m * q.den <= 1000 * q.num := by
 have hd : (0 : Rat) < ((q.den : Int) : Rat) := Rat.intCast_pos.2 (by have := q.den_pos;omega)
 rw [<- Rat.intCast_le_intCast, Rat.intCast_mul, Rat.intCast_mul, <- Tz q, <- C8 m, show ((1000 : Int) : Rat) = 1000 from rfl]
 constructor
 ·intro h
  have := Rat.mul_le_mul_of_nonneg_left h (Rat.le_of_lt hd)
  grind
 ·intro h
  exact Rat.le_of_mul_le_mul_left (c := ((q.den : Int) : Rat)) (by grind) hd
theorem mil_le {m : Int} {q : Rat} : mil m <= q ↔ m <= An q := by
 rw [Aay, An, Int.le_ediv_iff_mul_le (by have := q.den_pos;omega)]
theorem I6 {m n : Int} (h : m <= n) : mil m <= mil n := by
 have h1 := C8 m
 have h2 := C8 n
 have h3 : (m : Rat) <= (n : Rat) := Rat.intCast_le_intCast.2 h
 grind
/-! ### Searches -/
theorem M1 {B : Int -> Prop} [DecidablePred B] : ∀ {n : Nat} {lo hi : Int}, ¬ B lo -> B hi -> lo < hi -> hi - lo <= 2 ^ n -> ¬ B (bis B n lo hi) /\ B (bis B n lo hi + 1)
 | 0, lo, hi, h1, h2, h3, h4 => by
  have : hi = lo + 1 := by simp at h4;omega
  subst this
  exact ⟨h1, h2⟩
 | n + 1, lo, hi, h1, h2, h3, h4 => by
  rw [bis]
  by_cases h : 1 < hi - lo
  ·have h4' : hi - lo <= 2 * 2 ^ n := by rw [Int.pow_succ] at h4;omega
   have g1 : hi - (lo + (hi - lo) / 2) <= 2 ^ n := by generalize (2 : Int) ^ n = W at *;omega
   have g2 : lo + (hi - lo) / 2 - lo <= 2 ^ n := by generalize (2 : Int) ^ n = W at *;omega
   rw [if_pos h]
   split
   ·rename_i hB;exact M1 h1 hB (by omega) g2
   ·rename_i hB;exact M1 hB h2 (by omega) g1
  ·rw [if_neg h]
   have : hi = lo + 1 := by omega
   subst this
   exact ⟨h1, h2⟩
theorem Jc {q : Rat} (h : C3 q) : -1099511627776000 <= An q /\ An q <= 1099511627776000 := by
 constructor
 ·refine mil_le.1 ?_
  have h1 := C8 (-1099511627776000)
  rw [show ((-1099511627776000 : Int) : Rat) = -1099511627776000 from rfl] at h1
  have := h.1
  grind
 ·rcases Int.lt_or_le 1099511627776000 (An q) with h2 | h2
  ·exfalso
   have h3 := mil_le.2 (show (1099511627776001 : Int) <= An q by omega)
   have h1 := C8 1099511627776001
   rw [show ((1099511627776001 : Int) : Rat) = 1099511627776001 from rfl] at h1
   have := h.2
   grind
  ·exact h2
theorem Kp {a e : Rat} (h : a <= e) : An a <= An e := mil_le.1 (Rat.le_trans (mil_le.2 (Int.le_refl _)) h)
/-! ### The pieces one after the other -/
theorem Eh (x : PcQ) (l : List PcQ) (i : Nat) : A8 (x :: l) (i + 1) = A8 l i := by unfold A8;simp
end Go.Proofs.YtocoehahhohpgaaGreat
