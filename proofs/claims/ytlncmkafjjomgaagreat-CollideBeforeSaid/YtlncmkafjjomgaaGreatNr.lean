/- Contracts: the reference's integers: Neg, Sum, Int, Product. No conditions but those of each statement. | Contracts: the reference's integers: Product;its exact fractions. No conditions but those of each statement. | Contracts: the reference's exact, fall, enclosed. No conditions but those of each statement. | Contracts: the reference's First. No conditions but those of each statement. | Contract: the reference's First, the search. No conditions but those of each statement. | Contract: the reference's Least. No conditions but those of each statement. | Plain facts: the least value by the program is the least value by the reference. No program. No conditions but those of each statement. | Plain facts: the least value by the program is the least value by the reference, the second half. No program. No conditions but those of each statement. | Plain facts: quadratic pieces below zero, searches by halves: the program's and the reference's. No program. No conditions but those of each statement. | Plain facts: the first time below zero by the program is that by the reference. No program. No conditions but those of each statement. -/
import Derived.Test.YtlncmkafjjomgaaGreatNq
import Derived.Test.YtlncmkafjjomgaaGreatMf
import Derived.Test.YtlncmkafjjomgaaGreatNl
import Derived.Test.YtlncmkafjjomgaaGreatNi
import Derived.Test.YtlncmkafjjomgaaGreatNe
import Derived.Test.YtlncmkafjjomgaaGreatNj
import Derived.Test.YtlncmkafjjomgaaGreatNk
import Derived.Test.YtlncmkafjjomgaaGreatNm
set_option linter.unusedSimpArgs false
namespace Go.Proofs.YtlncmkafjjomgaaGreat
set_option linter.unusedVariables false
open Go.RowKit
/-! ### Int -/
end Go.Proofs.YtlncmkafjjomgaaGreat
set_option linter.unusedSimpArgs false
namespace Go.Proofs.YtlncmkafjjomgaaGreat
set_option linter.unusedVariables false
open Go.RowKit
/-! ### Exact fractions -/
end Go.Proofs.YtlncmkafjjomgaaGreat
set_option linter.unusedSimpArgs false
namespace Go.Proofs.YtlncmkafjjomgaaGreat
set_option linter.unusedVariables false
open Go.RowKit
/-! ### enclosed -/
def half2 (lo hi : Int) : Int := (lo + hi).tdiv 2
end Go.Proofs.YtlncmkafjjomgaaGreat
set_option linter.unusedSimpArgs false
namespace Go.Proofs.YtlncmkafjjomgaaGreat
set_option linter.unusedVariables false
open Go.RowKit
end Go.Proofs.YtlncmkafjjomgaaGreat
set_option linter.unusedSimpArgs false
namespace Go.Proofs.YtlncmkafjjomgaaGreat
set_option linter.unusedVariables false
open Go.RowKit
end Go.Proofs.YtlncmkafjjomgaaGreat
set_option linter.unusedSimpArgs false
namespace Go.Proofs.YtlncmkafjjomgaaGreat
set_option linter.unusedVariables false
open Go.RowKit
end Go.Proofs.YtlncmkafjjomgaaGreat
set_option linter.unusedSimpArgs false
namespace Go.Proofs.YtlncmkafjjomgaaGreat
set_option linter.unusedVariables false
/-! ### The least of a list, none if there is a none -/
/-! ### What both reckon -/
/-! ### The program's loop -/
end Go.Proofs.YtlncmkafjjomgaaGreat
set_option linter.unusedSimpArgs false
namespace Go.Proofs.YtlncmkafjjomgaaGreat
set_option linter.unusedVariables false
/-! ### Where the times lie -/
theorem rlt_le {a b c : Rat} (h : a < b) (k : b ≤ c) : a < c := Rat.not_le.1 fun h2 => Rat.not_lt.2 (Rat.le_trans k h2) h
theorem rle_lt {a b c : Rat} (h : a ≤ b) (k : b < c) : a < c := Rat.not_le.1 fun h2 => Rat.not_lt.2 (Rat.le_trans h2 h) k
section
variable {l : List PcQ} {fr te : Rat} (hs : sortC l) (hle : fr ≤ te)
include hs
end
end Go.Proofs.YtlncmkafjjomgaaGreat
set_option linter.unusedSimpArgs false
namespace Go.Proofs.YtlncmkafjjomgaaGreat
set_option linter.unusedVariables false
/-! ### A piece -/
theorem vR_step (p : PcQ) (a t : Rat) : vR p t - vR p a = (t - a) * (sR p a + p.c * (t - a)) := by unfold vR sR;grind
theorem vR_back (p : PcQ) (a t : Rat) : vR p t - vR p a = (t - a) * (sR p t - p.c * (t - a)) := by unfold vR sR;grind
theorem sR_step (p : PcQ) (a t : Rat) : sR p t = sR p a + 2 * (p.c * (t - a)) := by unfold sR;grind
theorem disc (p : PcQ) (t : Rat) : 4 * p.a * p.c - p.b * p.b = 4 * (p.c * vR p t) - sR p t * sR p t := by unfold vR sR;grind
theorem sq_nonneg (x : Rat) : 0 ≤ x * x := by
 rcases (Rat.le_total : (0 : Rat) ≤ x ∨ x ≤ 0) with h | h
 ·exact Rat.mul_nonneg h h
 ·have := Rat.mul_nonneg (a := -x) (b := -x) (by grind) (by grind)
  grind
theorem dip {p : PcQ} {a s t : Rat} (h1 : a ≤ s) (h2 : s ≤ t) (ha : 0 ≤ vR p a) (hs : vR p s < 0) (ht : 0 ≤ vR p t) : 0 < p.c ∧ sR p a < 0 ∧ 0 < sR p t := by
 have n1 : a < s := Rat.lt_of_le_of_ne h1 (fun e => by subst e;exact absurd hs (Rat.not_lt.2 ha))
 have n2 : s < t := Rat.lt_of_le_of_ne h2 (fun e => by subst e;exact absurd hs (Rat.not_lt.2 ht))
 have d1 : 0 < s - a := by grind
 have d2 : 0 < t - s := by grind
 have e1 := vR_back p a s
 have e2 := vR_step p s t
 have g1 : sR p s - p.c * (s - a) < 0 := (Rat.mul_neg_iff_of_pos_left d1).1 (by rw [← e1];grind)
 have g2 : 0 < sR p s + p.c * (t - s) := (Rat.mul_pos_iff_of_pos_left d2).1 (by rw [← e2];grind)
 have g3 : 0 < (t - a) * p.c := by grind
 have hc : 0 < p.c := (Rat.mul_pos_iff_of_pos_left (by grind)).1 g3
 have k1 := Rat.mul_pos hc d1
 have k2 := Rat.mul_pos hc d2
 have k3 := sR_step p a s
 have k4 := sR_step p s t
 exact ⟨hc, by grind, by grind⟩
theorem belR_of {p : PcQ} {a s t : Rat} (h0 : a < t) (h1 : a ≤ s) (h2 : s ≤ t) (hs : vR p s < 0) : belR p a t := by
 refine ⟨h0, ?_⟩
 by_cases ha : vR p a < 0
 ·exact .inl (.inl ha)
 by_cases ht : vR p t < 0
 ·exact .inl (.inr ht)
 obtain ⟨hc, g1, g2⟩ := dip h1 h2 (Rat.not_lt.1 ha) hs (Rat.not_lt.1 ht)
 refine .inr ⟨hc, g1, g2, ?_⟩
 rw [disc p s]
 have k1 := (Rat.mul_neg_iff_of_pos_left hc (b := vR p s)).2 hs
 have k2 := sq_nonneg (sR p s)
 grind
/-! ### Milliseconds -/
theorem mil_mul (m : Int) : 1000 * mil m = (m : Rat) := by
 unfold mil
 rw [Rat.mkRat_eq_div]
 have : ((1000 : Nat) : Rat) = 1000 := rfl
 rw [this]
 have h : (1000 : Rat) ≠ 0 := by decide
 grind
theorem den_mul (q : Rat) : ((q.den : Int) : Rat) * q = (q.num : Rat) := by
 have h1 := Rat.mkRat_self q
 rw [Rat.mkRat_eq_div] at h1
 have h2 : ((q.den : Int) : Rat) = (q.den : Rat) := Rat.intCast_natCast _
 have h3 : (0 : Rat) < ((q.den : Int) : Rat) := Rat.intCast_pos.2 (by have := q.den_pos;omega)
 rw [h2] at h3 ⊢
 have h4 : (q.den : Rat) ≠ 0 := by grind
 conv => lhs;rw [← h1]
 grind
theorem mil_le' {m : Int} {q : Rat} : mil m ≤ q ↔ m * q.den ≤ 1000 * q.num := by
 have hd : (0 : Rat) < ((q.den : Int) : Rat) := Rat.intCast_pos.2 (by have := q.den_pos;omega)
 rw [← Rat.intCast_le_intCast, Rat.intCast_mul, Rat.intCast_mul, ← den_mul q, ← mil_mul m, show ((1000 : Int) : Rat) = 1000 from rfl]
 constructor
 ·intro h
  have := Rat.mul_le_mul_of_nonneg_left h (Rat.le_of_lt hd)
  grind
 ·intro h
  exact Rat.le_of_mul_le_mul_left (c := ((q.den : Int) : Rat)) (by grind) hd
theorem mil_le {m : Int} {q : Rat} : mil m ≤ q ↔ m ≤ milQ q := by
 rw [mil_le', milQ, Int.le_ediv_iff_mul_le (by have := q.den_pos;omega)]
theorem mil_mono {m n : Int} (h : m ≤ n) : mil m ≤ mil n := by
 have h1 := mil_mul m
 have h2 := mil_mul n
 have h3 : (m : Rat) ≤ (n : Rat) := Rat.intCast_le_intCast.2 h
 grind
/-! ### Searches -/
theorem bis_spec {B : Int → Prop} [DecidablePred B] : ∀ {n : Nat} {lo hi : Int}, ¬ B lo → B hi → lo < hi → hi - lo ≤ 2 ^ n → ¬ B (bis B n lo hi) ∧ B (bis B n lo hi + 1)
 | 0, lo, hi, h1, h2, h3, h4 => by
  have : hi = lo + 1 := by simp at h4;omega
  subst this
  exact ⟨h1, h2⟩
 | n + 1, lo, hi, h1, h2, h3, h4 => by
  rw [bis]
  by_cases h : 1 < hi - lo
  ·have h4' : hi - lo ≤ 2 * 2 ^ n := by rw [Int.pow_succ] at h4;omega
   have g1 : hi - (lo + (hi - lo) / 2) ≤ 2 ^ n := by generalize (2 : Int) ^ n = W at *;omega
   have g2 : lo + (hi - lo) / 2 - lo ≤ 2 ^ n := by generalize (2 : Int) ^ n = W at *;omega
   rw [if_pos h]
   split
   ·rename_i hB;exact bis_spec h1 hB (by omega) g2
   ·rename_i hB;exact bis_spec hB h2 (by omega) g1
  ·rw [if_neg h]
   have : hi = lo + 1 := by omega
   subst this
   exact ⟨h1, h2⟩
end Go.Proofs.YtlncmkafjjomgaaGreat
set_option linter.unusedSimpArgs false
namespace Go.Proofs.YtlncmkafjjomgaaGreat
set_option linter.unusedVariables false
theorem milQ_range {q : Rat} (h : rangP q) : -1099511627776000 ≤ milQ q ∧ milQ q ≤ 1099511627776000 := by
 constructor
 ·refine mil_le.1 ?_
  have h1 := mil_mul (-1099511627776000)
  rw [show ((-1099511627776000 : Int) : Rat) = -1099511627776000 from rfl] at h1
  have := h.1
  grind
 ·rcases Int.lt_or_le 1099511627776000 (milQ q) with h2 | h2
  ·exfalso
   have h3 := mil_le.2 (show (1099511627776001 : Int) ≤ milQ q by omega)
   have h1 := mil_mul 1099511627776001
   rw [show ((1099511627776001 : Int) : Rat) = 1099511627776001 from rfl] at h1
   have := h.2
   grind
  ·exact h2
theorem milQ_mono {a e : Rat} (h : a ≤ e) : milQ a ≤ milQ e := mil_le.1 (Rat.le_trans (mil_le.2 (Int.le_refl _)) h)
/-! ### The pieces one after the other -/
theorem pcAt_cons (x : PcQ) (l : List PcQ) (i : Nat) : pcAt (x :: l) (i + 1) = pcAt l i := by unfold pcAt;simp
end Go.Proofs.YtlncmkafjjomgaaGreat
