/- Lemmas of the proof. -/
import Derived.Test.YtlapbaiejnaeiaaGreatDoorNf
import Derived.Test.YtlapbaiejnaeiaaGreatDoorNe
import Derived.Test.YtlapbaiejnaeiaaGreatDoorMp
import Derived.Test.YtlapbaiejnaeiaaGreatDoorMd
import Derived.Test.YtlapbaiejnaeiaaGreatDoorNk
import Derived.Test.YtlapbaiejnaeiaaGreatDoorNi
import Derived.Test.YtlapbaiejnaeiaaGreatDoorMk
import Derived.Test.YtlapbaiejnaeiaaGreatDoorPl
set_option linter.all false
namespace Go.Proofs.YtlapbaiejnaeiaaGreatDoor
def a3y := @Rat.mul_pos_iff_of_pos_left
def a7b := @Rat.mul_neg_iff_of_pos_left
end Go.Proofs.YtlapbaiejnaeiaaGreatDoor
namespace Go.Proofs.YtlapbaiejnaeiaaGreatDoor.R24

/-! ### Sums -/
/-! ### Differences -/
/-! ### Products -/
/-! ### Lists that grow -/
/-! ### The reference's product -/
/-! ### Comparison -/
end Go.Proofs.YtlapbaiejnaeiaaGreatDoor.R24
namespace Go.Proofs.YtlapbaiejnaeiaaGreatDoor
open Go.RowKit
def bz (k : Nat) (z : Int) : Prop := z.natAbs < 16777216 ^ k
/-! ### Int -/
/-! ### Exact fractions -/
/-! ### enclosed -/
def Afp (lo hi : Int) : Int := (lo + hi).tdiv 2
end Go.Proofs.YtlapbaiejnaeiaaGreatDoor
namespace Go.Proofs.YtlapbaiejnaeiaaGreatDoor
/-! ### The A3o of a list, none if there is a none -/
/-! ### What both reckon -/
/-! ### The program's loop -/
/-! ### Where the times lie -/
theorem Ov {a b c : Rat} (h : a < b) (k : b <= c) : a < c := a2m.1 fun h2 => a2l.2 (a0v k h2) h
theorem A7n {a b c : Rat} (h : a <= b) (k : b < c) : a < c := a2m.1 fun h2 => a2l.2 (a0v h2 h) k
section
variable {l : List PcQ} {fr te : Rat} (hs : Aj l) (hle : fr <= te)
include hs
end
/-! ### A piece -/
theorem Adz (p : PcQ) (a t : Rat) : vR p t - vR p a = (t - a) * (sR p a + p.c * (t - a)) := by unfold vR sR;grind
theorem Ady (p : PcQ) (a t : Rat) : vR p t - vR p a = (t - a) * (sR p t - p.c * (t - a)) := by unfold vR sR;grind
theorem A29 (p : PcQ) (a t : Rat) : sR p t = sR p a + 2 * (p.c * (t - a)) := by unfold sR;grind
theorem disc (p : PcQ) (t : Rat) : 4 * p.a * p.c - p.b * p.b = 4 * (p.c * vR p t) - sR p t * sR p t := by unfold vR sR;grind
theorem A83 (x : Rat) : 0 <= x * x := by
 rcases (Rat.le_total : (0 : Rat) <= x \/ x <= 0) with h | h
 ·exact Rat.mul_nonneg h h
 ·have := Rat.mul_nonneg (a := -x) (b := -x) (by grind) (by grind)
  grind
theorem dip {p : PcQ} {a s t : Rat} (h1 : a <= s) (h2 : s <= t) (ha : 0 <= vR p a) (hs : vR p s < 0) (ht : 0 <= vR p t) : 0 < p.c /\ sR p a < 0 /\ 0 < sR p t := by
 have n1 : a < s := a6g h1 (fun e => by subst e;exact absurd hs (a2l.2 ha))
 have n2 : s < t := a6g h2 (fun e => by subst e;exact absurd hs (a2l.2 ht))
 have d1 : 0 < s - a := by grind
 have d2 : 0 < t - s := by grind
 have e1 := Ady p a s
 have e2 := Adz p s t
 have g1 : sR p s - p.c * (s - a) < 0 := (a7b d1).1 (by rw [<- e1];grind)
 have g2 : 0 < sR p s + p.c * (t - s) := (a3y d2).1 (by rw [<- e2];grind)
 have g3 : 0 < (t - a) * p.c := by grind
 have hc : 0 < p.c := (a3y (by grind)).1 g3
 have k1 := Rat.mul_pos hc d1
 have k2 := Rat.mul_pos hc d2
 have k3 := A29 p a s
 have k4 := A29 p s t
 exact ⟨hc, by grind, by grind⟩
theorem A12 {p : PcQ} {a s t : Rat} (h0 : a < t) (h1 : a <= s) (h2 : s <= t) (hs : vR p s < 0) : Ca p a t := by
 refine ⟨h0, ?_⟩
 by_cases ha : vR p a < 0
 ·exact .inl (.inl ha)
 by_cases ht : vR p t < 0
 ·exact .inl (.inr ht)
 obtain ⟨hc, g1, g2⟩ := dip h1 h2 (a2l.1 ha) hs (a2l.1 ht)
 refine .inr ⟨hc, g1, g2, ?_⟩
 rw [disc p s]
 have k1 := (a7b hc (b := vR p s)).2 hs
 have k2 := A83 (sR p s)
 grind
/-! ### Milliseconds -/
theorem Cg (m : Int) : 1000 * mil m = (m : Rat) := by
 unfold mil
 rw [Rat.mkRat_eq_div]
 have : ((1000 : Nat) : Rat) = 1000 := rfl
 rw [this]
 have h : (1000 : Rat) ≠ 0 := by decide
 grind
theorem U7 (q : Rat) : ((q.den : Int) : Rat) * q = (q.num : Rat) := by
 have h1 := Rat.mkRat_self q
 rw [Rat.mkRat_eq_div] at h1
 have h2 : ((q.den : Int) : Rat) = (q.den : Rat) := Rat.intCast_natCast _
 have h3 : (0 : Rat) < ((q.den : Int) : Rat) := Rat.intCast_pos.2 (by have := q.den_pos;omega)
 rw [h2] at h3 ⊢
 have h4 : (q.den : Rat) ≠ 0 := by grind
 conv => lhs;rw [<- h1]
 grind
theorem Acq {m : Int} {q : Rat} : mil m <= q ↔ m * q.den <= 1000 * q.num := by
 have hd : (0 : Rat) < ((q.den : Int) : Rat) := Rat.intCast_pos.2 (by have := q.den_pos;omega)
 rw [<- a2u, a2i, a2i, <- U7 q, <- Cg m, show ((1000 : Int) : Rat) = 1000 from rfl]
 constructor
 ·intro h
  have := Rat.mul_le_mul_of_nonneg_left h (a2p hd)
  grind
 ·intro h
  exact Rat.le_of_mul_le_mul_left (c := ((q.den : Int) : Rat)) (by grind) hd
theorem mil_le {m : Int} {q : Rat} : mil m <= q ↔ m <= Aq q := by
 rw [Acq, Aq, b1b (by have := q.den_pos;omega)]
theorem Fq {m n : Int} (h : m <= n) : mil m <= mil n := by
 have h1 := Cg m
 have h2 := Cg n
 have h3 : (m : Rat) <= (n : Rat) := a2u.2 h
 grind
/-! ### Searches -/
theorem M5 {B : Int -> Prop} [DecidablePred B] : ∀ {n : Nat} {lo hi : Int}, ¬ B lo -> B hi -> lo < hi -> hi - lo <= 2 ^ n -> ¬ B (bis B n lo hi) /\ B (bis B n lo hi + 1)
 | 0, lo, hi, h1, h2, h3, h4 => by
  have : hi = lo + 1 := by simp at h4;omega
  subst this
  exact ⟨h1, h2⟩
 | n + 1, lo, hi, h1, h2, h3, h4 => by
  rw [bis]
  by_cases h : 1 < hi - lo
  ·have h4' : hi - lo <= 2 * 2 ^ n := by rw [a8k] at h4;omega
   have g1 : hi - (lo + (hi - lo) / 2) <= 2 ^ n := by generalize (2 : Int) ^ n = W at *;omega
   have g2 : lo + (hi - lo) / 2 - lo <= 2 ^ n := by generalize (2 : Int) ^ n = W at *;omega
   rw [if_pos h]
   split
   ·rename_i hB;exact M5 h1 hB (by omega) g2
   ·rename_i hB;exact M5 hB h2 (by omega) g1
  ·rw [if_neg h]
   have : hi = lo + 1 := by omega
   subst this
   exact ⟨h1, h2⟩
theorem Je {q : Rat} (h : Cc q) : -1099511627776000 <= Aq q /\ Aq q <= 1099511627776000 := by
 constructor
 ·refine mil_le.1 ?_
  have h1 := Cg (-1099511627776000)
  rw [show ((-1099511627776000 : Int) : Rat) = -1099511627776000 from rfl] at h1
  have := h.1
  grind
 ·rcases a9p 1099511627776000 (Aq q) with h2 | h2
  ·exfalso
   have h3 := mil_le.2 (show (1099511627776001 : Int) <= Aq q by omega)
   have h1 := Cg 1099511627776001
   rw [show ((1099511627776001 : Int) : Rat) = 1099511627776001 from rfl] at h1
   have := h.2
   grind
  ·exact h2
theorem Ko {a e : Rat} (h : a <= e) : Aq a <= Aq e := mil_le.1 (a0v (mil_le.2 (a5p _)) h)
/-! ### The pieces one after the other -/
theorem Oh (x : PcQ) (l : List PcQ) (i : Nat) : Ad (x :: l) (i + 1) = Ad l i := by unfold Ad;simp
end Go.Proofs.YtlapbaiejnaeiaaGreatDoor
