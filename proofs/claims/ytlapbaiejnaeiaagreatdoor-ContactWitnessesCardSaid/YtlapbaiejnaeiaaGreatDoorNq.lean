/- Lemmas of the proof. -/
import Derived.Test.YtlapbaiejnaeiaaGreatDoorNf
import Derived.Test.YtlapbaiejnaeiaaGreatDoorNe
import Derived.Test.YtlapbaiejnaeiaaGreatDoorMp
import Derived.Test.YtlapbaiejnaeiaaGreatDoorMd
import Derived.Test.YtlapbaiejnaeiaaGreatDoorOa
import Derived.Test.YtlapbaiejnaeiaaGreatDoorNi
import Derived.Test.YtlapbaiejnaeiaaGreatDoorMj
import Derived.Test.YtlapbaiejnaeiaaGreatDoorPl
set_option linter.all false
namespace Go.Proofs.YtlapbaiejnaeiaaGreatDoor
def a5k := @Rat.mul_neg_iff_of_pos_left
def a7a := @Rat.mul_pos_iff_of_pos_left
end Go.Proofs.YtlapbaiejnaeiaaGreatDoor
namespace Go.Proofs.YtlapbaiejnaeiaaGreatDoor.R24

/-! ### Sums -/
/-! ### Differences -/
/-! ### Products -/
/-! ### Lists that grow -/
/-! ### The reference's product -/
/-! ### Comparison -/
end Go.Proofs.YtlapbaiejnaeiaaGreatDoor.R24
namespace Go.Proofs.YtlapbaiejnaeiaaGreatDoor
open Go.RowKit
def bz (k : Nat) (z : Int) : Prop := z.natAbs < 16777216 ^ k
/-! ### Int -/
/-! ### Exact fractions -/
/-! ### enclosed -/
def Aeg (lo hi : Int) : Int := (lo + hi).tdiv 2
def Kp (p : PcQ) : Rat := p.f + -p.b / (2 * p.c)
def Ae8 (l : List PcQ) (k : Int) (t : Rat) : Option Rat := if k < 0 then some (A8 l 0).a else if okA (A8 l k.toNat) t then some (I7 (A8 l k.toNat) (t - (A8 l k.toNat).f)) else none
end Go.Proofs.YtlapbaiejnaeiaaGreatDoor
namespace Go.Proofs.YtlapbaiejnaeiaaGreatDoor
/-! ### The A31 of a list, none if there is a none -/
/-! ### What both reckon -/
def Aef (p : PcQ) (u : Rat) : Option Rat := if okV p u then some (I7 p u) else none
def xP (p : PcQ) (a b : Rat) : List (Option Rat) :=
 if ¬ Fits (2 * p.c) then [none] else if ¬ Fits (-p.b / (2 * p.c)) then [none] else if ¬ Fits (a - p.f) then [none]
 else if a - p.f < -p.b / (2 * p.c) then (if ¬ Fits (b - p.f) then [none] else if -p.b / (2 * p.c) < b - p.f then [Aef p (-p.b / (2 * p.c))] else []) else []
def P1 (l : List PcQ) (fr te : Rat) (i : Nat) : List (Option Rat) := if fr < (A8 l i).f /\ (A8 l i).f <= te then [some (A8 l i).a, Ae8 l ((i : Int) - 1) (A8 l i).f] else []
def P2 (l : List PcQ) (fr te : Rat) (i : Nat) : List (Option Rat) := if Ae5 l fr te i then [] else xP (A8 l i) (lsA l fr i) (ptB l te i)
/-! ### The program's loop -/
/-! ### Where the times lie -/
theorem Hm {a b c : Rat} (h : a < b) (k : b <= c) : a < c := a2f.1 fun h2 => a2m.2 (a0r k h2) h
theorem Adl {a b c : Rat} (h : a <= b) (k : b < c) : a < c := a2f.1 fun h2 => a2m.2 (a0r h2 h) k
section
variable {l : List PcQ} {fr te : Rat} (hs : Be l) (hle : fr <= te)
include hs
end
/-! ### A piece -/
theorem Acn (p : PcQ) (a t : Rat) : vR p t - vR p a = (t - a) * (sR p a + p.c * (t - a)) := by unfold vR sR;grind
theorem Acm (p : PcQ) (a t : Rat) : vR p t - vR p a = (t - a) * (sR p t - p.c * (t - a)) := by unfold vR sR;grind
theorem A1s (p : PcQ) (a t : Rat) : sR p t = sR p a + 2 * (p.c * (t - a)) := by unfold sR;grind
theorem disc (p : PcQ) (t : Rat) : 4 * p.a * p.c - p.b * p.b = 4 * (p.c * vR p t) - sR p t * sR p t := by unfold vR sR;grind
theorem A73 (x : Rat) : 0 <= x * x := by
 rcases (Rat.le_total : (0 : Rat) <= x \/ x <= 0) with h | h
 ·exact Rat.mul_nonneg h h
 ·have := Rat.mul_nonneg (a := -x) (b := -x) (by grind) (by grind)
  grind
theorem dip {p : PcQ} {a s t : Rat} (h1 : a <= s) (h2 : s <= t) (ha : 0 <= vR p a) (hs : vR p s < 0) (ht : 0 <= vR p t) : 0 < p.c /\ sR p a < 0 /\ 0 < sR p t := by
 have n1 : a < s := a9h h1 (fun e => by subst e;exact absurd hs (a2m.2 ha))
 have n2 : s < t := a9h h2 (fun e => by subst e;exact absurd hs (a2m.2 ht))
 have d1 : 0 < s - a := by grind
 have d2 : 0 < t - s := by grind
 have e1 := Acm p a s
 have e2 := Acn p s t
 have g1 : sR p s - p.c * (s - a) < 0 := (a5k d1).1 (by rw [<- e1];grind)
 have g2 : 0 < sR p s + p.c * (t - s) := (a7a d2).1 (by rw [<- e2];grind)
 have g3 : 0 < (t - a) * p.c := by grind
 have hc : 0 < p.c := (a7a (by grind)).1 g3
 have k1 := Rat.mul_pos hc d1
 have k2 := Rat.mul_pos hc d2
 have k3 := A1s p a s
 have k4 := A1s p s t
 exact ⟨hc, by grind, by grind⟩
theorem Abf {p : PcQ} (hc : 0 < p.c) : 2 * p.c * (Kp p - p.f) = -p.b := by
 unfold Kp
 have h : 2 * p.c ≠ 0 := by grind
 have := Rat.mul_div_cancel (a := -p.b) h
 grind
theorem Uf {p : PcQ} (hc : 0 < p.c) (t : Rat) : sR p t = 2 * p.c * (t - Kp p) := by
 have := Abf hc
 unfold sR
 grind
theorem A3k {p : PcQ} (hc : 0 < p.c) (t : Rat) : sR p t < 0 ↔ t < Kp p := by
 rw [Uf hc, a5k (by grind)]
 constructor <;> intro h <;> grind
theorem A3l {p : PcQ} (hc : 0 < p.c) (t : Rat) : 0 < sR p t ↔ Kp p < t := by
 rw [Uf hc, a7a (by grind)]
 constructor <;> intro h <;> grind
theorem A8c {p : PcQ} (hc : 0 < p.c) : 4 * p.a * p.c - p.b * p.b < 0 ↔ vR p (Kp p) < 0 := by
 have h1 : sR p (Kp p) = 0 := by rw [Uf hc];grind
 rw [disc p (Kp p), h1]
 have k := a5k hc (b := vR p (Kp p))
 constructor
 ·intro h;exact k.1 (by grind)
 ·intro h;have := k.2 h;grind
theorem Aaw {p : PcQ} {a t : Rat} (h : B5 p a t) : a < t /\ ∃ s, a <= s /\ s <= t /\ vR p s < 0 := by
 obtain ⟨h1, h2⟩ := h
 refine ⟨h1, ?_⟩
 rcases h2 with (h2 | h2) | ⟨hc, h3, h4, h5⟩
 ·exact ⟨a, a3j, a2c h1, h2⟩
 ·exact ⟨t, a2c h1, a3j, h2⟩
 ·exact ⟨Kp p, a2c ((A3k hc a).1 h3), a2c ((A3l hc t).1 h4), (A8c hc).1 h5⟩
theorem Aav {p : PcQ} {a s t : Rat} (h0 : a < t) (h1 : a <= s) (h2 : s <= t) (hs : vR p s < 0) : B5 p a t := by
 refine ⟨h0, ?_⟩
 by_cases ha : vR p a < 0
 ·exact .inl (.inl ha)
 by_cases ht : vR p t < 0
 ·exact .inl (.inr ht)
 obtain ⟨hc, g1, g2⟩ := dip h1 h2 (a2m.1 ha) hs (a2m.1 ht)
 refine .inr ⟨hc, g1, g2, ?_⟩
 rw [disc p s]
 have k1 := (a5k hc (b := vR p s)).2 hs
 have k2 := A73 (sR p s)
 grind
theorem Nf {p : PcQ} {a t t' : Rat} (h : B5 p a t) (ht : t <= t') : B5 p a t' := by
 obtain ⟨h0, s, h1, h2, h3⟩ := Aaw h
 exact Aav (Hm h0 ht) h1 (a0r h2 ht) h3
/-! ### Milliseconds -/
theorem E8 (m : Int) : 1000 * mil m = (m : Rat) := by
 unfold mil
 rw [Rat.mkRat_eq_div]
 have : ((1000 : Nat) : Rat) = 1000 := rfl
 rw [this]
 have h : (1000 : Rat) ≠ 0 := by decide
 grind
theorem A0z (q : Rat) : ((q.den : Int) : Rat) * q = (q.num : Rat) := by
 have h1 := Rat.mkRat_self q
 rw [Rat.mkRat_eq_div] at h1
 have h2 : ((q.den : Int) : Rat) = (q.den : Rat) := Rat.intCast_natCast _
 have h3 : (0 : Rat) < ((q.den : Int) : Rat) := Rat.intCast_pos.2 (by have := q.den_pos;omega)
 rw [h2] at h3 ⊢
 have h4 : (q.den : Rat) ≠ 0 := by grind
 conv => lhs;rw [<- h1]
 grind
theorem Abl {m : Int} {q : Rat} : mil m <= q ↔ m * q.den <= 1000 * q.num := by
 have hd : (0 : Rat) < ((q.den : Int) : Rat) := Rat.intCast_pos.2 (by have := q.den_pos;omega)
 rw [<- a3h, a3n, a3n, <- A0z q, <- E8 m, show ((1000 : Int) : Rat) = 1000 from rfl]
 constructor
 ·intro h
  have := Rat.mul_le_mul_of_nonneg_left h (a2c hd)
  grind
 ·intro h
  exact Rat.le_of_mul_le_mul_left (c := ((q.den : Int) : Rat)) (by grind) hd
theorem mil_le {m : Int} {q : Rat} : mil m <= q ↔ m <= Ah q := by
 rw [Abl, Ah, b1e (by have := q.den_pos;omega)]
theorem Hz {m n : Int} (h : m <= n) : mil m <= mil n := by
 have h1 := E8 m
 have h2 := E8 n
 have h3 : (m : Rat) <= (n : Rat) := a3h.2 h
 grind
/-! ### Searches -/
theorem Hr {B : Int -> Prop} [DecidablePred B] : ∀ {n : Nat} {lo hi : Int}, ¬ B lo -> B hi -> lo < hi -> hi - lo <= 2 ^ n -> ¬ B (bis B n lo hi) /\ B (bis B n lo hi + 1)
 | 0, lo, hi, h1, h2, h3, h4 => by
  have : hi = lo + 1 := by simp at h4;omega
  subst this
  exact ⟨h1, h2⟩
 | n + 1, lo, hi, h1, h2, h3, h4 => by
  rw [bis]
  by_cases h : 1 < hi - lo
  ·have h4' : hi - lo <= 2 * 2 ^ n := by rw [a8h] at h4;omega
   have g1 : hi - (lo + (hi - lo) / 2) <= 2 ^ n := by generalize (2 : Int) ^ n = W at *;omega
   have g2 : lo + (hi - lo) / 2 - lo <= 2 ^ n := by generalize (2 : Int) ^ n = W at *;omega
   rw [if_pos h]
   split
   ·rename_i hB;exact Hr h1 hB (by omega) g2
   ·rename_i hB;exact Hr hB h2 (by omega) g1
  ·rw [if_neg h]
   have : hi = lo + 1 := by omega
   subst this
   exact ⟨h1, h2⟩
theorem Dv {q : Rat} (h : Ba q) : -1099511627776000 <= Ah q /\ Ah q <= 1099511627776000 := by
 constructor
 ·refine mil_le.1 ?_
  have h1 := E8 (-1099511627776000)
  rw [show ((-1099511627776000 : Int) : Rat) = -1099511627776000 from rfl] at h1
  have := h.1
  grind
 ·rcases a9r 1099511627776000 (Ah q) with h2 | h2
  ·exfalso
   have h3 := mil_le.2 (show (1099511627776001 : Int) <= Ah q by omega)
   have h1 := E8 1099511627776001
   rw [show ((1099511627776001 : Int) : Rat) = 1099511627776001 from rfl] at h1
   have := h.2
   grind
  ·exact h2
theorem Gy {a e : Rat} (h : a <= e) : Ah a <= Ah e := mil_le.1 (a0r (mil_le.2 (a4m _)) h)
/-! ### The pieces one after the other -/
theorem A6a (x : PcQ) (l : List PcQ) (i : Nat) : A8 (x :: l) (i + 1) = A8 l i := by unfold A8;simp
end Go.Proofs.YtlapbaiejnaeiaaGreatDoor
