/- Contracts of the leaf functions of the reference of chapter 2. | Contract of the reference's Mul. | Contract of the reference's Div. | Contract of the reference's Div: the loop. | Contracts of the reference's Div, joined, and plain facts for its Gcd. | Contract of the reference's Gcd. -/
import Derived.Test.YtfchdagalklgpaaGreatDoorMd
import Derived.Deep.RegionWith
import Derived.IntWalk
namespace Go.Proofs.YtfchdagalklgpaaGreatDoor
set_option linter.unusedVariables false
open Go.RowKit Go.Sort

end Go.Proofs.YtfchdagalklgpaaGreatDoor
namespace Go.Proofs.YtfchdagalklgpaaGreatDoor
set_option linter.unusedVariables false
open Go.RowKit Go.Sort

end Go.Proofs.YtfchdagalklgpaaGreatDoor
namespace Go.Proofs.YtfchdagalklgpaaGreatDoor
set_option linter.unusedVariables false
open Go.RowKit Go.Sort

/-- The two words of a number. -/
def Wd (x h l : Int) : Prop := h = x / 18446744073709551616 ∧ l = x % 18446744073709551616

end Go.Proofs.YtfchdagalklgpaaGreatDoor
namespace Go.Proofs.YtfchdagalklgpaaGreatDoor
set_option linter.unusedVariables false
open Go.RowKit Go.Sort

theorem sh_in {R A r2 rh rl ah al : Int} (hR : Wd R rh rl) (hA : Wd A ah al) (h0 : 0 ≤ R) (h1 : R < 340282366920938463463374607431768211456) (h2 : 0 ≤ A) (h3 : A < 340282366920938463463374607431768211456)
    (h : r2 = (2 * R + A / 170141183460469231731687303715884105728) % 340282366920938463463374607431768211456) :
    IntKind.u64.wrap (IntKind.u64.wrap (rh * 2) + rl / 9223372036854775808) = r2 / 18446744073709551616 ∧ IntKind.u64.wrap (IntKind.u64.wrap (rl * 2) + ah / 9223372036854775808) = r2 % 18446744073709551616 := by
  obtain ⟨rfl, rfl⟩ := hR
  obtain ⟨rfl, rfl⟩ := hA
  simp only [wrap_u64]
  omega
theorem sh_0 {R r2 rh rl : Int} (hR : Wd R rh rl) (h0 : 0 ≤ R) (h1 : R < 340282366920938463463374607431768211456)
    (h : r2 = (2 * R) % 340282366920938463463374607431768211456) :
    IntKind.u64.wrap (IntKind.u64.wrap (rh * 2) + rl / 9223372036854775808) = r2 / 18446744073709551616 ∧ IntKind.u64.wrap (rl * 2) = r2 % 18446744073709551616 := by
  obtain ⟨rfl, rfl⟩ := hR
  simp only [wrap_u64]
  omega
theorem div_inv0 (p b T A Q R : Int) (hi : p * T = (Q * b + R) * 340282366920938463463374607431768211456 + A) :
    p * (2 * T) = (2 * Q * b + (2 * R + A / 170141183460469231731687303715884105728)) * 340282366920938463463374607431768211456 + (2 * A) % 340282366920938463463374607431768211456 := by
  have e1 : p * (2 * T) = 2 * (p * T) := by grind
  have e2 : 2 * Q * b = 2 * (Q * b) := by grind
  rw [e1, e2, hi]
  generalize Q * b = X
  omega
theorem div_inv1 (p b T A Q R : Int) (hi : p * T = (Q * b + R) * 340282366920938463463374607431768211456 + A) :
    p * (2 * T) = ((2 * Q + 1) * b + (2 * R + A / 170141183460469231731687303715884105728 - b)) * 340282366920938463463374607431768211456 + (2 * A) % 340282366920938463463374607431768211456 := by
  have e1 : p * (2 * T) = 2 * (p * T) := by grind
  have e2 : (2 * Q + 1) * b = 2 * (Q * b) + b := by grind
  rw [e1, e2, hi]
  generalize Q * b = X
  omega
theorem two_pow_le (i : Nat) (h : i < 128) : (0:Int) < 2 ^ i ∧ (2:Int) ^ i ≤ 170141183460469231731687303715884105728 := by
  refine ⟨Int.pow_pos (by decide), ?_⟩
  have h2 : (2:Nat) ^ i ≤ 2 ^ 127 := Nat.pow_le_pow_right (by decide) (by omega)
  have h3 : ((2 ^ i : Nat) : Int) ≤ ((2 ^ 127 : Nat) : Int) := Int.ofNat_le.2 h2
  rw [Int.natCast_pow] at h3
  simpa using h3
theorem two_pow_step (i : Nat) : (2:Int) ^ (i + 1) = 2 * 2 ^ i := by rw [Int.pow_succ]; omega
theorem div_end (p b A Q R : Int) (hi : p * 340282366920938463463374607431768211456 = (Q * b + R) * 340282366920938463463374607431768211456 + A) (h0 : 0 ≤ A) (h1 : A < 340282366920938463463374607431768211456) (h2 : 0 ≤ R) (h3 : R < b) : Q = p / b ∧ R = p % b := by
  have e : p = Q * b + R := by generalize Q * b = X at *; omega
  have h5 := div_unique p b Q R e h2 h3
  exact ⟨h5.1.symm, h5.2.symm⟩
def DivPost (p b : Int) (w : World) (e : Ending) (w' : World) : Prop :=
      ∃ A Q R qh ql rh rl : Int, Hid (0 ≤ A ∧ A < 340282366920938463463374607431768211456) ∧ Hid (0 ≤ R ∧ R < b) ∧ Hid (p * 340282366920938463463374607431768211456 = (Q * b + R) * 340282366920938463463374607431768211456 + A) ∧ Hid (Wd Q qh ql) ∧ Hid (Wd R rh rl) ∧
      e = .returned (.tuple #[.agg #[.int .u64 qh, .int .u64 ql], .agg #[.int .u64 rh, .int .u64 rl]]) ∧ Tr w w'
end Go.Proofs.YtfchdagalklgpaaGreatDoor
namespace Go.Proofs.YtfchdagalklgpaaGreatDoor
set_option linter.unusedVariables false
open Go.RowKit Go.Sort

/-- The number that lies in a block of two words. -/
def wideAt (w : World) (b : Nat) : Nat := (intOf ((w.cell? ⟨b, 0, none⟩).getD undef) * 18446744073709551616 + intOf ((w.cell? ⟨b, 1, none⟩).getD undef)).toNat
theorem wideAt_eq {w : World} {b : Nat} {x h l : Int} (hw : Wd x h l) (h0 : w.cell? ⟨b, 0, none⟩ = some (.int .u64 h)) (h1 : w.cell? ⟨b, 1, none⟩ = some (.int .u64 l)) : wideAt w b = x.toNat := by
  obtain ⟨rfl, rfl⟩ := hw
  unfold wideAt
  rw [h0, h1]
  simp only [Option.getD_some, intOf]
  congr 1
  omega
theorem mask1 (x : Int) (h0 : 0 ≤ x) (h1 : x < 18446744073709551616) : bits .and .u64 x 1 = x % 2 :=
  bits_mask .u64 64 (by decide) wraps_u64 1 (by decide) x h0 (by simpa using h1)
theorem gcd_half_left (a b : Int) (ha : a % 2 = 0) (hb : b % 2 = 1) : Int.gcd (a / 2) b = Int.gcd a b := by
  have e : a = 2 * (a / 2) := by omega
  have hc : Nat.Coprime 2 b.natAbs := by show Nat.gcd 2 b.natAbs = 1; rw [Nat.gcd_rec, show b.natAbs % 2 = 1 by omega]; exact Nat.gcd_one_left _
  rw [Int.gcd, Int.gcd, show a.natAbs = 2 * (a / 2).natAbs by omega, Nat.Coprime.gcd_mul_left_cancel _ hc]
theorem gcd_half_right (a b : Int) (ha : a % 2 = 1) (hb : b % 2 = 0) : Int.gcd a (b / 2) = Int.gcd a b := by
  rw [Int.gcd_comm, gcd_half_left b a hb ha, Int.gcd_comm]
theorem gcd_sub (a b : Int) : Int.gcd (a - b) b = Int.gcd a b := by
  simp
theorem gcd_twice (a b : Int) (ha : a % 2 = 0) (hb : b % 2 = 0) : Int.gcd a b = 2 * Int.gcd (a / 2) (b / 2) := by
  rw [Int.gcd, Int.gcd, show a.natAbs = 2 * (a / 2).natAbs by omega, show b.natAbs = 2 * (b / 2).natAbs by omega, Nat.gcd_mul_left]
end Go.Proofs.YtfchdagalklgpaaGreatDoor
namespace Go.Proofs.YtfchdagalklgpaaGreatDoor
set_option linter.unusedVariables false
open Go.RowKit Go.Sort

theorem wide_lt {w1 w2 : World} {b : Nat} {x1 h1 l1 x2 h2 l2 : Int} (a1 : Wd x1 h1 l1) (a2 : Wd x2 h2 l2) (c1 : w1.cell? ⟨b, 0, none⟩ = some (.int .u64 h1)) (c2 : w1.cell? ⟨b, 1, none⟩ = some (.int .u64 l1))
    (c3 : w2.cell? ⟨b, 0, none⟩ = some (.int .u64 h2)) (c4 : w2.cell? ⟨b, 1, none⟩ = some (.int .u64 l2)) (h0 : 0 ≤ x1) (h : x1 < x2) : wideAt w1 b < wideAt w2 b := by
  rw [wideAt_eq a1 c1 c2, wideAt_eq a2 c3 c4]; omega
theorem wide_lt2 {w1 w2 : World} {b b' : Nat} {x1 h1 l1 x2 h2 l2 y1 i1 j1 y2 i2 j2 : Int} (a1 : Wd x1 h1 l1) (a2 : Wd x2 h2 l2) (a3 : Wd y1 i1 j1) (a4 : Wd y2 i2 j2) (h0 : 0 ≤ x1 ∧ 0 ≤ y1 ∧ x1 + y1 < x2 + y2)
    (c1 : w1.cell? ⟨b, 0, none⟩ = some (.int .u64 h1)) (c2 : w1.cell? ⟨b, 1, none⟩ = some (.int .u64 l1)) (d1 : w1.cell? ⟨b', 0, none⟩ = some (.int .u64 i1)) (d2 : w1.cell? ⟨b', 1, none⟩ = some (.int .u64 j1))
    (c3 : w2.cell? ⟨b, 0, none⟩ = some (.int .u64 h2)) (c4 : w2.cell? ⟨b, 1, none⟩ = some (.int .u64 l2)) (d3 : w2.cell? ⟨b', 0, none⟩ = some (.int .u64 i2)) (d4 : w2.cell? ⟨b', 1, none⟩ = some (.int .u64 j2)) :
    wideAt w1 b + wideAt w1 b' < wideAt w2 b + wideAt w2 b' := by
  rw [wideAt_eq a1 c1 c2, wideAt_eq a2 c3 c4, wideAt_eq a3 d1 d2, wideAt_eq a4 d3 d4]; omega
theorem wd_mask {x h l : Int} (a : Wd x h l) : bits .and .u64 l 1 = x % 2 := by
  rw [a.2, mask1 _ (by omega) (by omega)]; omega
theorem wd_zero {x h l : Int} (a : Wd x h l) (h0 : 0 ≤ x) (h1 : x < 340282366920938463463374607431768211456) : (x = 0 ∧ h = 0 ∧ l = 0) ∨ (1 ≤ x ∧ (h == 0) = false) ∨ (1 ≤ x ∧ (h == 0) = true ∧ (l == 0) = false) := by
  obtain ⟨rfl, rfl⟩ := a
  by_cases e1 : x / 18446744073709551616 = 0
  · by_cases e2 : x % 18446744073709551616 = 0
    · exact .inl (by omega)
    · exact .inr (.inr ⟨by omega, by simp [e1], by simp [e2]⟩)
  · exact .inr (.inl ⟨by omega, by simp [e1]⟩)
def Big : Int := 340282366920938463463374607431768211456
theorem gcd_le_r {a b : Int} (hb : 1 ≤ b) : (Int.gcd a b : Int) ≤ b := Int.gcd_le_right _ (by omega)
theorem twos_lt {g t : Nat} {G : Int} (h : (g : Int) * 2 ^ t = G) (hg : 1 ≤ g) (hG : G < Big) : t < 128 := by
  rcases Nat.lt_or_ge t 128 with h1 | h1
  · exact h1
  · exfalso
    have h2 : (2:Nat) ^ 128 ≤ 2 ^ t := Nat.pow_le_pow_right (by decide) h1
    have h3 : ((2 ^ 128 : Nat) : Int) ≤ ((2 ^ t : Nat) : Int) := Int.ofNat_le.2 h2
    rw [Int.natCast_pow] at h3
    have h4 : (2:Int) ^ t ≤ (g : Int) * 2 ^ t := by
      have : (1:Int) * 2 ^ t ≤ (g : Int) * 2 ^ t := Int.mul_le_mul_of_nonneg_right (by omega) (Int.le_of_lt (Int.pow_pos (by decide)))
      simpa using this
    simp at h3
    rw [h] at h4
    have : ((2:Int) ^ t) = (((2:Nat) : Int) ^ t) := rfl
    unfold Big at hG
    omega

theorem gcd_half2 {x y : Int} {t : Nat} {G : Int} (hx : x % 2 = 0) (hy : y % 2 = 0) (h : (Int.gcd x y : Int) * 2 ^ t = G) : (Int.gcd (x / 2) (y / 2) : Int) * 2 ^ (t + 1) = G := by
  rw [gcd_twice x y hx hy] at h
  rw [← h, Int.pow_succ]
  push_cast
  grind
def GcdPost (p q : Int) (w : World) (e : Ending) (w' : World) : Prop :=
  ∃ gh gl : Int, Hid (Wd (Int.gcd p q) gh gl) ∧ e = .returned (.agg #[.int .u64 gh, .int .u64 gl]) ∧ Tr w w'
theorem gcd_lt_big {p q : Int} (hq : 1 ≤ q) (h : q < Big) : (Int.gcd p q : Int) < Big := Int.lt_of_le_of_lt (gcd_le_r hq) h

end Go.Proofs.YtfchdagalklgpaaGreatDoor
