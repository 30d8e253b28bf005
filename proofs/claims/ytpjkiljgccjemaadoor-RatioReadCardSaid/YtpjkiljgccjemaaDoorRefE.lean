/- Contracts of the reference's Div, joined, and plain facts for its Gcd. -/
import Derived.Test.YtpjkiljgccjemaaDoorRefD
namespace Go.Proofs.YtpjkiljgccjemaaDoor
set_option linter.unusedVariables false
open Go.RowKit Go.Sort

/-- The reference's Div. -/
theorem rdiv_val (p b : Int) (w : World) (hp : 0 ≤ p) (hp' : p < 340282366920938463463374607431768211456) (hb : 1 ≤ b) (hb' : b < 340282366920938463463374607431768211456) :
    Calls Tryd.prog 69 #[.agg #[.int .u64 (p / 18446744073709551616), .int .u64 (p % 18446744073709551616)], .agg #[.int .u64 (b / 18446744073709551616), .int .u64 (b % 18446744073709551616)]] w fun e w' =>
      e = .returned (.tuple #[.agg #[.int .u64 (p / b / 18446744073709551616), .int .u64 (p / b % 18446744073709551616)], .agg #[.int .u64 (p % b / 18446744073709551616), .int .u64 (p % b % 18446744073709551616)]]) ∧ Tr w w' := by
  by_cases h1 : p / 18446744073709551616 = 0
  · by_cases h2 : b / 18446744073709551616 = 0
    · have e1 : p % 18446744073709551616 = p := by omega
      have e2 : b % 18446744073709551616 = b := by omega
      have q0 : 0 ≤ p / b := Int.ediv_nonneg hp (by omega)
      have q1 : p / b ≤ p := Int.ediv_le_self _ hp
      have r0 : 0 ≤ p % b := Int.emod_nonneg _ (by omega)
      have r1 : p % b < b := Int.emod_lt_of_pos _ (by omega)
      have := rdiv_small p b w hb (by omega) hp (by omega)
      rw [h1, h2, e1, e2, show p / b / 18446744073709551616 = 0 by omega, show p / b % 18446744073709551616 = p / b by omega, show p % b / 18446744073709551616 = 0 by omega, show p % b % 18446744073709551616 = p % b by omega]
      exact this
    · exact rdiv_core p b _ _ _ _ w hp hp' hb hb' ⟨rfl, rfl⟩ ⟨rfl, rfl⟩ (.inl ⟨by simpa using h1, by simpa using h2⟩)
  · exact rdiv_core p b _ _ _ _ w hp hp' hb hb' ⟨rfl, rfl⟩ ⟨rfl, rfl⟩ (.inr (by simpa using h1))

/-- The number that lies in a block of two words. -/
def wideAt (w : World) (b : Nat) : Nat := (intOf ((w.cell? ⟨b, 0, none⟩).getD undef) * 18446744073709551616 + intOf ((w.cell? ⟨b, 1, none⟩).getD undef)).toNat
theorem wideAt_eq {w : World} {b : Nat} {x h l : Int} (hw : Wd x h l) (h0 : w.cell? ⟨b, 0, none⟩ = some (.int .u64 h)) (h1 : w.cell? ⟨b, 1, none⟩ = some (.int .u64 l)) : wideAt w b = x.toNat := by
  obtain ⟨rfl, rfl⟩ := hw
  unfold wideAt
  rw [h0, h1]
  simp only [Option.getD_some, intOf]
  congr 1
  omega
theorem mask1 (x : Int) (h0 : 0 ≤ x) (h1 : x < 18446744073709551616) : bits .and .u64 x 1 = x % 2 :=
  bits_mask .u64 64 (by decide) wraps_u64 1 (by decide) x h0 (by simpa using h1)
theorem gcd_half_left (a b : Int) (ha : a % 2 = 0) (hb : b % 2 = 1) : Int.gcd (a / 2) b = Int.gcd a b := by
  have e : a = 2 * (a / 2) := by omega
  have hc : Nat.Coprime 2 b.natAbs := by show Nat.gcd 2 b.natAbs = 1; rw [Nat.gcd_rec, show b.natAbs % 2 = 1 by omega]; exact Nat.gcd_one_left _
  rw [Int.gcd, Int.gcd, show a.natAbs = 2 * (a / 2).natAbs by omega, Nat.Coprime.gcd_mul_left_cancel _ hc]
theorem gcd_half_right (a b : Int) (ha : a % 2 = 1) (hb : b % 2 = 0) : Int.gcd a (b / 2) = Int.gcd a b := by
  rw [Int.gcd_comm, gcd_half_left b a hb ha, Int.gcd_comm]
theorem gcd_sub (a b : Int) : Int.gcd (a - b) b = Int.gcd a b := by
  simp
theorem gcd_twice (a b : Int) (ha : a % 2 = 0) (hb : b % 2 = 0) : Int.gcd a b = 2 * Int.gcd (a / 2) (b / 2) := by
  rw [Int.gcd, Int.gcd, show a.natAbs = 2 * (a / 2).natAbs by omega, show b.natAbs = 2 * (b / 2).natAbs by omega, Nat.gcd_mul_left]
theorem rhalf_wd {p h l h2 l2 : Int} (h1 : Wd p h l) (h3 : Wd (p / 2) h2 l2) (hp : 0 ≤ p) (hp' : p < 340282366920938463463374607431768211456) (w : World) :
    Calls Tryd.prog 70 #[.agg #[.int .u64 h, .int .u64 l]] w fun e w' => e = .returned (.agg #[.int .u64 h2, .int .u64 l2]) ∧ Tr w w' := by
  obtain ⟨rfl, rfl⟩ := h1
  obtain ⟨rfl, rfl⟩ := h3
  exact rhalf_val p hp hp' w
theorem rplus_wd {p q ph pl qh ql rh rl : Int} (h1 : Wd p ph pl) (h2 : Wd q qh ql) (h3 : Wd (p + q) rh rl) (hp : 0 ≤ p) (hq : 0 ≤ q) (h : p + q < 340282366920938463463374607431768211456) (w : World) :
    Calls Tryd.prog 54 #[.agg #[.int .u64 ph, .int .u64 pl], .agg #[.int .u64 qh, .int .u64 ql]] w fun e w' => e = .returned (.agg #[.int .u64 rh, .int .u64 rl]) ∧ Tr w w' := by
  obtain ⟨rfl, rfl⟩ := h1
  obtain ⟨rfl, rfl⟩ := h2
  obtain ⟨rfl, rfl⟩ := h3
  exact rplus_val p q hp hq h w
end Go.Proofs.YtpjkiljgccjemaaDoor
