/- math/bits.Div64 for every divisor greater than the high word: the quotient and the rest. -/
import Derived.Test.YtpjkiljgccjemaaDoorDiv
import Derived.Laws.BitsLemmas
import Derived.Lib.ItoaNum
namespace Go.Proofs.YtpjkiljgccjemaaDoor
open Go.RowKit Go.Sort

theorem quo_le (a b Q : Int) (hb : 0 < b) (h : Q * b ≤ a) : Q ≤ a / b := (Int.le_ediv_iff_mul_le hb).2 h
theorem quo_lt (a b Q : Int) (hb : 0 < b) (h : a < Q * b) : a / b < Q := (Int.ediv_lt_iff_lt_mul hb).2 h
theorem quo_rem (a b : Int) (hb : 0 < b) : a = (a / b) * b + a % b ∧ 0 ≤ a % b ∧ a % b < b :=
  ⟨by have := Int.mul_ediv_add_emod a b; rw [Int.mul_comm] at this; omega, Int.emod_nonneg _ (by omega), Int.emod_lt_of_pos _ hb⟩
theorem div_unique (U y q r : Int) (h : U = q * y + r) (h0 : 0 ≤ r) (h1 : r < y) : U / y = q ∧ U % y = r := by
  constructor
  · rw [h, Int.mul_comm, Int.mul_add_ediv_left _ _ (by omega), Int.ediv_eq_zero_of_lt h0 h1]; omega
  · rw [h, Int.add_comm, Int.mul_comm, Int.add_mul_emod_self_left]; exact Int.emod_eq_of_lt h0 h1
theorem trial_facts (u y1 y0 n Y : Int) (hY : Y = y1 * 4294967296 + y0) (h1 : 2147483648 ≤ y1) (h3 : 0 ≤ y0) (h4 : y0 < 4294967296) (h5 : 0 ≤ u) (h6 : u < Y) (h7 : 0 ≤ n) (h8 : n < 4294967296) :
    0 ≤ u / y1 ∧ u / y1 ≤ 4294967297 ∧ 0 ≤ u / y1 * y1 ∧ u / y1 * y1 ≤ u ∧ u - u / y1 * y1 < y1 ∧
    (u * 4294967296 + n) / Y * Y ≤ u * 4294967296 + n ∧ u * 4294967296 + n < ((u * 4294967296 + n) / Y + 1) * Y ∧ 0 ≤ (u * 4294967296 + n) / Y ∧ (u * 4294967296 + n) / Y < 4294967296 ∧ (u * 4294967296 + n) / Y ≤ u / y1 := by
  obtain ⟨e1, e2, e3⟩ := quo_rem u y1 (by omega)
  obtain ⟨f1, f2, f3⟩ := quo_rem (u * 4294967296 + n) Y (by omega)
  have q0 : 0 ≤ u / y1 := Int.ediv_nonneg h5 (by omega)
  have Q0 : 0 ≤ (u * 4294967296 + n) / Y := Int.ediv_nonneg (by omega) (by omega)
  refine ⟨q0, ?_, Int.mul_nonneg q0 (by omega), by omega, by omega, by omega, ?_, Q0, ?_, ?_⟩
  · have : u / y1 < 4294967298 := quo_lt _ _ _ (by omega) (by omega)
    omega
  · rw [Int.add_mul]; omega
  · exact quo_lt _ _ _ (by omega) (by omega)
  · refine quo_le _ _ _ (by omega) ?_
    have g : (u * 4294967296 + n) / Y * Y = (u * 4294967296 + n) / Y * y1 * 4294967296 + (u * 4294967296 + n) / Y * y0 := by
      conv => lhs; rw [hY]
      rw [Int.mul_add, Int.mul_assoc, ← hY]
    have g2 : 0 ≤ (u * 4294967296 + n) / Y * y0 := Int.mul_nonneg Q0 h3
    omega
theorem wraps_u64 (n : Int) (h₀ : 0 ≤ n) (h₁ : n < 2 ^ 64) : IntKind.u64.wrap n = n := by rw [wrap_u64]; omega
theorem wrap_rem (u n Q Y R : Int) (h : u * 4294967296 + n = Q * Y + R) (h0 : 0 ≤ R) (h1 : R < 18446744073709551616) :
    IntKind.u64.wrap (IntKind.u64.wrap (IntKind.u64.wrap (u * 4294967296) + n) - IntKind.u64.wrap (Q * Y)) = R := by
  simp only [wrap_u64]
  generalize Q * Y = z at *
  omega
theorem mask32 (x : Int) (h0 : 0 ≤ x) (h1 : x < 18446744073709551616) : bits .and .u64 x 4294967295 = x % 4294967296 :=
  bits_mask .u64 64 (by decide) wraps_u64 32 (by decide) x h0 (by simpa using h1)
set_option maxRecDepth 100000 in
/-- math/bits.Div64. -/
theorem div64_any (hi lo y : Int) (w : World) (h0 : 0 ≤ hi) (h0' : hi < y) (h1 : 0 ≤ lo) (h2 : lo < 18446744073709551616) (h4 : y < 18446744073709551616) :
    Calls Tryd.prog 68 #[.int .u64 hi, .int .u64 lo, .int .u64 y] w fun e w' => e = .returned (.tuple #[.int .u64 ((hi * 18446744073709551616 + lo) / y), .int .u64 ((hi * 18446744073709551616 + lo) % y)]) ∧ Tr w w' := by
  by_cases hz : hi = 0
  · subst hz
    rw [show (0 : Int) * 18446744073709551616 + lo = lo by omega]
    exact div64_small lo y w h1 h2 (by omega) h4
  · have hy0 : y.toNat ≠ 0 := by omega
    obtain ⟨B1, B2, B3⟩ := Lib.bitLenAux_bounds 64 y.toNat (by omega) hy0
    have B4 : Lib.bitLen y.toNat ≤ 64 := Lib.bitLen_le y.toNat 64 (by omega) (by omega)
    change 1 ≤ Lib.bitLen y.toNat at B1
    change 2 ^ (Lib.bitLen y.toNat - 1) ≤ y.toNat at B2
    change y.toNat < 2 ^ Lib.bitLen y.toNat at B3
    generalize hL : Lib.bitLen y.toNat = L at *
    obtain ⟨k, hk, hk'⟩ : ∃ k, L = 64 - k ∧ k ≤ 63 := ⟨64 - L, by omega, by omega⟩
    have ht : (2 : Int) ^ k * 2 ^ L = 18446744073709551616 := by rw [← Int.pow_add, show k + L = 64 by omega]; decide
    have ht' : (2 : Int) ^ (L - 1) * 2 ^ k = 9223372036854775808 := by rw [← Int.pow_add, show L - 1 + k = 63 by omega]; decide
    have B2' : (2 : Int) ^ (L - 1) ≤ y := by
      have : ((2 ^ (L - 1) : Nat) : Int) ≤ y.toNat := by exact_mod_cast B2
      rw [Int.natCast_pow] at this
      have e : ((y.toNat : Nat) : Int) = y := by omega
      rw [e] at this; exact this
    have B3' : y < (2 : Int) ^ L := by
      have : (y.toNat : Int) < ((2 ^ L : Nat) : Int) := by exact_mod_cast B3
      rw [Int.natCast_pow] at this
      have e : ((y.toNat : Nat) : Int) = y := by omega
      rw [e] at this; exact this
    have tp : 0 < (2 : Int) ^ k := Int.pow_pos (by decide)
    have Tp : 0 < (2 : Int) ^ L := Int.pow_pos (by decide)
    have es : (k : Int).toNat = k := by omega
    have eL : (64 - (k : Int)).toNat = L := by omega
    have div := div64_core hi lo y k (y * 2 ^ k)
    rw [es, eL] at div
    generalize (2 : Int) ^ (L - 1) = V at *
    have hTk : ∀ a : Int, 0 ≤ a → a < 2 ^ k → (a : Int) < 2 ^ k := fun _ _ h => h
    have hYlo : 9223372036854775808 ≤ y * 2 ^ k := by rw [← ht']; exact Int.mul_le_mul_of_nonneg_right B2' (by omega)
    have hYhi : y * 2 ^ k < 18446744073709551616 := by rw [← ht, Int.mul_comm (2 ^ k)]; exact Int.mul_lt_mul_of_pos_right B3' tp
    obtain ⟨a1, a2, a3⟩ := quo_rem lo (2 ^ L) Tp
    have lt1 : lo / 2 ^ L < 2 ^ k := quo_lt _ _ _ Tp (by rw [ht]; exact h2)
    have lt0 : 0 ≤ lo / 2 ^ L := Int.ediv_nonneg h1 (by omega)
    have hit : hi * 2 ^ k ≤ (y - 1) * 2 ^ k := Int.mul_le_mul_of_nonneg_right (by omega) (by omega)
    have hit' : (y - 1) * 2 ^ k = y * 2 ^ k - 2 ^ k := by rw [Int.sub_mul]; omega
    have hit0 : 0 ≤ hi * 2 ^ k := Int.mul_nonneg h0 (by omega)
    have low0 : 0 ≤ lo % 2 ^ L * 2 ^ k := Int.mul_nonneg a2 (by omega)
    have low1 : lo % 2 ^ L * 2 ^ k < 18446744073709551616 := by rw [← ht, Int.mul_comm (2 ^ k)]; exact Int.mul_lt_mul_of_pos_right a3 tp
    have lowe : lo * 2 ^ k = lo / 2 ^ L * 18446744073709551616 + lo % 2 ^ L * 2 ^ k := by
      conv => lhs; rw [a1]
      rw [Int.add_mul, Int.mul_assoc, Int.mul_comm (2 ^ L), ht]
    have W1 : IntKind.u64.wrap (hi * 2 ^ k) = hi * 2 ^ k := wraps_u64 _ hit0 (by simpa using (by omega : hi * 2 ^ k < 18446744073709551616))
    have W2 : IntKind.u64.wrap (y * 2 ^ k) = y * 2 ^ k := wraps_u64 _ (by omega) (by simpa using hYhi)
    have W3 : IntKind.u64.wrap (lo * 2 ^ k) = lo % 2 ^ L * 2 ^ k := by rw [wrap_u64, lowe]; omega
    have W4 : bits .or .u64 (hi * 2 ^ k) (lo / 2 ^ L) = hi * 2 ^ k + lo / 2 ^ L :=
      bits_join .u64 64 (by decide) wraps_u64 k _ _ hit0 (by rw [Int.mul_emod_left]) (by simpa using (by omega : hi * 2 ^ k < 18446744073709551616)) lt0 lt1 (by simpa using (by omega : lo / 2 ^ L < 18446744073709551616))
    rw [W1, W2, W3, W4] at div
    have key : (hi * 18446744073709551616 + lo) * 2 ^ k = (hi * 2 ^ k + lo / 2 ^ L) * 18446744073709551616 + lo % 2 ^ L * 2 ^ k := by
      rw [Int.add_mul, lowe, Int.add_mul, Int.mul_assoc, Int.mul_comm 18446744073709551616, ← Int.mul_assoc]; omega
    have ub : hi * 2 ^ k + lo / 2 ^ L < y * 2 ^ k := by omega
    have ub0 : 0 ≤ hi * 2 ^ k + lo / 2 ^ L := by omega
    clear W1 W2 W3 W4 lowe hit hit' a1 B2 B3
    generalize hi * 2 ^ k + lo / 2 ^ L = u32 at *
    generalize lo % 2 ^ L * 2 ^ k = u10 at *
    have hYd : y * 2 ^ k = (y * 2 ^ k) / 4294967296 * 4294967296 + (y * 2 ^ k) % 4294967296 := by omega
    obtain ⟨p1, p2, p3, p4, p5, p6, p7, p8, p9, p10⟩ := trial_facts u32 ((y * 2 ^ k) / 4294967296) ((y * 2 ^ k) % 4294967296) (u10 / 4294967296) (y * 2 ^ k) hYd (by omega) (by omega) (by omega) ub0 ub (by omega) (by omega)
    obtain ⟨r1, r2, r3⟩ := quo_rem (u32 * 4294967296 + u10 / 4294967296) (y * 2 ^ k) (by omega)
    obtain ⟨q1, q2, q3, q4, q5, q6, q7, q8, q9, q10⟩ := trial_facts ((u32 * 4294967296 + u10 / 4294967296) % (y * 2 ^ k)) ((y * 2 ^ k) / 4294967296) ((y * 2 ^ k) % 4294967296) (u10 % 4294967296) (y * 2 ^ k) hYd (by omega) (by omega) (by omega) r2 r3 (by omega) (by omega)
    obtain ⟨v1, v2, v3⟩ := quo_rem ((u32 * 4294967296 + u10 / 4294967296) % (y * 2 ^ k) * 4294967296 + u10 % 4294967296) (y * 2 ^ k) (by omega)
    have fin := div _ _ u32 u10 _ _ _ _ _ _ _ _ _ _ w (by omega) h0' h1 h2 h4 (by omega) (by omega) (by omega) rfl hYlo hYhi rfl (mask32 _ (by omega) hYhi) (by omega) (by omega) (by omega) (by omega) rfl ub0 ub rfl rfl (mask32 _ low0 low1) low0 low1 (by omega) (by omega) (by omega) (by omega)
      rfl p1 p2 rfl p3 p4 (by omega) hYd p6 p7 p8 p9 p10 (wrap_rem _ _ _ _ _ r1 r2 (by omega)) r2 r3 rfl q1 q2 rfl q3 q4 (by omega) q6 q7 q8 q9 q10 (wrap_rem _ _ _ _ _ v1 v2 (by omega)) v2 (by omega)
    refine fin.mono fun e w' ⟨he, htr⟩ => ⟨?_, htr⟩
    rw [he]
    clear fin div
    generalize (u32 * 4294967296 + u10 / 4294967296) / (y * 2 ^ k) = Q1 at *
    generalize (u32 * 4294967296 + u10 / 4294967296) % (y * 2 ^ k) = R1 at *
    generalize (R1 * 4294967296 + u10 % 4294967296) / (y * 2 ^ k) = Q0 at *
    generalize (R1 * 4294967296 + u10 % 4294967296) % (y * 2 ^ k) = R0 at *
    have e0 : R0 = (hi * 18446744073709551616 + lo - (Q1 * 4294967296 + Q0) * y) * 2 ^ k := by
      rw [Int.sub_mul, key, Int.mul_assoc, Int.add_mul, Int.mul_right_comm]
      omega
    have e1 : R0 / 2 ^ k = hi * 18446744073709551616 + lo - (Q1 * 4294967296 + Q0) * y := by rw [e0]; exact Int.mul_ediv_cancel _ (by omega)
    have e2 : 0 ≤ hi * 18446744073709551616 + lo - (Q1 * 4294967296 + Q0) * y := by rw [← e1]; exact Int.ediv_nonneg v2 (by omega)
    have e3 : hi * 18446744073709551616 + lo - (Q1 * 4294967296 + Q0) * y < y := by
      refine Int.lt_of_mul_lt_mul_right (a := 2 ^ k) ?_ (by omega)
      rw [← e0]; exact v3
    obtain ⟨d1, d2⟩ := div_unique (hi * 18446744073709551616 + lo) y (Q1 * 4294967296 + Q0) _ (by omega) e2 e3
    rw [d1, d2, e1]
end Go.Proofs.YtpjkiljgccjemaaDoor
