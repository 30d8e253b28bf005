/- Contract of math/bits.Div64, the divisor greater than the high word. -/
import Derived.Test.YtpjkiljgccjemaaDoorRatB
namespace Go.Proofs.YtpjkiljgccjemaaDoor
set_option linter.unusedVariables false
open Go.RowKit Go.Sort

theorem div64_small (lo y : Int) (w : World) (h1 : 0 ≤ lo) (h2 : lo < 18446744073709551616) (h3 : 1 ≤ y) (h4 : y < 18446744073709551616) :
    Calls Tryd.prog 68 #[.int .u64 0, .int .u64 lo, .int .u64 y] w fun e w' => e = .returned (.tuple #[.int .u64 (lo / y), .int .u64 (lo % y)]) ∧ Tr w w' := by
  have g1 : (y == 0) = false := by simp; omega
  have g2 : ¬ y ≤ 0 := by omega
  go_enter Tryd.func68, Tryd.ntmps68
  go_wp2
  go_quiet (fail)
  go_wp2
  go_ret2
  exact ⟨rfl, (Tr.refl _).drN _⟩

/-- One step of the schoolbook division: the trial quotient q with q * y1 + r = u is not below the true one; if it does not pass the test it is too great. -/
theorem trial_ge (u y1 y0 n q r Y Q : Int) (hY : Y = y1 * 4294967296 + y0) (hq : q * y1 + r = u) (hQ : Q * Y ≤ u * 4294967296 + n) (hQ' : Q < 4294967296) (hY0 : 0 < Y)
    (ht : 4294967296 ≤ q ∨ 4294967296 * r + n < q * y0) : Q ≤ q - 1 := by
  rcases ht with h | h
  · omega
  · have : u * 4294967296 + n < q * Y := by rw [hY, ← hq, Int.mul_add, ← Int.mul_assoc, Int.add_mul]; omega
    have h2 : Q * Y < q * Y := by omega
    have := Int.lt_of_mul_lt_mul_right h2 (by omega)
    omega
theorem trial_le (u y1 y0 n q r Y Q : Int) (hY : Y = y1 * 4294967296 + y0) (hq : q * y1 + r = u) (hQ : u * 4294967296 + n < (Q + 1) * Y) (hY0 : 0 < Y)
    (ht : q * y0 ≤ 4294967296 * r + n) : q ≤ Q := by
  have : q * Y ≤ u * 4294967296 + n := by rw [hY, ← hq, Int.mul_add, ← Int.mul_assoc, Int.add_mul]; omega
  have h2 : q * Y < (Q + 1) * Y := by omega
  have := Int.lt_of_mul_lt_mul_right h2 (by omega)
  omega
theorem mul_lt32 (q y0 : Int) (h0 : 0 ≤ q) (h1 : q < 4294967296) (h2 : 0 ≤ y0) (h3 : y0 < 4294967296) : 0 ≤ q * y0 ∧ q * y0 ≤ 18446744065119617025 := by
  refine ⟨Int.mul_nonneg h0 h2, ?_⟩
  have := Int.mul_le_mul (show q ≤ 4294967295 by omega) (show y0 ≤ 4294967295 by omega) h2 (by omega)
  omega
/-- The loop is left because r has become too great for the test to hold. -/
theorem trial_brk (u y1 y0 n q r Y Q : Int) (hY : Y = y1 * 4294967296 + y0) (hq : q * y1 + r = u) (hu : u < Y) (hQ : u * 4294967296 + n < (Q + 1) * Y) (hY0 : 0 < Y) (h0 : 0 ≤ q) (hy0 : 0 ≤ y0) (hy0' : y0 < 4294967296) (hy1 : 0 < y1) (hn : 0 ≤ n)
    (hr : 4294967296 ≤ r) : q ≤ Q := by
  have h1 : q < 4294967296 := by
    have : q * y1 < 4294967296 * y1 := by omega
    exact Int.lt_of_mul_lt_mul_right this (by omega)
  have h2 := mul_lt32 q y0 h0 h1 hy0 hy0'
  exact trial_le u y1 y0 n q r Y Q hY hq hQ hY0 (by omega)
theorem step_eq (q y1 r u : Int) (h : q * y1 + r = u) : (q - 1) * y1 + (r + y1) = u := by rw [Int.sub_mul]; omega

set_option maxRecDepth 100000 in
set_option maxHeartbeats 4000000 in
theorem div64_core (hi lo y s Y y1 y0 u32 u10 u1 u0 q0 m0 Q1 R1 q2 m2 Q0 R0 : Int) (w : World) (h0 : 1 ≤ hi) (h0' : hi < y) (h1 : 0 ≤ lo) (h2 : lo < 18446744073709551616) (h4 : y < 18446744073709551616)
    (hs0 : 0 ≤ s) (hs1 : s ≤ 63) (hs : (64 - (Lib.bitLen y.toNat : Int)) = s) (hY : IntKind.u64.wrap (y * 2 ^ s.toNat) = Y) (hY1 : 9223372036854775808 ≤ Y) (hY2 : Y < 18446744073709551616)
    (hy1 : Y / 4294967296 = y1) (hy0 : bits .and .u64 Y 4294967295 = y0) (b1 : 2147483648 ≤ y1) (b2 : y1 < 4294967296) (b3 : 0 ≤ y0) (b4 : y0 < 4294967296)
    (hu : bits .or .u64 (IntKind.u64.wrap (hi * 2 ^ s.toNat)) (lo / 2 ^ (64 - s).toNat) = u32) (b5 : 0 ≤ u32) (b6 : u32 < Y)
    (hl : IntKind.u64.wrap (lo * 2 ^ s.toNat) = u10) (hl1 : u10 / 4294967296 = u1) (hl0 : bits .and .u64 u10 4294967295 = u0) (b7 : 0 ≤ u10) (b7' : u10 < 18446744073709551616)
    (b8 : 0 ≤ u1) (b9 : u1 < 4294967296) (b10 : 0 ≤ u0) (b11 : u0 < 4294967296)
    (hq : u32 / y1 = q0) (c1 : 0 ≤ q0) (c2 : q0 ≤ 4294967297) (hm : q0 * y1 = m0) (c3 : 0 ≤ m0) (c4 : m0 ≤ u32) (c5 : u32 - m0 < 4294967296)
    (k1 : Hid (Y = y1 * 4294967296 + y0)) (k2 : Hid (Q1 * Y ≤ u32 * 4294967296 + u1)) (k3 : Hid (u32 * 4294967296 + u1 < (Q1 + 1) * Y)) (c6 : 0 ≤ Q1) (c7 : Q1 < 4294967296) (c8 : Q1 ≤ q0)
    (hR : IntKind.u64.wrap (IntKind.u64.wrap (IntKind.u64.wrap (u32 * 4294967296) + u1) - IntKind.u64.wrap (Q1 * Y)) = R1) (d1 : 0 ≤ R1) (d2 : R1 < Y)
    (hq2 : R1 / y1 = q2) (e1 : 0 ≤ q2) (e2 : q2 ≤ 4294967297) (hm2 : q2 * y1 = m2) (e3 : 0 ≤ m2) (e4 : m2 ≤ R1) (e5 : R1 - m2 < 4294967296)
    (l2 : Hid (Q0 * Y ≤ R1 * 4294967296 + u0)) (l3 : Hid (R1 * 4294967296 + u0 < (Q0 + 1) * Y)) (e6 : 0 ≤ Q0) (e7 : Q0 < 4294967296) (e8 : Q0 ≤ q2)
    (hR0 : IntKind.u64.wrap (IntKind.u64.wrap (IntKind.u64.wrap (R1 * 4294967296) + u0) - IntKind.u64.wrap (Q0 * Y)) = R0) (f1 : 0 ≤ R0) (f2 : R0 < 18446744073709551616) :
    Calls Tryd.prog 68 #[.int .u64 hi, .int .u64 lo, .int .u64 y] w fun e w' => e = .returned (.tuple #[.int .u64 (Q1 * 4294967296 + Q0), .int .u64 (R0 / 2 ^ s.toNat)]) ∧ Tr w w' := by
  have g1 : (y == 0) = false := by simp; omega
  have g2 : ¬ y ≤ hi := by omega
  have g3 : (hi == 0) = false := by simp; omega
  have g4 : ¬ y1 = 0 := by omega
  have HS := Lib.hid hs
  clear hs
  go_enter Tryd.func68, Tryd.ntmps68
  go_wp2_with (go_at_call 76; refine (Tryd.bits_LeadingZeros64 y _ (by omega) (by omega)).mono ?_; rintro e w' ⟨rfl, rfl⟩; rw [HS.out])
  go_loop [15, 16] (fun a b => ∃ q r : Int, a = .int .u64 q ∧ b = .int .u64 r ∧ Hid (q * y1 + r = u32) ∧ 0 ≤ q ∧ q ≤ 4294967297 ∧ 0 ≤ r ∧ r < 4294967296 ∧ Q1 ≤ q) (fun a _ => (intOf a).toNat)
  case atStart => exact ⟨q0, u32 - m0, by rw [hq], by first | rfl | (rw [hq, hm]), (by rw [hm]; show m0 + _ = _; omega), c1, c2, by omega, by omega, c8⟩
  case round =>
    obtain ⟨q, r, rfl, rfl, hqr, a1, a2, a3, a4, a5⟩ := hrel
    by_cases t1 : 4294967296 ≤ q
    · have p1 : Q1 ≤ q - 1 := trial_ge u32 y1 y0 u1 q r Y Q1 k1.out hqr.out k2.out c7 (by omega) (.inl t1)
      have hst : Hid ((q - 1) * y1 + (r + y1) = u32) := step_eq q y1 r u32 hqr.out
      by_cases t3 : 4294967296 ≤ r + y1
      · have p2 : q - 1 ≤ Q1 := trial_brk u32 y1 y0 u1 (q - 1) (r + y1) Y Q1 k1.out hst.out b6 k3.out (by omega) (by omega) b3 b4 (by omega) b8 t3
        have p3 : q - 1 = Q1 := by omega
        clear p1 p2
        go_wp2
        go_loop [18, 16] (fun a b => ∃ q r : Int, a = .int .u64 q ∧ b = .int .u64 r ∧ Hid (q * y1 + r = R1) ∧ 0 ≤ q ∧ q ≤ 4294967297 ∧ 0 ≤ r ∧ r < 4294967296 ∧ Q0 ≤ q) (fun a _ => (intOf a).toNat)
        case atStart => exact ⟨q2, R1 - m2, by first | rfl | (rw [hq2]), by first | rfl | (rw [hq2, hm2]), (by rw [hm2]; show m2 + _ = _; omega), e1, e2, by omega, by omega, e8⟩
        case round =>
          obtain ⟨q, r, rfl, rfl, hqr, a1, a2, a3, a4, a5⟩ := hrel
          by_cases t1 : 4294967296 ≤ q
          · have p1 : Q0 ≤ q - 1 := trial_ge R1 y1 y0 u0 q r Y Q0 k1.out hqr.out l2.out e7 (by omega) (.inl t1)
            have hst : Hid ((q - 1) * y1 + (r + y1) = R1) := step_eq q y1 r R1 hqr.out
            by_cases t3 : 4294967296 ≤ r + y1
            · have p2 : q - 1 ≤ Q0 := trial_brk R1 y1 y0 u0 (q - 1) (r + y1) Y Q0 k1.out hst.out d2 l3.out (by omega) (by omega) b3 b4 (by omega) b10 t3
              have p3 : q - 1 = Q0 := by omega
              clear p1 p2
              go_wp2
              go_ret2
              exact ⟨rfl, Tr.refl _⟩
            · go_wp2
              go_round
              case rel => exact ⟨q - 1, r + y1, rfl, rfl, hst, by omega, by omega, by omega, by omega, p1⟩
              case measure => simp [intOf]; omega
          · by_cases t2 : 4294967296 * r + u0 < q * y0
            · have p1 : Q0 ≤ q - 1 := trial_ge R1 y1 y0 u0 q r Y Q0 k1.out hqr.out l2.out e7 (by omega) (.inr t2)
              have hst : Hid ((q - 1) * y1 + (r + y1) = R1) := step_eq q y1 r R1 hqr.out
              obtain ⟨x1, x2⟩ := mul_lt32 q y0 a1 (by omega) b3 b4
              by_cases t3 : 4294967296 ≤ r + y1
              · have p2 : q - 1 ≤ Q0 := trial_brk R1 y1 y0 u0 (q - 1) (r + y1) Y Q0 k1.out hst.out d2 l3.out (by omega) (by omega) b3 b4 (by omega) b10 t3
                have p3 : q - 1 = Q0 := by omega
                clear p1 p2
                go_wp2
                go_ret2
                exact ⟨rfl, Tr.refl _⟩
              · go_wp2
                go_round
                case rel => exact ⟨q - 1, r + y1, rfl, rfl, hst, by omega, by omega, by omega, by omega, p1⟩
                case measure => simp [intOf]; omega
            · obtain ⟨x1, x2⟩ := mul_lt32 q y0 a1 (by omega) b3 b4
              have p2 : q ≤ Q0 := trial_le R1 y1 y0 u0 q r Y Q0 k1.out hqr.out l3.out (by omega) (by omega)
              obtain rfl : Q0 = q := by omega
              clear p2
              go_wp2
              go_ret2
              exact ⟨rfl, Tr.refl _⟩
      · go_wp2
        go_round
        case rel => exact ⟨q - 1, r + y1, rfl, rfl, hst, by omega, by omega, by omega, by omega, p1⟩
        case measure => simp [intOf]; omega
    · by_cases t2 : 4294967296 * r + u1 < q * y0
      · have p1 : Q1 ≤ q - 1 := trial_ge u32 y1 y0 u1 q r Y Q1 k1.out hqr.out k2.out c7 (by omega) (.inr t2)
        have hst : Hid ((q - 1) * y1 + (r + y1) = u32) := step_eq q y1 r u32 hqr.out
        obtain ⟨x1, x2⟩ := mul_lt32 q y0 a1 (by omega) b3 b4
        by_cases t3 : 4294967296 ≤ r + y1
        · have p2 : q - 1 ≤ Q1 := trial_brk u32 y1 y0 u1 (q - 1) (r + y1) Y Q1 k1.out hst.out b6 k3.out (by omega) (by omega) b3 b4 (by omega) b8 t3
          have p3 : q - 1 = Q1 := by omega
          clear p1 p2
          go_wp2
          go_loop [18, 16] (fun a b => ∃ q r : Int, a = .int .u64 q ∧ b = .int .u64 r ∧ Hid (q * y1 + r = R1) ∧ 0 ≤ q ∧ q ≤ 4294967297 ∧ 0 ≤ r ∧ r < 4294967296 ∧ Q0 ≤ q) (fun a _ => (intOf a).toNat)
          case atStart => exact ⟨q2, R1 - m2, by first | rfl | (rw [hq2]), by first | rfl | (rw [hq2, hm2]), (by rw [hm2]; show m2 + _ = _; omega), e1, e2, by omega, by omega, e8⟩
          case round =>
            obtain ⟨q, r, rfl, rfl, hqr, a1, a2, a3, a4, a5⟩ := hrel
            by_cases t1 : 4294967296 ≤ q
            · have p1 : Q0 ≤ q - 1 := trial_ge R1 y1 y0 u0 q r Y Q0 k1.out hqr.out l2.out e7 (by omega) (.inl t1)
              have hst : Hid ((q - 1) * y1 + (r + y1) = R1) := step_eq q y1 r R1 hqr.out
              by_cases t3 : 4294967296 ≤ r + y1
              · have p2 : q - 1 ≤ Q0 := trial_brk R1 y1 y0 u0 (q - 1) (r + y1) Y Q0 k1.out hst.out d2 l3.out (by omega) (by omega) b3 b4 (by omega) b10 t3
                have p3 : q - 1 = Q0 := by omega
                clear p1 p2
                go_wp2
                go_ret2
                exact ⟨rfl, Tr.refl _⟩
              · go_wp2
                go_round
                case rel => exact ⟨q - 1, r + y1, rfl, rfl, hst, by omega, by omega, by omega, by omega, p1⟩
                case measure => simp [intOf]; omega
            · by_cases t2 : 4294967296 * r + u0 < q * y0
              · have p1 : Q0 ≤ q - 1 := trial_ge R1 y1 y0 u0 q r Y Q0 k1.out hqr.out l2.out e7 (by omega) (.inr t2)
                have hst : Hid ((q - 1) * y1 + (r + y1) = R1) := step_eq q y1 r R1 hqr.out
                obtain ⟨x1, x2⟩ := mul_lt32 q y0 a1 (by omega) b3 b4
                by_cases t3 : 4294967296 ≤ r + y1
                · have p2 : q - 1 ≤ Q0 := trial_brk R1 y1 y0 u0 (q - 1) (r + y1) Y Q0 k1.out hst.out d2 l3.out (by omega) (by omega) b3 b4 (by omega) b10 t3
                  have p3 : q - 1 = Q0 := by omega
                  clear p1 p2
                  go_wp2
                  go_ret2
                  exact ⟨rfl, Tr.refl _⟩
                · go_wp2
                  go_round
                  case rel => exact ⟨q - 1, r + y1, rfl, rfl, hst, by omega, by omega, by omega, by omega, p1⟩
                  case measure => simp [intOf]; omega
              · obtain ⟨x1, x2⟩ := mul_lt32 q y0 a1 (by omega) b3 b4
                have p2 : q ≤ Q0 := trial_le R1 y1 y0 u0 q r Y Q0 k1.out hqr.out l3.out (by omega) (by omega)
                obtain rfl : Q0 = q := by omega
                clear p2
                go_wp2
                go_ret2
                exact ⟨rfl, Tr.refl _⟩
        · go_wp2
          go_round
          case rel => exact ⟨q - 1, r + y1, rfl, rfl, hst, by omega, by omega, by omega, by omega, p1⟩
          case measure => simp [intOf]; omega
      · obtain ⟨x1, x2⟩ := mul_lt32 q y0 a1 (by omega) b3 b4
        have p2 : q ≤ Q1 := trial_le u32 y1 y0 u1 q r Y Q1 k1.out hqr.out k3.out (by omega) (by omega)
        obtain rfl : Q1 = q := by omega
        clear p2
        go_wp2
        go_loop [18, 16] (fun a b => ∃ q r : Int, a = .int .u64 q ∧ b = .int .u64 r ∧ Hid (q * y1 + r = R1) ∧ 0 ≤ q ∧ q ≤ 4294967297 ∧ 0 ≤ r ∧ r < 4294967296 ∧ Q0 ≤ q) (fun a _ => (intOf a).toNat)
        case atStart => exact ⟨q2, R1 - m2, by first | rfl | (rw [hq2]), by first | rfl | (rw [hq2, hm2]), (by rw [hm2]; show m2 + _ = _; omega), e1, e2, by omega, by omega, e8⟩
        case round =>
          obtain ⟨q, r, rfl, rfl, hqr, a1, a2, a3, a4, a5⟩ := hrel
          by_cases t1 : 4294967296 ≤ q
          · have p1 : Q0 ≤ q - 1 := trial_ge R1 y1 y0 u0 q r Y Q0 k1.out hqr.out l2.out e7 (by omega) (.inl t1)
            have hst : Hid ((q - 1) * y1 + (r + y1) = R1) := step_eq q y1 r R1 hqr.out
            by_cases t3 : 4294967296 ≤ r + y1
            · have p2 : q - 1 ≤ Q0 := trial_brk R1 y1 y0 u0 (q - 1) (r + y1) Y Q0 k1.out hst.out d2 l3.out (by omega) (by omega) b3 b4 (by omega) b10 t3
              have p3 : q - 1 = Q0 := by omega
              clear p1 p2
              go_wp2
              go_ret2
              exact ⟨rfl, Tr.refl _⟩
            · go_wp2
              go_round
              case rel => exact ⟨q - 1, r + y1, rfl, rfl, hst, by omega, by omega, by omega, by omega, p1⟩
              case measure => simp [intOf]; omega
          · by_cases t2 : 4294967296 * r + u0 < q * y0
            · have p1 : Q0 ≤ q - 1 := trial_ge R1 y1 y0 u0 q r Y Q0 k1.out hqr.out l2.out e7 (by omega) (.inr t2)
              have hst : Hid ((q - 1) * y1 + (r + y1) = R1) := step_eq q y1 r R1 hqr.out
              obtain ⟨x1, x2⟩ := mul_lt32 q y0 a1 (by omega) b3 b4
              by_cases t3 : 4294967296 ≤ r + y1
              · have p2 : q - 1 ≤ Q0 := trial_brk R1 y1 y0 u0 (q - 1) (r + y1) Y Q0 k1.out hst.out d2 l3.out (by omega) (by omega) b3 b4 (by omega) b10 t3
                have p3 : q - 1 = Q0 := by omega
                clear p1 p2
                go_wp2
                go_ret2
                exact ⟨rfl, Tr.refl _⟩
              · go_wp2
                go_round
                case rel => exact ⟨q - 1, r + y1, rfl, rfl, hst, by omega, by omega, by omega, by omega, p1⟩
                case measure => simp [intOf]; omega
            · obtain ⟨x1, x2⟩ := mul_lt32 q y0 a1 (by omega) b3 b4
              have p2 : q ≤ Q0 := trial_le R1 y1 y0 u0 q r Y Q0 k1.out hqr.out l3.out (by omega) (by omega)
              obtain rfl : Q0 = q := by omega
              clear p2
              go_wp2
              go_ret2
              exact ⟨rfl, Tr.refl _⟩
end Go.Proofs.YtpjkiljgccjemaaDoor
