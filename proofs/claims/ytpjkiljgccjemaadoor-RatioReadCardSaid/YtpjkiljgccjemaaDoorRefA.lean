/- Contracts of the leaf functions of the reference of chapter 2. -/
import Derived.Test.YtpjkiljgccjemaaDoorRatB
import Derived.Test.YtpjkiljgccjemaaDoorDivB
namespace Go.Proofs.YtpjkiljgccjemaaDoor
set_option linter.unusedVariables false
open Go.RowKit Go.Sort

theorem rsize_any (n : Int) (h1 : -9223372036854775808 ≤ n) (h2 : n ≤ 9223372036854775807) (w : World) :
    Calls Tryd.prog 49 #[.int .i64 n] w fun e w' => e = .returned (.int .u64 (n.natAbs : Int)) ∧ w = w' := by
  by_cases hn : n < 0
  · go_enter Tryd.func49, Tryd.ntmps49
    go_wp2
    go_ret
    refine ⟨ret_int ?_, rfl⟩
    rw [wrap_u64, wrap_u64]
    omega
  · have e : (n.natAbs : Int) = n := by omega
    rw [e]
    go_enter Tryd.func49, Tryd.ntmps49
    go_wp2
    go_ret
    exact ⟨rfl, rfl⟩

theorem rless_any (ah al bh bl : Int) (w : World) :
    Calls Tryd.prog 55 #[.agg #[.int .u64 ah, .int .u64 al], .agg #[.int .u64 bh, .int .u64 bl]] w fun e w' =>
      e = .returned (.bool (decide (ah < bh ∨ ah = bh ∧ al < bl))) ∧ Tr w w' := by
  by_cases g1 : ah < bh
  · go_enter Tryd.func55, Tryd.ntmps55
    go_wp2
    go_ret
    exact ⟨ret_bool (by simp [g1]), ((Tr.refl _).al _).al _⟩
  · by_cases g2 : ah = bh
    · subst g2
      by_cases g3 : al < bl
      all_goals
        go_enter Tryd.func55, Tryd.ntmps55
        go_wp2
        go_ret
        exact ⟨ret_bool (by simp [g3]), ((Tr.refl _).al _).al _⟩
    · have g4 : (ah == bh) = false := by simp [g2]
      go_enter Tryd.func55, Tryd.ntmps55
      go_wp2
      go_ret
      exact ⟨ret_bool (by simp; omega), ((Tr.refl _).al _).al _⟩
theorem rless_val (p q : Int) (hp : 0 ≤ p) (hq : 0 ≤ q) (w : World) :
    Calls Tryd.prog 55 #[.agg #[.int .u64 (p / 18446744073709551616), .int .u64 (p % 18446744073709551616)], .agg #[.int .u64 (q / 18446744073709551616), .int .u64 (q % 18446744073709551616)]] w fun e w' =>
      e = .returned (.bool (decide (p < q))) ∧ Tr w w' :=
  (rless_any _ _ _ _ w).mono fun e w' ⟨he, ht⟩ => ⟨by rw [he]; exact ret_bool (decide_eq_decide.2 (lt_wide p q hp hq)), ht⟩

theorem rplus_val (p q : Int) (hp : 0 ≤ p) (hq : 0 ≤ q) (h : p + q < 340282366920938463463374607431768211456) (w : World) :
    Calls Tryd.prog 54 #[.agg #[.int .u64 (p / 18446744073709551616), .int .u64 (p % 18446744073709551616)], .agg #[.int .u64 (q / 18446744073709551616), .int .u64 (q % 18446744073709551616)]] w fun e w' =>
      e = .returned (.agg #[.int .u64 ((p + q) / 18446744073709551616), .int .u64 ((p + q) % 18446744073709551616)]) ∧ Tr w w' := by
  have E2 : IntKind.u64.wrap (p % 18446744073709551616 + q % 18446744073709551616) = (p + q) % 18446744073709551616 := by rw [wrap_u64]; omega
  by_cases hc : (p + q) % 18446744073709551616 < p % 18446744073709551616
  · have E1 : IntKind.u64.wrap (IntKind.u64.wrap (p / 18446744073709551616 + q / 18446744073709551616) + 1) = (p + q) / 18446744073709551616 := by rw [wrap_u64, wrap_u64]; omega
    generalize p / 18446744073709551616 = ah at *
    generalize p % 18446744073709551616 = al at *
    generalize q / 18446744073709551616 = bh at *
    generalize q % 18446744073709551616 = bl at *
    go_enter Tryd.func54, Tryd.ntmps54
    go_wp2
    simp [bodyPost, results, Tryd.results54, go_sem, *]
    exact (((Tr.refl _).al _).al _).al _
  · have E1 : IntKind.u64.wrap (p / 18446744073709551616 + q / 18446744073709551616) = (p + q) / 18446744073709551616 := by rw [wrap_u64]; omega
    generalize p / 18446744073709551616 = ah at *
    generalize p % 18446744073709551616 = al at *
    generalize q / 18446744073709551616 = bh at *
    generalize q % 18446744073709551616 = bl at *
    go_enter Tryd.func54, Tryd.ntmps54
    go_wp2
    simp [bodyPost, results, Tryd.results54, go_sem, *]
    exact (((Tr.refl _).al _).al _).al _
/-- Minus modulo 2^128. -/
theorem rminus_mod (p q r : Int) (hp : 0 ≤ p) (hq : 0 ≤ q) (hp' : p < 340282366920938463463374607431768211456) (hq' : q < 340282366920938463463374607431768211456) (hr : (p - q) % 340282366920938463463374607431768211456 = r) (w : World) :
    Calls Tryd.prog 56 #[.agg #[.int .u64 (p / 18446744073709551616), .int .u64 (p % 18446744073709551616)], .agg #[.int .u64 (q / 18446744073709551616), .int .u64 (q % 18446744073709551616)]] w fun e w' =>
      e = .returned (.agg #[.int .u64 (r / 18446744073709551616), .int .u64 (r % 18446744073709551616)]) ∧ Tr w w' := by
  have E2 : IntKind.u64.wrap (p % 18446744073709551616 - q % 18446744073709551616) = r % 18446744073709551616 := by rw [wrap_u64]; omega
  by_cases hc : p % 18446744073709551616 < q % 18446744073709551616
  · have E1 : IntKind.u64.wrap (IntKind.u64.wrap (p / 18446744073709551616 - q / 18446744073709551616) - 1) = r / 18446744073709551616 := by rw [wrap_u64, wrap_u64]; omega
    clear hr
    generalize p / 18446744073709551616 = ah at *
    generalize p % 18446744073709551616 = al at *
    generalize q / 18446744073709551616 = bh at *
    generalize q % 18446744073709551616 = bl at *
    go_enter Tryd.func56, Tryd.ntmps56
    go_wp2
    simp [bodyPost, results, Tryd.results56, go_sem, *]
    exact (((Tr.refl _).al _).al _).al _
  · have E1 : IntKind.u64.wrap (p / 18446744073709551616 - q / 18446744073709551616) = r / 18446744073709551616 := by rw [wrap_u64]; omega
    clear hr
    generalize p / 18446744073709551616 = ah at *
    generalize p % 18446744073709551616 = al at *
    generalize q / 18446744073709551616 = bh at *
    generalize q % 18446744073709551616 = bl at *
    go_enter Tryd.func56, Tryd.ntmps56
    go_wp2
    simp [bodyPost, results, Tryd.results56, go_sem, *]
    exact (((Tr.refl _).al _).al _).al _
theorem rminus_val (p q : Int) (hq : 0 ≤ q) (hpq : q ≤ p) (h : p < 340282366920938463463374607431768211456) (w : World) :
    Calls Tryd.prog 56 #[.agg #[.int .u64 (p / 18446744073709551616), .int .u64 (p % 18446744073709551616)], .agg #[.int .u64 (q / 18446744073709551616), .int .u64 (q % 18446744073709551616)]] w fun e w' =>
      e = .returned (.agg #[.int .u64 ((p - q) / 18446744073709551616), .int .u64 ((p - q) % 18446744073709551616)]) ∧ Tr w w' :=
  rminus_mod p q (p - q) (by omega) hq h (by omega) (by omega) w
theorem rhalf_val (p : Int) (hp : 0 ≤ p) (hp' : p < 340282366920938463463374607431768211456) (w : World) :
    Calls Tryd.prog 70 #[.agg #[.int .u64 (p / 18446744073709551616), .int .u64 (p % 18446744073709551616)]] w fun e w' =>
      e = .returned (.agg #[.int .u64 (p / 2 / 18446744073709551616), .int .u64 (p / 2 % 18446744073709551616)]) ∧ Tr w w' := by
  have E1 : p / 18446744073709551616 / 2 = p / 2 / 18446744073709551616 := by omega
  have E2 : IntKind.u64.wrap (p % 18446744073709551616 / 2 + IntKind.u64.wrap (p / 18446744073709551616 * 9223372036854775808)) = p / 2 % 18446744073709551616 := by rw [wrap_u64, wrap_u64]; omega
  generalize p / 18446744073709551616 = ah at *
  generalize p % 18446744073709551616 = al at *
  go_enter Tryd.func70, Tryd.ntmps70
  go_wp2
  simp [bodyPost, results, Tryd.results70, go_sem, *]
  exact ((Tr.refl _).al _).al _
theorem rneg_any (n d : Int) (h1 : -9223372036854775807 ≤ n) (h2 : n ≤ 9223372036854775807) (w : World) :
    Calls Tryd.prog 52 #[.agg #[.int .i64 n, .int .i64 d]] w fun e w' => e = .returned (.agg #[.int .i64 (-n), .int .i64 d]) ∧ Tr w w' := by
  go_enter Tryd.func52, Tryd.ntmps52
  go_wp2
  simp [bodyPost, results, Tryd.results52, go_sem, *]
  exact ((Tr.refl _).al _).al _
end Go.Proofs.YtpjkiljgccjemaaDoor
