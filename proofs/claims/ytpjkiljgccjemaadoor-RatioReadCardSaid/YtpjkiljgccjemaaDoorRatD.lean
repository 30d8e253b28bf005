/- Contracts of ratio.over. -/
import Derived.Test.YtpjkiljgccjemaaDoorRatC
import Derived.Test.YtpjkiljgccjemaaDoorDivB
namespace Go.Proofs.YtpjkiljgccjemaaDoor
set_option linter.unusedVariables false
open Go.RowKit Go.Sort

theorem over_arith (p b : Int) (hb : 1 ≤ b) (hp : 0 ≤ p) :
    p / 18446744073709551616 / b = p / b / 18446744073709551616 ∧ (p / 18446744073709551616 % b * 18446744073709551616 + p % 18446744073709551616) / b = p / b % 18446744073709551616 ∧ (p / 18446744073709551616 % b * 18446744073709551616 + p % 18446744073709551616) % b = p % b := by
  obtain ⟨e1, e2, e3⟩ := quo_rem (p / 18446744073709551616) b (by omega)
  obtain ⟨f1, f2, f3⟩ := quo_rem (p / 18446744073709551616 % b * 18446744073709551616 + p % 18446744073709551616) b (by omega)
  generalize p / 18446744073709551616 / b = H at *
  generalize p / 18446744073709551616 % b = R at *
  have hL0 : 0 ≤ (R * 18446744073709551616 + p % 18446744073709551616) / b := Int.ediv_nonneg (by omega) (by omega)
  have hL1 : (R * 18446744073709551616 + p % 18446744073709551616) / b < 18446744073709551616 := quo_lt _ _ _ (by omega) (by omega)
  generalize hL : (R * 18446744073709551616 + p % 18446744073709551616) / b = L at *
  generalize hS : (R * 18446744073709551616 + p % 18446744073709551616) % b = S at *
  have key : p = (H * 18446744073709551616 + L) * b + S := by
    rw [Int.add_mul, Int.mul_right_comm]
    generalize H * b = x at *
    generalize L * b = y at *
    omega
  obtain ⟨d1, d2⟩ := div_unique p b (H * 18446744073709551616 + L) S key f2 f3
  rw [d1, d2]
  omega

/-- ratio.over at a number and a divisor. -/
theorem over_val (p b : Int) (w : World) (hp : 0 ≤ p) (hp' : p < 340282366920938463463374607431768211456) (hb : 1 ≤ b) (hb' : b < 18446744073709551616) :
    Calls Tryd.prog 46 #[.agg #[.int .u64 (p / 18446744073709551616), .int .u64 (p % 18446744073709551616)], .int .u64 b] w fun e w' =>
      e = .returned (.tuple #[.agg #[.int .u64 (p / b / 18446744073709551616), .int .u64 (p / b % 18446744073709551616)], .int .u64 (p % b)]) ∧ Tr w w' := by
  obtain ⟨E1, E2, E3⟩ := over_arith p b hb hp
  have H1 := Lib.hid E1
  have H2 := Lib.hid E2
  have H3 := Lib.hid E3
  clear E1 E2 E3
  have b1 : 0 ≤ p % 18446744073709551616 := by omega
  have b2 : p % 18446744073709551616 < 18446744073709551616 := by omega
  have a1 : 0 ≤ p / 18446744073709551616 := by omega
  have a2 : p / 18446744073709551616 < 18446744073709551616 := by omega
  generalize p / 18446744073709551616 = ph at *
  generalize p % 18446744073709551616 = pl at *
  have c1 : 0 ≤ ph % b := Int.emod_nonneg _ (by omega)
  have c2 : ph % b < b := Int.emod_lt_of_pos _ (by omega)
  have c3 : 0 ≤ ph / b := Int.ediv_nonneg a1 (by omega)
  have c4 : ph / b ≤ ph := Int.ediv_le_self _ a1
  go_enter Tryd.func46, Tryd.ntmps46
  go_wp2
  refine wp_region_mix0 13 (by kernel_rfl) (by kernel_rfl) ?_
  intro w1 hw1
  have k0 := held hw1 (a := ⟨w.heap.size, 0, none⟩) (v := .int .u64 ph) (by simp [go_sem])
  have k1 := held hw1 (a := ⟨w.heap.size, 1, none⟩) (v := .int .u64 pl) (by simp [go_sem])
  simp only [List.take_succ_cons, List.take_zero, List.drop_succ_cons, List.drop_zero]
  repeat (go_big_quiet_step ((go_at_call 68; exact calls_cl (div64_any _ _ _ _ c1 c2 b1 b2 hb'))))
  refine wpQuiet_nil ?_
  intro w' ht
  obtain ⟨hc, hf⟩ := ht.cells
  have hz := Below.size ht
  simp at hz
  go_wp2


  simp [bodyPost, results, Tryd.results46, go_sem, hc]
  exact ⟨⟨⟨H1.out, H2.out⟩, H3.out⟩, (((((Tr.refl _).al _).al _).trans ht).set (by simp) _).set (by simp) _⟩
end Go.Proofs.YtpjkiljgccjemaaDoor
