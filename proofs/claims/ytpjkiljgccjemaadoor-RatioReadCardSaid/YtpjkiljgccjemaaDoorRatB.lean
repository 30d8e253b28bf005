/- Contracts of the wide numbers of package ratio. -/
import Derived.Test.YtpjkiljgccjemaaDoorRatA
import Derived.Test.YtpjkiljgccjemaaDoorMix
import Derived.Test.YtpjkiljgccjemaaDoorShelf
import Derived.Laws.Externs
import Derived.Shelf.Spec.BitsCarry
namespace Go.Proofs.YtpjkiljgccjemaaDoor
set_option linter.unusedVariables false
open Go.RowKit Go.Sort

theorem add64 (x y c : Int) (hx : 0 ≤ x) (hy : 0 ≤ y) (hc0 : 0 ≤ c) (hc : c ≤ 1) (w : World) : (callFunc 66 #[.int .u64 x, .int .u64 y, .int .u64 c]).run Tryd.prog w =
    .ok (.value (.tuple #[.int .u64 ((x + y + c) % 18446744073709551616), .int .u64 ((x + y + c) / 18446744073709551616)])) w := by
  obtain ⟨x, rfl⟩ := Int.eq_ofNat_of_zero_le hx
  obtain ⟨y, rfl⟩ := Int.eq_ofNat_of_zero_le hy
  obtain ⟨c, rfl⟩ := Int.eq_ofNat_of_zero_le hc0
  rw [run_callFunc_extern Tryd.func66 (by kernel_rfl) (by kernel_rfl) (by kernel_rfl) (e := add64Entry) (by kernel_rfl), run_add64 x y c (by omega) (by omega) (by omega) (by omega)]
  simp only [Result.andThen]
  try (congr 5 <;> omega)
theorem sub64 (x y b : Int) (hx : 0 ≤ x) (hy : 0 ≤ y) (hy' : y < 18446744073709551616) (hb0 : 0 ≤ b) (hb : b ≤ 1) (w : World) : (callFunc 67 #[.int .u64 x, .int .u64 y, .int .u64 b]).run Tryd.prog w =
    .ok (.value (.tuple #[.int .u64 ((x - y - b) % 18446744073709551616), .int .u64 (if x < y + b then 1 else 0)])) w := by
  obtain ⟨x, rfl⟩ := Int.eq_ofNat_of_zero_le hx
  obtain ⟨y, rfl⟩ := Int.eq_ofNat_of_zero_le hy
  obtain ⟨b, rfl⟩ := Int.eq_ofNat_of_zero_le hb0
  have e1 : (((x + 18446744073709551616 - y - b) % 18446744073709551616 : Nat) : Int) = ((x : Int) - y - b) % 18446744073709551616 := by omega
  have e2 : ((if x < y + b then 1 else 0 : Nat) : Int) = if (x : Int) < y + b then 1 else 0 := by split <;> split <;> omega
  rw [← e1, ← e2]
  rw [run_callFunc_extern Tryd.func67 (by kernel_rfl) (by kernel_rfl) (by kernel_rfl) (e := sub64Entry) (by kernel_rfl), run_sub64 x y b (by omega)]
  rfl
theorem add64_0 (x y : Int) (hx : 0 ≤ x) (hy : 0 ≤ y) (w : World) : (callFunc 66 #[.int .u64 x, .int .u64 y, .int .u64 0]).run Tryd.prog w =
    .ok (.value (.tuple #[.int .u64 ((x + y) % 18446744073709551616), .int .u64 ((x + y) / 18446744073709551616)])) w := by
  simpa using add64 x y 0 hx hy (Int.le_refl 0) (by decide) w
theorem sub64_0 (x y : Int) (hx : 0 ≤ x) (hy : 0 ≤ y) (hy' : y < 18446744073709551616) (w : World) : (callFunc 67 #[.int .u64 x, .int .u64 y, .int .u64 0]).run Tryd.prog w =
    .ok (.value (.tuple #[.int .u64 ((x - y) % 18446744073709551616), .int .u64 (if x < y then 1 else 0)])) w := by
  simpa using sub64 x y 0 hx hy hy' (Int.le_refl 0) (by decide) w

/-- ratio.product. -/
theorem product_any (a b : Int) (w : World) (ha : 0 ≤ a) (ha' : a < 18446744073709551616) (hb : 0 ≤ b) (hb' : b < 18446744073709551616) :
    Calls Tryd.prog 41 #[.int .u64 a, .int .u64 b] w fun e w' => e = .returned (.agg #[.int .u64 (a * b / 18446744073709551616), .int .u64 (a * b % 18446744073709551616)]) ∧ Tr w w' := by
  obtain ⟨a, rfl⟩ := Int.eq_ofNat_of_zero_le ha
  obtain ⟨b, rfl⟩ := Int.eq_ofNat_of_zero_le hb
  go_enter Tryd.func41, Tryd.ntmps41
  go_wp2_with (go_at_call 65; refine (Tryd.bits_Mul64 a b (by omega) (by omega) _).mono ?_; rintro e w' ⟨rfl, rfl⟩)
  simp [bodyPost, results, Tryd.results41, go_sem]
  exact (Tr.refl _).al _

theorem lt_wide (p q : Int) (hp : 0 ≤ p) (hq : 0 ≤ q) : (p / 18446744073709551616 < q / 18446744073709551616 ∨ p / 18446744073709551616 = q / 18446744073709551616 ∧ p % 18446744073709551616 < q % 18446744073709551616) ↔ p < q := by omega
theorem ret_bool {a b : Bool} (h : a = b) : Ending.returned (.bool a) = .returned (.bool b) := by rw [h]
theorem less_any (ah al bh bl : Int) (w : World) :
    Calls Tryd.prog 44 #[.agg #[.int .u64 ah, .int .u64 al], .agg #[.int .u64 bh, .int .u64 bl]] w fun e w' =>
      e = .returned (.bool (decide (ah < bh ∨ ah = bh ∧ al < bl))) ∧ Tr w w' := by
  by_cases g1 : ah < bh
  · go_enter Tryd.func44, Tryd.ntmps44
    go_wp2
    go_ret
    exact ⟨ret_bool (by simp [g1]), ((Tr.refl _).al _).al _⟩
  · by_cases g2 : ah = bh
    · subst g2
      by_cases g3 : al < bl
      all_goals
        go_enter Tryd.func44, Tryd.ntmps44
        go_wp2
        go_ret
        exact ⟨ret_bool (by simp [g3]), ((Tr.refl _).al _).al _⟩
    · have g4 : (ah == bh) = false := by simp [g2]
      go_enter Tryd.func44, Tryd.ntmps44
      go_wp2
      go_ret
      exact ⟨ret_bool (by simp; omega), ((Tr.refl _).al _).al _⟩
/-- ratio.less at two numbers. -/
theorem less_val (p q : Int) (hp : 0 ≤ p) (hq : 0 ≤ q) (w : World) :
    Calls Tryd.prog 44 #[.agg #[.int .u64 (p / 18446744073709551616), .int .u64 (p % 18446744073709551616)], .agg #[.int .u64 (q / 18446744073709551616), .int .u64 (q % 18446744073709551616)]] w fun e w' =>
      e = .returned (.bool (decide (p < q))) ∧ Tr w w' :=
  (less_any _ _ _ _ w).mono fun e w' ⟨he, ht⟩ => ⟨by rw [he]; exact ret_bool (decide_eq_decide.2 (lt_wide p q hp hq)), ht⟩

theorem ret_wide {a b c d : Int} (h : a = c) (h' : b = d) : Ending.returned (.agg #[.int .u64 a, .int .u64 b]) = .returned (.agg #[.int .u64 c, .int .u64 d]) := by rw [h, h']
/-- ratio.plus at two numbers whose sum fits. -/
theorem plus_val (p q : Int) (hp : 0 ≤ p) (hq : 0 ≤ q) (h : p + q < 340282366920938463463374607431768211456) (w : World) :
    Calls Tryd.prog 43 #[.agg #[.int .u64 (p / 18446744073709551616), .int .u64 (p % 18446744073709551616)], .agg #[.int .u64 (q / 18446744073709551616), .int .u64 (q % 18446744073709551616)]] w fun e w' =>
      e = .returned (.agg #[.int .u64 ((p + q) / 18446744073709551616), .int .u64 ((p + q) % 18446744073709551616)]) ∧ Tr w w' := by
  have b1 : 0 ≤ p % 18446744073709551616 := by omega
  have d1 : 0 ≤ q % 18446744073709551616 := by omega
  have b2 : p % 18446744073709551616 < 18446744073709551616 := by omega
  have d2 : q % 18446744073709551616 < 18446744073709551616 := by omega
  have a1 : 0 ≤ p / 18446744073709551616 := by omega
  have c1 : 0 ≤ q / 18446744073709551616 := by omega
  have E1 : (p / 18446744073709551616 + q / 18446744073709551616 + (p % 18446744073709551616 + q % 18446744073709551616) / 18446744073709551616) % 18446744073709551616 = (p + q) / 18446744073709551616 := by omega
  have E2 : (p % 18446744073709551616 + q % 18446744073709551616) % 18446744073709551616 = (p + q) % 18446744073709551616 := by omega
  have H1 := Lib.hid E1
  have H2 := Lib.hid E2
  clear E1 E2
  generalize p / 18446744073709551616 = ah at *
  generalize p % 18446744073709551616 = al at *
  generalize q / 18446744073709551616 = bh at *
  generalize q % 18446744073709551616 = bl at *
  have k0 : 0 ≤ (al + bl) / 18446744073709551616 := by omega
  have k1 : (al + bl) / 18446744073709551616 ≤ 1 := by omega
  go_enter Tryd.func43, Tryd.ntmps43
  go_wp2_with (first | simp only [add64_0 al bl b1 d1] | simp only [add64 ah bh _ a1 c1 k0 k1])
  simp [bodyPost, results, Tryd.results43, go_sem]
  exact ⟨⟨H1.out, H2.out⟩, (((Tr.refl _).al _).al _).al _⟩
/-- ratio.minus at two numbers, the second not greater. -/
theorem minus_val (p q : Int) (hq : 0 ≤ q) (hpq : q ≤ p) (h : p < 340282366920938463463374607431768211456) (w : World) :
    Calls Tryd.prog 45 #[.agg #[.int .u64 (p / 18446744073709551616), .int .u64 (p % 18446744073709551616)], .agg #[.int .u64 (q / 18446744073709551616), .int .u64 (q % 18446744073709551616)]] w fun e w' =>
      e = .returned (.agg #[.int .u64 ((p - q) / 18446744073709551616), .int .u64 ((p - q) % 18446744073709551616)]) ∧ Tr w w' := by
  have b1 : 0 ≤ p % 18446744073709551616 := by omega
  have d1 : 0 ≤ q % 18446744073709551616 := by omega
  have b2 : p % 18446744073709551616 < 18446744073709551616 := by omega
  have d2 : q % 18446744073709551616 < 18446744073709551616 := by omega
  have a1 : 0 ≤ p / 18446744073709551616 := by omega
  have c1 : 0 ≤ q / 18446744073709551616 := by omega
  have c2 : q / 18446744073709551616 < 18446744073709551616 := by omega
  by_cases hb : p % 18446744073709551616 < q % 18446744073709551616
  · have E1 : (p / 18446744073709551616 - q / 18446744073709551616 - 1) % 18446744073709551616 = (p - q) / 18446744073709551616 := by omega
    have E2 : (p % 18446744073709551616 - q % 18446744073709551616) % 18446744073709551616 = (p - q) % 18446744073709551616 := by omega
    have H1 := Lib.hid E1
    have H2 := Lib.hid E2
    clear E1 E2
    generalize p / 18446744073709551616 = ah at *
    generalize p % 18446744073709551616 = al at *
    generalize q / 18446744073709551616 = bh at *
    generalize q % 18446744073709551616 = bl at *
    go_enter Tryd.func45, Tryd.ntmps45
    go_wp2_with (first | simp only [sub64_0 al bl b1 d1 d2, hb, if_true] | simp only [sub64 ah bh 1 a1 c1 c2 (by decide) (by decide)])
    all_goals simp [bodyPost, results, Tryd.results45, go_sem]
    all_goals exact ⟨⟨H1.out, H2.out⟩, (((Tr.refl _).al _).al _).al _⟩
  · have E1 : (p / 18446744073709551616 - q / 18446744073709551616) % 18446744073709551616 = (p - q) / 18446744073709551616 := by omega
    have E2 : (p % 18446744073709551616 - q % 18446744073709551616) % 18446744073709551616 = (p - q) % 18446744073709551616 := by omega
    have H1 := Lib.hid E1
    have H2 := Lib.hid E2
    clear E1 E2
    generalize p / 18446744073709551616 = ah at *
    generalize p % 18446744073709551616 = al at *
    generalize q / 18446744073709551616 = bh at *
    generalize q % 18446744073709551616 = bl at *
    go_enter Tryd.func45, Tryd.ntmps45
    go_wp2_with (first | simp only [sub64_0 al bl b1 d1 d2, hb, if_false] | simp only [sub64_0 ah bh a1 c1 c2])
    all_goals simp [bodyPost, results, Tryd.results45, go_sem]
    all_goals exact ⟨⟨H1.out, H2.out⟩, (((Tr.refl _).al _).al _).al _⟩

/-- ratio.signed: too big. -/
theorem signed_big (neg : Bool) (num den : Int) (w : World) (h : 1152921504606846976 < num ∨ 1152921504606846976 < den) :
    Calls Tryd.prog 47 #[.bool neg, .int .u64 num, .int .u64 den] w fun e w' =>
      e = .returned (.tuple #[.agg #[.int .i64 0, .int .i64 0], .int .i64 5]) ∧ Tr w w' := by
  by_cases h1 : 1152921504606846976 < num
  · go_enter Tryd.func47, Tryd.ntmps47
    go_wp2
    simp [bodyPost, results, Tryd.results47, go_sem]
    exact (Tr.refl _).al _
  · have h2 : 1152921504606846976 < den := by omega
    clear h
    go_enter Tryd.func47, Tryd.ntmps47
    go_wp2
    simp [bodyPost, results, Tryd.results47, go_sem]
    exact (Tr.refl _).al _
theorem signed_fits (neg : Bool) (num den : Int) (w : World) (h0 : 0 ≤ num) (h1 : num ≤ 1152921504606846976) (h2 : 0 ≤ den) (h3 : den ≤ 1152921504606846976) :
    Calls Tryd.prog 47 #[.bool neg, .int .u64 num, .int .u64 den] w fun e w' =>
      e = .returned (.tuple #[.agg #[.int .i64 (if neg then -num else num), .int .i64 den], .int .i64 0]) ∧ Tr w w' := by
  have g1 : ¬ 1152921504606846976 < num := by omega
  have g2 : ¬ 1152921504606846976 < den := by omega
  cases neg
  all_goals
    go_enter Tryd.func47, Tryd.ntmps47
    go_wp2
    simp [bodyPost, results, Tryd.results47, go_sem]
    exact (Tr.refl _).al _
end Go.Proofs.YtpjkiljgccjemaaDoor
