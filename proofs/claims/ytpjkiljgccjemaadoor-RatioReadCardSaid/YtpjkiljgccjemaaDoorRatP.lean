/- Plain facts on fractions: no program. -/
import Derived.Lib.Hide
namespace Go.Proofs.YtpjkiljgccjemaaDoor

/-- The greatest numerator and denominator. -/
def maxF : Int := 1152921504606846976
def validB (n d : Int) : Bool := decide (1 ≤ d) && decide (d ≤ 1152921504606846976) && decide (-1152921504606846976 ≤ n) && decide (n ≤ 1152921504606846976) && (Int.gcd n d == 1)
theorem validB_spec {n d : Int} : validB n d = true ↔ 1 ≤ d ∧ d ≤ 1152921504606846976 ∧ -1152921504606846976 ≤ n ∧ n ≤ 1152921504606846976 ∧ Int.gcd n d = 1 := by
  unfold validB
  simp only [Bool.and_eq_true, decide_eq_true_eq, beq_iff_eq, and_assoc]
theorem validB_not {n d : Int} (h : ¬ (1 ≤ d ∧ d ≤ 1152921504606846976 ∧ -1152921504606846976 ≤ n ∧ n ≤ 1152921504606846976 ∧ Int.gcd n d = 1)) : validB n d = false := by
  rw [Bool.eq_false_iff]; intro hh; exact h (validB_spec.1 hh)
end Go.Proofs.YtpjkiljgccjemaaDoor
