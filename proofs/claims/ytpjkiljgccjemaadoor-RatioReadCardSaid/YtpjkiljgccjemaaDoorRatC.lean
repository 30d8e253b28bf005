/- Contracts of ratio.Valid. -/
import Derived.Test.YtpjkiljgccjemaaDoorRatB
import Derived.Test.YtpjkiljgccjemaaDoorRatP
namespace Go.Proofs.YtpjkiljgccjemaaDoor
open Go.RowKit Go.Sort

theorem valid_bound (n d : Int) (w : World) (h1 : 1 ≤ d) (h2 : d ≤ 1152921504606846976) (h3 : -1152921504606846976 ≤ n) (h4 : n ≤ 1152921504606846976) :
    Calls Tryd.prog 15 #[.agg #[.int .i64 n, .int .i64 d]] w fun e w' => e = .returned (.bool ((Int.gcd n.natAbs d : Int) == 1)) ∧ Tr w w' := by
  go_enter Tryd.func15, Tryd.ntmps15
  go_wp2
  go_quiet (first
    | (go_at_call 42; refine Calls.quiet_of_same ((size_any n (by omega) (by omega) _).mono fun _ _ ⟨a, b⟩ => ⟨a, b.symm⟩))
    | (go_at_call 40; refine Calls.quiet_of (gcd_any _ _ _ (by omega) (by omega) (by omega) (by omega))))
  go_wp2
  go_ret
  exact ⟨rfl, ((Tr.refl _).al _).drN _⟩
theorem valid_not1 (n d : Int) (w : World) (h1 : ¬ 1 ≤ d) :
    Calls Tryd.prog 15 #[.agg #[.int .i64 n, .int .i64 d]] w fun e w' => e = .returned (.bool false) ∧ Tr w w' := by
  have g1 : decide (1 ≤ d) = false := by simpa using h1
  clear h1
  go_enter Tryd.func15, Tryd.ntmps15
  go_wp2
  go_quiet (fail)
  go_wp2
  go_ret
  exact ⟨rfl, ((Tr.refl _).al _).drN _⟩
theorem valid_not2 (n d : Int) (w : World) (h1 : 1 ≤ d) (h2 : ¬ d ≤ 1152921504606846976) :
    Calls Tryd.prog 15 #[.agg #[.int .i64 n, .int .i64 d]] w fun e w' => e = .returned (.bool false) ∧ Tr w w' := by
  have g1 : decide (d ≤ 1152921504606846976) = false := by simpa using h2
  clear h2
  go_enter Tryd.func15, Tryd.ntmps15
  go_wp2
  go_quiet (fail)
  go_wp2
  go_ret
  exact ⟨rfl, ((Tr.refl _).al _).drN _⟩
theorem valid_not3 (n d : Int) (w : World) (h1 : 1 ≤ d) (h2 : d ≤ 1152921504606846976) (h3 : ¬ -1152921504606846976 ≤ n) :
    Calls Tryd.prog 15 #[.agg #[.int .i64 n, .int .i64 d]] w fun e w' => e = .returned (.bool false) ∧ Tr w w' := by
  have g1 : decide (-1152921504606846976 ≤ n) = false := by simpa using h3
  clear h3
  go_enter Tryd.func15, Tryd.ntmps15
  go_wp2
  go_quiet (fail)
  go_wp2
  go_ret
  exact ⟨rfl, ((Tr.refl _).al _).drN _⟩
theorem valid_not4 (n d : Int) (w : World) (h1 : 1 ≤ d) (h2 : d ≤ 1152921504606846976) (h3 : -1152921504606846976 ≤ n) (h4 : ¬ n ≤ 1152921504606846976) :
    Calls Tryd.prog 15 #[.agg #[.int .i64 n, .int .i64 d]] w fun e w' => e = .returned (.bool false) ∧ Tr w w' := by
  have g1 : decide (n ≤ 1152921504606846976) = false := by simpa using h4
  clear h4
  go_enter Tryd.func15, Tryd.ntmps15
  go_wp2
  go_quiet (fail)
  go_wp2
  go_ret
  exact ⟨rfl, ((Tr.refl _).al _).drN _⟩
/-- ratio.Valid, at whatever fraction. -/
theorem valid_any (n d : Int) (w : World) :
    Calls Tryd.prog 15 #[.agg #[.int .i64 n, .int .i64 d]] w fun e w' => e = .returned (.bool (validB n d)) ∧ Tr w w' := by
  by_cases h1 : 1 ≤ d
  · by_cases h2 : d ≤ 1152921504606846976
    · by_cases h3 : -1152921504606846976 ≤ n
      · by_cases h4 : n ≤ 1152921504606846976
        · refine (valid_bound n d w h1 h2 h3 h4).mono fun e w' ⟨he, ht⟩ => ⟨?_, ht⟩
          rw [he]
          refine ret_bool ?_
          rw [Bool.eq_iff_iff, validB_spec]
          have : Int.gcd (n.natAbs : Int) d = Int.gcd n d := by simp [Int.gcd]
          rw [this]
          simp [h1, h2, h3, h4]
          omega
        · rw [validB_not (fun h => h4 h.2.2.2.1)]; exact valid_not4 n d w h1 h2 h3 h4
      · rw [validB_not (fun h => h3 h.2.2.1)]; exact valid_not3 n d w h1 h2 h3
    · rw [validB_not (fun h => h2 h.2.1)]; exact valid_not2 n d w h1 h2
  · rw [validB_not (fun h => h1 h.1)]; exact valid_not1 n d w h1
theorem valid_yes {n d : Int} (h : validB n d = true) (w : World) :
    Calls Tryd.prog 15 #[.agg #[.int .i64 n, .int .i64 d]] w fun e w' => e = .returned (.bool true) ∧ Tr w w' := by
  rw [← h]; exact valid_any n d w
theorem valid_no {n d : Int} (h : validB n d = false) (w : World) :
    Calls Tryd.prog 15 #[.agg #[.int .i64 n, .int .i64 d]] w fun e w' => e = .returned (.bool false) ∧ Tr w w' := by
  rw [← h]; exact valid_any n d w
end Go.Proofs.YtpjkiljgccjemaaDoor
