/- Contracts of the leaf functions of package ratio (size, gcd), for every argument. -/
import Derived.Test.YtpjkiljgccjemaaDoorProg
import Derived.WalkKit
import Derived.WalkSpells
import Derived.Deep.QuietTactic
import Derived.BigQuiet
import Derived.Lib.Hide
import Derived.RowKit3
namespace Go.Proofs.YtpjkiljgccjemaaDoor
open Go.RowKit

theorem ret_int {k : IntKind} {a b : Int} (h : a = b) : Ending.returned (.int k a) = .returned (.int k b) := by rw [h]
theorem wrap_u64 (n : Int) : IntKind.u64.wrap n = n % 18446744073709551616 := by
  simp [IntKind.wrap, IntKind.signed, IntKind.bits]
theorem gcd_step (x y : Int) : Int.gcd y (x % y) = Int.gcd x y := by
  rw [Int.gcd_comm, Int.emod_def, Int.mul_comm]; exact Int.gcd_sub_mul_right_left y x (x / y)

/-- ratio.size. -/
theorem size_any (n : Int) (h1 : -9223372036854775808 ≤ n) (h2 : n ≤ 9223372036854775807) (w : World) :
    Calls Tryd.prog 42 #[.int .i64 n] w fun e w' => e = .returned (.int .u64 (n.natAbs : Int)) ∧ w = w' := by
  by_cases hn : n < 0
  · go_enter Tryd.func42, Tryd.ntmps42
    go_wp2
    go_ret
    refine ⟨ret_int ?_, rfl⟩
    rw [wrap_u64, wrap_u64]
    omega
  · have e : (n.natAbs : Int) = n := by omega
    rw [e]
    go_enter Tryd.func42, Tryd.ntmps42
    go_wp2
    go_ret
    exact ⟨rfl, rfl⟩

theorem gcd_any (a b : Int) (w : World) (ha : 0 ≤ a) (ha' : a < 18446744073709551616) (hb : 0 ≤ b) (hb' : b < 18446744073709551616) :
    Calls Tryd.prog 40 #[.int .u64 a, .int .u64 b] w fun e w' => e = .returned (.int .u64 (Int.gcd a b : Int)) ∧ ∃ n, w' = w.drewN n := by
  go_enter Tryd.func40, Tryd.ntmps40
  go_wp2
  go_loopw [0, 1] (fun s t wr => ∃ (x y : Int) (n : Nat), 0 ≤ x ∧ x < 18446744073709551616 ∧ 0 ≤ y ∧ y < 18446744073709551616 ∧ s = .int .u64 x ∧ t = .int .u64 y ∧ Int.gcd x y = Int.gcd a b ∧ wr = w.drewN n) (fun _ t _ => (intOf t).toNat)
  case atStart => exact ⟨a, b, 0, ha, ha', hb, hb', rfl, rfl, rfl, rfl⟩
  case round =>
    obtain ⟨x, y, n, hx, hx', hy, hy', rfl, rfl, hg, rfl⟩ := hrel
    have HG := Lib.hid hg
    clear hg
    by_cases h0 : y = 0
    · subst h0
      go_wp2
      go_ret
      exact ⟨ret_int (by rw [← HG.out]; simp; omega), _, rfl⟩
    · have h1 : (y != 0) = true := by simp [h0]
      have h2 : 1 ≤ y := by omega
      go_wp2
      go_quiet (fail)
      go_wp2
      go_roundw
      case rel => exact ⟨y, x % y, n + nq, by omega, by omega, Int.emod_nonneg _ h0, by have := Int.emod_lt_of_pos x (b := y) (by omega); omega, rfl, rfl, by rw [← HG.out]; exact gcd_step x y, by rw [World.drewN_drewN]⟩
      case measure =>
        have := Int.emod_lt_of_pos x (b := y) (by omega)
        have := Int.emod_nonneg x h0
        simp [intOf]; omega
end Go.Proofs.YtpjkiljgccjemaaDoor
