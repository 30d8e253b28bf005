/- Contract of the reference's Mul. -/
import Derived.Test.YtpjkiljgccjemaaDoorRefA
namespace Go.Proofs.YtpjkiljgccjemaaDoor
set_option linter.unusedVariables false
open Go.RowKit Go.Sort

theorem rmul_core (a b ah al bh bl L L1 L0 Q M M1 M0 R O O1 O2 P S hi lo : Int) (w : World)
    (h1 : a / 4294967296 = ah) (h2 : bits .and .u64 a 4294967295 = al) (h3 : b / 4294967296 = bh) (h4 : bits .and .u64 b 4294967295 = bl)
    (hL : al * bl = L) (l0 : 0 ≤ L) (l1 : L < 18446744073709551616) (hL1 : L / 4294967296 = L1) (hL0 : bits .and .u64 L 4294967295 = L0)
    (hQ : ah * bl = Q) (q0 : 0 ≤ Q) (q1 : Q < 18446744073709551616) (hM : Q + L1 = M) (m0 : 0 ≤ M) (m1 : M < 18446744073709551616)
    (hM1 : M / 4294967296 = M1) (hM0 : bits .and .u64 M 4294967295 = M0)
    (hR : al * bh = R) (r0 : 0 ≤ R) (r1 : R < 18446744073709551616) (hO : R + M0 = O) (o0 : 0 ≤ O) (o1 : O < 18446744073709551616)
    (hO1 : O / 4294967296 = O1) (hO2 : IntKind.u64.wrap (O * 4294967296) = O2)
    (hP : ah * bh = P) (p0 : 0 ≤ P) (p1 : P < 18446744073709551616) (hS : P + M1 = S) (s0 : 0 ≤ S) (s1 : S < 18446744073709551616)
    (hH : S + O1 = hi) (i0 : 0 ≤ hi) (i1 : hi < 18446744073709551616) (hE : O2 + L0 = lo) (e0 : 0 ≤ lo) (e1 : lo < 18446744073709551616) :
    Calls Tryd.prog 53 #[.int .u64 a, .int .u64 b] w fun e w' => e = .returned (.agg #[.int .u64 hi, .int .u64 lo]) ∧ Tr w w' := by
  go_enter Tryd.func53, Tryd.ntmps53
  go_wp2
  simp [bodyPost, results, Tryd.results53, go_sem, *]
  exact (Tr.refl _).al _
/-- The reference's Mul. -/
theorem rmul_any (a b : Int) (w : World) (ha : 0 ≤ a) (ha' : a < 18446744073709551616) (hb : 0 ≤ b) (hb' : b < 18446744073709551616) :
    Calls Tryd.prog 53 #[.int .u64 a, .int .u64 b] w fun e w' => e = .returned (.agg #[.int .u64 (a * b / 18446744073709551616), .int .u64 (a * b % 18446744073709551616)]) ∧ Tr w w' := by
  have hal := mask32 a ha ha'
  have hbl := mask32 b hb hb'
  obtain ⟨ah, hah⟩ : ∃ ah, a / 4294967296 = ah := ⟨_, rfl⟩
  obtain ⟨al, hal'⟩ : ∃ al, a % 4294967296 = al := ⟨_, rfl⟩
  obtain ⟨bh, hbh⟩ : ∃ bh, b / 4294967296 = bh := ⟨_, rfl⟩
  obtain ⟨bl, hbl'⟩ : ∃ bl, b % 4294967296 = bl := ⟨_, rfl⟩
  rw [hal'] at hal
  rw [hbl'] at hbl
  have e : a * b = ah * bh * 18446744073709551616 + (ah * bl + al * bh) * 4294967296 + al * bl := by
    have ea : a = ah * 4294967296 + al := by omega
    have eb : b = bh * 4294967296 + bl := by omega
    rw [ea, eb]
    generalize 4294967296 = k
    grind
  obtain ⟨P, hP⟩ : ∃ x, ah * bh = x := ⟨_, rfl⟩
  obtain ⟨Q, hQ⟩ : ∃ x, ah * bl = x := ⟨_, rfl⟩
  obtain ⟨R, hR⟩ : ∃ x, al * bh = x := ⟨_, rfl⟩
  obtain ⟨L, hL⟩ : ∃ x, al * bl = x := ⟨_, rfl⟩
  have bP := mul_lt32 ah bh (by omega) (by omega) (by omega) (by omega)
  have bQ := mul_lt32 ah bl (by omega) (by omega) (by omega) (by omega)
  have bR := mul_lt32 al bh (by omega) (by omega) (by omega) (by omega)
  have bL := mul_lt32 al bl (by omega) (by omega) (by omega) (by omega)
  rw [hP, hQ, hR, hL] at e
  rw [hP] at bP
  rw [hQ] at bQ
  rw [hR] at bR
  rw [hL] at bL
  have k1 := mask32 L (by omega) (by omega)
  have k2 := mask32 (Q + L / 4294967296) (by omega) (by omega)
  have hw := wrap_u64 ((R + (Q + L / 4294967296) % 4294967296) * 4294967296)
  refine rmul_core a b ah al bh bl L _ _ Q _ _ _ R _ _ _ P _ _ _ w hah hal hbh hbl hL (by omega) (by omega) rfl k1 hQ (by omega) (by omega) rfl (by omega) (by omega) rfl k2 hR (by omega) (by omega) rfl (by omega) (by omega) rfl hw hP (by omega) (by omega) rfl (by omega) (by omega) ?_ ?_ ?_ ?_ ?_ ?_
  all_goals omega
end Go.Proofs.YtpjkiljgccjemaaDoor
