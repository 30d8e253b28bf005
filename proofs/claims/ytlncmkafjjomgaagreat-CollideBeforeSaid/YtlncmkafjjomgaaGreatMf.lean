/- Contracts of the leaf functions of the reference of chapter 2. | Contract of the reference's Mul. | Contract of the reference's Div. | Contract of the reference's Div: the loop. | Contracts of the reference's Div, joined, and plain facts for its Gcd. | Contract of the reference's Gcd. -/
import Derived.Test.YtlncmkafjjomgaaGreatMd
import Derived.Deep.RegionWith
import Derived.IntWalk
namespace Go.Proofs.YtlncmkafjjomgaaGreat
set_option linter.unusedVariables false
open Go.RowKit Go.Sort

theorem rsize_any (n : Int) (h1 : -9223372036854775808 ≤ n) (h2 : n ≤ 9223372036854775807) (w : World) :
  Calls Tryz.prog 34 #[.int .i64 n] w fun e w' => e = .returned (.int .u64 (n.natAbs : Int)) ∧ w = w' := by
 by_cases hn : n < 0
 ·go_enter Tryz.func34, Tryz.ntmps34
  go_wp2
  go_ret
  refine ⟨ret_int ?_, rfl⟩
  rw [wrap_u64, wrap_u64]
  omega
 ·have e : (n.natAbs : Int) = n := by omega
  rw [e]
  go_enter Tryz.func34, Tryz.ntmps34
  go_wp2
  go_ret
  exact ⟨rfl, rfl⟩

theorem rless_any (ah al bh bl : Int) (w : World) :
  Calls Tryz.prog 35 #[.agg #[.int .u64 ah, .int .u64 al], .agg #[.int .u64 bh, .int .u64 bl]] w fun e w' =>
   e = .returned (.bool (decide (ah < bh ∨ ah = bh ∧ al < bl))) ∧ Tr w w' := by
 by_cases g1 : ah < bh
 ·go_enter Tryz.func35, Tryz.ntmps35
  go_wp2
  go_ret
  exact ⟨ret_bool (by simp [g1]), ((Tr.refl _).al _).al _⟩
 ·by_cases g2 : ah = bh
  ·subst g2
   by_cases g3 : al < bl
   all_goals
    go_enter Tryz.func35, Tryz.ntmps35
    go_wp2
    go_ret
    exact ⟨ret_bool (by simp [g3]), ((Tr.refl _).al _).al _⟩
  ·have g4 : (ah == bh) = false := by simp [g2]
   go_enter Tryz.func35, Tryz.ntmps35
   go_wp2
   go_ret
   exact ⟨ret_bool (by simp;omega), ((Tr.refl _).al _).al _⟩
theorem rless_val (p q : Int) (hp : 0 ≤ p) (hq : 0 ≤ q) (w : World) :
  Calls Tryz.prog 35 #[.agg #[.int .u64 (p / 18446744073709551616), .int .u64 (p % 18446744073709551616)], .agg #[.int .u64 (q / 18446744073709551616), .int .u64 (q % 18446744073709551616)]] w fun e w' =>
   e = .returned (.bool (decide (p < q))) ∧ Tr w w' :=
 (rless_any _ _ _ _ w).mono fun e w' ⟨he, ht⟩ => ⟨by rw [he];exact ret_bool (decide_eq_decide.2 (lt_wide p q hp hq)), ht⟩

theorem rplus_val (p q : Int) (hp : 0 ≤ p) (hq : 0 ≤ q) (h : p + q < 340282366920938463463374607431768211456) (w : World) :
  Calls Tryz.prog 133 #[.agg #[.int .u64 (p / 18446744073709551616), .int .u64 (p % 18446744073709551616)], .agg #[.int .u64 (q / 18446744073709551616), .int .u64 (q % 18446744073709551616)]] w fun e w' =>
   e = .returned (.agg #[.int .u64 ((p + q) / 18446744073709551616), .int .u64 ((p + q) % 18446744073709551616)]) ∧ Tr w w' := by
 have E2 : IntKind.u64.wrap (p % 18446744073709551616 + q % 18446744073709551616) = (p + q) % 18446744073709551616 := by rw [wrap_u64];omega
 by_cases hc : (p + q) % 18446744073709551616 < p % 18446744073709551616
 ·have E1 : IntKind.u64.wrap (IntKind.u64.wrap (p / 18446744073709551616 + q / 18446744073709551616) + 1) = (p + q) / 18446744073709551616 := by rw [wrap_u64, wrap_u64];omega
  generalize p / 18446744073709551616 = ah at *
  generalize p % 18446744073709551616 = al at *
  generalize q / 18446744073709551616 = bh at *
  generalize q % 18446744073709551616 = bl at *
  go_enter Tryz.func133, Tryz.ntmps133
  go_wp2
  simp [bodyPost, results, Tryz.results133, go_sem, *]
  exact (((Tr.refl _).al _).al _).al _
 ·have E1 : IntKind.u64.wrap (p / 18446744073709551616 + q / 18446744073709551616) = (p + q) / 18446744073709551616 := by rw [wrap_u64];omega
  generalize p / 18446744073709551616 = ah at *
  generalize p % 18446744073709551616 = al at *
  generalize q / 18446744073709551616 = bh at *
  generalize q % 18446744073709551616 = bl at *
  go_enter Tryz.func133, Tryz.ntmps133
  go_wp2
  simp [bodyPost, results, Tryz.results133, go_sem, *]
  exact (((Tr.refl _).al _).al _).al _
theorem rminus_mod (p q r : Int) (hp : 0 ≤ p) (hq : 0 ≤ q) (hp' : p < 340282366920938463463374607431768211456) (hq' : q < 340282366920938463463374607431768211456) (hr : (p - q) % 340282366920938463463374607431768211456 = r) (w : World) :
  Calls Tryz.prog 132 #[.agg #[.int .u64 (p / 18446744073709551616), .int .u64 (p % 18446744073709551616)], .agg #[.int .u64 (q / 18446744073709551616), .int .u64 (q % 18446744073709551616)]] w fun e w' =>
   e = .returned (.agg #[.int .u64 (r / 18446744073709551616), .int .u64 (r % 18446744073709551616)]) ∧ Tr w w' := by
 have E2 : IntKind.u64.wrap (p % 18446744073709551616 - q % 18446744073709551616) = r % 18446744073709551616 := by rw [wrap_u64];omega
 by_cases hc : p % 18446744073709551616 < q % 18446744073709551616
 ·have E1 : IntKind.u64.wrap (IntKind.u64.wrap (p / 18446744073709551616 - q / 18446744073709551616) - 1) = r / 18446744073709551616 := by rw [wrap_u64, wrap_u64];omega
  clear hr
  generalize p / 18446744073709551616 = ah at *
  generalize p % 18446744073709551616 = al at *
  generalize q / 18446744073709551616 = bh at *
  generalize q % 18446744073709551616 = bl at *
  go_enter Tryz.func132, Tryz.ntmps132
  go_wp2
  simp [bodyPost, results, Tryz.results132, go_sem, *]
  exact (((Tr.refl _).al _).al _).al _
 ·have E1 : IntKind.u64.wrap (p / 18446744073709551616 - q / 18446744073709551616) = r / 18446744073709551616 := by rw [wrap_u64];omega
  clear hr
  generalize p / 18446744073709551616 = ah at *
  generalize p % 18446744073709551616 = al at *
  generalize q / 18446744073709551616 = bh at *
  generalize q % 18446744073709551616 = bl at *
  go_enter Tryz.func132, Tryz.ntmps132
  go_wp2
  simp [bodyPost, results, Tryz.results132, go_sem, *]
  exact (((Tr.refl _).al _).al _).al _
theorem rhalf_val (p : Int) (hp : 0 ≤ p) (hp' : p < 340282366920938463463374607431768211456) (w : World) :
  Calls Tryz.prog 131 #[.agg #[.int .u64 (p / 18446744073709551616), .int .u64 (p % 18446744073709551616)]] w fun e w' =>
   e = .returned (.agg #[.int .u64 (p / 2 / 18446744073709551616), .int .u64 (p / 2 % 18446744073709551616)]) ∧ Tr w w' := by
 have E1 : p / 18446744073709551616 / 2 = p / 2 / 18446744073709551616 := by omega
 have E2 : IntKind.u64.wrap (p % 18446744073709551616 / 2 + IntKind.u64.wrap (p / 18446744073709551616 * 9223372036854775808)) = p / 2 % 18446744073709551616 := by rw [wrap_u64, wrap_u64];omega
 generalize p / 18446744073709551616 = ah at *
 generalize p % 18446744073709551616 = al at *
 go_enter Tryz.func131, Tryz.ntmps131
 go_wp2
 simp [bodyPost, results, Tryz.results131, go_sem, *]
 exact ((Tr.refl _).al _).al _
end Go.Proofs.YtlncmkafjjomgaaGreat
namespace Go.Proofs.YtlncmkafjjomgaaGreat
set_option linter.unusedVariables false
open Go.RowKit Go.Sort

theorem rmul_core (a b ah al bh bl L L1 L0 Q M M1 M0 R O O1 O2 P S hi lo : Int) (w : World)
  (h1 : a / 4294967296 = ah) (h2 : bits .and .u64 a 4294967295 = al) (h3 : b / 4294967296 = bh) (h4 : bits .and .u64 b 4294967295 = bl)
  (hL : al * bl = L) (l0 : 0 ≤ L) (l1 : L < 18446744073709551616) (hL1 : L / 4294967296 = L1) (hL0 : bits .and .u64 L 4294967295 = L0)
  (hQ : ah * bl = Q) (q0 : 0 ≤ Q) (q1 : Q < 18446744073709551616) (hM : Q + L1 = M) (m0 : 0 ≤ M) (m1 : M < 18446744073709551616)
  (hM1 : M / 4294967296 = M1) (hM0 : bits .and .u64 M 4294967295 = M0)
  (hR : al * bh = R) (r0 : 0 ≤ R) (r1 : R < 18446744073709551616) (hO : R + M0 = O) (o0 : 0 ≤ O) (o1 : O < 18446744073709551616)
  (hO1 : O / 4294967296 = O1) (hO2 : IntKind.u64.wrap (O * 4294967296) = O2)
  (hP : ah * bh = P) (p0 : 0 ≤ P) (p1 : P < 18446744073709551616) (hS : P + M1 = S) (s0 : 0 ≤ S) (s1 : S < 18446744073709551616)
  (hH : S + O1 = hi) (i0 : 0 ≤ hi) (i1 : hi < 18446744073709551616) (hE : O2 + L0 = lo) (e0 : 0 ≤ lo) (e1 : lo < 18446744073709551616) :
  Calls Tryz.prog 33 #[.int .u64 a, .int .u64 b] w fun e w' => e = .returned (.agg #[.int .u64 hi, .int .u64 lo]) ∧ Tr w w' := by
 go_enter Tryz.func33, Tryz.ntmps33
 go_wp2
 simp [bodyPost, results, Tryz.results33, go_sem, *]
 exact (Tr.refl _).al _
theorem rmul_any (a b : Int) (w : World) (ha : 0 ≤ a) (ha' : a < 18446744073709551616) (hb : 0 ≤ b) (hb' : b < 18446744073709551616) :
  Calls Tryz.prog 33 #[.int .u64 a, .int .u64 b] w fun e w' => e = .returned (.agg #[.int .u64 (a * b / 18446744073709551616), .int .u64 (a * b % 18446744073709551616)]) ∧ Tr w w' := by
 have hal := mask32 a ha ha'
 have hbl := mask32 b hb hb'
 obtain ⟨ah, hah⟩ : ∃ ah, a / 4294967296 = ah := ⟨_, rfl⟩
 obtain ⟨al, hal'⟩ : ∃ al, a % 4294967296 = al := ⟨_, rfl⟩
 obtain ⟨bh, hbh⟩ : ∃ bh, b / 4294967296 = bh := ⟨_, rfl⟩
 obtain ⟨bl, hbl'⟩ : ∃ bl, b % 4294967296 = bl := ⟨_, rfl⟩
 rw [hal'] at hal
 rw [hbl'] at hbl
 have e : a * b = ah * bh * 18446744073709551616 + (ah * bl + al * bh) * 4294967296 + al * bl := by
  have ea : a = ah * 4294967296 + al := by omega
  have eb : b = bh * 4294967296 + bl := by omega
  rw [ea, eb]
  generalize 4294967296 = k
  grind
 obtain ⟨P, hP⟩ : ∃ x, ah * bh = x := ⟨_, rfl⟩
 obtain ⟨Q, hQ⟩ : ∃ x, ah * bl = x := ⟨_, rfl⟩
 obtain ⟨R, hR⟩ : ∃ x, al * bh = x := ⟨_, rfl⟩
 obtain ⟨L, hL⟩ : ∃ x, al * bl = x := ⟨_, rfl⟩
 have bP := mul_lt32 ah bh (by omega) (by omega) (by omega) (by omega)
 have bQ := mul_lt32 ah bl (by omega) (by omega) (by omega) (by omega)
 have bR := mul_lt32 al bh (by omega) (by omega) (by omega) (by omega)
 have bL := mul_lt32 al bl (by omega) (by omega) (by omega) (by omega)
 rw [hP, hQ, hR, hL] at e
 rw [hP] at bP
 rw [hQ] at bQ
 rw [hR] at bR
 rw [hL] at bL
 have k1 := mask32 L (by omega) (by omega)
 have k2 := mask32 (Q + L / 4294967296) (by omega) (by omega)
 have hw := wrap_u64 ((R + (Q + L / 4294967296) % 4294967296) * 4294967296)
 refine rmul_core a b ah al bh bl L _ _ Q _ _ _ R _ _ _ P _ _ _ w hah hal hbh hbl hL (by omega) (by omega) rfl k1 hQ (by omega) (by omega) rfl (by omega) (by omega) rfl k2 hR (by omega) (by omega) rfl (by omega) (by omega) rfl hw hP (by omega) (by omega) rfl (by omega) (by omega) ?_ ?_ ?_ ?_ ?_ ?_
 all_goals omega
end Go.Proofs.YtlncmkafjjomgaaGreat
namespace Go.Proofs.YtlncmkafjjomgaaGreat
set_option linter.unusedVariables false
open Go.RowKit Go.Sort

def Wd (x h l : Int) : Prop := h = x / 18446744073709551616 ∧ l = x % 18446744073709551616

end Go.Proofs.YtlncmkafjjomgaaGreat
namespace Go.Proofs.YtlncmkafjjomgaaGreat
set_option linter.unusedVariables false
open Go.RowKit Go.Sort

theorem rless_lt {p q ph pl qh ql : Int} (h1 : Wd p ph pl) (h2 : Wd q qh ql) (hp : 0 ≤ p) (hq : 0 ≤ q) (h : p < q) (w : World) :
  Calls Tryz.prog 35 #[.agg #[.int .u64 ph, .int .u64 pl], .agg #[.int .u64 qh, .int .u64 ql]] w fun e w' => e = .returned (.bool true) ∧ Tr w w' := by
 obtain ⟨rfl, rfl⟩ := h1
 obtain ⟨rfl, rfl⟩ := h2
 have := rless_val p q hp hq w
 rw [decide_eq_true h] at this;exact this
theorem rless_ge {p q ph pl qh ql : Int} (h1 : Wd p ph pl) (h2 : Wd q qh ql) (hp : 0 ≤ p) (hq : 0 ≤ q) (h : ¬ p < q) (w : World) :
  Calls Tryz.prog 35 #[.agg #[.int .u64 ph, .int .u64 pl], .agg #[.int .u64 qh, .int .u64 ql]] w fun e w' => e = .returned (.bool false) ∧ Tr w w' := by
 obtain ⟨rfl, rfl⟩ := h1
 obtain ⟨rfl, rfl⟩ := h2
 have := rless_val p q hp hq w
 rw [decide_eq_false h] at this;exact this
theorem rminus_wd {p q r ph pl qh ql rh rl : Int} (h1 : Wd p ph pl) (h2 : Wd q qh ql) (h3 : Wd r rh rl) (hp : 0 ≤ p) (hq : 0 ≤ q) (hp' : p < 340282366920938463463374607431768211456) (hq' : q < 340282366920938463463374607431768211456) (hr : (p - q) % 340282366920938463463374607431768211456 = r) (w : World) :
  Calls Tryz.prog 132 #[.agg #[.int .u64 ph, .int .u64 pl], .agg #[.int .u64 qh, .int .u64 ql]] w fun e w' => e = .returned (.agg #[.int .u64 rh, .int .u64 rl]) ∧ Tr w w' := by
 obtain ⟨rfl, rfl⟩ := h1
 obtain ⟨rfl, rfl⟩ := h2
 obtain ⟨rfl, rfl⟩ := h3
 exact rminus_mod p q r hp hq hp' hq' hr w

end Go.Proofs.YtlncmkafjjomgaaGreat
namespace Go.Proofs.YtlncmkafjjomgaaGreat
set_option linter.unusedVariables false
open Go.RowKit Go.Sort

def wideAt (w : World) (b : Nat) : Nat := (intOf ((w.cell? ⟨b, 0, none⟩).getD undef) * 18446744073709551616 + intOf ((w.cell? ⟨b, 1, none⟩).getD undef)).toNat
theorem wideAt_eq {w : World} {b : Nat} {x h l : Int} (hw : Wd x h l) (h0 : w.cell? ⟨b, 0, none⟩ = some (.int .u64 h)) (h1 : w.cell? ⟨b, 1, none⟩ = some (.int .u64 l)) : wideAt w b = x.toNat := by
 obtain ⟨rfl, rfl⟩ := hw
 unfold wideAt
 rw [h0, h1]
 simp only [Option.getD_some, intOf]
 congr 1
 omega
theorem mask1 (x : Int) (h0 : 0 ≤ x) (h1 : x < 18446744073709551616) : bits .and .u64 x 1 = x % 2 :=
 bits_mask .u64 64 (by decide) wraps_u64 1 (by decide) x h0 (by simpa using h1)
theorem gcd_half_left (a b : Int) (ha : a % 2 = 0) (hb : b % 2 = 1) : Int.gcd (a / 2) b = Int.gcd a b := by
 have e : a = 2 * (a / 2) := by omega
 have hc : Nat.Coprime 2 b.natAbs := by show Nat.gcd 2 b.natAbs = 1;rw [Nat.gcd_rec, show b.natAbs % 2 = 1 by omega];exact Nat.gcd_one_left _
 rw [Int.gcd, Int.gcd, show a.natAbs = 2 * (a / 2).natAbs by omega, Nat.Coprime.gcd_mul_left_cancel _ hc]
theorem gcd_half_right (a b : Int) (ha : a % 2 = 1) (hb : b % 2 = 0) : Int.gcd a (b / 2) = Int.gcd a b := by
 rw [Int.gcd_comm, gcd_half_left b a hb ha, Int.gcd_comm]
theorem gcd_sub (a b : Int) : Int.gcd (a - b) b = Int.gcd a b := by
 simp
theorem gcd_twice (a b : Int) (ha : a % 2 = 0) (hb : b % 2 = 0) : Int.gcd a b = 2 * Int.gcd (a / 2) (b / 2) := by
 rw [Int.gcd, Int.gcd, show a.natAbs = 2 * (a / 2).natAbs by omega, show b.natAbs = 2 * (b / 2).natAbs by omega, Nat.gcd_mul_left]
theorem rhalf_wd {p h l h2 l2 : Int} (h1 : Wd p h l) (h3 : Wd (p / 2) h2 l2) (hp : 0 ≤ p) (hp' : p < 340282366920938463463374607431768211456) (w : World) :
  Calls Tryz.prog 131 #[.agg #[.int .u64 h, .int .u64 l]] w fun e w' => e = .returned (.agg #[.int .u64 h2, .int .u64 l2]) ∧ Tr w w' := by
 obtain ⟨rfl, rfl⟩ := h1
 obtain ⟨rfl, rfl⟩ := h3
 exact rhalf_val p hp hp' w
theorem rplus_wd {p q ph pl qh ql rh rl : Int} (h1 : Wd p ph pl) (h2 : Wd q qh ql) (h3 : Wd (p + q) rh rl) (hp : 0 ≤ p) (hq : 0 ≤ q) (h : p + q < 340282366920938463463374607431768211456) (w : World) :
  Calls Tryz.prog 133 #[.agg #[.int .u64 ph, .int .u64 pl], .agg #[.int .u64 qh, .int .u64 ql]] w fun e w' => e = .returned (.agg #[.int .u64 rh, .int .u64 rl]) ∧ Tr w w' := by
 obtain ⟨rfl, rfl⟩ := h1
 obtain ⟨rfl, rfl⟩ := h2
 obtain ⟨rfl, rfl⟩ := h3
 exact rplus_val p q hp hq h w
end Go.Proofs.YtlncmkafjjomgaaGreat
namespace Go.Proofs.YtlncmkafjjomgaaGreat
set_option linter.unusedVariables false
open Go.RowKit Go.Sort

theorem wide_lt {w1 w2 : World} {b : Nat} {x1 h1 l1 x2 h2 l2 : Int} (a1 : Wd x1 h1 l1) (a2 : Wd x2 h2 l2) (c1 : w1.cell? ⟨b, 0, none⟩ = some (.int .u64 h1)) (c2 : w1.cell? ⟨b, 1, none⟩ = some (.int .u64 l1))
  (c3 : w2.cell? ⟨b, 0, none⟩ = some (.int .u64 h2)) (c4 : w2.cell? ⟨b, 1, none⟩ = some (.int .u64 l2)) (h0 : 0 ≤ x1) (h : x1 < x2) : wideAt w1 b < wideAt w2 b := by
 rw [wideAt_eq a1 c1 c2, wideAt_eq a2 c3 c4];omega
theorem wide_lt2 {w1 w2 : World} {b b' : Nat} {x1 h1 l1 x2 h2 l2 y1 i1 j1 y2 i2 j2 : Int} (a1 : Wd x1 h1 l1) (a2 : Wd x2 h2 l2) (a3 : Wd y1 i1 j1) (a4 : Wd y2 i2 j2) (h0 : 0 ≤ x1 ∧ 0 ≤ y1 ∧ x1 + y1 < x2 + y2)
  (c1 : w1.cell? ⟨b, 0, none⟩ = some (.int .u64 h1)) (c2 : w1.cell? ⟨b, 1, none⟩ = some (.int .u64 l1)) (d1 : w1.cell? ⟨b', 0, none⟩ = some (.int .u64 i1)) (d2 : w1.cell? ⟨b', 1, none⟩ = some (.int .u64 j1))
  (c3 : w2.cell? ⟨b, 0, none⟩ = some (.int .u64 h2)) (c4 : w2.cell? ⟨b, 1, none⟩ = some (.int .u64 l2)) (d3 : w2.cell? ⟨b', 0, none⟩ = some (.int .u64 i2)) (d4 : w2.cell? ⟨b', 1, none⟩ = some (.int .u64 j2)) :
  wideAt w1 b + wideAt w1 b' < wideAt w2 b + wideAt w2 b' := by
 rw [wideAt_eq a1 c1 c2, wideAt_eq a2 c3 c4, wideAt_eq a3 d1 d2, wideAt_eq a4 d3 d4];omega
theorem wd_mask {x h l : Int} (a : Wd x h l) : bits .and .u64 l 1 = x % 2 := by
 rw [a.2, mask1 _ (by omega) (by omega)];omega
theorem wd_zero {x h l : Int} (a : Wd x h l) (h0 : 0 ≤ x) (h1 : x < 340282366920938463463374607431768211456) : (x = 0 ∧ h = 0 ∧ l = 0) ∨ (1 ≤ x ∧ (h == 0) = false) ∨ (1 ≤ x ∧ (h == 0) = true ∧ (l == 0) = false) := by
 obtain ⟨rfl, rfl⟩ := a
 by_cases e1 : x / 18446744073709551616 = 0
 ·by_cases e2 : x % 18446744073709551616 = 0
  ·exact .inl (by omega)
  ·exact .inr (.inr ⟨by omega, by simp [e1], by simp [e2]⟩)
 ·exact .inr (.inl ⟨by omega, by simp [e1]⟩)
def Big : Int := 340282366920938463463374607431768211456
theorem gcd_le_r {a b : Int} (hb : 1 ≤ b) : (Int.gcd a b : Int) ≤ b := Int.gcd_le_right _ (by omega)
theorem twos_lt {g t : Nat} {G : Int} (h : (g : Int) * 2 ^ t = G) (hg : 1 ≤ g) (hG : G < Big) : t < 128 := by
 rcases Nat.lt_or_ge t 128 with h1 | h1
 ·exact h1
 ·exfalso
  have h2 : (2:Nat) ^ 128 ≤ 2 ^ t := Nat.pow_le_pow_right (by decide) h1
  have h3 : ((2 ^ 128 : Nat) : Int) ≤ ((2 ^ t : Nat) : Int) := Int.ofNat_le.2 h2
  rw [Int.natCast_pow] at h3
  have h4 : (2:Int) ^ t ≤ (g : Int) * 2 ^ t := by
   have : (1:Int) * 2 ^ t ≤ (g : Int) * 2 ^ t := Int.mul_le_mul_of_nonneg_right (by omega) (Int.le_of_lt (Int.pow_pos (by decide)))
   simpa using this
  simp at h3
  rw [h] at h4
  have : ((2:Int) ^ t) = (((2:Nat) : Int) ^ t) := rfl
  unfold Big at hG
  omega

theorem gcd_half2 {x y : Int} {t : Nat} {G : Int} (hx : x % 2 = 0) (hy : y % 2 = 0) (h : (Int.gcd x y : Int) * 2 ^ t = G) : (Int.gcd (x / 2) (y / 2) : Int) * 2 ^ (t + 1) = G := by
 rw [gcd_twice x y hx hy] at h
 rw [← h, Int.pow_succ]
 push_cast
 grind
def GcdPost (p q : Int) (w : World) (e : Ending) (w' : World) : Prop :=
 ∃ gh gl : Int, Hid (Wd (Int.gcd p q) gh gl) ∧ e = .returned (.agg #[.int .u64 gh, .int .u64 gl]) ∧ Tr w w'
theorem gcd_lt_big {p q : Int} (hq : 1 ≤ q) (h : q < Big) : (Int.gcd p q : Int) < Big := Int.lt_of_le_of_lt (gcd_le_r hq) h

set_option maxRecDepth 100000 in
set_option maxHeartbeats 4000000 in
theorem rgcd_core (p q ah al bh bl : Int) (w : World) (hp : 1 ≤ p) (hp' : Hid (p < Big)) (hq : 1 ≤ q) (hq' : Hid (q < Big)) (hA : Hid (Wd p ah al)) (hB : Hid (Wd q bh bl)) (hz : (ah == 0) = false ∨ ((ah == 0) = true ∧ (al == 0) = false)) :
  Calls Tryz.prog 98 #[.agg #[.int .u64 ah, .int .u64 al], .agg #[.int .u64 bh, .int .u64 bl]] w (GcdPost p q w) := by
 go_enter Tryz.func98, Tryz.ntmps98
 go_upto_region 1 with (fail)
 refine wp_forget (w0 := w) [(⟨w.heap.size, 0, none⟩, .int .u64 (ah)), (⟨w.heap.size, 1, none⟩, .int .u64 (al)), (⟨w.heap.size + 1, 0, none⟩, .int .u64 (bh)), (⟨w.heap.size + 1, 1, none⟩, .int .u64 (bl)), (⟨w.heap.size + 1 + 1, 0, none⟩, .int .u64 (0)), (⟨w.heap.size + 1 + 1, 1, none⟩, .int .u64 (0))] (by first|(simp [Keep, go_sem, *];done)|(simp [Keep, go_sem, *];omega)|(simp (disch := first | omega|(simp;omega)|(simp;done)) [Keep, go_sem, cell_far, cell_off, RowKit.frozen?_alloc_cells, frozen_new, *];done)|(simp (disch := first | omega|(simp;omega)|(simp;done)) [Keep, go_sem, cell_far, cell_off, RowKit.frozen?_alloc_cells, frozen_new, *];omega)) (by repeat (first | exact Tr.refl _ | assumption | apply Tr.al | apply Tr.drN | apply Tr.dr|(refine Tr.set ?_ (by first | omega|(simp;done)|(simp;omega)) _))) ?_;intro w9 hs9 K9 T9;(try simp at hs9);simp only [Keep] at K9
 go_cut [8] (fun s wx => s = .bool false ∧ w9 = wx)
 case first =>
  rcases hz with hz | ⟨hz, hz'⟩
  all_goals
   go_wp2_with fail
   go_meet
   exact ⟨rfl, rfl⟩
 obtain ⟨rfl, rfl⟩ := hcut
 clear hz
 go_wp2
 go_loopw [5] (fun s wr => ∃ (t : Nat) (x y xh xl yh yl : Int), s = .int .i64 t ∧ t < 128 ∧ Hid (1 ≤ x ∧ x < Big) ∧ Hid (1 ≤ y ∧ y < Big) ∧ Hid ((Int.gcd x y : Int) * 2 ^ t = Int.gcd p q) ∧ Hid (Wd x xh xl) ∧ Hid (Wd y yh yl) ∧ Keep wr [(⟨w.heap.size, 0, none⟩, .int .u64 (xh)), (⟨w.heap.size, 1, none⟩, .int .u64 (xl)), (⟨w.heap.size + 1, 0, none⟩, .int .u64 (yh)), (⟨w.heap.size + 1, 1, none⟩, .int .u64 (yl)), (⟨w.heap.size + 1 + 1, 0, none⟩, .int .u64 (0)), (⟨w.heap.size + 1 + 1, 1, none⟩, .int .u64 (0))] ∧ Tr w wr) (fun _ wr => wideAt wr w.heap.size)
 case atStart => exact ⟨0, p, q, ah, al, bh, bl, rfl, by omega, ⟨hp, hp'.out⟩, ⟨hq, hq'.out⟩, (by simp : (Int.gcd p q : Int) * 2 ^ 0 = Int.gcd p q), hA, hB, (by first|(simp [Keep, go_sem, *];done)|(simp [Keep, go_sem, *];omega)|(simp (disch := first | omega|(simp;omega)|(simp;done)) [Keep, go_sem, cell_far, cell_off, RowKit.frozen?_alloc_cells, frozen_new, *];done)|(simp (disch := first | omega|(simp;omega)|(simp;done)) [Keep, go_sem, cell_far, cell_off, RowKit.frozen?_alloc_cells, frozen_new, *];omega)), (by repeat (first | exact Tr.refl _ | assumption | apply Tr.al | apply Tr.drN | apply Tr.dr|(refine Tr.set ?_ (by first | omega|(simp;done)|(simp;omega)) _)))⟩
 case round =>
  obtain ⟨t, x, y, xh, xl, yh, yl, rfl, ht, H1, H2, H3, H4, H5, K, T⟩ := hrel
  have hzz := Below.size T
  simp only [Keep] at K
  have mx := wd_mask H4.out
  have my := wd_mask H5.out
  have hx2 : x % 2 = 0 ∨ x % 2 = 1 := by omega
  have hy2 : y % 2 = 0 ∨ y % 2 = 1 := by omega
  by_cases hee : x % 2 = 0 ∧ y % 2 = 0
  ·obtain ⟨e1, e2⟩ := hee
   rw [e1] at mx
   rw [e2] at my
   have E1 := Lib.hid e1
   have E2 := Lib.hid e2
   obtain ⟨x2h, hx2h⟩ : ∃ z, z = x / 2 / 18446744073709551616 := ⟨_, rfl⟩
   obtain ⟨x2l, hx2l⟩ : ∃ z, z = x / 2 % 18446744073709551616 := ⟨_, rfl⟩
   obtain ⟨y2h, hy2h⟩ : ∃ z, z = y / 2 / 18446744073709551616 := ⟨_, rfl⟩
   obtain ⟨y2l, hy2l⟩ : ∃ z, z = y / 2 % 18446744073709551616 := ⟨_, rfl⟩
   have WX : Hid (Wd (x / 2) x2h x2l) := ⟨hx2h, hx2l⟩
   have WY : Hid (Wd (y / 2) y2h y2l) := ⟨hy2h, hy2l⟩
   have C1 := Lib.hid fun W => rhalf_wd H4.out WX.out (by have := H1.out;omega) H1.out.2 W
   have C2 := Lib.hid fun W => rhalf_wd H5.out WY.out (by have := H2.out;omega) H2.out.2 W
   clear e1 e2 hx2h hx2l hy2h hy2l hx2 hy2
   have G : (Int.gcd (x / 2) (y / 2) : Int) * 2 ^ (t + 1) = Int.gcd p q := gcd_half2 E1.out E2.out H3.out
   have ht' : t + 1 < 128 := twos_lt (g := Int.gcd (x / 2) (y / 2)) G (by have := H1.out;have := E1.out;exact Int.gcd_pos_of_ne_zero_left _ (by omega)) (gcd_lt_big hq hq'.out)
   have GH := Lib.hid G
   clear G
   go_upto_region 5 with (fail)
   have ew : IntKind.i64.wrap ((t : Int) + 1) = (t : Int) + 1 := IntWalk.i64_in _ (by omega)
   go_region_with (first
    | (go_at_call 131;(with_reducible refine (C1.out _).mono ?_);rintro e w3 ⟨rfl, ht3⟩;have T3 : Tr w w3 := Tr.trans (by repeat (first | exact Tr.refl _ | assumption | apply Tr.al | apply Tr.drN | apply Tr.dr|(refine Tr.set ?_ (by first | omega|(simp;done)|(simp;omega)) _))) ht3;have K3 := Keep.tr (l := [(⟨w.heap.size, 0, none⟩, .int .u64 (xh)), (⟨w.heap.size, 1, none⟩, .int .u64 (xl)), (⟨w.heap.size + 1, 0, none⟩, .int .u64 (yh)), (⟨w.heap.size + 1, 1, none⟩, .int .u64 (yl)), (⟨w.heap.size + 1 + 1, 0, none⟩, .int .u64 (0)), (⟨w.heap.size + 1 + 1, 1, none⟩, .int .u64 (0))]) (by first|(simp [Keep, go_sem, *];done)|(simp [Keep, go_sem, *];omega)|(simp (disch := first | omega|(simp;omega)|(simp;done)) [Keep, go_sem, cell_far, cell_off, RowKit.frozen?_alloc_cells, frozen_new, *];done)|(simp (disch := first | omega|(simp;omega)|(simp;done)) [Keep, go_sem, cell_far, cell_off, RowKit.frozen?_alloc_cells, frozen_new, *];omega)) ht3;simp only [Keep] at K3;clear ht3)
    | (go_at_call 131;(with_reducible refine (C2.out _).mono ?_);rintro e w4 ⟨rfl, ht4⟩;have T4 : Tr w w4 := Tr.trans (by repeat (first | exact Tr.refl _ | assumption | apply Tr.al | apply Tr.drN | apply Tr.dr|(refine Tr.set ?_ (by first | omega|(simp;done)|(simp;omega)) _))) ht4;have K4 := Keep.tr (l := [(⟨w.heap.size, 0, none⟩, .int .u64 (xh)), (⟨w.heap.size, 1, none⟩, .int .u64 (xl)), (⟨w.heap.size + 1, 0, none⟩, .int .u64 (yh)), (⟨w.heap.size + 1, 1, none⟩, .int .u64 (yl)), (⟨w.heap.size + 1 + 1, 0, none⟩, .int .u64 (0)), (⟨w.heap.size + 1 + 1, 1, none⟩, .int .u64 (0))]) (by first|(simp [Keep, go_sem, *];done)|(simp [Keep, go_sem, *];omega)|(simp (disch := first | omega|(simp;omega)|(simp;done)) [Keep, go_sem, cell_far, cell_off, RowKit.frozen?_alloc_cells, frozen_new, *];done)|(simp (disch := first | omega|(simp;omega)|(simp;done)) [Keep, go_sem, cell_far, cell_off, RowKit.frozen?_alloc_cells, frozen_new, *];omega)) ht4;simp only [Keep] at K4;clear ht4))
   all_goals
    go_wp2
    clear ew
    go_roundw
    case rel => (repeat apply Exists.intro);exact ⟨⟨t + 1, x / 2, y / 2, x2h, x2l, y2h, y2l, by go_num, ht', (by have := H1.out;have := E1.out;omega : 1 ≤ x / 2 ∧ x / 2 < Big), (by have := H2.out;have := E2.out;omega : 1 ≤ y / 2 ∧ y / 2 < Big), GH.out, WX, WY, (by first|(simp [Keep, go_sem, *];done)|(simp [Keep, go_sem, *];omega)|(simp (disch := first | omega|(simp;omega)|(simp;done)) [Keep, go_sem, cell_far, cell_off, RowKit.frozen?_alloc_cells, frozen_new, *];done)|(simp (disch := first | omega|(simp;omega)|(simp;done)) [Keep, go_sem, cell_far, cell_off, RowKit.frozen?_alloc_cells, frozen_new, *];omega)), (by repeat (first | exact Tr.refl _ | assumption | apply Tr.al | apply Tr.drN | apply Tr.dr|(refine Tr.set ?_ (by first | omega|(simp;done)|(simp;omega)) _)))⟩, rfl⟩
    case measure =>
     refine wide_lt WX.out H4.out ?_ ?_ ?_ ?_ ?_ ?_
     ·(first|(simp [go_sem, *];done)|(simp (disch := first | omega|(simp;omega)|(simp;done)) [go_sem, cell_far, cell_off, *];done))
     ·(first|(simp [go_sem, *];done)|(simp (disch := first | omega|(simp;omega)|(simp;done)) [go_sem, cell_far, cell_off, *];done))
     ·simp [K]
     ·simp [K]
     ·have := H1.out;omega
     ·have := H1.out;have := E1.out;omega
  ·have hodd : Hid (x % 2 = 1 ∨ y % 2 = 1) := (by omega : x % 2 = 1 ∨ y % 2 = 1)
   have hcases : (bits .and .u64 xl 1 = 1) ∨ (bits .and .u64 xl 1 = 0 ∧ bits .and .u64 yl 1 = 1) := by rw [mx, my];omega
   obtain ⟨g, hg⟩ : ∃ g : Int, (Int.gcd x y : Int) = g := ⟨_, rfl⟩
   have HG : Hid (g * 2 ^ t = Int.gcd p q) := (by rw [← hg];exact H3.out : g * 2 ^ t = Int.gcd p q)
   have hg' := Lib.hid hg
   clear mx my hx2 hy2 hee H3 hg
   go_upto_region 4 with (fail)
   go_cut [19] (fun s wx => s = .bool false ∧ wr = wx)
   case first =>
    rcases hcases with mx | ⟨mx, my⟩
    all_goals
     go_wp2_with fail
     go_meet
     exact ⟨rfl, rfl⟩
   obtain ⟨rfl, rfl⟩ := hcut
   clear hcases
   go_wp2
   obtain ⟨wo, rfl⟩ : ∃ wo : World, wo = wr := ⟨_, rfl⟩
   go_loopw [] (fun wr => ∃ (x y xh xl yh yl : Int), Hid (0 ≤ x ∧ x < Big) ∧ Hid (1 ≤ y ∧ y < Big) ∧ Hid ((Int.gcd x y : Int) = g) ∧ Hid (x % 2 = 1 ∨ y % 2 = 1) ∧ Hid (Wd x xh xl) ∧ Hid (Wd y yh yl) ∧ Keep wr [(⟨w.heap.size, 0, none⟩, .int .u64 (xh)), (⟨w.heap.size, 1, none⟩, .int .u64 (xl)), (⟨w.heap.size + 1, 0, none⟩, .int .u64 (yh)), (⟨w.heap.size + 1, 1, none⟩, .int .u64 (yl)), (⟨w.heap.size + 1 + 1, 0, none⟩, .int .u64 (0)), (⟨w.heap.size + 1 + 1, 1, none⟩, .int .u64 (0))] ∧ Tr w wr) (fun wr => wideAt wr w.heap.size + wideAt wr (w.heap.size + 1))
   case atStart => exact ⟨x, y, xh, xl, yh, yl, ⟨by have := H1.out;omega, H1.out.2⟩, H2, hg', hodd, H4, H5, (by first|(simp [Keep, go_sem, *];done)|(simp [Keep, go_sem, *];omega)|(simp (disch := first | omega|(simp;omega)|(simp;done)) [Keep, go_sem, cell_far, cell_off, RowKit.frozen?_alloc_cells, frozen_new, *];done)|(simp (disch := first | omega|(simp;omega)|(simp;done)) [Keep, go_sem, cell_far, cell_off, RowKit.frozen?_alloc_cells, frozen_new, *];omega)), (by repeat (first | exact Tr.refl _ | assumption | apply Tr.al | apply Tr.drN | apply Tr.dr|(refine Tr.set ?_ (by first | omega|(simp;done)|(simp;omega)) _)))⟩
   case round =>
    clear H1 H2 H4 H5 hg' hodd K T hzz
    clear x y xh xl yh yl
    obtain ⟨x, y, xh, xl, yh, yl, J1, J2, J3, J4, J5, J6, K, T⟩ := hrel
    have hzz := Below.size T
    simp only [Keep] at K
    rcases wd_zero J5.out J1.out.1 J1.out.2 with ⟨z1, rfl, rfl⟩ | hnz
    ·have hy : Hid (y * 2 ^ t = Int.gcd p q) := (by have h3 := J3.out;have h2 := J2.out;rw [z1] at h3;have e : (Int.gcd 0 y : Int) = y := (by simp;omega);rw [← HG.out, ← h3, e] : y * 2 ^ t = Int.gcd p q)
     clear z1 J1 J3 J4 J5
     go_wp2
     obtain ⟨wo2, rfl⟩ : ∃ wo : World, wo = wr := ⟨_, rfl⟩
     go_loopw [5] (fun s wr => ∃ (k : Nat) (y yh yl : Int), s = .int .i64 k ∧ k < 128 ∧ Hid (1 ≤ y) ∧ Hid (y * 2 ^ k = Int.gcd p q) ∧ Hid (Wd y yh yl) ∧ Keep wr [(⟨w.heap.size + 1, 0, none⟩, .int .u64 (yh)), (⟨w.heap.size + 1, 1, none⟩, .int .u64 (yl)), (⟨w.heap.size + 1 + 1, 0, none⟩, .int .u64 (0)), (⟨w.heap.size + 1 + 1, 1, none⟩, .int .u64 (0))] ∧ Tr w wr) (fun s _ => (intOf s).toNat)
     case atStart => exact ⟨t, y, yh, yl, rfl, ht, J2.out.1, hy, J6, (by first|(simp [Keep, go_sem, *];done)|(simp [Keep, go_sem, *];omega)|(simp (disch := first | omega|(simp;omega)|(simp;done)) [Keep, go_sem, cell_far, cell_off, RowKit.frozen?_alloc_cells, frozen_new, *];done)|(simp (disch := first | omega|(simp;omega)|(simp;done)) [Keep, go_sem, cell_far, cell_off, RowKit.frozen?_alloc_cells, frozen_new, *];omega)), (by repeat (first | exact Tr.refl _ | assumption | apply Tr.al | apply Tr.drN | apply Tr.dr|(refine Tr.set ?_ (by first | omega|(simp;done)|(simp;omega)) _)))⟩
     case round =>
      clear hy J6 J2 K T hzz HG ht
      clear y yh yl
      obtain ⟨k, y, yh, yl, rfl, hk, J1, J2, J3, K, T⟩ := hrel
      have hzz := Below.size T
      simp only [Keep] at K
      by_cases h0 : 0 < k
      ·have hb : Hid (y + y < Big) := (by
        have h3 := J2.out
        have h4 := gcd_lt_big (p := p) hq hq'.out
        have h5 := J1.out
        obtain ⟨k, rfl⟩ : ∃ j, k = j + 1 := ⟨k - 1, by omega⟩
        rw [Int.pow_succ] at h3
        have h6 : (1:Int) ≤ 2 ^ k := Int.pow_pos (by decide)
        have h7 : y * 1 ≤ y * 2 ^ k := Int.mul_le_mul_of_nonneg_left h6 (by omega)
        have h8 : y * (2 ^ k * 2) = 2 * (y * 2 ^ k) := by grind
        omega : y + y < Big)
       obtain ⟨zh, hzh⟩ : ∃ z, z = (y + y) / 18446744073709551616 := ⟨_, rfl⟩
       obtain ⟨zl, hzl⟩ : ∃ z, z = (y + y) % 18446744073709551616 := ⟨_, rfl⟩
       have WZ : Hid (Wd (y + y) zh zl) := ⟨hzh, hzl⟩
       clear hzh hzl
       have CP := Lib.hid fun W => rplus_wd J3.out J3.out WZ.out (by have := J1.out;omega) (by have := J1.out;omega) hb.out W
       go_wp2_with (go_at_call 133;(with_reducible refine (CP.out _).mono ?_);rintro e w3 ⟨rfl, ht3⟩;have T3 : Tr w w3 := Tr.trans (by repeat (first | exact Tr.refl _ | assumption | apply Tr.al | apply Tr.drN | apply Tr.dr|(refine Tr.set ?_ (by first | omega|(simp;done)|(simp;omega)) _))) ht3;have K3 := Keep.tr (l := [(⟨w.heap.size + 1, 0, none⟩, .int .u64 (yh)), (⟨w.heap.size + 1, 1, none⟩, .int .u64 (yl)), (⟨w.heap.size + 1 + 1, 0, none⟩, .int .u64 (0)), (⟨w.heap.size + 1 + 1, 1, none⟩, .int .u64 (0))]) (by first|(simp [Keep, go_sem, *];done)|(simp [Keep, go_sem, *];omega)|(simp (disch := first | omega|(simp;omega)|(simp;done)) [Keep, go_sem, cell_far, cell_off, RowKit.frozen?_alloc_cells, frozen_new, *];done)|(simp (disch := first | omega|(simp;omega)|(simp;done)) [Keep, go_sem, cell_far, cell_off, RowKit.frozen?_alloc_cells, frozen_new, *];omega)) ht3;have hz3 := Below.size ht3;(try simp at hz3);clear ht3;simp only [Keep] at K3)
       go_roundw
       case rel => exact ⟨k - 1, y + y, zh, zl, by go_num, by omega, (by have := J1.out;omega : 1 ≤ y + y), (by
        have h3 := J2.out
        obtain ⟨k, rfl⟩ : ∃ j, k = j + 1 := ⟨k - 1, by omega⟩
        rw [← h3, Int.pow_succ];simp only [Nat.add_sub_cancel];grind : (y + y) * 2 ^ (k - 1) = Int.gcd p q), WZ, (by first|(simp [Keep, go_sem, *];done)|(simp [Keep, go_sem, *];omega)|(simp (disch := first | omega|(simp;omega)|(simp;done)) [Keep, go_sem, cell_far, cell_off, RowKit.frozen?_alloc_cells, frozen_new, *];done)|(simp (disch := first | omega|(simp;omega)|(simp;done)) [Keep, go_sem, cell_far, cell_off, RowKit.frozen?_alloc_cells, frozen_new, *];omega)), (by repeat (first | exact Tr.refl _ | assumption | apply Tr.al | apply Tr.drN | apply Tr.dr|(refine Tr.set ?_ (by first | omega|(simp;done)|(simp;omega)) _)))⟩
       case measure => simp [intOf];omega
      ·obtain rfl : k = 0 := by omega
       go_wp2
       simp [bodyPost, results, Tryz.results98, go_sem, K]
       exact ⟨yh, yl, (by have := J2.out;simp at this;rw [← this];exact J3.out : Wd (Int.gcd p q) yh yl), rfl, (by repeat (first | exact Tr.refl _ | assumption | apply Tr.al | apply Tr.drN | apply Tr.dr|(refine Tr.set ?_ (by first | omega|(simp;done)|(simp;omega)) _)))⟩
    ·obtain ⟨z1, hnz⟩ : 1 ≤ x ∧ ((xh == 0) = false ∨ ((xh == 0) = true ∧ (xl == 0) = false)) := by
      rcases hnz with ⟨a, b⟩ | ⟨a, b, c⟩
      ·exact ⟨a, .inl b⟩
      ·exact ⟨a, .inr ⟨b, c⟩⟩
     go_upto_region 6 with (fail)
     go_cut [28] (fun s wx => s = .bool true ∧ wr = wx)
     case first =>
      rcases hnz with z2 | ⟨z2, z3⟩
      all_goals
       go_wp2_with fail
       go_meet
       exact ⟨rfl, rfl⟩
     obtain ⟨rfl, rfl⟩ := hcut
     clear hnz
     have Z1 := Lib.hid z1
     clear z1
     go_wp2
     obtain ⟨wo2, rfl⟩ : ∃ wo : World, wo = wr := ⟨_, rfl⟩
     clear hA hB
     go_loopw [] (fun wr => ∃ (a ah al : Int), Hid (1 ≤ a ∧ a ≤ x) ∧ Hid ((Int.gcd a y : Int) = g) ∧ Hid (a % 2 = 1 ∨ y % 2 = 1) ∧ Hid (Wd a ah al) ∧ Keep wr [(⟨w.heap.size, 0, none⟩, .int .u64 (ah)), (⟨w.heap.size, 1, none⟩, .int .u64 (al)), (⟨w.heap.size + 1, 0, none⟩, .int .u64 (yh)), (⟨w.heap.size + 1, 1, none⟩, .int .u64 (yl)), (⟨w.heap.size + 1 + 1, 0, none⟩, .int .u64 (0)), (⟨w.heap.size + 1 + 1, 1, none⟩, .int .u64 (0))] ∧ Tr w wr) (fun wr => wideAt wr w.heap.size)
     case atStart => exact ⟨x, xh, xl, ⟨Z1.out, Int.le_refl _⟩, J3, J4, J5, (by first|(simp [Keep, go_sem, *];done)|(simp [Keep, go_sem, *];omega)|(simp (disch := first | omega|(simp;omega)|(simp;done)) [Keep, go_sem, cell_far, cell_off, RowKit.frozen?_alloc_cells, frozen_new, *];done)|(simp (disch := first | omega|(simp;omega)|(simp;done)) [Keep, go_sem, cell_far, cell_off, RowKit.frozen?_alloc_cells, frozen_new, *];omega)), (by repeat (first | exact Tr.refl _ | assumption | apply Tr.al | apply Tr.drN | apply Tr.dr|(refine Tr.set ?_ (by first | omega|(simp;done)|(simp;omega)) _)))⟩
     case round =>
      have KO := Lib.hid K
      clear K T hzz
      obtain ⟨a, ah, al, L1, L3, L4, L5, K, T⟩ := hrel
      have hzz := Below.size T
      simp only [Keep] at K
      have mx := wd_mask L5.out
      by_cases e1 : a % 2 = 0
      ·rw [e1] at mx
       have E1 := Lib.hid e1
       obtain ⟨ch, hch⟩ : ∃ z, z = a / 2 / 18446744073709551616 := ⟨_, rfl⟩
       obtain ⟨cl, hcl⟩ : ∃ z, z = a / 2 % 18446744073709551616 := ⟨_, rfl⟩
       have WC : Hid (Wd (a / 2) ch cl) := ⟨hch, hcl⟩
       clear e1 hch hcl
       have CP := Lib.hid fun W => rhalf_wd L5.out WC.out (by have := L1.out;omega) (by have := L1.out;have := J1.out;unfold Big at *;omega) W
       go_wp2_with (go_at_call 131;(with_reducible refine (CP.out _).mono ?_);rintro e w3 ⟨rfl, ht3⟩;have T3 : Tr w w3 := Tr.trans (by repeat (first | exact Tr.refl _ | assumption | apply Tr.al | apply Tr.drN | apply Tr.dr|(refine Tr.set ?_ (by first | omega|(simp;done)|(simp;omega)) _))) ht3;have K3 := Keep.tr (l := [(⟨w.heap.size, 0, none⟩, .int .u64 (ah)), (⟨w.heap.size, 1, none⟩, .int .u64 (al)), (⟨w.heap.size + 1, 0, none⟩, .int .u64 (yh)), (⟨w.heap.size + 1, 1, none⟩, .int .u64 (yl)), (⟨w.heap.size + 1 + 1, 0, none⟩, .int .u64 (0)), (⟨w.heap.size + 1 + 1, 1, none⟩, .int .u64 (0))]) (by first|(simp [Keep, go_sem, *];done)|(simp [Keep, go_sem, *];omega)|(simp (disch := first | omega|(simp;omega)|(simp;done)) [Keep, go_sem, cell_far, cell_off, RowKit.frozen?_alloc_cells, frozen_new, *];done)|(simp (disch := first | omega|(simp;omega)|(simp;done)) [Keep, go_sem, cell_far, cell_off, RowKit.frozen?_alloc_cells, frozen_new, *];omega)) ht3;have hz3 := Below.size ht3;(try simp at hz3);clear ht3;simp only [Keep] at K3)
       go_roundw
       case rel => exact ⟨a / 2, ch, cl, (by have := L1.out;have := E1.out;omega : 1 ≤ a / 2 ∧ a / 2 ≤ x), (by rw [gcd_half_left a y E1.out (by have := L4.out;have := E1.out;omega)];exact L3.out : (Int.gcd (a / 2) y : Int) = g), (by have := L4.out;have := E1.out;omega : a / 2 % 2 = 1 ∨ y % 2 = 1), WC, (by first|(simp [Keep, go_sem, *];done)|(simp [Keep, go_sem, *];omega)|(simp (disch := first | omega|(simp;omega)|(simp;done)) [Keep, go_sem, cell_far, cell_off, RowKit.frozen?_alloc_cells, frozen_new, *];done)|(simp (disch := first | omega|(simp;omega)|(simp;done)) [Keep, go_sem, cell_far, cell_off, RowKit.frozen?_alloc_cells, frozen_new, *];omega)), (by repeat (first | exact Tr.refl _ | assumption | apply Tr.al | apply Tr.drN | apply Tr.dr|(refine Tr.set ?_ (by first | omega|(simp;done)|(simp;omega)) _)))⟩
       case measure =>
        refine wide_lt WC.out L5.out ?_ ?_ ?_ ?_ ?_ ?_
        ·(first|(simp [go_sem, *];done)|(simp (disch := first | omega|(simp;omega)|(simp;done)) [go_sem, cell_far, cell_off, *];done))
        ·(first|(simp [go_sem, *];done)|(simp (disch := first | omega|(simp;omega)|(simp;done)) [go_sem, cell_far, cell_off, *];done))
        ·simp [K]
        ·simp [K]
        ·have := L1.out;omega
        ·have := L1.out;have := E1.out;omega
      ·have e2 : a % 2 = 1 := by omega
       rw [e2] at mx
       have E2 := Lib.hid e2
       clear e1 e2
       go_wp2
       clear mx
       obtain ⟨wo3, rfl⟩ : ∃ wo : World, wo = wr := ⟨_, rfl⟩
       go_loopw [] (fun wr => ∃ (b bh bl : Int), Hid (1 ≤ b ∧ b ≤ y) ∧ Hid ((Int.gcd a b : Int) = g) ∧ Hid (Wd b bh bl) ∧ Keep wr [(⟨w.heap.size, 0, none⟩, .int .u64 (ah)), (⟨w.heap.size, 1, none⟩, .int .u64 (al)), (⟨w.heap.size + 1, 0, none⟩, .int .u64 (bh)), (⟨w.heap.size + 1, 1, none⟩, .int .u64 (bl)), (⟨w.heap.size + 1 + 1, 0, none⟩, .int .u64 (0)), (⟨w.heap.size + 1 + 1, 1, none⟩, .int .u64 (0))] ∧ Tr w wr) (fun wr => wideAt wr (w.heap.size + 1))
       case atStart => exact ⟨y, yh, yl, ⟨J2.out.1, Int.le_refl _⟩, L3, J6, (by first|(simp [Keep, go_sem, *];done)|(simp [Keep, go_sem, *];omega)|(simp (disch := first | omega|(simp;omega)|(simp;done)) [Keep, go_sem, cell_far, cell_off, RowKit.frozen?_alloc_cells, frozen_new, *];done)|(simp (disch := first | omega|(simp;omega)|(simp;done)) [Keep, go_sem, cell_far, cell_off, RowKit.frozen?_alloc_cells, frozen_new, *];omega)), (by repeat (first | exact Tr.refl _ | assumption | apply Tr.al | apply Tr.drN | apply Tr.dr|(refine Tr.set ?_ (by first | omega|(simp;done)|(simp;omega)) _)))⟩
       case round =>
        clear K T hzz
        obtain ⟨b, bh, bl, N1, N3, N5, K, T⟩ := hrel
        have hzz := Below.size T
        simp only [Keep] at K
        have my := wd_mask N5.out
        by_cases e1 : b % 2 = 0
        ·rw [e1] at my
         have E1 := Lib.hid e1
         obtain ⟨ch, hch⟩ : ∃ z, z = b / 2 / 18446744073709551616 := ⟨_, rfl⟩
         obtain ⟨cl, hcl⟩ : ∃ z, z = b / 2 % 18446744073709551616 := ⟨_, rfl⟩
         have WC : Hid (Wd (b / 2) ch cl) := ⟨hch, hcl⟩
         clear e1 hch hcl
         have CP := Lib.hid fun W => rhalf_wd N5.out WC.out (by have := N1.out;omega) (by have := N1.out;have := J2.out;unfold Big at *;omega) W
         go_wp2_with (go_at_call 131;(with_reducible refine (CP.out _).mono ?_);rintro e w3 ⟨rfl, ht3⟩;have T3 : Tr w w3 := Tr.trans (by repeat (first | exact Tr.refl _ | assumption | apply Tr.al | apply Tr.drN | apply Tr.dr|(refine Tr.set ?_ (by first | omega|(simp;done)|(simp;omega)) _))) ht3;have K3 := Keep.tr (l := [(⟨w.heap.size, 0, none⟩, .int .u64 (ah)), (⟨w.heap.size, 1, none⟩, .int .u64 (al)), (⟨w.heap.size + 1, 0, none⟩, .int .u64 (bh)), (⟨w.heap.size + 1, 1, none⟩, .int .u64 (bl)), (⟨w.heap.size + 1 + 1, 0, none⟩, .int .u64 (0)), (⟨w.heap.size + 1 + 1, 1, none⟩, .int .u64 (0))]) (by first|(simp [Keep, go_sem, *];done)|(simp [Keep, go_sem, *];omega)|(simp (disch := first | omega|(simp;omega)|(simp;done)) [Keep, go_sem, cell_far, cell_off, RowKit.frozen?_alloc_cells, frozen_new, *];done)|(simp (disch := first | omega|(simp;omega)|(simp;done)) [Keep, go_sem, cell_far, cell_off, RowKit.frozen?_alloc_cells, frozen_new, *];omega)) ht3;have hz3 := Below.size ht3;(try simp at hz3);clear ht3;simp only [Keep] at K3)
         go_roundw
         case rel => exact ⟨b / 2, ch, cl, (by have := N1.out;have := E1.out;omega : 1 ≤ b / 2 ∧ b / 2 ≤ y), (by rw [gcd_half_right a b E2.out E1.out];exact N3.out : (Int.gcd a (b / 2) : Int) = g), WC, (by first|(simp [Keep, go_sem, *];done)|(simp [Keep, go_sem, *];omega)|(simp (disch := first | omega|(simp;omega)|(simp;done)) [Keep, go_sem, cell_far, cell_off, RowKit.frozen?_alloc_cells, frozen_new, *];done)|(simp (disch := first | omega|(simp;omega)|(simp;done)) [Keep, go_sem, cell_far, cell_off, RowKit.frozen?_alloc_cells, frozen_new, *];omega)), (by repeat (first | exact Tr.refl _ | assumption | apply Tr.al | apply Tr.drN | apply Tr.dr|(refine Tr.set ?_ (by first | omega|(simp;done)|(simp;omega)) _)))⟩
         case measure =>
          refine wide_lt WC.out N5.out ?_ ?_ ?_ ?_ ?_ ?_
          ·(first|(simp [go_sem, *];done)|(simp (disch := first | omega|(simp;omega)|(simp;done)) [go_sem, cell_far, cell_off, *];done))
          ·(first|(simp [go_sem, *];done)|(simp (disch := first | omega|(simp;omega)|(simp;done)) [go_sem, cell_far, cell_off, *];done))
          ·simp [K]
          ·simp [K]
          ·have := N1.out;omega
          ·have := N1.out;have := E1.out;omega
        ·have e2 : b % 2 = 1 := by omega
         rw [e2] at my
         have E3 := Lib.hid e2
         clear e1 e2
         have BB : Hid (1 ≤ a ∧ a ≤ x ∧ 1 ≤ b ∧ b ≤ y ∧ x < Big ∧ y < Big) := (⟨L1.out.1, L1.out.2, N1.out.1, N1.out.2, J1.out.2, J2.out.2⟩ : 1 ≤ a ∧ a ≤ x ∧ 1 ≤ b ∧ b ≤ y ∧ x < Big ∧ y < Big)
         by_cases hlt : a < b
         ·have HL := Lib.hid hlt
          clear hlt
          obtain ⟨ch, hch⟩ : ∃ z, z = (b - a) / 18446744073709551616 := ⟨_, rfl⟩
          obtain ⟨cl, hcl⟩ : ∃ z, z = (b - a) % 18446744073709551616 := ⟨_, rfl⟩
          have WC : Hid (Wd (b - a) ch cl) := ⟨hch, hcl⟩
          clear hch hcl
          have CL := Lib.hid fun W => rless_lt L5.out N5.out (by have := BB.out;omega) (by have := BB.out;omega) HL.out W
          have CM := Lib.hid fun W => rminus_wd N5.out L5.out WC.out (by have := BB.out;omega) (by have := BB.out;omega) (by have := BB.out;unfold Big at *;omega) (by have := BB.out;unfold Big at *;omega) (by have := BB.out;have := HL.out;unfold Big at *;omega) W
          go_wp2_with (first
           | (go_at_call 35;(with_reducible refine (CL.out _).mono ?_);rintro e w3 ⟨rfl, ht3⟩;have T3 : Tr w w3 := Tr.trans (by repeat (first | exact Tr.refl _ | assumption | apply Tr.al | apply Tr.drN | apply Tr.dr|(refine Tr.set ?_ (by first | omega|(simp;done)|(simp;omega)) _))) ht3;have K3 := Keep.tr (l := [(⟨w.heap.size, 0, none⟩, .int .u64 (ah)), (⟨w.heap.size, 1, none⟩, .int .u64 (al)), (⟨w.heap.size + 1, 0, none⟩, .int .u64 (bh)), (⟨w.heap.size + 1, 1, none⟩, .int .u64 (bl)), (⟨w.heap.size + 1 + 1, 0, none⟩, .int .u64 (0)), (⟨w.heap.size + 1 + 1, 1, none⟩, .int .u64 (0))]) (by first|(simp [Keep, go_sem, *];done)|(simp [Keep, go_sem, *];omega)|(simp (disch := first | omega|(simp;omega)|(simp;done)) [Keep, go_sem, cell_far, cell_off, RowKit.frozen?_alloc_cells, frozen_new, *];done)|(simp (disch := first | omega|(simp;omega)|(simp;done)) [Keep, go_sem, cell_far, cell_off, RowKit.frozen?_alloc_cells, frozen_new, *];omega)) ht3;have hz3 := Below.size ht3;(try simp at hz3);clear ht3;simp only [Keep] at K3)
           | (go_at_call 132;(with_reducible refine (CM.out _).mono ?_);rintro e w4 ⟨rfl, ht4⟩;have T4 : Tr w w4 := Tr.trans (by repeat (first | exact Tr.refl _ | assumption | apply Tr.al | apply Tr.drN | apply Tr.dr|(refine Tr.set ?_ (by first | omega|(simp;done)|(simp;omega)) _))) ht4;have K4 := Keep.tr (l := [(⟨w.heap.size, 0, none⟩, .int .u64 (bh)), (⟨w.heap.size, 1, none⟩, .int .u64 (bl)), (⟨w.heap.size + 1, 0, none⟩, .int .u64 (ah)), (⟨w.heap.size + 1, 1, none⟩, .int .u64 (al)), (⟨w.heap.size + 1 + 1, 0, none⟩, .int .u64 (0)), (⟨w.heap.size + 1 + 1, 1, none⟩, .int .u64 (0))]) (by first|(simp [Keep, go_sem, *];done)|(simp [Keep, go_sem, *];omega)|(simp (disch := first | omega|(simp;omega)|(simp;done)) [Keep, go_sem, cell_far, cell_off, RowKit.frozen?_alloc_cells, frozen_new, *];done)|(simp (disch := first | omega|(simp;omega)|(simp;done)) [Keep, go_sem, cell_far, cell_off, RowKit.frozen?_alloc_cells, frozen_new, *];omega)) ht4;have hz4 := Below.size ht4;(try simp at hz4);clear ht4;simp only [Keep] at K4))
          go_roundw
          case rel => exact ⟨b - a, a, ch, cl, ah, al, (by have := BB.out;have := HL.out;omega : 0 ≤ b - a ∧ b - a < Big), (by have := BB.out;omega : 1 ≤ a ∧ a < Big), (by rw [gcd_sub b a, Int.gcd_comm];exact N3.out : (Int.gcd (b - a) a : Int) = g), (by have := E2.out;omega : (b - a) % 2 = 1 ∨ a % 2 = 1), WC, L5, (by first|(simp [Keep, go_sem, *];done)|(simp [Keep, go_sem, *];omega)|(simp (disch := first | omega|(simp;omega)|(simp;done)) [Keep, go_sem, cell_far, cell_off, RowKit.frozen?_alloc_cells, frozen_new, *];done)|(simp (disch := first | omega|(simp;omega)|(simp;done)) [Keep, go_sem, cell_far, cell_off, RowKit.frozen?_alloc_cells, frozen_new, *];omega)), (by repeat (first | exact Tr.refl _ | assumption | apply Tr.al | apply Tr.drN | apply Tr.dr|(refine Tr.set ?_ (by first | omega|(simp;done)|(simp;omega)) _)))⟩
          case measure =>
           have K0 := KO.out
           refine wide_lt2 WC.out J5.out L5.out J6.out (by have := BB.out;have := HL.out;omega) ?_ ?_ ?_ ?_ ?_ ?_ ?_ ?_
           ·(first|(simp [go_sem, *];done)|(simp (disch := first | omega|(simp;omega)|(simp;done)) [go_sem, cell_far, cell_off, *];done))
           ·(first|(simp [go_sem, *];done)|(simp (disch := first | omega|(simp;omega)|(simp;done)) [go_sem, cell_far, cell_off, *];done))
           ·(first|(simp [go_sem, *];done)|(simp (disch := first | omega|(simp;omega)|(simp;done)) [go_sem, cell_far, cell_off, *];done))
           ·(first|(simp [go_sem, *];done)|(simp (disch := first | omega|(simp;omega)|(simp;done)) [go_sem, cell_far, cell_off, *];done))
           ·simp [K0]
           ·simp [K0]
           ·simp [K0]
           ·simp [K0]
         ·have HL := Lib.hid hlt
          clear hlt
          obtain ⟨ch, hch⟩ : ∃ z, z = (a - b) / 18446744073709551616 := ⟨_, rfl⟩
          obtain ⟨cl, hcl⟩ : ∃ z, z = (a - b) % 18446744073709551616 := ⟨_, rfl⟩
          have WC : Hid (Wd (a - b) ch cl) := ⟨hch, hcl⟩
          clear hch hcl
          have CL := Lib.hid fun W => rless_ge L5.out N5.out (by have := BB.out;omega) (by have := BB.out;omega) HL.out W
          have CM := Lib.hid fun W => rminus_wd L5.out N5.out WC.out (by have := BB.out;omega) (by have := BB.out;omega) (by have := BB.out;unfold Big at *;omega) (by have := BB.out;unfold Big at *;omega) (by have := BB.out;have := HL.out;unfold Big at *;omega) W
          go_wp2_with (first
           | (go_at_call 35;(with_reducible refine (CL.out _).mono ?_);rintro e w3 ⟨rfl, ht3⟩;have T3 : Tr w w3 := Tr.trans (by repeat (first | exact Tr.refl _ | assumption | apply Tr.al | apply Tr.drN | apply Tr.dr|(refine Tr.set ?_ (by first | omega|(simp;done)|(simp;omega)) _))) ht3;have K3 := Keep.tr (l := [(⟨w.heap.size, 0, none⟩, .int .u64 (ah)), (⟨w.heap.size, 1, none⟩, .int .u64 (al)), (⟨w.heap.size + 1, 0, none⟩, .int .u64 (bh)), (⟨w.heap.size + 1, 1, none⟩, .int .u64 (bl)), (⟨w.heap.size + 1 + 1, 0, none⟩, .int .u64 (0)), (⟨w.heap.size + 1 + 1, 1, none⟩, .int .u64 (0))]) (by first|(simp [Keep, go_sem, *];done)|(simp [Keep, go_sem, *];omega)|(simp (disch := first | omega|(simp;omega)|(simp;done)) [Keep, go_sem, cell_far, cell_off, RowKit.frozen?_alloc_cells, frozen_new, *];done)|(simp (disch := first | omega|(simp;omega)|(simp;done)) [Keep, go_sem, cell_far, cell_off, RowKit.frozen?_alloc_cells, frozen_new, *];omega)) ht3;have hz3 := Below.size ht3;(try simp at hz3);clear ht3;simp only [Keep] at K3)
           | (go_at_call 132;(with_reducible refine (CM.out _).mono ?_);rintro e w4 ⟨rfl, ht4⟩;have T4 : Tr w w4 := Tr.trans (by repeat (first | exact Tr.refl _ | assumption | apply Tr.al | apply Tr.drN | apply Tr.dr|(refine Tr.set ?_ (by first | omega|(simp;done)|(simp;omega)) _))) ht4;have K4 := Keep.tr (l := [(⟨w.heap.size, 0, none⟩, .int .u64 (ah)), (⟨w.heap.size, 1, none⟩, .int .u64 (al)), (⟨w.heap.size + 1, 0, none⟩, .int .u64 (bh)), (⟨w.heap.size + 1, 1, none⟩, .int .u64 (bl)), (⟨w.heap.size + 1 + 1, 0, none⟩, .int .u64 (0)), (⟨w.heap.size + 1 + 1, 1, none⟩, .int .u64 (0))]) (by first|(simp [Keep, go_sem, *];done)|(simp [Keep, go_sem, *];omega)|(simp (disch := first | omega|(simp;omega)|(simp;done)) [Keep, go_sem, cell_far, cell_off, RowKit.frozen?_alloc_cells, frozen_new, *];done)|(simp (disch := first | omega|(simp;omega)|(simp;done)) [Keep, go_sem, cell_far, cell_off, RowKit.frozen?_alloc_cells, frozen_new, *];omega)) ht4;have hz4 := Below.size ht4;(try simp at hz4);clear ht4;simp only [Keep] at K4))
          go_roundw
          case rel => exact ⟨a - b, b, ch, cl, bh, bl, (by have := BB.out;have := HL.out;omega : 0 ≤ a - b ∧ a - b < Big), (by have := BB.out;omega : 1 ≤ b ∧ b < Big), (by rw [gcd_sub a b];exact N3.out : (Int.gcd (a - b) b : Int) = g), (by have := E3.out;omega : (a - b) % 2 = 1 ∨ b % 2 = 1), WC, N5, (by first|(simp [Keep, go_sem, *];done)|(simp [Keep, go_sem, *];omega)|(simp (disch := first | omega|(simp;omega)|(simp;done)) [Keep, go_sem, cell_far, cell_off, RowKit.frozen?_alloc_cells, frozen_new, *];done)|(simp (disch := first | omega|(simp;omega)|(simp;done)) [Keep, go_sem, cell_far, cell_off, RowKit.frozen?_alloc_cells, frozen_new, *];omega)), (by repeat (first | exact Tr.refl _ | assumption | apply Tr.al | apply Tr.drN | apply Tr.dr|(refine Tr.set ?_ (by first | omega|(simp;done)|(simp;omega)) _)))⟩
          case measure =>
           have K0 := KO.out
           refine wide_lt2 WC.out J5.out N5.out J6.out (by have := BB.out;have := HL.out;omega) ?_ ?_ ?_ ?_ ?_ ?_ ?_ ?_
           ·(first|(simp [go_sem, *];done)|(simp (disch := first | omega|(simp;omega)|(simp;done)) [go_sem, cell_far, cell_off, *];done))
           ·(first|(simp [go_sem, *];done)|(simp (disch := first | omega|(simp;omega)|(simp;done)) [go_sem, cell_far, cell_off, *];done))
           ·(first|(simp [go_sem, *];done)|(simp (disch := first | omega|(simp;omega)|(simp;done)) [go_sem, cell_far, cell_off, *];done))
           ·(first|(simp [go_sem, *];done)|(simp (disch := first | omega|(simp;omega)|(simp;done)) [go_sem, cell_far, cell_off, *];done))
           ·simp [K0]
           ·simp [K0]
           ·simp [K0]
           ·simp [K0]
end Go.Proofs.YtlncmkafjjomgaaGreat
