/- ratio.Add: the sum of two valid fractions, if it fits; the specified errors else. For every pair of fractions. -/
import Derived.Test.YtpjkiljgccjemaaDoorRatF
import Derived.Test.YtpjkiljgccjemaaDoorRatQ
namespace Go.Proofs.YtpjkiljgccjemaaDoor
open Go.RowKit Go.Sort

def addS (an ad bn bd : Int) : Int × Int × Int := if validB an ad = true ∧ validB bn bd = true then outQ (ratV an ad + ratV bn bd) else (0, 0, 1)

theorem mul_le60 (a b : Int) (h0 : 0 ≤ a) (h1 : a ≤ 1152921504606846976) (h2 : 0 ≤ b) (h3 : b ≤ 1152921504606846976) : 0 ≤ a * b ∧ a * b ≤ 1329227995784915872903807060280344576 := by
  refine ⟨Int.mul_nonneg h0 h2, ?_⟩
  have := Int.mul_le_mul h1 h3 h2 (by omega)
  omega

/-- The signed sum by its parts. -/
theorem path_of (an bn bG aG : Int) (hb : 0 ≤ bG) (ha : 0 ≤ aG) : ∃ (N : Int) (neg : Bool), an * bG + bn * aG = (if neg then -N else N) ∧ 0 ≤ N ∧ N ≤ (an.natAbs : Int) * bG + (bn.natAbs : Int) * aG ∧
    ((decide (an < 0) = neg ∧ decide (bn < 0) = neg ∧ (an.natAbs : Int) * bG + (bn.natAbs : Int) * aG = N) ∨
     (decide (an < 0) = (!neg) ∧ decide (bn < 0) = neg ∧ decide ((an.natAbs : Int) * bG < (bn.natAbs : Int) * aG) = true ∧ (bn.natAbs : Int) * aG - (an.natAbs : Int) * bG = N) ∨
     (decide (an < 0) = neg ∧ decide (bn < 0) = (!neg) ∧ decide ((an.natAbs : Int) * bG < (bn.natAbs : Int) * aG) = false ∧ (an.natAbs : Int) * bG - (bn.natAbs : Int) * aG = N)) := by
  have x0 : 0 ≤ (an.natAbs : Int) * bG := Int.mul_nonneg (by omega) hb
  have y0 : 0 ≤ (bn.natAbs : Int) * aG := Int.mul_nonneg (by omega) ha
  by_cases h1 : an < 0
  · have e1 : an * bG = -((an.natAbs : Int) * bG) := by rw [← Int.neg_mul]; congr 1; omega
    by_cases h2 : bn < 0
    · have e2 : bn * aG = -((bn.natAbs : Int) * aG) := by rw [← Int.neg_mul]; congr 1; omega
      rw [e1, e2]
      generalize (an.natAbs : Int) * bG = X at *
      generalize (bn.natAbs : Int) * aG = Y at *
      exact ⟨X + Y, true, by simp; omega, by omega, by omega, .inl ⟨by simp [h1], by simp [h2], rfl⟩⟩
    · have e2 : bn * aG = ((bn.natAbs : Int) * aG) := by congr 1; omega
      rw [e1, e2]
      generalize (an.natAbs : Int) * bG = X at *
      generalize (bn.natAbs : Int) * aG = Y at *
      by_cases h3 : X < Y
      · exact ⟨Y - X, false, by simp; omega, by omega, by omega, .inr (.inl ⟨by simp [h1], by simp [h2], by simp [h3], rfl⟩)⟩
      · exact ⟨X - Y, true, by simp; omega, by omega, by omega, .inr (.inr ⟨by simp [h1], by simp [h2], by simp [h3], rfl⟩)⟩
  · have e1 : an * bG = ((an.natAbs : Int) * bG) := by congr 1; omega
    by_cases h2 : bn < 0
    · have e2 : bn * aG = -((bn.natAbs : Int) * aG) := by rw [← Int.neg_mul]; congr 1; omega
      rw [e1, e2]
      generalize (an.natAbs : Int) * bG = X at *
      generalize (bn.natAbs : Int) * aG = Y at *
      by_cases h3 : X < Y
      · exact ⟨Y - X, true, by simp; omega, by omega, by omega, .inr (.inl ⟨by simp [h1], by simp [h2], by simp [h3], rfl⟩)⟩
      · exact ⟨X - Y, false, by simp; omega, by omega, by omega, .inr (.inr ⟨by simp [h1], by simp [h2], by simp [h3], rfl⟩)⟩
    · have e2 : bn * aG = ((bn.natAbs : Int) * aG) := by congr 1; omega
      rw [e1, e2]
      generalize (an.natAbs : Int) * bG = X at *
      generalize (bn.natAbs : Int) * aG = Y at *
      exact ⟨X + Y, false, by simp, by omega, by omega, .inl ⟨by simp [h1], by simp [h2], rfl⟩⟩

theorem out_cases (q : Rat) (NC D : Int) (neg : Bool) (h0 : 0 ≤ NC) (h1 : NC ≤ 340282366920938463463374607431768211455) (h2 : 1 ≤ D) (hn : q.num = if neg then -NC else NC) (hd : (q.den : Int) = D) :
    (0 < NC / 18446744073709551616 ∧ Hid ((outQ q).1 = 0 ∧ (outQ q).2.1 = 0 ∧ (outQ q).2.2 = 5)) ∨ (NC / 18446744073709551616 = 0 ∧ 0 < D / 18446744073709551616 ∧ Hid ((outQ q).1 = 0 ∧ (outQ q).2.1 = 0 ∧ (outQ q).2.2 = 5)) ∨
      (NC / 18446744073709551616 = 0 ∧ D / 18446744073709551616 = 0 ∧ (1152921504606846976 < NC ∨ 1152921504606846976 < D) ∧ (NC % 18446744073709551616 = NC ∧ D % 18446744073709551616 = D) ∧ Hid ((outQ q).1 = 0 ∧ (outQ q).2.1 = 0 ∧ (outQ q).2.2 = 5)) ∨
      (NC / 18446744073709551616 = 0 ∧ D / 18446744073709551616 = 0 ∧ NC ≤ 1152921504606846976 ∧ D ≤ 1152921504606846976 ∧ NC % 18446744073709551616 = NC ∧ D % 18446744073709551616 = D ∧ Hid ((outQ q).1 = (if neg then -NC else NC) ∧ (outQ q).2.1 = D ∧ (outQ q).2.2 = 0)) := by
  have ha : (q.num.natAbs : Int) = NC := by rw [hn]; cases neg <;> simp <;> omega
  by_cases hf : NC ≤ 1152921504606846976 ∧ D ≤ 1152921504606846976
  · have : q.num.natAbs ≤ 1152921504606846976 ∧ q.den ≤ 1152921504606846976 := by omega
    refine .inr (.inr (.inr ⟨by omega, by omega, hf.1, hf.2, by omega, by omega, ?_⟩))
    show _ ∧ _
    unfold outQ
    rw [if_pos this]
    exact ⟨hn, hd, rfl⟩
  · have : ¬ (q.num.natAbs ≤ 1152921504606846976 ∧ q.den ≤ 1152921504606846976) := by omega
    have ho : Hid ((outQ q).1 = 0 ∧ (outQ q).2.1 = 0 ∧ (outQ q).2.2 = 5) := by
      show _ ∧ _
      unfold outQ
      rw [if_neg this]
      exact ⟨rfl, rfl, rfl⟩
    by_cases c1 : 0 < NC / 18446744073709551616
    · exact .inl ⟨c1, ho⟩
    · by_cases c2 : 0 < D / 18446744073709551616
      · exact .inr (.inl ⟨by omega, c2, ho⟩)
      · exact .inr (.inr (.inl ⟨by omega, by omega, by omega, by omega, ho⟩))

theorem add_any (an ad bn bd : Int) (w : World) :
    Calls Tryd.prog 12 #[.agg #[.int .i64 an, .int .i64 ad], .agg #[.int .i64 bn, .int .i64 bd]] w fun e w' =>
      e = .returned (.tuple #[.agg #[.int .i64 (addS an ad bn bd).1, .int .i64 (addS an ad bn bd).2.1], .int .i64 (addS an ad bn bd).2.2]) ∧ Tr w w' := by
  by_cases va : validB an ad = true
  · by_cases vb : validB bn bd = true
    · obtain ⟨a1, a2, a3, a4, _⟩ := validB_spec.1 va
      obtain ⟨b1, b2, b3, b4, _⟩ := validB_spec.1 vb
      obtain ⟨an', ad'⟩ := ratV_valid va
      obtain ⟨bn', bd'⟩ := ratV_valid vb
      have hS : addS an ad bn bd = outQ (ratV an ad + ratV bn bd) := by unfold addS; rw [if_pos ⟨va, vb⟩]
      rw [hS]
      generalize ratV an ad = a at *
      generalize ratV bn bd = b at *
      obtain ⟨p1, p2⟩ := add_plain a b _ _ _ rfl rfl rfl
      have gp : 0 < a.den.gcd b.den := Nat.gcd_pos_of_pos_left _ a.den_pos
      have ga : a.den.gcd b.den ∣ a.den := Nat.gcd_dvd_left ..
      have gb : a.den.gcd b.den ∣ b.den := Nat.gcd_dvd_right ..
      have hG : Int.gcd ad bd = a.den.gcd b.den := by rw [← ad', ← bd']; simp [Int.gcd]
      have gl : a.den.gcd b.den ≤ a.den := Nat.le_of_dvd a.den_pos ga
      have aG0 : 1 ≤ a.den / a.den.gcd b.den := Nat.div_pos gl gp
      have bG0 : 1 ≤ b.den / a.den.gcd b.den := Nat.div_pos (Nat.le_of_dvd b.den_pos gb) gp
      have aG1 : a.den / a.den.gcd b.den ≤ a.den := Nat.div_le_self ..
      have bG1 : b.den / a.den.gcd b.den ≤ b.den := Nat.div_le_self ..
      generalize hg : a.den.gcd b.den = g at *
      obtain ⟨N, neg, hs, n0, nle, hpath⟩ := path_of an bn ((b.den / g : Nat) : Int) ((a.den / g : Nat) : Int) (by omega) (by omega)
      rw [an', bn', hs] at p1 p2
      have x12 := mul_le60 (an.natAbs : Int) ((b.den / g : Nat) : Int) (by omega) (by omega) (by omega) (by omega)
      have y12 := mul_le60 (bn.natAbs : Int) ((a.den / g : Nat) : Int) (by omega) (by omega) (by omega) (by omega)
      have ebG : bd / (g : Int) = ((b.den / g : Nat) : Int) := by rw [← bd']; simp
      have eaG : ad / (g : Int) = ((a.den / g : Nat) : Int) := by rw [← ad']; simp
      by_cases hN : N = 0
      · subst hN
        have hz : a + b = 0 := by
          rw [← Rat.num_eq_zero, p1]; cases neg <;> simp
        rw [hz]
        exact add_zero an ad bn bd g _ _ _ _ 0 0 0 0 0 0 neg w va vb a1 a2 a3 a4 b1 b2 b3 b4 (by rw [hG]) (by omega) (by omega) ebG eaG (by omega) (by omega) (by omega) (by omega) rfl rfl x12.1 x12.2 y12.1 y12.2 hpath rfl
      · have hna : (if neg = true then -N else N).natAbs = N.natAbs := by cases neg <;> simp
        rw [hna] at p1 p2
        have hCN : Int.gcd (g : Int) (N % (g : Int)) = N.natAbs.gcd g := by
          rw [gcd_step N g]; simp [Int.gcd]
        have cg : N.natAbs.gcd g ∣ g := Nat.gcd_dvd_right ..
        have cN : N.natAbs.gcd g ∣ N.natAbs := Nat.gcd_dvd_left ..
        have cp : 0 < N.natAbs.gcd g := Nat.pos_of_dvd_of_pos cg (by omega)
        have cle : N.natAbs.gcd g ≤ g := Nat.le_of_dvd (by omega) cg
        have cbd : N.natAbs.gcd g ∣ b.den := Nat.dvd_trans cg gb
        generalize hc : N.natAbs.gcd g = c at *
        have cN' : (c : Int) ∣ N := by rw [← Int.dvd_natAbs]; exact Int.ofNat_dvd.2 cN
        have p1' : (a + b).num = if neg then -(N / c) else N / c := by
          rw [p1]; cases neg <;> simp [Int.neg_ediv_of_dvd cN']
        have bC1 : b.den / c ≤ b.den := Nat.div_le_self ..
        have bC0 : 1 ≤ b.den / c := Nat.div_pos (Nat.le_of_dvd b.den_pos cbd) cp
        have D12 := mul_le60 ((a.den / g : Nat) : Int) ((b.den / c : Nat) : Int) (by omega) (by omega) (by omega) (by omega)
        have D1 : 1 ≤ (a.den / g) * (b.den / c) := Nat.mul_pos aG0 bC0
        have nc0 : 0 ≤ N / (c : Int) := Int.ediv_nonneg n0 (by omega)
        have nc1 : N / (c : Int) ≤ N := Int.ediv_le_self _ n0
        have rr0 : 0 ≤ N % (g : Int) := Int.emod_nonneg _ (by omega)
        have rr1 : N % (g : Int) < g := Int.emod_lt_of_pos _ (by omega)
        have pd : ((a + b).den : Int) = ((a.den / g : Nat) : Int) * ((b.den / c : Nat) : Int) := by rw [p2, Int.natCast_mul]
        exact add_core an ad bn bd g _ _ _ _ N _ c _ _ _ neg w va vb a1 a2 a3 a4 b1 b2 b3 b4 (by rw [hG]) (by omega) (by omega) ebG eaG (by omega) (by omega) (by omega) (by omega) rfl rfl x12.1 x12.2 y12.1 y12.2 hpath
          (by omega) (by omega) rfl rr0 rr1 (by rw [hCN]) (by omega) (by omega) rfl nc0 nc1 (by rw [← bd']; simp) (by omega) (by omega) rfl (by rw [← Int.natCast_mul]; omega) D12.2 _ _ _
          (out_cases (a + b) (N / c) _ neg nc0 (by omega) (by rw [← Int.natCast_mul]; omega) p1' pd)
    · have vb' : validB bn bd = false := by simpa using vb
      rw [show addS an ad bn bd = (0, 0, 1) by unfold addS; rw [if_neg (fun h => vb h.2)]]
      exact add_no2 an ad bn bd w va vb'
  · have va' : validB an ad = false := by simpa using va
    rw [show addS an ad bn bd = (0, 0, 1) by unfold addS; rw [if_neg (fun h => va h.1)]]
    exact add_no1 an ad bn bd w va'
end Go.Proofs.YtpjkiljgccjemaaDoor
