/- Plain facts: the sum and the product of fractions, as package ratio reckons them, are those of the rationals. No program. -/
import Derived.Test.YtpjkiljgccjemaaDoorRatP
namespace Go.Proofs.YtpjkiljgccjemaaDoor

/-- The number of a fraction. -/
def ratV (n d : Int) : Rat := Rat.divInt n d
/-- A number as a fraction, if it fits: numerator, denominator, error number. -/
def outQ (q : Rat) : Int × Int × Int := if q.num.natAbs ≤ 1152921504606846976 ∧ q.den ≤ 1152921504606846976 then (q.num, (q.den : Int), 0) else (0, 0, 5)

theorem ratV_valid {n d : Int} (h : validB n d = true) : (ratV n d).num = n ∧ ((ratV n d).den : Int) = d := by
  obtain ⟨h1, _, _, _, h5⟩ := validB_spec.1 h
  obtain ⟨k, rfl⟩ := Int.eq_ofNat_of_zero_le (show 0 ≤ d by omega)
  have hk : k ≠ 0 := by omega
  have hc : n.natAbs.Coprime k := by simpa [Int.gcd] using h5
  have : ratV n k = ⟨n, k, hk, hc⟩ := by
    unfold ratV; rw [Rat.mk_eq_divInt]
  rw [this]
  exact ⟨rfl, rfl⟩
theorem ratV_self (q : Rat) : ratV q.num q.den = q := Rat.num_divInt_den q
theorem valid_of_fits (q : Rat) (h1 : q.num.natAbs ≤ 1152921504606846976) (h2 : q.den ≤ 1152921504606846976) : validB q.num q.den = true := by
  rw [validB_spec]
  have := q.den_pos
  refine ⟨by omega, by omega, by omega, by omega, ?_⟩
  simpa [Int.gcd] using q.reduced

theorem add_plain (a b : Rat) (g c : Nat) (s : Int) (hg : g = a.den.gcd b.den) (hs : s = a.num * (b.den / g : Nat) + b.num * (a.den / g : Nat)) (hc : c = s.natAbs.gcd g) :
    (a + b).num = s / c ∧ (a + b).den = (a.den / g) * (b.den / c) := by
  have gp : 0 < g := hg ▸ Nat.gcd_pos_of_pos_left _ a.den_pos
  have ga : g ∣ a.den := hg ▸ Nat.gcd_dvd_left ..
  have gb : g ∣ b.den := hg ▸ Nat.gcd_dvd_right ..
  have ea : a.den / g * g = a.den := Nat.div_mul_cancel ga
  have eb : b.den / g * g = b.den := Nat.div_mul_cancel gb
  have aux := Rat.add.aux a b hg rfl rfl
  simp only at aux
  rw [← hs] at aux
  have hnum : a.num * b.den + b.num * a.den = s * g := by
    rw [hs, Int.add_mul, Int.mul_assoc, Int.mul_assoc, ← Int.natCast_mul, ← Int.natCast_mul, ea, eb]
  have hden : a.den * b.den = a.den / g * b.den * g := by
    conv => lhs; rw [← ea]
    rw [Nat.mul_right_comm]
  have hgcd : (a.num * b.den + b.num * a.den).natAbs.gcd (a.den * b.den) = c * g := by
    rw [hnum, hden, Int.natAbs_mul, Int.natAbs_natCast, Nat.gcd_mul_right, ← aux, ← hc]
  have cg : c ∣ g := hc ▸ Nat.gcd_dvd_right ..
  have cp : 0 < c := Nat.pos_of_dvd_of_pos cg gp
  have cb : c ∣ b.den := Nat.dvd_trans cg gb
  constructor
  · rw [Rat.num_add, hgcd, hnum, Int.natCast_mul, Int.mul_ediv_mul_of_pos_left _ _ (by omega)]
  · rw [Rat.den_add, hgcd, hden, Nat.mul_div_mul_right _ _ gp, Nat.mul_div_assoc _ cb]
theorem tdiv_parts (x : Int) (g : Nat) : x.tdiv (g : Int) = if x < 0 then -((x.natAbs / g : Nat) : Int) else ((x.natAbs / g : Nat) : Int) := by
  by_cases h : x < 0
  · rw [if_pos h]
    have : x = -(x.natAbs : Int) := by omega
    conv => lhs; rw [this]
    rw [Int.neg_tdiv]; rfl
  · rw [if_neg h]
    have : x = (x.natAbs : Int) := by omega
    conv => lhs; rw [this]
    rfl
theorem mul_plain (a b : Rat) (g h : Nat) (hg : g = a.num.natAbs.gcd b.den) (hh : h = b.num.natAbs.gcd a.den) :
    (a * b).num = a.num.tdiv g * b.num.tdiv h ∧ (a * b).den = (a.den / h) * (b.den / g) := by
  subst hg hh
  show (Rat.mul a b).num = _ ∧ (Rat.mul a b).den = _
  unfold Rat.mul
  simp only [Int.divExact_eq_tdiv]
  exact ⟨trivial, rfl⟩
theorem ratV_neg (n d : Int) : ratV (-n) d = -(ratV n d) := by unfold ratV; rw [Rat.neg_divInt]
theorem validB_neg (n d : Int) : validB (-n) d = validB n d := by
  rw [Bool.eq_iff_iff, validB_spec, validB_spec, Int.neg_gcd]
  exact ⟨fun ⟨a, b, c, d, e⟩ => ⟨a, b, by omega, by omega, e⟩, fun ⟨a, b, c, d, e⟩ => ⟨a, b, by omega, by omega, e⟩⟩
/-- The reciprocal, the sign in the numerator. -/
theorem validB_inv {n d : Int} (h : validB n d = true) (hn : n ≠ 0) : validB (if n < 0 then -d else d) (n.natAbs : Int) = true ∧ ratV (if n < 0 then -d else d) (n.natAbs : Int) = (ratV n d)⁻¹ := by
  obtain ⟨h1, h2, h3, h4, h5⟩ := validB_spec.1 h
  constructor
  · rw [validB_spec]
    have e : Int.gcd (if n < 0 then -d else d) (n.natAbs : Int) = 1 := by
      rw [← h5, Int.gcd_comm n d]
      by_cases hn : n < 0
      · rw [if_pos hn, Int.neg_gcd]; simp [Int.gcd]
      · rw [if_neg hn]; simp [Int.gcd]
    refine ⟨by omega, by omega, ?_, ?_, e⟩ <;> split <;> omega
  · unfold ratV
    rw [Rat.inv_divInt]
    by_cases hn : n < 0
    · rw [if_pos hn, show ((n.natAbs : Nat) : Int) = -n by omega, Rat.neg_divInt_neg]
    · rw [if_neg hn, show ((n.natAbs : Nat) : Int) = n by omega]
/-- Comparing two numbers as package ratio does. -/
def cmpQ (p q : Rat) : Int := if p < q then -1 else if q < p then 1 else 0
theorem lt_ratV {an ad bn bd : Int} (va : validB an ad = true) (vb : validB bn bd = true) : ratV an ad < ratV bn bd ↔ an * bd < bn * ad := by
  obtain ⟨e1, e2⟩ := ratV_valid va
  obtain ⟨f1, f2⟩ := ratV_valid vb
  rw [Rat.lt_iff, e1, e2, f1, f2]
end Go.Proofs.YtpjkiljgccjemaaDoor
