/- RatioOrder returns true for all fractions: the order is kept by adding the same fraction and by multiplying by the same positive one, is turned around by a negative one, and is that of the sign of the difference. Condition: the library's table of powers of ten is laid. -/
import Derived.Test.YtpjkiljgccjemaaDoorLaw02
namespace Go.Proofs.YtpjkiljgccjemaaDoor.ratioOrder
set_option linter.unusedVariables false
open Go.RowKit Go.Sort

theorem cmpS_eq {an ad bn bd : Int} (va : validB an ad = true) (vb : validB bn bd = true) : cmpS an ad bn bd = (cmpQ (ratV an ad) (ratV bn bd), 0) := by unfold cmpS; rw [if_pos ⟨va, vb⟩]
theorem cmpQ_swap (p q : Rat) : cmpQ q p = -cmpQ p q := by
  unfold cmpQ
  by_cases h1 : p < q
  · rw [if_neg (fun h => Rat.lt_irrefl (Std.lt_trans h h1)), if_pos h1, if_pos h1]; rfl
  · by_cases h2 : q < p
    · rw [if_pos h2, if_neg h1, if_pos h2]
    · rw [if_neg h2, if_neg h1, if_neg h1, if_neg h2]; rfl
theorem cmpQ_add (p q r : Rat) : cmpQ (p + r) (q + r) = cmpQ p q := by
  unfold cmpQ; simp only [Rat.add_lt_add_right]
theorem cmpQ_mul_pos (p q r : Rat) (h : 0 < r) : cmpQ (p * r) (q * r) = cmpQ p q := by
  unfold cmpQ; simp only [Rat.mul_lt_mul_right h]
theorem cmpQ_mul_neg (p q r : Rat) (h : r < 0) : cmpQ (p * r) (q * r) = -cmpQ p q := by
  have h' : 0 < -r := by rw [Rat.lt_neg_iff]; simpa using h
  have e := cmpQ_mul_pos q p (-r) h'
  rw [Rat.mul_neg, Rat.mul_neg] at e
  rw [← cmpQ_swap p q, ← e]
  unfold cmpQ
  simp only [Rat.neg_lt_neg_iff]
theorem cmpQ_self (p : Rat) : cmpQ p p = 0 := by unfold cmpQ; rw [if_neg Rat.lt_irrefl, if_neg Rat.lt_irrefl]
theorem cmp_addS {an ad bn bd cn cd : Int} (h1 : (addS an ad cn cd).2.2 = 0) (h2 : (addS bn bd cn cd).2.2 = 0) :
    cmpS (addS an ad cn cd).1 (addS an ad cn cd).2.1 (addS bn bd cn cd).1 (addS bn bd cn cd).2.1 = (cmpQ (ratV an ad) (ratV bn bd), 0) := by
  obtain ⟨_, _, v1, e1⟩ := addS_ok h1
  obtain ⟨_, _, v2, e2⟩ := addS_ok h2
  rw [cmpS_eq v1 v2, e1, e2, cmpQ_add]
theorem sign_ratV {n d : Int} (h : validB n d = true) : (0 < ratV n d ↔ 0 < n) ∧ (ratV n d < 0 ↔ n < 0) := by
  obtain ⟨e1, e2⟩ := ratV_valid h
  rw [Rat.lt_iff, Rat.lt_iff, e1]
  simp
theorem cmp_mulS {an ad bn bd cn cd : Int} (h1 : (mulS an ad cn cd).2.2 = 0) (h2 : (mulS bn bd cn cd).2.2 = 0) :
    cmpS (mulS an ad cn cd).1 (mulS an ad cn cd).2.1 (mulS bn bd cn cd).1 (mulS bn bd cn cd).2.1 = ((if 0 < cn then 1 else if cn < 0 then -1 else 0) * cmpQ (ratV an ad) (ratV bn bd), 0) := by
  obtain ⟨_, vc, v1, e1⟩ := mulS_ok h1
  obtain ⟨_, _, v2, e2⟩ := mulS_ok h2
  rw [cmpS_eq v1 v2, e1, e2]
  obtain ⟨p, q⟩ := sign_ratV vc
  by_cases hp : 0 < cn
  · rw [if_pos hp, cmpQ_mul_pos _ _ _ (p.2 hp), Int.one_mul]
  · by_cases hn : cn < 0
    · rw [if_neg hp, if_pos hn, cmpQ_mul_neg _ _ _ (q.2 hn)]; simp
    · have hz : cn = 0 := by omega
      rw [if_neg hp, if_neg hn]
      have : ratV cn cd = 0 := by rw [← Rat.num_eq_zero, (ratV_valid vc).1]; exact hz
      rw [this, Rat.mul_zero, Rat.mul_zero, cmpQ_self]; simp
theorem sub_sign {an ad bn bd : Int} (va : validB an ad = true) (vb : validB bn bd = true) (h : (subS an ad bn bd).2.2 = 0) :
    (0 < (subS an ad bn bd).1 ↔ ratV bn bd < ratV an ad) ∧ ((subS an ad bn bd).1 < 0 ↔ ratV an ad < ratV bn bd) := by
  rw [subS_eq va vb] at h ⊢
  obtain ⟨_, _, v, e⟩ := outQ_ok h
  obtain ⟨p, q⟩ := sign_ratV v
  rw [← p, ← q, e]
  refine ⟨(Rat.lt_iff_sub_pos _ _).symm, ?_⟩
  rw [Rat.lt_iff_sub_pos (ratV an ad), ← Rat.neg_sub, Rat.neg_lt_iff]
  simp
/-- The three ways in which two valid fractions lie. -/
theorem ways {an ad bn bd : Int} (va : validB an ad = true) (vb : validB bn bd = true) :
    ((an = bn ∧ ad = bd) ∧ cmpQ (ratV an ad) (ratV bn bd) = 0 ∧ ¬ ratV an ad < ratV bn bd ∧ ¬ ratV bn bd < ratV an ad) ∨
    (¬ (an = bn ∧ ad = bd) ∧ cmpQ (ratV an ad) (ratV bn bd) = -1 ∧ ratV an ad < ratV bn bd ∧ ¬ ratV bn bd < ratV an ad) ∨
    (¬ (an = bn ∧ ad = bd) ∧ cmpQ (ratV an ad) (ratV bn bd) = 1 ∧ ¬ ratV an ad < ratV bn bd ∧ ratV bn bd < ratV an ad) := by
  have hne : ¬ (ratV an ad = ratV bn bd) → ¬ (an = bn ∧ ad = bd) := fun h hh => h (by rw [hh.1, hh.2])
  unfold cmpQ
  by_cases h1 : ratV an ad < ratV bn bd
  · have h2 : ¬ ratV bn bd < ratV an ad := fun h => Rat.lt_irrefl (Std.lt_trans h h1)
    exact .inr (.inl ⟨hne (Rat.ne_of_lt h1), by rw [if_pos h1], h1, h2⟩)
  · by_cases h2 : ratV bn bd < ratV an ad
    · exact .inr (.inr ⟨hne (Rat.ne_of_gt h2), by rw [if_neg h1, if_pos h2], h1, h2⟩)
    · have he : ratV an ad = ratV bn bd := Rat.le_antisymm (Rat.not_lt.1 h2) (Rat.not_lt.1 h1)
      obtain ⟨e1, e2⟩ := ratV_valid va
      obtain ⟨f1, f2⟩ := ratV_valid vb
      refine .inl ⟨⟨by rw [← e1, ← f1, he], by rw [← e2, ← f2, he]⟩, by rw [if_neg h1, if_neg h2], h1, h2⟩
end Go.Proofs.YtpjkiljgccjemaaDoor.ratioOrder
