/- Plain facts on what Add, Sub, Mul and Div return. -/
import Derived.Test.YtpjkiljgccjemaaDoorRatT
namespace Go.Proofs.YtpjkiljgccjemaaDoor

theorem outQ_ok {q : Rat} (h : (outQ q).2.2 = 0) : (outQ q).1 = q.num ∧ (outQ q).2.1 = q.den ∧ validB (outQ q).1 (outQ q).2.1 = true ∧ ratV (outQ q).1 (outQ q).2.1 = q := by
  unfold outQ at *
  split at h
  · rename_i hf
    rw [if_pos hf]
    exact ⟨rfl, rfl, valid_of_fits q hf.1 hf.2, ratV_self q⟩
  · simp at h
theorem outQ_err (q : Rat) : (outQ q).2.2 = 0 ∨ outQ q = (0, 0, 5) := by
  unfold outQ
  split
  · exact .inl rfl
  · exact .inr rfl
theorem outQ_ratV {n d : Int} (h : validB n d = true) : outQ (ratV n d) = (n, d, 0) := by
  obtain ⟨e1, e2⟩ := ratV_valid h
  obtain ⟨h1, h2, h3, h4, _⟩ := validB_spec.1 h
  unfold outQ
  rw [if_pos ⟨by omega, by omega⟩, e1, e2]
theorem addS_eq {an ad bn bd : Int} (va : validB an ad = true) (vb : validB bn bd = true) : addS an ad bn bd = outQ (ratV an ad + ratV bn bd) := by unfold addS; rw [if_pos ⟨va, vb⟩]
theorem subS_eq {an ad bn bd : Int} (va : validB an ad = true) (vb : validB bn bd = true) : subS an ad bn bd = outQ (ratV an ad - ratV bn bd) := by unfold subS; rw [if_pos ⟨va, vb⟩]
theorem mulS_eq {an ad bn bd : Int} (va : validB an ad = true) (vb : validB bn bd = true) : mulS an ad bn bd = outQ (ratV an ad * ratV bn bd) := by unfold mulS; rw [if_pos ⟨va, vb⟩]
theorem divS_eq {an ad bn bd : Int} (va : validB an ad = true) (vb : validB bn bd = true) (h : bn ≠ 0) : divS an ad bn bd = outQ (ratV an ad * (ratV bn bd)⁻¹) := by unfold divS; rw [if_pos ⟨va, vb⟩, if_neg h]
theorem addS_ok {an ad bn bd : Int} (h : (addS an ad bn bd).2.2 = 0) : validB an ad = true ∧ validB bn bd = true ∧ validB (addS an ad bn bd).1 (addS an ad bn bd).2.1 = true ∧ ratV (addS an ad bn bd).1 (addS an ad bn bd).2.1 = ratV an ad + ratV bn bd := by
  by_cases hv : validB an ad = true ∧ validB bn bd = true
  · rw [addS_eq hv.1 hv.2] at h ⊢
    exact ⟨hv.1, hv.2, (outQ_ok h).2.2⟩
  · unfold addS at h; rw [if_neg hv] at h; simp at h
theorem mulS_ok {an ad bn bd : Int} (h : (mulS an ad bn bd).2.2 = 0) : validB an ad = true ∧ validB bn bd = true ∧ validB (mulS an ad bn bd).1 (mulS an ad bn bd).2.1 = true ∧ ratV (mulS an ad bn bd).1 (mulS an ad bn bd).2.1 = ratV an ad * ratV bn bd := by
  by_cases hv : validB an ad = true ∧ validB bn bd = true
  · rw [mulS_eq hv.1 hv.2] at h ⊢
    exact ⟨hv.1, hv.2, (outQ_ok h).2.2⟩
  · unfold mulS at h; rw [if_neg hv] at h; simp at h
theorem add_assocS {an ad bn bd cn cd : Int} (h1 : (addS an ad bn bd).2.2 = 0) (h2 : (addS bn bd cn cd).2.2 = 0) :
    addS (addS an ad bn bd).1 (addS an ad bn bd).2.1 cn cd = addS an ad (addS bn bd cn cd).1 (addS bn bd cn cd).2.1 := by
  obtain ⟨va, _, vab, eab⟩ := addS_ok h1
  obtain ⟨_, vc, vbc, ebc⟩ := addS_ok h2
  rw [addS_eq vab vc, addS_eq va vbc, eab, ebc, Rat.add_assoc]
theorem mul_assocS {an ad bn bd cn cd : Int} (h1 : (mulS an ad bn bd).2.2 = 0) (h2 : (mulS bn bd cn cd).2.2 = 0) :
    mulS (mulS an ad bn bd).1 (mulS an ad bn bd).2.1 cn cd = mulS an ad (mulS bn bd cn cd).1 (mulS bn bd cn cd).2.1 := by
  obtain ⟨va, _, vab, eab⟩ := mulS_ok h1
  obtain ⟨_, vc, vbc, ebc⟩ := mulS_ok h2
  rw [mulS_eq vab vc, mulS_eq va vbc, eab, ebc, Rat.mul_assoc]
theorem mul_addS {an ad bn bd cn cd : Int} (h1 : (mulS an ad bn bd).2.2 = 0) (h2 : (mulS an ad cn cd).2.2 = 0) (h3 : (addS bn bd cn cd).2.2 = 0) :
    mulS an ad (addS bn bd cn cd).1 (addS bn bd cn cd).2.1 = addS (mulS an ad bn bd).1 (mulS an ad bn bd).2.1 (mulS an ad cn cd).1 (mulS an ad cn cd).2.1 := by
  obtain ⟨va, _, vab, eab⟩ := mulS_ok h1
  obtain ⟨_, _, vac, eac⟩ := mulS_ok h2
  obtain ⟨_, _, vd, ed⟩ := addS_ok h3
  rw [mulS_eq va vd, addS_eq vab vac, eab, eac, ed, Rat.mul_add]
theorem ok_or (x : Int) : ((x == 0) = true ∧ (x != 0) = false) ∨ ((x == 0) = false ∧ (x != 0) = true) := by
  by_cases h : x = 0
  · exact .inl ⟨by simp [h], by simp [h]⟩
  · exact .inr ⟨by simp [h], by simp [h]⟩
end Go.Proofs.YtpjkiljgccjemaaDoor
