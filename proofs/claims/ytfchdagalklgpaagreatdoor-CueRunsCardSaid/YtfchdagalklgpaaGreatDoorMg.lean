/- Contracts of the reference's Made, Make and Valid. | Contracts of the reference's Make, Valid, Times, Over, Floor and Ceil. | Contracts of the reference's Add, Sub, Cmp, Floor and Ceil. | Contracts of the reference's Sub, Cmp, Floor and Ceil. -/
import Derived.Test.YtfchdagalklgpaaGreatDoorMf
import Derived.Test.YtfchdagalklgpaaGreatDoorMe
namespace Go.Proofs.YtfchdagalklgpaaGreatDoor
set_option linter.unusedVariables false
open Go.RowKit Go.Sort

/-- A size with its sign. -/
def sg (neg : Bool) (n : Int) : Int := if neg then -n else n
theorem made_q (N D : Int) (neg : Bool) (hN : 0 ≤ N) (hD : 1 ≤ D) : (ratV (sg neg N) D).num = (if neg then -(N / (Int.gcd N D : Int)) else N / (Int.gcd N D : Int)) ∧ ((ratV (sg neg N) D).den : Int) = D / (Int.gcd N D : Int) := by
  have hg : Int.gcd (sg neg N) D = Int.gcd N D := by unfold sg; cases neg <;> simp
  have e1 := Rat.num_divInt (sg neg N) D
  have e2 := Rat.den_divInt (sg neg N) D
  rw [if_neg (by omega), Int.gcd_comm, hg] at e2
  rw [Int.gcd_comm, hg, Int.sign_eq_one_of_pos (by omega), Int.one_mul] at e1
  have dv : (Int.gcd N D : Int) ∣ N := Int.gcd_dvd_left ..
  constructor
  · show (Rat.divInt (sg neg N) D).num = _
    rw [e1]
    unfold sg
    cases neg
    · rfl
    · simp only [if_true]; rw [Int.neg_ediv_of_dvd dv]
  · show ((Rat.divInt (sg neg N) D).den : Int) = _
    rw [e2]
    have : (D.natAbs : Int) = D := by omega
    rw [← this]
    simp
/-- What Made comes to, by the words of the two quotients. -/
theorem made_cases (N D : Int) (neg : Bool) (hN : 0 ≤ N) (hN' : N < Big) (hD : 1 ≤ D) {nh nl dh dl : Int} (h1 : Wd (N / (Int.gcd N D : Int)) nh nl) (h2 : Wd (D / (Int.gcd N D : Int)) dh dl) :
    (0 < nh ∧ Hid ((makeS (sg neg N) D).1 = 0 ∧ (makeS (sg neg N) D).2.1 = 0 ∧ (makeS (sg neg N) D).2.2 = 5)) ∨
    (nh = 0 ∧ 1152921504606846976 < nl ∧ Hid ((makeS (sg neg N) D).1 = 0 ∧ (makeS (sg neg N) D).2.1 = 0 ∧ (makeS (sg neg N) D).2.2 = 5)) ∨
    (nh = 0 ∧ nl ≤ 1152921504606846976 ∧ 0 < dh ∧ Hid ((makeS (sg neg N) D).1 = 0 ∧ (makeS (sg neg N) D).2.1 = 0 ∧ (makeS (sg neg N) D).2.2 = 5)) ∨
    (nh = 0 ∧ nl ≤ 1152921504606846976 ∧ dh = 0 ∧ 1152921504606846976 < dl ∧ Hid ((makeS (sg neg N) D).1 = 0 ∧ (makeS (sg neg N) D).2.1 = 0 ∧ (makeS (sg neg N) D).2.2 = 5)) ∨
    (nh = 0 ∧ 0 ≤ nl ∧ nl ≤ 1152921504606846976 ∧ dh = 0 ∧ 0 ≤ dl ∧ dl ≤ 1152921504606846976 ∧ Hid ((makeS (sg neg N) D).1 = (if neg then -nl else nl) ∧ (makeS (sg neg N) D).2.1 = dl ∧ (makeS (sg neg N) D).2.2 = 0)) := by
  obtain ⟨q1, q2⟩ := made_q N D neg hN hD
  have hg0 : 0 < Int.gcd N D := Int.gcd_pos_of_ne_zero_right N (by omega)
  have nc0 : 0 ≤ N / (Int.gcd N D : Int) := Int.ediv_nonneg (by omega) (by omega)
  have nc1 : N / (Int.gcd N D : Int) ≤ N := Int.ediv_le_self _ (by omega)
  have dd0 : 1 ≤ D / (Int.gcd N D : Int) := by rw [← q2]; have := (ratV (sg neg N) D).den_pos; omega
  have hm : makeS (sg neg N) D = outQ (ratV (sg neg N) D) := by unfold makeS; rw [if_neg (by omega)]
  have oc := out_cases (ratV (sg neg N) D) _ _ neg nc0 (by unfold Big at hN'; omega) dd0 q1 q2
  rw [hm]
  obtain ⟨rfl, rfl⟩ := h1
  obtain ⟨rfl, rfl⟩ := h2
  generalize N / (Int.gcd N D : Int) = NC at *
  generalize D / (Int.gcd N D : Int) = DC at *
  rcases oc with ⟨o1, o2⟩ | ⟨o1, o3, o2⟩ | ⟨o1, o3, o4, o5, o2⟩ | ⟨o1, o3, o4, o5, o6, o7, o2⟩
  · exact .inl ⟨o1, o2⟩
  · by_cases h : NC % 18446744073709551616 ≤ 1152921504606846976
    · exact .inr (.inr (.inl ⟨o1, h, o3, o2⟩))
    · exact .inr (.inl ⟨o1, by omega, o2⟩)
  · by_cases h : NC % 18446744073709551616 ≤ 1152921504606846976
    · exact .inr (.inr (.inr (.inl ⟨o1, h, o3, by omega, o2⟩)))
    · exact .inr (.inl ⟨o1, by omega, o2⟩)
  · refine .inr (.inr (.inr (.inr ⟨o1, by omega, by omega, o3, by omega, by omega, ?_⟩)))
    rw [o6, o7]
    exact o2
end Go.Proofs.YtfchdagalklgpaaGreatDoor
namespace Go.Proofs.YtfchdagalklgpaaGreatDoor
set_option linter.unusedVariables false
open Go.RowKit Go.Sort

theorem wd0 {x : Int} (h0 : 0 ≤ x) (h1 : x < 18446744073709551616) : Wd x 0 x := ⟨by omega, by omega⟩
theorem ratV_signs (n d : Int) (hd : d ≠ 0) : ratV (sg (decide (n < 0) != decide (d < 0)) n.natAbs) (d.natAbs : Int) = ratV n d := by
  unfold ratV sg
  by_cases h1 : n < 0 <;> by_cases h2 : d < 0
  · simp only [h1, h2, decide_true, bne_self_eq_false, Bool.false_eq_true, if_false]
    rw [show ((n.natAbs : Nat) : Int) = -n by omega, show ((d.natAbs : Nat) : Int) = -d by omega, Rat.neg_divInt_neg]
  · simp only [h1, h2, decide_true, decide_false, Bool.bne_false, if_true]
    rw [show ((n.natAbs : Nat) : Int) = -n by omega, show ((d.natAbs : Nat) : Int) = d by omega, Int.neg_neg]
  · simp only [h1, h2, decide_true, decide_false, Bool.false_bne, if_true]
    rw [show ((n.natAbs : Nat) : Int) = n by omega, show ((d.natAbs : Nat) : Int) = -d by omega, Rat.neg_divInt_neg]
  · simp only [h1, h2, decide_false, bne_self_eq_false, Bool.false_eq_true, if_false]
    rw [show ((n.natAbs : Nat) : Int) = n by omega, show ((d.natAbs : Nat) : Int) = d by omega]
theorem makeS_signs (n d : Int) : makeS (sg (decide (n < 0) != decide (d < 0)) n.natAbs) (d.natAbs : Int) = makeS n d := by
  unfold makeS
  by_cases hd : d = 0
  · rw [if_pos hd, if_pos (by omega)]
  · rw [if_neg hd, if_neg (by omega), ratV_signs n d hd]
theorem sgn_cases (n d : Int) : (decide (n < 0) = true ∧ decide (d < 0) = true ∧ (decide (n < 0) != decide (d < 0)) = false) ∨ (decide (n < 0) = true ∧ decide (d < 0) = false ∧ (decide (n < 0) != decide (d < 0)) = true) ∨
    (decide (n < 0) = false ∧ decide (d < 0) = true ∧ (decide (n < 0) != decide (d < 0)) = true) ∨ (decide (n < 0) = false ∧ decide (d < 0) = false ∧ (decide (n < 0) != decide (d < 0)) = false) := by
  by_cases h1 : n < 0 <;> by_cases h2 : d < 0 <;> simp [h1, h2]
theorem big_of {x : Int} (h : x < 18446744073709551616) : x < Big := by unfold Big; omega
theorem prod_big {a b : Int} (ha : 0 ≤ a) (ha' : a ≤ 1152921504606846976) (hb : 0 ≤ b) (hb' : b ≤ 1152921504606846976) : 0 ≤ a * b ∧ a * b < Big := by
  obtain ⟨h1, h2⟩ := mul_le60 a b ha ha' hb hb'
  exact ⟨h1, by unfold Big; omega⟩
theorem makeS_of {n d n' d' : Int} (h : d ≠ 0) (h' : d' ≠ 0) (e : ratV n d = ratV n' d') : makeS n d = makeS n' d' := by
  unfold makeS
  rw [if_neg h, if_neg h', e]
theorem times_q {an ad bn bd : Int} (va : validB an ad = true) (vb : validB bn bd = true) :
    makeS (sg (decide (an < 0) != decide (bn < 0)) ((an.natAbs : Int) * bn.natAbs)) ((ad.natAbs : Int) * bd.natAbs) = mulS an ad bn bd := by
  obtain ⟨a1, _⟩ := validB_spec.1 va
  obtain ⟨b1, _⟩ := validB_spec.1 vb
  rw [show ((ad.natAbs : Nat) : Int) = ad by omega, show ((bd.natAbs : Nat) : Int) = bd by omega]
  have hd : ad * bd ≠ 0 := by have := Int.mul_pos (a := ad) (b := bd) (by omega) (by omega); omega
  have e : sg (decide (an < 0) != decide (bn < 0)) ((an.natAbs : Int) * bn.natAbs) = an * bn := by
    unfold sg
    by_cases h1 : an < 0 <;> by_cases h2 : bn < 0
    · simp only [h1, h2, decide_true, bne_self_eq_false, Bool.false_eq_true, if_false]
      rw [show ((an.natAbs : Nat) : Int) = -an by omega, show ((bn.natAbs : Nat) : Int) = -bn by omega, Int.neg_mul_neg]
    · simp only [h1, h2, decide_true, decide_false, Bool.bne_false, if_true]
      rw [show ((an.natAbs : Nat) : Int) = -an by omega, show ((bn.natAbs : Nat) : Int) = bn by omega, Int.neg_mul, Int.neg_neg]
    · simp only [h1, h2, decide_true, decide_false, Bool.false_bne, if_true]
      rw [show ((an.natAbs : Nat) : Int) = an by omega, show ((bn.natAbs : Nat) : Int) = -bn by omega, Int.mul_neg, Int.neg_neg]
    · simp only [h1, h2, decide_false, bne_self_eq_false, Bool.false_eq_true, if_false]
      rw [show ((an.natAbs : Nat) : Int) = an by omega, show ((bn.natAbs : Nat) : Int) = bn by omega]
  rw [e]
  unfold makeS mulS
  rw [if_neg hd, if_pos ⟨va, vb⟩]
  unfold ratV
  rw [Rat.divInt_mul_divInt]
theorem over_q {an ad bn bd : Int} (va : validB an ad = true) (vb : validB bn bd = true) :
    makeS (sg (decide (an < 0) != decide (bn < 0)) ((an.natAbs : Int) * bd.natAbs)) ((ad.natAbs : Int) * bn.natAbs) = divS an ad bn bd := by
  obtain ⟨a1, _⟩ := validB_spec.1 va
  obtain ⟨b1, _⟩ := validB_spec.1 vb
  rw [show ((ad.natAbs : Nat) : Int) = ad by omega, show ((bd.natAbs : Nat) : Int) = bd by omega]
  by_cases hb : bn = 0
  · subst hb
    unfold makeS divS
    rw [if_pos (by simp), if_pos ⟨va, vb⟩, if_pos rfl]
  · have hd : ad * bn.natAbs ≠ 0 := by have := Int.mul_pos (a := ad) (b := bn.natAbs) (by omega) (by omega); omega
    unfold makeS divS
    rw [if_neg hd, if_pos ⟨va, vb⟩, if_neg hb]
    congr 1
    unfold ratV
    rw [Rat.inv_divInt, Rat.divInt_mul_divInt]
    have s1 : sg (decide (an < 0) != decide (bn < 0)) ((an.natAbs : Int) * bd) = if bn < 0 then -(an * bd) else an * bd := by
      unfold sg
      by_cases h1 : an < 0 <;> by_cases h2 : bn < 0
      · simp only [h1, h2, decide_true, bne_self_eq_false, Bool.false_eq_true, if_false, if_true]
        rw [show ((an.natAbs : Nat) : Int) = -an by omega, Int.neg_mul]
      · simp only [h1, h2, decide_true, decide_false, Bool.bne_false, if_true, if_false]
        rw [show ((an.natAbs : Nat) : Int) = -an by omega, Int.neg_mul, Int.neg_neg]
      · simp only [h1, h2, decide_true, decide_false, Bool.false_bne, if_true]
        rw [show ((an.natAbs : Nat) : Int) = an by omega]
      · simp only [h1, h2, decide_false, bne_self_eq_false, Bool.false_eq_true, if_false]
        rw [show ((an.natAbs : Nat) : Int) = an by omega]
    rw [s1]
    by_cases h2 : bn < 0
    · rw [if_pos h2, show ((bn.natAbs : Nat) : Int) = -bn by omega, Int.mul_neg, Rat.neg_divInt_neg]
    · rw [if_neg h2, show ((bn.natAbs : Nat) : Int) = bn by omega]

end Go.Proofs.YtfchdagalklgpaaGreatDoor
namespace Go.Proofs.YtfchdagalklgpaaGreatDoor
set_option linter.unusedVariables false
open Go.RowKit Go.Sort

theorem add_q {an ad bn bd n : Int} (va : validB an ad = true) (vb : validB bn bd = true) (hn : n = an * bd + bn * ad) : makeS n ((ad.natAbs : Int) * bd.natAbs) = addS an ad bn bd := by
  obtain ⟨a1, _⟩ := validB_spec.1 va
  obtain ⟨b1, _⟩ := validB_spec.1 vb
  rw [show ((ad.natAbs : Nat) : Int) = ad by omega, show ((bd.natAbs : Nat) : Int) = bd by omega]
  have hd : ad * bd ≠ 0 := by have := Int.mul_pos (a := ad) (b := bd) (by omega) (by omega); omega
  unfold makeS addS
  rw [if_neg hd, if_pos ⟨va, vb⟩, hn]
  unfold ratV
  rw [Rat.divInt_add_divInt _ _ (by omega) (by omega)]
/-- The parts of the sum. -/
theorem sum_parts {an ad bn bd : Int} (va : validB an ad = true) (vb : validB bn bd = true) :
    (decide (an < 0) = true ∧ decide (bn < 0) = true ∧ sg true ((an.natAbs : Int) * bd.natAbs + (bn.natAbs : Int) * ad.natAbs) = an * bd + bn * ad) ∨
    (decide (an < 0) = false ∧ decide (bn < 0) = false ∧ sg false ((an.natAbs : Int) * bd.natAbs + (bn.natAbs : Int) * ad.natAbs) = an * bd + bn * ad) ∨
    (decide (an < 0) = true ∧ decide (bn < 0) = false ∧ sg false ((bn.natAbs : Int) * ad.natAbs - (an.natAbs : Int) * bd.natAbs) = an * bd + bn * ad ∧ sg true ((an.natAbs : Int) * bd.natAbs - (bn.natAbs : Int) * ad.natAbs) = an * bd + bn * ad) ∨
    (decide (an < 0) = false ∧ decide (bn < 0) = true ∧ sg true ((bn.natAbs : Int) * ad.natAbs - (an.natAbs : Int) * bd.natAbs) = an * bd + bn * ad ∧ sg false ((an.natAbs : Int) * bd.natAbs - (bn.natAbs : Int) * ad.natAbs) = an * bd + bn * ad) := by
  obtain ⟨a1, _⟩ := validB_spec.1 va
  obtain ⟨b1, _⟩ := validB_spec.1 vb
  rw [show ((ad.natAbs : Nat) : Int) = ad by omega, show ((bd.natAbs : Nat) : Int) = bd by omega]
  by_cases h1 : an < 0 <;> by_cases h2 : bn < 0
  · refine .inl ⟨by simp [h1], by simp [h2], ?_⟩
    rw [show ((an.natAbs : Nat) : Int) = -an by omega, show ((bn.natAbs : Nat) : Int) = -bn by omega]
    simp only [sg, if_true]; rw [Int.neg_mul, Int.neg_mul]; omega
  · refine .inr (.inr (.inl ⟨by simp [h1], by simp [h2], ?_, ?_⟩)) <;>
    rw [show ((an.natAbs : Nat) : Int) = -an by omega, show ((bn.natAbs : Nat) : Int) = bn by omega] <;>
    simp only [sg, if_true, Bool.false_eq_true, if_false] <;> rw [Int.neg_mul] <;> omega
  · refine .inr (.inr (.inr ⟨by simp [h1], by simp [h2], ?_, ?_⟩)) <;>
    rw [show ((an.natAbs : Nat) : Int) = an by omega, show ((bn.natAbs : Nat) : Int) = -bn by omega] <;>
    simp only [sg, if_true, Bool.false_eq_true, if_false] <;> rw [Int.neg_mul] <;> omega
  · refine .inr (.inl ⟨by simp [h1], by simp [h2], ?_⟩)
    rw [show ((an.natAbs : Nat) : Int) = an by omega, show ((bn.natAbs : Nat) : Int) = bn by omega]
    simp only [sg, Bool.false_eq_true, if_false]

end Go.Proofs.YtfchdagalklgpaaGreatDoor
namespace Go.Proofs.YtfchdagalklgpaaGreatDoor
set_option linter.unusedVariables false
open Go.RowKit Go.Sort

theorem subS_add {an ad bn bd : Int} (va : validB an ad = true) (vb : validB bn bd = true) : addS an ad (-bn) bd = subS an ad bn bd := by
  unfold addS subS
  rw [validB_neg, if_pos ⟨va, vb⟩, if_pos ⟨va, vb⟩, ratV_neg, Rat.sub_eq_add_neg]
theorem wd_ne {x y xh xl yh yl : Int} (h1 : Wd x xh xl) (h2 : Wd y yh yl) (h : x ≠ y) : (xh == yh) = false ∨ ((xh == yh) = true ∧ (xl == yl) = false) := by
  obtain ⟨rfl, rfl⟩ := h1
  obtain ⟨rfl, rfl⟩ := h2
  by_cases a : x / 18446744073709551616 = y / 18446744073709551616
  · have b : x % 18446744073709551616 ≠ y % 18446744073709551616 := by omega
    exact .inr ⟨by simp [a], by simp [b]⟩
  · exact .inl (by simp [a])
/-- How the reference compares. -/
theorem cmp_parts {an ad bn bd : Int} (va : validB an ad = true) (vb : validB bn bd = true) :
    (decide (an < 0) = true ∧ decide (0 ≤ an) = false ∧ decide (bn < 0) = false ∧ decide (0 ≤ bn) = true ∧ Hid (cmpQ (ratV an ad) (ratV bn bd) = -1)) ∨
    (decide (an < 0) = false ∧ decide (0 ≤ an) = true ∧ decide (bn < 0) = true ∧ decide (0 ≤ bn) = false ∧ Hid (cmpQ (ratV an ad) (ratV bn bd) = 1)) ∨
    (decide (an < 0) = decide (bn < 0) ∧ decide (0 ≤ an) = decide (0 ≤ bn) ∧
      ((Hid ((an.natAbs : Int) * bd.natAbs = (bn.natAbs : Int) * ad.natAbs) ∧ Hid (cmpQ (ratV an ad) (ratV bn bd) = 0)) ∨
       (Hid ((an.natAbs : Int) * bd.natAbs < (bn.natAbs : Int) * ad.natAbs) ∧ decide (an < 0) = false ∧ decide (0 ≤ an) = true ∧ Hid (cmpQ (ratV an ad) (ratV bn bd) = -1)) ∨
       (Hid ((an.natAbs : Int) * bd.natAbs < (bn.natAbs : Int) * ad.natAbs) ∧ decide (an < 0) = true ∧ decide (0 ≤ an) = false ∧ Hid (cmpQ (ratV an ad) (ratV bn bd) = 1)) ∨
       (Hid ((bn.natAbs : Int) * ad.natAbs < (an.natAbs : Int) * bd.natAbs) ∧ decide (an < 0) = false ∧ decide (0 ≤ an) = true ∧ Hid (cmpQ (ratV an ad) (ratV bn bd) = 1)) ∨
       (Hid ((bn.natAbs : Int) * ad.natAbs < (an.natAbs : Int) * bd.natAbs) ∧ decide (an < 0) = true ∧ decide (0 ≤ an) = false ∧ Hid (cmpQ (ratV an ad) (ratV bn bd) = -1)))) := by
  obtain ⟨a1, _⟩ := validB_spec.1 va
  obtain ⟨b1, _⟩ := validB_spec.1 vb
  rw [show ((ad.natAbs : Nat) : Int) = ad by omega, show ((bd.natAbs : Nat) : Int) = bd by omega]
  have l1 := lt_ratV va vb
  have l2 := lt_ratV vb va
  unfold cmpQ
  simp only [l1, l2]
  by_cases h1 : an < 0 <;> by_cases h2 : bn < 0
  · refine .inr (.inr ⟨by simp [h1, h2], by simp; omega, ?_⟩)
    rw [show ((an.natAbs : Nat) : Int) = -an by omega, show ((bn.natAbs : Nat) : Int) = -bn by omega, Int.neg_mul, Int.neg_mul]
    generalize an * bd = X at *
    generalize bn * ad = Y at *
    by_cases e : X = Y
    · subst e; exact .inl ⟨rfl, by show _ = _; rw [if_neg (by omega), if_neg (by omega)]⟩
    · by_cases e2 : -X < -Y
      · exact .inr (.inr (.inl ⟨e2, by simp [h1], by simp; omega, by show _ = _; rw [if_neg (by omega), if_pos (by omega)]⟩))
      · exact .inr (.inr (.inr (.inr ⟨(by omega : -Y < -X), by simp [h1], by simp; omega, by show _ = _; rw [if_pos (by omega)]⟩)))
  · have e1 : an * bd < 0 := Int.mul_neg_of_neg_of_pos h1 (by omega)
    have e2 : 0 ≤ bn * ad := Int.mul_nonneg (by omega) (by omega)
    exact .inl ⟨by simp [h1], by simp; omega, by simp [h2], by simp; omega, by show _ = _; rw [if_pos (by omega)]⟩
  · have e1 : 0 ≤ an * bd := Int.mul_nonneg (by omega) (by omega)
    have e2 : bn * ad < 0 := Int.mul_neg_of_neg_of_pos h2 (by omega)
    exact .inr (.inl ⟨by simp [h1], by simp; omega, by simp [h2], by simp; omega, by show _ = _; rw [if_neg (by omega), if_pos (by omega)]⟩)
  · refine .inr (.inr ⟨by simp [h1, h2], by simp; omega, ?_⟩)
    rw [show ((an.natAbs : Nat) : Int) = an by omega, show ((bn.natAbs : Nat) : Int) = bn by omega]
    generalize an * bd = X at *
    generalize bn * ad = Y at *
    by_cases e : X = Y
    · subst e; exact .inl ⟨rfl, by show _ = _; rw [if_neg (by omega), if_neg (by omega)]⟩
    · by_cases e2 : X < Y
      · exact .inr (.inl ⟨e2, by simp [h1], by simp; omega, by show _ = _; rw [if_pos (by omega)]⟩)
      · exact .inr (.inr (.inr (.inl ⟨(by omega : Y < X), by simp [h1], by simp; omega, by show _ = _; rw [if_neg (by omega), if_pos (by omega)]⟩)))

end Go.Proofs.YtfchdagalklgpaaGreatDoor
