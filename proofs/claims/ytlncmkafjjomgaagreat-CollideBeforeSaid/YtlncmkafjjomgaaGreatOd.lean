/- Plain facts: errors. Contracts: loftblockref08's From, Shift. No conditions but those of each statement. | Plain facts: the errors of sums and of moved curves. Contract: loftblockref08's Shift. No conditions but those of each statement. -/
import Derived.Test.YtlncmkafjjomgaaGreatOc
set_option linter.unusedSimpArgs false
namespace Go.Proofs.YtlncmkafjjomgaaGreat
set_option linter.unusedVariables false
open Go Go.RowKit
theorem kE_or (r : Rat) {e : Int} (h : e = 0 ∨ e = 5) : kE r e = 0 ∨ kE r e = 5 := by
 rcases h with rfl | rfl
 ·by_cases hf : Fits r
  ·exact .inl (kE_ok hf)
  ·exact .inr (kE_bad hf)
 ·exact .inr (kE_five r)
theorem valE_or (p : PcQ) (u : Rat) {e : Int} (h : e = 0 ∨ e = 5) : valE p u e = 0 ∨ valE p u e = 5 := kE_or _ (kE_or _ (kE_or _ (kE_or _ h)))
theorem sloE_or (p : PcQ) (u : Rat) {e : Int} (h : e = 0 ∨ e = 5) : sloE p u e = 0 ∨ sloE p u e = 5 := kE_or _ (kE_or _ (kE_or _ h))
theorem atE_or (l : List PcQ) (t : Rat) : atE l t 0 = 0 ∨ atE l t 0 = 5 := by
 unfold atE
 split
 ·exact .inl rfl
 ·exact valE_or _ _ (kE_or _ (.inl rfl))
theorem atSE_or (l : List PcQ) (t : Rat) : atSE l t 0 = 0 ∨ atSE l t 0 = 5 := by
 unfold atSE
 split
 ·exact .inl rfl
 ·exact sloE_or _ _ (kE_or _ (.inl rfl))
theorem atPE_five (l : List PcQ) (t : Rat) : atPE l t 5 = 5 := by
 unfold atPE
 split
 ·rfl
 ·rw [kE_five, valE_five, sloE_five]
theorem atPE_eq (l : List PcQ) (t : Rat) : atPE l t 0 = if atE l t 0 = 0 then atSE l t 0 else 5 := by
 unfold atPE atE atSE
 by_cases h : pcI l t < 0
 ·rw [if_pos h, if_pos h, if_pos h, if_pos rfl]
 ·rw [if_neg h, if_neg h, if_neg h]
  generalize pcAt l (pcI l t).toNat = p
  rcases kE_or (t - p.f) (.inl rfl) with e0 | e0 <;> rw [e0]
  ·rcases valE_or p (kQ (t - p.f)) (.inl rfl) with e1 | e1 <;> rw [e1]
   ·rw [if_pos rfl]
   ·rw [if_neg (by decide), sloE_five]
  ·rw [valE_five, sloE_five, if_neg (by decide)]
theorem atPE_or (l : List PcQ) (t : Rat) : atPE l t 0 = 0 ∨ atPE l t 0 = 5 := by
 rw [atPE_eq]
 split
 ·exact atSE_or l t
 ·exact .inr rfl
def atC (l : List PcQ) (t : Rat) : Rat := if pcI l t < 0 then 0 else (pcAt l (pcI l t).toNat).c
theorem atP_eq (l : List PcQ) (t : Rat) : atP l t = ⟨t, atQ l t, atS l t, atC l t⟩ := by
 unfold atP atC
 by_cases h : pcI l t < 0
 ·rw [if_pos h, if_pos h]
  unfold atQ atS
  rw [if_pos h, if_pos h]
 ·rw [if_neg h, if_neg h]
end Go.Proofs.YtlncmkafjjomgaaGreat
set_option linter.unusedSimpArgs false
namespace Go.Proofs.YtlncmkafjjomgaaGreat
set_option linter.unusedVariables false
open Go Go.RowKit
theorem jE_five (op : Rat → Rat → Rat) (a b : List PcQ) (t : Rat) : jE op a b t 5 = 5 := by simp only [jE, atPE_five, kE_five]
theorem jEs_five (op : Rat → Rat → Rat) (a b : List PcQ) (l : List Rat) : l.foldl (fun e t => jE op a b t e) 5 = 5 := by
 induction l with
 | nil => rfl
 | cons t l ih => rw [List.foldl_cons, jE_five];exact ih
end Go.Proofs.YtlncmkafjjomgaaGreat
