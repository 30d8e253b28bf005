/- Contracts: loftblockref08's put, From, Same. No conditions but those of each statement. -/
import Derived.Test.YtocoehahhohpgaaGreatOb
import Derived.Test.YtocoehahhohpgaaGreatNx
import Derived.Test.YtocoehahhohpgaaGreatNq
import Derived.Test.YtocoehahhohpgaaGreatNk
set_option linter.unusedSimpArgs false
set_option linter.unusedVariables false
namespace Go.Proofs.YtocoehahhohpgaaGreat
open Go Go.RowKit
section
variable {P : Program} {N : Nat} {ops : Array Oper} {m : Option Nat} {K : Tm -> AH -> Prop} {tm : Tm} {H : AH} {rest : List Oper} {ty : TypeId} {pos : String} {af : Array Edge} {d : Nat} {t : TypeId} {x y : Operand}
end
theorem Gb (r : Rat) {e : Int} (h : e = 0 \/ e = 5) : kE r e = 0 \/ kE r e = 5 := by
 rcases h with rfl | rfl
 ·by_cases hf : Fits r
  ·exact .inl (C7 hf)
  ·exact .inr (Cp hf)
 ·exact .inr (Ap r)
theorem Aaf (p : PcQ) (u : Rat) {e : Int} (h : e = 0 \/ e = 5) : Ei p u e = 0 \/ Ei p u e = 5 := Gb _ (Gb _ (Gb _ (Gb _ h)))
theorem A9c (p : PcQ) (u : Rat) {e : Int} (h : e = 0 \/ e = 5) : Jz p u e = 0 \/ Jz p u e = 5 := Gb _ (Gb _ (Gb _ h))
theorem A9z (l : List PcQ) (t : Rat) : Np l t 0 = 0 \/ Np l t 0 = 5 := by
 unfold Np
 split
 ·exact .inl rfl
 ·exact A9c _ _ (Gb _ (.inl rfl))
theorem Nq (l : List PcQ) (t : Rat) : F1 l t 5 = 5 := by
 unfold F1
 split
 ·rfl
 ·rw [Ap, Dx, Kf]
theorem A0q (l : List PcQ) (t : Rat) : F1 l t 0 = if atE l t 0 = 0 then Np l t 0 else 5 := by
 unfold F1 atE Np
 by_cases h : pcI l t < 0
 ·rw [if_pos h, if_pos h, if_pos h, if_pos rfl]
 ·rw [if_neg h, if_neg h, if_neg h]
  generalize A5 l (pcI l t).toNat = p
  rcases Gb (t - p.f) (.inl rfl) with e0 | e0 <;> rw [e0]
  ·rcases Aaf p (kQ (t - p.f)) (.inl rfl) with e1 | e1 <;> rw [e1]
   ·rw [if_pos rfl]
   ·rw [if_neg (by decide), Kf]
  ·rw [Dx, Kf, if_neg (by decide)]
theorem P6 (l : List PcQ) (t : Rat) : F1 l t 0 = 0 \/ F1 l t 0 = 5 := by
 rw [A0q]
 split
 ·exact A9z l t
 ·exact .inr rfl
def atC (l : List PcQ) (t : Rat) : Rat := if pcI l t < 0 then 0 else (A5 l (pcI l t).toNat).c
theorem Abh (l : List PcQ) (t : Rat) : atP l t = ⟨t, atQ l t, atS l t, atC l t⟩ := by
 unfold atP atC
 by_cases h : pcI l t < 0
 ·rw [if_pos h, if_pos h]
  unfold atQ atS
  rw [if_pos h, if_pos h]
 ·rw [if_neg h, if_neg h]
theorem Aa0 (op : Rat -> Rat -> Rat) (a b : List PcQ) (t : Rat) : jE op a b t 5 = 5 := by simp only [jE, Nq, Ap]
theorem A6m (op : Rat -> Rat -> Rat) (a b : List PcQ) (l : List Rat) : l.foldl (fun e t => jE op a b t e) 5 = 5 := by
 induction l with
 | nil => rfl
 | cons t l ih => rw [List.foldl_cons, Aa0];exact ih
end Go.Proofs.YtocoehahhohpgaaGreat
