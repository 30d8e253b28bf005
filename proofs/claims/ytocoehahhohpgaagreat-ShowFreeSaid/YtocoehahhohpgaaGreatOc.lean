/- Contracts: loftblockref08's put, From, Same. No conditions but those of each statement. -/
import Derived.Test.YtocoehahhohpgaaGreatOb
import Derived.Test.YtocoehahhohpgaaGreatNx
import Derived.Test.YtocoehahhohpgaaGreatNq
import Derived.Test.YtocoehahhohpgaaGreatNk
set_option linter.unusedSimpArgs false
set_option linter.unusedVariables false
namespace Go.Proofs.YtocoehahhohpgaaGreat
open Go Go.RowKit
section
variable {P : Program} {N : Nat} {ops : Array Oper} {m : Option Nat} {K : Tm -> AH -> Prop} {tm : Tm} {H : AH} {rest : List Oper} {ty : TypeId} {pos : String} {af : Array Edge} {d : Nat} {t : TypeId} {x y : Operand}
end
theorem G7 (r : Rat) {e : Int} (h : e = 0 \/ e = 5) : kE r e = 0 \/ kE r e = 5 := by
 rcases h with rfl | rfl
 ·by_cases hf : Fits r
  ·exact .inl (Dz hf)
  ·exact .inr (Eg hf)
 ·exact .inr (B7 r)
theorem A0x (p : PcQ) (u : Rat) {e : Int} (h : e = 0 \/ e = 5) : Hn p u e = 0 \/ Hn p u e = 5 := G7 _ (G7 _ (G7 _ (G7 _ h)))
theorem Aa0 (p : PcQ) (u : Rat) {e : Int} (h : e = 0 \/ e = 5) : K3 p u e = 0 \/ K3 p u e = 5 := G7 _ (G7 _ (G7 _ h))
theorem Xj (l : List PcQ) (t : Rat) : atE l t 0 = 0 \/ atE l t 0 = 5 := by
 unfold atE
 split
 ·exact .inl rfl
 ·exact A0x _ _ (G7 _ (.inl rfl))
theorem Aa1 (l : List PcQ) (t : Rat) : Np l t 0 = 0 \/ Np l t 0 = 5 := by
 unfold Np
 split
 ·exact .inl rfl
 ·exact Aa0 _ _ (G7 _ (.inl rfl))
theorem O5 (l : List PcQ) (t : Rat) : Fa l t 5 = 5 := by
 unfold Fa
 split
 ·rfl
 ·rw [B7, Ot, Ko]
theorem A0i (l : List PcQ) (t : Rat) : Fa l t 0 = if atE l t 0 = 0 then Np l t 0 else 5 := by
 unfold Fa atE Np
 by_cases h : pcI l t < 0
 ·rw [if_pos h, if_pos h, if_pos h, if_pos rfl]
 ·rw [if_neg h, if_neg h, if_neg h]
  generalize A8 l (pcI l t).toNat = p
  rcases G7 (t - p.f) (.inl rfl) with e0 | e0 <;> rw [e0]
  ·rcases A0x p (kQ (t - p.f)) (.inl rfl) with e1 | e1 <;> rw [e1]
   ·rw [if_pos rfl]
   ·rw [if_neg (by decide), Ko]
  ·rw [Ot, Ko, if_neg (by decide)]
theorem Ow (l : List PcQ) (t : Rat) : Fa l t 0 = 0 \/ Fa l t 0 = 5 := by
 rw [A0i]
 split
 ·exact Aa1 l t
 ·exact .inr rfl
def atC (l : List PcQ) (t : Rat) : Rat := if pcI l t < 0 then 0 else (A8 l (pcI l t).toNat).c
theorem Abv (l : List PcQ) (t : Rat) : atP l t = ⟨t, atQ l t, atS l t, atC l t⟩ := by
 unfold atP atC
 by_cases h : pcI l t < 0
 ·rw [if_pos h, if_pos h]
  unfold atQ atS
  rw [if_pos h, if_pos h]
 ·rw [if_neg h, if_neg h]
theorem Ab8 (op : Rat -> Rat -> Rat) (a b : List PcQ) (t : Rat) : jE op a b t 5 = 5 := by simp only [jE, O5, B7]
theorem Yn (op : Rat -> Rat -> Rat) (a b : List PcQ) (l : List Rat) : l.foldl (fun e t => jE op a b t e) 5 = 5 := by
 induction l with
 | nil => rfl
 | cons t l ih => rw [List.foldl_cons, Ab8];exact ih
end Go.Proofs.YtocoehahhohpgaaGreat
