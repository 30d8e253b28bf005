/- Contracts: loftblockref08's put, From, Same. No conditions but those of each statement. -/
import Derived.Test.YtocoehahhohpgaaGreatOb
import Derived.Test.YtocoehahhohpgaaGreatNx
import Derived.Test.YtocoehahhohpgaaGreatNq
import Derived.Test.YtocoehahhohpgaaGreatNk
set_option linter.unusedSimpArgs false
set_option linter.unusedVariables false
namespace Go.Proofs.YtocoehahhohpgaaGreat
open Go Go.RowKit
section
variable {P : Program} {N : Nat} {ops : Array Oper} {m : Option Nat} {K : Tm -> AH -> Prop} {tm : Tm} {H : AH} {rest : List Oper} {ty : TypeId} {pos : String} {af : Array Edge} {d : Nat} {t : TypeId} {x y : Operand}
end
theorem G7 (r : Rat) {e : Int} (h : e = 0 \/ e = 5) : kE r e = 0 \/ kE r e = 5 := by
 rcases h with rfl | rfl
 ·by_cases hf : Fits r
  ·exact .inl (C7 hf)
  ·exact .inr (Cm hf)
 ·exact .inr (Ap r)
theorem A9r (p : PcQ) (u : Rat) {e : Int} (h : e = 0 \/ e = 5) : Ei p u e = 0 \/ Ei p u e = 5 := G7 _ (G7 _ (G7 _ (G7 _ h)))
theorem A9p (p : PcQ) (u : Rat) {e : Int} (h : e = 0 \/ e = 5) : K1 p u e = 0 \/ K1 p u e = 5 := G7 _ (G7 _ (G7 _ h))
theorem A91 (l : List PcQ) (t : Rat) : Nh l t 0 = 0 \/ Nh l t 0 = 5 := by
 unfold Nh
 split
 ·exact .inl rfl
 ·exact A9p _ _ (G7 _ (.inl rfl))
theorem Ok (l : List PcQ) (t : Rat) : F2 l t 5 = 5 := by
 unfold F2
 split
 ·rfl
 ·rw [Ap, Dy, Ke]
theorem A11 (l : List PcQ) (t : Rat) : F2 l t 0 = if atE l t 0 = 0 then Nh l t 0 else 5 := by
 unfold F2 atE Nh
 by_cases h : pcI l t < 0
 ·rw [if_pos h, if_pos h, if_pos h, if_pos rfl]
 ·rw [if_neg h, if_neg h, if_neg h]
  generalize A5 l (pcI l t).toNat = p
  rcases G7 (t - p.f) (.inl rfl) with e0 | e0 <;> rw [e0]
  ·rcases A9r p (kQ (t - p.f)) (.inl rfl) with e1 | e1 <;> rw [e1]
   ·rw [if_pos rfl]
   ·rw [if_neg (by decide), Ke]
  ·rw [Dy, Ke, if_neg (by decide)]
theorem Oy (l : List PcQ) (t : Rat) : F2 l t 0 = 0 \/ F2 l t 0 = 5 := by
 rw [A11]
 split
 ·exact A91 l t
 ·exact .inr rfl
def atC (l : List PcQ) (t : Rat) : Rat := if pcI l t < 0 then 0 else (A5 l (pcI l t).toNat).c
theorem Ab4 (l : List PcQ) (t : Rat) : atP l t = ⟨t, atQ l t, atS l t, atC l t⟩ := by
 unfold atP atC
 by_cases h : pcI l t < 0
 ·rw [if_pos h, if_pos h]
  unfold atQ atS
  rw [if_pos h, if_pos h]
 ·rw [if_neg h, if_neg h]
theorem A9w (op : Rat -> Rat -> Rat) (a b : List PcQ) (t : Rat) : jE op a b t 5 = 5 := by simp only [jE, Ok, Ap]
theorem A7m (op : Rat -> Rat -> Rat) (a b : List PcQ) (l : List Rat) : l.foldl (fun e t => jE op a b t e) 5 = 5 := by
 induction l with
 | nil => rfl
 | cons t l ih => rw [List.foldl_cons, A9w];exact ih
end Go.Proofs.YtocoehahhohpgaaGreat
