/- Contracts: loftblockref08's put, From, Same. No conditions but those of each statement. -/
import Derived.Test.YtbceahipbdmocaaGreatOb
import Derived.Test.YtbceahipbdmocaaGreatNx
import Derived.Test.YtbceahipbdmocaaGreatNq
import Derived.Test.YtbceahipbdmocaaGreatNk
set_option linter.unusedSimpArgs false
set_option linter.unusedVariables false
namespace Go.Proofs.YtbceahipbdmocaaGreat
open Go Go.RowKit
section
variable {P : Program} {N : Nat} {ops : Array Oper} {m : Option Nat} {K : Tm -> AH -> Prop} {tm : Tm} {H : AH} {rest : List Oper} {ty : TypeId} {pos : String} {af : Array Edge} {d : Nat} {t : TypeId} {x y : Operand}
end
theorem G2 (r : Rat) {e : Int} (h : e = 0 \/ e = 5) : kE r e = 0 \/ kE r e = 5 := by
 rcases h with rfl | rfl
 ·by_cases hf : Fits r
  ·exact .inl (Dk hf)
  ·exact .inr (Dx hf)
 ·exact .inr (Ay r)
theorem Aae (p : PcQ) (u : Rat) {e : Int} (h : e = 0 \/ e = 5) : Hc p u e = 0 \/ Hc p u e = 5 := G2 _ (G2 _ (G2 _ (G2 _ h)))
theorem Aan (p : PcQ) (u : Rat) {e : Int} (h : e = 0 \/ e = 5) : Kg p u e = 0 \/ Kg p u e = 5 := G2 _ (G2 _ (G2 _ h))
theorem A9n (l : List PcQ) (t : Rat) : Nv l t 0 = 0 \/ Nv l t 0 = 5 := by
 unfold Nv
 split
 ·exact .inl rfl
 ·exact Aan _ _ (G2 _ (.inl rfl))
theorem Nq (l : List PcQ) (t : Rat) : Eu l t 5 = 5 := by
 unfold Eu
 split
 ·rfl
 ·rw [Ay, O1, Kh]
theorem A1l (l : List PcQ) (t : Rat) : Eu l t 0 = if atE l t 0 = 0 then Nv l t 0 else 5 := by
 unfold Eu atE Nv
 by_cases h : pcI l t < 0
 ·rw [if_pos h, if_pos h, if_pos h, if_pos rfl]
 ·rw [if_neg h, if_neg h, if_neg h]
  generalize Af l (pcI l t).toNat = p
  rcases G2 (t - p.f) (.inl rfl) with e0 | e0 <;> rw [e0]
  ·rcases Aae p (kQ (t - p.f)) (.inl rfl) with e1 | e1 <;> rw [e1]
   ·rw [if_pos rfl]
   ·rw [if_neg (by decide), Kh]
  ·rw [O1, Kh, if_neg (by decide)]
theorem Pn (l : List PcQ) (t : Rat) : Eu l t 0 = 0 \/ Eu l t 0 = 5 := by
 rw [A1l]
 split
 ·exact A9n l t
 ·exact .inr rfl
def atC (l : List PcQ) (t : Rat) : Rat := if pcI l t < 0 then 0 else (Af l (pcI l t).toNat).c
theorem Abi (l : List PcQ) (t : Rat) : atP l t = ⟨t, atQ l t, atS l t, atC l t⟩ := by
 unfold atP atC
 by_cases h : pcI l t < 0
 ·rw [if_pos h, if_pos h]
  unfold atQ atS
  rw [if_pos h, if_pos h]
 ·rw [if_neg h, if_neg h]
theorem Aay (op : Rat -> Rat -> Rat) (a b : List PcQ) (t : Rat) : jE op a b t 5 = 5 := by simp only [jE, Nq, Ay]
theorem A70 (op : Rat -> Rat -> Rat) (a b : List PcQ) (l : List Rat) : l.foldl (fun e t => jE op a b t e) 5 = 5 := by
 induction l with
 | nil => rfl
 | cons t l ih => rw [List.foldl_cons, Aay];exact ih
end Go.Proofs.YtbceahipbdmocaaGreat
