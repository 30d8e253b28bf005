/- Contracts: loftblockref08's put, From, Same. No conditions but those of each statement. -/
import Derived.Test.YtcbfnkgodiaiiaaGreatOb
import Derived.Test.YtcbfnkgodiaiiaaGreatNx
import Derived.Test.YtcbfnkgodiaiiaaGreatNq
import Derived.Test.YtcbfnkgodiaiiaaGreatNk
set_option linter.unusedSimpArgs false
set_option linter.unusedVariables false
namespace Go.Proofs.YtcbfnkgodiaiiaaGreat
open Go Go.RowKit
section
variable {P : Program} {N : Nat} {ops : Array Oper} {m : Option Nat} {K : Tm -> AH -> Prop} {tm : Tm} {H : AH} {rest : List Oper} {ty : TypeId} {pos : String} {af : Array Edge} {d : Nat} {t : TypeId} {x y : Operand}
end
theorem G9 (r : Rat) {e : Int} (h : e = 0 \/ e = 5) : kE r e = 0 \/ kE r e = 5 := by
 rcases h with rfl | rfl
 ·by_cases hf : Fits r
  ·exact .inl (E1 hf)
  ·exact .inr (Eo hf)
 ·exact .inr (B6 r)
theorem A0s (p : PcQ) (u : Rat) {e : Int} (h : e = 0 \/ e = 5) : Hr p u e = 0 \/ Hr p u e = 5 := G9 _ (G9 _ (G9 _ (G9 _ h)))
theorem Abb (p : PcQ) (u : Rat) {e : Int} (h : e = 0 \/ e = 5) : Km p u e = 0 \/ Km p u e = 5 := G9 _ (G9 _ (G9 _ h))
theorem Ti (l : List PcQ) (t : Rat) : atE l t 0 = 0 \/ atE l t 0 = 5 := by
 unfold atE
 split
 ·exact .inl rfl
 ·exact A0s _ _ (G9 _ (.inl rfl))
theorem Ab8 (l : List PcQ) (t : Rat) : P6 l t 0 = 0 \/ P6 l t 0 = 5 := by
 unfold P6
 split
 ·exact .inl rfl
 ·exact Abb _ _ (G9 _ (.inl rfl))
theorem O1 (l : List PcQ) (t : Rat) : Fj l t 5 = 5 := by
 unfold Fj
 split
 ·rfl
 ·rw [B6, Oe, L2]
theorem A1v (l : List PcQ) (t : Rat) : Fj l t 0 = if atE l t 0 = 0 then P6 l t 0 else 5 := by
 unfold Fj atE P6
 by_cases h : pcI l t < 0
 ·rw [if_pos h, if_pos h, if_pos h, if_pos rfl]
 ·rw [if_neg h, if_neg h, if_neg h]
  generalize A6 l (pcI l t).toNat = p
  rcases G9 (t - p.f) (.inl rfl) with e0 | e0 <;> rw [e0]
  ·rcases A0s p (kQ (t - p.f)) (.inl rfl) with e1 | e1 <;> rw [e1]
   ·rw [if_pos rfl]
   ·rw [if_neg (by decide), L2]
  ·rw [Oe, L2, if_neg (by decide)]
theorem Q6 (l : List PcQ) (t : Rat) : Fj l t 0 = 0 \/ Fj l t 0 = 5 := by
 rw [A1v]
 split
 ·exact Ab8 l t
 ·exact .inr rfl
def atC (l : List PcQ) (t : Rat) : Rat := if pcI l t < 0 then 0 else (A6 l (pcI l t).toNat).c
theorem Acr (l : List PcQ) (t : Rat) : atP l t = ⟨t, atQ l t, atS l t, atC l t⟩ := by
 unfold atP atC
 by_cases h : pcI l t < 0
 ·rw [if_pos h, if_pos h]
  unfold atQ atS
  rw [if_pos h, if_pos h]
 ·rw [if_neg h, if_neg h]
theorem Aap (op : Rat -> Rat -> Rat) (a b : List PcQ) (t : Rat) : jE op a b t 5 = 5 := by simp only [jE, O1, B6]
theorem Xb (op : Rat -> Rat -> Rat) (a b : List PcQ) (l : List Rat) : l.foldl (fun e t => jE op a b t e) 5 = 5 := by
 induction l with
 | nil => rfl
 | cons t l ih => rw [List.foldl_cons, Aap];exact ih
theorem A9x (l : List Rat) (t : Rat) : (H1 l t).length <= l.length + 1 := by
 induction l with
 | nil => simp [H1]
 | cons y l ih =>
  unfold H1
  split
  ·simp;omega
  ·split <;> simp
theorem A4o (l m : List Rat) : (l.foldl H1 m).length <= m.length + l.length := by
 induction l generalizing m with
 | nil => simp
 | cons y l ih =>
  have h1 := ih (H1 m y)
  have h2 := A9x m y
  rw [List.foldl_cons, List.length_cons]
  omega
end Go.Proofs.YtcbfnkgodiaiiaaGreat
