/- Plain: the order and the starts of the cues of a valid sheet. No conditions but those of each statement. -/
import Derived.Test.YtlapbaiejnaeiaaGreatDoorPa
import Derived.Test.YtlapbaiejnaeiaaGreatDoorMn
import Derived.Test.YtlapbaiejnaeiaaGreatDoorMs
set_option linter.unusedSimpArgs false
set_option linter.unusedVariables false
namespace Go.Proofs.YtlapbaiejnaeiaaGreatDoor
open Go Go.RowKit
def Ap (l : List CueR) : Nat := (l.filter fun q => q.link = 1).length
theorem Mx (l : List CueR) (q : CueR) : Ap (l ++ [q]) = Ap l + (if q.link = 1 then 1 else 0) := by
 unfold Ap
 rw [List.filter_append, List.length_append]
 by_cases h : q.link = 1 <;> simp [h]
theorem Dt {l : List CueR} {k : Nat} {q : CueR} (hq : l[k]? = some q) (h : q.link = 1) : Ap (l.take (k + 1)) = Ap (l.take k) + 1 := by rw [Bd hq, Mx, if_pos h]
theorem Fa {l : List CueR} {k : Nat} {q : CueR} (hq : l[k]? = some q) (h : ¬ q.link = 1) : Ap (l.take (k + 1)) = Ap (l.take k) := by rw [Bd hq, Mx, if_neg h];rfl
theorem F9 (l : List CueR) : Ap l <= l.length := List.length_filter_le _ _
theorem Uc (l : List CueR) {a b : Nat} (h : a <= b) : Ap (l.take a) <= Ap (l.take b) := by
 rw [show l.take a = (l.take b).take a by rw [List.take_take, Nat.min_eq_left h]]
 unfold Ap
 exact ((List.take_sublist a (l.take b)).filter _).length_le
theorem Xz {l : List CueR} {k : Nat} {q : CueR} (hq : l[k]? = some q) (h : q.link = 1) : Ap (l.take k) < Ap l := by
 have h1 := Dt hq h
 have hk := (List.getElem?_eq_some_iff.1 hq).1
 have h2 := Uc l (show k + 1 <= l.length by omega)
 rw [List.take_length] at h2
 omega
def Cp (l : List CueR) (q : CueR) : Nat := (Bb l q.after).toNat
def hgI (l : List CueR) (q : CueR) : Int := if q.link = 1 then -1 else Bb l q.after
def hgL (l : List CueR) : List Int := l.map (hgI l)
structure LkQ (l : List CueR) (k : Nat) (q : CueR) : Prop where
 name : B9 q.name = true
 self : Bb l q.name = (k : Int)
 delay : 0 <= q.delay /\ q.delay <= 2147483648
 link : 1 <= q.link /\ q.link <= 3
 man : q.link = 1 -> q.after = ⟨#[]⟩
 aft : ¬ q.link = 1 -> Bb l q.after = (Cp l q : Int) /\ Cp l q < k
def LkP (l : List CueR) : Prop := ∀ k q, l[k]? = some q -> LkQ l k q
theorem validP.lk {h : HouseR} {c : SheetR} (v : validP h c) : LkP c.cues := fun k q hq => by
 obtain ⟨_, hr, hn, h1, h2⟩ := v.2.2.1 k q hq
 refine ⟨hr.1, (Hc (p := fun x : CueR => x.name = q.name) hq rfl).2 hn, hr.2.2.1, hr.2.1, h1, fun hl => ?_⟩
 obtain ⟨y, hy, e⟩ := h2 hl
 have hi : 0 <= Bb c.cues q.after /\ Bb c.cues q.after < (k : Nat) := idx_lt_iff.2 ⟨y, hy, e⟩
 unfold Cp
 omega
def fsV (l : List CueR) (G : List Int) (k : Nat) : Int := match l[k]? with | some q => if q.link = 1 then G.getD (Ap (l.take k)) 0 + q.delay else 0 | none => 0
def fsK (l : List CueR) (G : List Int) (k : Nat) : List Int := (List.range k).map (fsV l G)
theorem J0 (l : List CueR) (G : List Int) (k : Nat) : (fsK l G k).length = k := by simp [fsK]
theorem Oe (l : List CueR) (G : List Int) (k : Nat) : fsK l G (k + 1) = fsK l G k ++ [fsV l G k] := by simp [fsK, List.range_succ]
def stV (l : List CueR) (L G S : List Int) (k : Nat) : Int := match l[k]? with
 | some q => if q.link = 1 then G.getD (Ap (l.take k)) 0 + q.delay else if q.link = 2 then S.getD (Cp l q) 0 + q.delay + L.getD (Cp l q) 0 else S.getD (Cp l q) 0 + q.delay
 | none => 0
def stK (l : List CueR) (L G : List Int) : Nat -> List Int
 | 0 => []
 | k + 1 => stK l L G k ++ [stV l L G (stK l L G k) k]
theorem Bu (l : List CueR) (L G : List Int) : ∀ k, (stK l L G k).length = k
 | 0 => rfl
 | k + 1 => by rw [stK, List.length_append, Bu l L G k];rfl
theorem Rj (l : List CueR) (L G : List Int) {j k : Nat} (h : j < k) : (stK l L G k)[j]? = some (stV l L G (stK l L G j) j) := by
 induction k with
 | zero => omega
 | succ k ih =>
  rw [stK]
  by_cases e : j = k
  ·subst e
   rw [List.getElem?_append_right (by rw [Bu];omega), Bu, Nat.sub_self];rfl
  ·rw [List.getElem?_append_left (by rw [Bu];omega)]
   exact ih (by omega)
def D5 (n : Int) : Prop := ¬ (0 <= n /\ n <= 2147483648)
instance (n : Int) : Decidable (D5 n) := by unfold D5;exact inferInstance
def Cq (l : List Int) : Prop := ∃ x ∈ l, D5 x
noncomputable instance (l : List Int) : Decidable (Cq l) := Classical.propDecidable _
noncomputable def stE (l : List CueR) (L G : List Int) : Int := if L.length ≠ l.length \/ G.length ≠ Ap l then 3 else if Cq L \/ Cq G then 2 else 0
theorem E3 {l : List Int} (h : ¬ Cq l) (i : Nat) : 0 <= l.getD i 0 /\ l.getD i 0 <= 2147483648 := by
 rw [List.getD_eq_getElem?_getD]
 cases e : l[i]? with
 | none => simp
 | some x =>
  have : ¬ D5 x := fun hw => h ⟨x, List.mem_of_getElem? e, hw⟩
  unfold D5 at this
  exact Classical.not_not.1 this
theorem V6 {l : List CueR} {L G S : List Int} {k : Nat} (hl : LkP l) (hL : ¬ Cq L) (hG : ¬ Cq G) (hS : ∀ j, j < k -> 0 <= S.getD j 0 /\ S.getD j 0 <= (k : Int) * 4294967296) : 0 <= stV l L G S k /\ stV l L G S k <= ((k : Int) + 1) * 4294967296 := by
 unfold stV
 cases e : l[k]? with
 | none => dsimp only;omega
 | some q =>
  obtain ⟨_, _, hd, _, _, ha⟩ := hl k q e
  dsimp only
  have g1 := E3 hG (Ap (l.take k))
  have g2 := E3 hL (Cp l q)
  split
  ·omega
  ·rename_i hm
   obtain ⟨_, a2⟩ := ha hm
   have := hS _ a2
   split <;> omega
theorem Iv {l : List CueR} {L G : List Int} (hl : LkP l) (hL : ¬ Cq L) (hG : ¬ Cq G) : ∀ k j, j < k -> 0 <= (stK l L G k).getD j 0 /\ (stK l L G k).getD j 0 <= (k : Int) * 4294967296
 | 0, j, h => by omega
 | k + 1, j, h => by
  have ih := Iv hl hL hG k
  have hb := V6 hl hL hG ih
  rw [stK, List.getD_eq_getElem?_getD]
  by_cases e : j = k
  ·subst e
   rw [List.getElem?_append_right (by rw [Bu];omega), Bu, Nat.sub_self]
   simp only [List.getElem?_cons_zero, Option.getD_some]
   omega
  ·rw [List.getElem?_append_left (by rw [Bu];omega), <- List.getD_eq_getElem?_getD]
   have := ih j (by omega)
   omega
def C6 (l : List CueR) (L G : List Int) (k : Nat) : List Int := stK l L G k ++ (fsK l G l.length).drop k
theorem Xt (l : List CueR) (G : List Int) {j k : Nat} (h : j < k) : (fsK l G k)[j]? = some (fsV l G j) := by
 unfold fsK
 rw [List.getElem?_map, List.getElem?_range h];rfl
theorem Wn (l : List CueR) (L G : List Int) {k : Nat} (h : k <= l.length) : (C6 l L G k).length = l.length := by
 unfold C6
 rw [List.length_append, Bu, List.length_drop, J0];omega
theorem Mz (l : List CueR) (L G : List Int) {k : Nat} (h : k < l.length) : C6 l L G k = stK l L G k ++ fsV l G k :: (fsK l G l.length).drop (k + 1) := by
 unfold C6
 have := Xt l G h
 rw [List.getElem?_eq_some_iff] at this
 obtain ⟨h1, h2⟩ := this
 rw [List.drop_eq_getElem_cons h1, h2]
theorem Me {α : Type} (A B : List α) (x y : α) {n : Nat} (h : A.length = n) : (A ++ x :: B).set n y = A ++ y :: B := by
 subst h
 rw [List.set_append_right _ _ (Nat.le_refl _), Nat.sub_self];rfl
theorem Wp (l : List CueR) (L G : List Int) {k : Nat} (h : k < l.length) : (C6 l L G k).set k (stV l L G (stK l L G k) k) = C6 l L G (k + 1) := by
 rw [Mz l L G h, Me _ _ _ _ (Bu l L G k)]
 unfold C6
 rw [stK, List.append_assoc];rfl
theorem Wo {l : List CueR} {L G : List Int} {k : Nat} {q : CueR} (hq : l[k]? = some q) (hm : q.link = 1) : C6 l L G (k + 1) = C6 l L G k := by
 have h := (List.getElem?_eq_some_iff.1 hq).1
 rw [Mz l L G h]
 unfold C6
 have h1 : stV l L G (stK l L G k) k = fsV l G k := by unfold stV fsV;rw [hq];simp only [hm, if_true]
 rw [stK, h1, List.append_assoc];rfl
theorem Ue (l : List CueR) (L G : List Int) : C6 l L G l.length = stK l L G l.length := by
 unfold C6
 rw [List.drop_of_length_le (by rw [J0];exact Nat.le_refl _), List.append_nil]
theorem Y0 {l : List CueR} {L G : List Int} {j k : Nat} (h : j < k) : (C6 l L G k)[j]? = some ((stK l L G k).getD j 0) := by
 unfold C6
 rw [List.getElem?_append_left (by rw [Bu];exact h), Rj l L G h, List.getD_eq_getElem?_getD, Rj l L G h];rfl
def Dr (l : List CueR) (G : List Int) (k : Nat) : List Int := fsK l G k ++ List.replicate (l.length - k) 0
theorem W7 (l : List CueR) (G : List Int) {k : Nat} (h : k <= l.length) : (Dr l G k).length = l.length := by
 unfold Dr
 rw [List.length_append, J0, List.length_replicate];omega
theorem Mr (l : List CueR) (G : List Int) {k : Nat} (h : k < l.length) : Dr l G k = fsK l G k ++ 0 :: List.replicate (l.length - (k + 1)) 0 := by
 unfold Dr
 rw [show l.length - k = (l.length - (k + 1)) + 1 by omega, List.replicate_succ]
theorem W8 {l : List CueR} {G : List Int} {k : Nat} {q : CueR} (hq : l[k]? = some q) (hm : q.link = 1) : (Dr l G k).set k (G.getD (Ap (l.take k)) 0 + q.delay) = Dr l G (k + 1) := by
 rw [Mr l G (List.getElem?_eq_some_iff.1 hq).1, Me _ _ _ _ (J0 l G k)]
 unfold Dr
 rw [Oe, List.append_assoc, show fsV l G k = G.getD (Ap (l.take k)) 0 + q.delay by unfold fsV;rw [hq];simp only [hm, if_true]]
 rfl
theorem Xu {l : List CueR} {G : List Int} {k : Nat} {q : CueR} (hq : l[k]? = some q) (hm : ¬ q.link = 1) : Dr l G (k + 1) = Dr l G k := by
 rw [Mr l G (List.getElem?_eq_some_iff.1 hq).1]
 unfold Dr
 rw [Oe, List.append_assoc, show fsV l G k = 0 by unfold fsV;rw [hq];simp only [hm, if_false]]
 rfl
theorem U3 (l : List CueR) (L G : List Int) : Dr l G l.length = C6 l L G 0 := by
 unfold Dr C6
 rw [Nat.sub_self]
 simp [stK]
def Ef (n k : Nat) : List Bool := List.replicate k true ++ List.replicate (n - k) false
theorem H7 {n k : Nat} (h : k < n) : (Ef n k).set k true = Ef n (k + 1) := by
 unfold Ef
 rw [show n - k = (n - (k + 1)) + 1 by omega, List.replicate_succ, Me _ _ _ _ (List.length_replicate ..), List.replicate_succ', List.append_assoc];rfl
theorem O6 {n k j : Nat} (h : j < k) : (Ef n k)[j]? = some true := by
 unfold Ef
 rw [List.getElem?_append_left (by rw [List.length_replicate];exact h), List.getElem?_replicate, if_pos h]
theorem Xr {n k : Nat} (h : k < n) : (Ef n k)[k]? = some false := by
 unfold Ef
 rw [List.getElem?_append_right (by rw [List.length_replicate];exact Nat.le_refl _), List.length_replicate, Nat.sub_self, List.getElem?_replicate, if_pos (by omega)]
theorem W5 {n k : Nat} (h : k <= n) : (Ef n k).length = n := by
 unfold Ef
 rw [List.length_append, List.length_replicate, List.length_replicate];omega
/-! ### Lengths, starts, ends -/
def Wk (h : HouseR) (c : SheetR) (k : Nat) : Rat := match c.cues[k]? with | some q => Br h (C7 h c k) q.moves | none => 0
theorem Xx {h : HouseR} {c : SheetR} {k : Nat} {q : CueR} (hq : c.cues[k]? = some q) : Wk h c k = Br h (C7 h c k) q.moves := by unfold Wk;rw [hq]
def msQ (h : HouseR) (c : SheetR) (k : Nat) : Rat := 1000 * Wk h c k
def upI (q : Rat) : Int := -(-q.num / q.den)
def msI (h : HouseR) (c : SheetR) (k : Nat) : Int := upI (msQ h c k)
def Jy (h : HouseR) (c : SheetR) : Prop := ∃ k, k < c.cues.length /\ ¬ Fits (msQ h c k)
noncomputable instance (h : HouseR) (c : SheetR) : Decidable (Jy h c) := Classical.propDecidable _
def D8 (h : HouseR) (c : SheetR) (n : Nat) : List Int := (List.range n).map (msI h c)
theorem Dz (h : HouseR) (c : SheetR) (n : Nat) : (D8 h c n).length = n := by simp [D8]
theorem Sb (h : HouseR) (c : SheetR) (n : Nat) : D8 h c (n + 1) = D8 h c n ++ [msI h c n] := by simp [D8, List.range_succ]
abbrev Cs (h : HouseR) (c : SheetR) : List Int := D8 h c c.cues.length
noncomputable def mdE (h : HouseR) (c : SheetR) (G : List Int) : Int := if Jy h c then 5 else stE c.cues (Cs h c) G
def stL (h : HouseR) (c : SheetR) (G : List Int) : List Int := stK c.cues (Cs h c) G c.cues.length
theorem Gp (h : HouseR) (c : SheetR) (G : List Int) : (stL h c G).length = c.cues.length := Bu _ _ _ _
structure PlanOk (h : HouseR) (c : SheetR) (G : List Int) : Prop where
 v : validP h c
 fit : ¬ Jy h c
 man : G.length = Ap c.cues
 len : ¬ Cq (Cs h c)
 given : ¬ Cq G
theorem Uk {h : HouseR} {c : SheetR} {G : List Int} (v : validP h c) (e : mdE h c G = 0) : PlanOk h c G := by
 unfold mdE at e
 split at e
 ·cases e
 ·rename_i hb
  unfold stE at e
  split at e
  ·cases e
  ·rename_i hl
   split at e
   ·cases e
   ·rename_i hw
    exact ⟨v, hb, Classical.not_not.1 fun k => hl (.inr k), fun k => hw (.inl k), fun k => hw (.inr k)⟩
theorem PlanOk.zero {h : HouseR} {c : SheetR} {G : List Int} (p : PlanOk h c G) : mdE h c G = 0 := by
 unfold mdE stE
 rw [if_neg p.fit, if_neg (fun k => k.elim (fun k => k (Dz ..)) fun k => k p.man), if_neg (fun k => k.elim p.len p.given)]
theorem PlanOk.st {h : HouseR} {c : SheetR} {G : List Int} (p : PlanOk h c G) (i : Nat) : 0 <= (stL h c G).getD i 0 /\ (stL h c G).getD i 0 <= 257698037760 := by
 have h60 := p.v.2.1
 by_cases hi : i < c.cues.length
 ·have := Iv p.v.lk p.len p.given c.cues.length i hi
  unfold stL
  omega
 ·rw [List.getD_eq_getElem?_getD, List.getElem?_eq_none (by rw [Gp];omega)]
  simp
theorem PlanOk.ln {h : HouseR} {c : SheetR} {G : List Int} (p : PlanOk h c G) (i : Nat) : 0 <= (Cs h c).getD i 0 /\ (Cs h c).getD i 0 <= 2147483648 := E3 p.len i
def Ib (h : HouseR) (c : SheetR) (G : List Int) (i : Nat) : Int := (stL h c G).getD i 0 + (Cs h c).getD i 0
def Dc (h : HouseR) (c : SheetR) (G : List Int) (n : Nat) : List Int := (List.range n).map (Ib h c G)
abbrev Cr (h : HouseR) (c : SheetR) (G : List Int) : List Int := Dc h c G c.cues.length
theorem Fg (h : HouseR) (c : SheetR) (G : List Int) (n : Nat) : (Dc h c G n).length = n := by simp [Dc]
theorem Mo (h : HouseR) (c : SheetR) (G : List Int) (n : Nat) : Dc h c G (n + 1) = Dc h c G n ++ [Ib h c G n] := by simp [Dc, List.range_succ]
def mxL : List Int -> Int
 | [] => 0
 | x :: xs => xs.foldl max x
def M2 (h : HouseR) (c : SheetR) (G : List Int) : Int := mxL (Cr h c G ++ [0])
end Go.Proofs.YtlapbaiejnaeiaaGreatDoor
