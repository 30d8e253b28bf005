/- Plain: the order and the starts of the cues of a valid sheet. No conditions but those of each statement. -/
import Derived.Test.YtkboebgkcjcpfaaGreatDoorPa
import Derived.Test.YtkboebgkcjcpfaaGreatDoorMn
import Derived.Test.YtkboebgkcjcpfaaGreatDoorYp
set_option linter.unusedSimpArgs false
set_option linter.unusedVariables false
namespace Go.Proofs.YtkboebgkcjcpfaaGreatDoor
open Go Go.RowKit
def Aq (l : List CueR) : Nat := (l.filter fun q => q.link = 1).length
theorem Qv (l : List CueR) (q : CueR) : Aq (l ++ [q]) = Aq l + (if q.link = 1 then 1 else 0) := by
 unfold Aq
 rw [List.filter_append, List.length_append]
 by_cases h : q.link = 1 <;> simp [h]
theorem E8 {l : List CueR} {k : Nat} {q : CueR} (hq : l[k]? = some q) (h : q.link = 1) : Aq (l.take (k + 1)) = Aq (l.take k) + 1 := by rw [Af hq, Qv, if_pos h]
theorem Fu {l : List CueR} {k : Nat} {q : CueR} (hq : l[k]? = some q) (h : ¬ q.link = 1) : Aq (l.take (k + 1)) = Aq (l.take k) := by rw [Af hq, Qv, if_neg h];rfl
theorem F9 (l : List CueR) : Aq l <= l.length := List.length_filter_le _ _
theorem Zt (l : List CueR) {a b : Nat} (h : a <= b) : Aq (l.take a) <= Aq (l.take b) := by
 rw [show l.take a = (l.take b).take a by rw [List.take_take, Nat.min_eq_left h]]
 unfold Aq
 exact ((List.take_sublist a (l.take b)).filter _).length_le
theorem Vt {l : List CueR} {k : Nat} {q : CueR} (hq : l[k]? = some q) (h : q.link = 1) : Aq (l.take k) < Aq l := by
 have h1 := E8 hq h
 have hk := (List.getElem?_eq_some_iff.1 hq).1
 have h2 := Zt l (show k + 1 <= l.length by omega)
 rw [List.take_length] at h2
 omega
def Bu (l : List CueR) (q : CueR) : Nat := (Az l q.after).toNat
def hgI (l : List CueR) (q : CueR) : Int := if q.link = 1 then -1 else Az l q.after
def hgL (l : List CueR) : List Int := l.map (hgI l)
structure LkQ (l : List CueR) (k : Nat) (q : CueR) : Prop where
 name : B8 q.name = true
 self : Az l q.name = (k : Int)
 delay : 0 <= q.delay /\ q.delay <= 2147483648
 link : 1 <= q.link /\ q.link <= 3
 man : q.link = 1 -> q.after = ⟨#[]⟩
 aft : ¬ q.link = 1 -> Az l q.after = (Bu l q : Int) /\ Bu l q < k
def LkP (l : List CueR) : Prop := ∀ k q, l[k]? = some q -> LkQ l k q
theorem validP.lk {h : HouseR} {c : SheetR} (v : validP h c) : LkP c.cues := fun k q hq => by
 obtain ⟨_, hr, hn, h1, h2⟩ := v.2.2.1 k q hq
 refine ⟨hr.1, (Fj (p := fun x : CueR => x.name = q.name) hq rfl).2 hn, hr.2.2.1, hr.2.1, h1, fun hl => ?_⟩
 obtain ⟨y, hy, e⟩ := h2 hl
 have hi : 0 <= Az c.cues q.after /\ Az c.cues q.after < (k : Nat) := idx_lt_iff.2 ⟨y, hy, e⟩
 unfold Bu
 omega
def fsV (l : List CueR) (G : List Int) (k : Nat) : Int := match l[k]? with | some q => if q.link = 1 then G.getD (Aq (l.take k)) 0 + q.delay else 0 | none => 0
def fsK (l : List CueR) (G : List Int) (k : Nat) : List Int := (List.range k).map (fsV l G)
theorem Lu (l : List CueR) (G : List Int) (k : Nat) : (fsK l G k).length = k := by simp [fsK]
theorem Sm (l : List CueR) (G : List Int) (k : Nat) : fsK l G (k + 1) = fsK l G k ++ [fsV l G k] := by simp [fsK, List.range_succ]
def stV (l : List CueR) (L G S : List Int) (k : Nat) : Int := match l[k]? with
 | some q => if q.link = 1 then G.getD (Aq (l.take k)) 0 + q.delay else if q.link = 2 then S.getD (Bu l q) 0 + q.delay + L.getD (Bu l q) 0 else S.getD (Bu l q) 0 + q.delay
 | none => 0
def stK (l : List CueR) (L G : List Int) : Nat -> List Int
 | 0 => []
 | k + 1 => stK l L G k ++ [stV l L G (stK l L G k) k]
theorem Bz (l : List CueR) (L G : List Int) : ∀ k, (stK l L G k).length = k
 | 0 => rfl
 | k + 1 => by rw [stK, List.length_append, Bz l L G k];rfl
theorem M4 (l : List CueR) (L G : List Int) {j k : Nat} (h : j < k) : (stK l L G k)[j]? = some (stV l L G (stK l L G j) j) := by
 induction k with
 | zero => omega
 | succ k ih =>
  rw [stK]
  by_cases e : j = k
  ·subst e
   rw [List.getElem?_append_right (by rw [Bz];omega), Bz, Nat.sub_self];rfl
  ·rw [List.getElem?_append_left (by rw [Bz];omega)]
   exact ih (by omega)
def Ck (n : Int) : Prop := ¬ (0 <= n /\ n <= 2147483648)
instance (n : Int) : Decidable (Ck n) := by unfold Ck;exact inferInstance
def Cn (l : List Int) : Prop := ∃ x ∈ l, Ck x
noncomputable instance (l : List Int) : Decidable (Cn l) := Classical.propDecidable _
noncomputable def stE (l : List CueR) (L G : List Int) : Int := if L.length ≠ l.length \/ G.length ≠ Aq l then 3 else if Cn L \/ Cn G then 2 else 0
theorem Dl {l : List Int} (h : ¬ Cn l) (i : Nat) : 0 <= l.getD i 0 /\ l.getD i 0 <= 2147483648 := by
 rw [List.getD_eq_getElem?_getD]
 cases e : l[i]? with
 | none => simp
 | some x =>
  have : ¬ Ck x := fun hw => h ⟨x, List.mem_of_getElem? e, hw⟩
  unfold Ck at this
  exact Classical.not_not.1 this
theorem A1c {l : List CueR} {L G S : List Int} {k : Nat} (hl : LkP l) (hL : ¬ Cn L) (hG : ¬ Cn G) (hS : ∀ j, j < k -> 0 <= S.getD j 0 /\ S.getD j 0 <= (k : Int) * 4294967296) : 0 <= stV l L G S k /\ stV l L G S k <= ((k : Int) + 1) * 4294967296 := by
 unfold stV
 cases e : l[k]? with
 | none => dsimp only;omega
 | some q =>
  obtain ⟨_, _, hd, _, _, ha⟩ := hl k q e
  dsimp only
  have g1 := Dl hG (Aq (l.take k))
  have g2 := Dl hL (Bu l q)
  split
  ·omega
  ·rename_i hm
   obtain ⟨_, a2⟩ := ha hm
   have := hS _ a2
   split <;> omega
theorem I3 {l : List CueR} {L G : List Int} (hl : LkP l) (hL : ¬ Cn L) (hG : ¬ Cn G) : ∀ k j, j < k -> 0 <= (stK l L G k).getD j 0 /\ (stK l L G k).getD j 0 <= (k : Int) * 4294967296
 | 0, j, h => by omega
 | k + 1, j, h => by
  have ih := I3 hl hL hG k
  have hb := A1c hl hL hG ih
  rw [stK, List.getD_eq_getElem?_getD]
  by_cases e : j = k
  ·subst e
   rw [List.getElem?_append_right (by rw [Bz];omega), Bz, Nat.sub_self]
   simp only [List.getElem?_cons_zero, Option.getD_some]
   omega
  ·rw [List.getElem?_append_left (by rw [Bz];omega), <- List.getD_eq_getElem?_getD]
   have := ih j (by omega)
   omega
def Da (l : List CueR) (L G : List Int) (k : Nat) : List Int := stK l L G k ++ (fsK l G l.length).drop k
theorem A4b (l : List CueR) (G : List Int) {j k : Nat} (h : j < k) : (fsK l G k)[j]? = some (fsV l G j) := by
 unfold fsK
 rw [List.getElem?_map, List.getElem?_range h];rfl
theorem A2y (l : List CueR) (L G : List Int) {k : Nat} (h : k <= l.length) : (Da l L G k).length = l.length := by
 unfold Da
 rw [List.length_append, Bz, List.length_drop, Lu];omega
theorem Qx (l : List CueR) (L G : List Int) {k : Nat} (h : k < l.length) : Da l L G k = stK l L G k ++ fsV l G k :: (fsK l G l.length).drop (k + 1) := by
 unfold Da
 have := A4b l G h
 rw [List.getElem?_eq_some_iff] at this
 obtain ⟨h1, h2⟩ := this
 rw [List.drop_eq_getElem_cons h1, h2]
theorem M3 {α : Type} (A B : List α) (x y : α) {n : Nat} (h : A.length = n) : (A ++ x :: B).set n y = A ++ y :: B := by
 subst h
 rw [List.set_append_right _ _ (Nat.le_refl _), Nat.sub_self];rfl
theorem A30 (l : List CueR) (L G : List Int) {k : Nat} (h : k < l.length) : (Da l L G k).set k (stV l L G (stK l L G k) k) = Da l L G (k + 1) := by
 rw [Qx l L G h, M3 _ _ _ _ (Bz l L G k)]
 unfold Da
 rw [stK, List.append_assoc];rfl
theorem A2z {l : List CueR} {L G : List Int} {k : Nat} {q : CueR} (hq : l[k]? = some q) (hm : q.link = 1) : Da l L G (k + 1) = Da l L G k := by
 have h := (List.getElem?_eq_some_iff.1 hq).1
 rw [Qx l L G h]
 unfold Da
 have h1 : stV l L G (stK l L G k) k = fsV l G k := by unfold stV fsV;rw [hq];simp only [hm, if_true]
 rw [stK, h1, List.append_assoc];rfl
theorem Zu (l : List CueR) (L G : List Int) : Da l L G l.length = stK l L G l.length := by
 unfold Da
 rw [List.drop_of_length_le (by rw [Lu];exact Nat.le_refl _), List.append_nil]
theorem A4k {l : List CueR} {L G : List Int} {j k : Nat} (h : j < k) : (Da l L G k)[j]? = some ((stK l L G k).getD j 0) := by
 unfold Da
 rw [List.getElem?_append_left (by rw [Bz];exact h), M4 l L G h, List.getD_eq_getElem?_getD, M4 l L G h];rfl
def F2 (l : List CueR) (G : List Int) (k : Nat) : List Int := fsK l G k ++ List.replicate (l.length - k) 0
theorem A2f (l : List CueR) (G : List Int) {k : Nat} (h : k <= l.length) : (F2 l G k).length = l.length := by
 unfold F2
 rw [List.length_append, Lu, List.length_replicate];omega
theorem Ql (l : List CueR) (G : List Int) {k : Nat} (h : k < l.length) : F2 l G k = fsK l G k ++ 0 :: List.replicate (l.length - (k + 1)) 0 := by
 unfold F2
 rw [show l.length - k = (l.length - (k + 1)) + 1 by omega, List.replicate_succ]
theorem A2g {l : List CueR} {G : List Int} {k : Nat} {q : CueR} (hq : l[k]? = some q) (hm : q.link = 1) : (F2 l G k).set k (G.getD (Aq (l.take k)) 0 + q.delay) = F2 l G (k + 1) := by
 rw [Ql l G (List.getElem?_eq_some_iff.1 hq).1, M3 _ _ _ _ (Lu l G k)]
 unfold F2
 rw [Sm, List.append_assoc, show fsV l G k = G.getD (Aq (l.take k)) 0 + q.delay by unfold fsV;rw [hq];simp only [hm, if_true]]
 rfl
theorem A4c {l : List CueR} {G : List Int} {k : Nat} {q : CueR} (hq : l[k]? = some q) (hm : ¬ q.link = 1) : F2 l G (k + 1) = F2 l G k := by
 rw [Ql l G (List.getElem?_eq_some_iff.1 hq).1]
 unfold F2
 rw [Sm, List.append_assoc, show fsV l G k = 0 by unfold fsV;rw [hq];simp only [hm, if_false]]
 rfl
theorem Z5 (l : List CueR) (L G : List Int) : F2 l G l.length = Da l L G 0 := by
 unfold F2 Da
 rw [Nat.sub_self]
 simp [stK]
def Cd (n k : Nat) : List Bool := List.replicate k true ++ List.replicate (n - k) false
theorem Fq {n k : Nat} (h : k < n) : (Cd n k).set k true = Cd n (k + 1) := by
 unfold Cd
 rw [show n - k = (n - (k + 1)) + 1 by omega, List.replicate_succ, M3 _ _ _ _ (List.length_replicate ..), List.replicate_succ', List.append_assoc];rfl
theorem F1 {n k j : Nat} (h : j < k) : (Cd n k)[j]? = some true := by
 unfold Cd
 rw [List.getElem?_append_left (by rw [List.length_replicate];exact h), List.getElem?_replicate, if_pos h]
theorem A48 {n k : Nat} (h : k < n) : (Cd n k)[k]? = some false := by
 unfold Cd
 rw [List.getElem?_append_right (by rw [List.length_replicate];exact Nat.le_refl _), List.length_replicate, Nat.sub_self, List.getElem?_replicate, if_pos (by omega)]
theorem Sg {n k : Nat} (h : k <= n) : (Cd n k).length = n := by
 unfold Cd
 rw [List.length_append, List.length_replicate, List.length_replicate];omega
/-! ### Lengths, starts, ends -/
def A2t (h : HouseR) (c : SheetR) (k : Nat) : Rat := match c.cues[k]? with | some q => Bb h (Bs h c k) q.moves | none => 0
theorem Pq {h : HouseR} {c : SheetR} {k : Nat} {q : CueR} (hq : c.cues[k]? = some q) : A2t h c k = Bb h (Bs h c k) q.moves := by unfold A2t;rw [hq]
def msQ (h : HouseR) (c : SheetR) (k : Nat) : Rat := 1000 * A2t h c k
def upI (q : Rat) : Int := -(-q.num / q.den)
def msI (h : HouseR) (c : SheetR) (k : Nat) : Int := upI (msQ h c k)
def Mx (h : HouseR) (c : SheetR) : Prop := ∃ k, k < c.cues.length /\ ¬ Fits (msQ h c k)
noncomputable instance (h : HouseR) (c : SheetR) : Decidable (Mx h c) := Classical.propDecidable _
def Cm (h : HouseR) (c : SheetR) (n : Nat) : List Int := (List.range n).map (msI h c)
theorem Cb (h : HouseR) (c : SheetR) (n : Nat) : (Cm h c n).length = n := by simp [Cm]
theorem Oa (h : HouseR) (c : SheetR) (n : Nat) : Cm h c (n + 1) = Cm h c n ++ [msI h c n] := by simp [Cm, List.range_succ]
abbrev B6 (h : HouseR) (c : SheetR) : List Int := Cm h c c.cues.length
noncomputable def mdE (h : HouseR) (c : SheetR) (G : List Int) : Int := if Mx h c then 5 else stE c.cues (B6 h c) G
def stL (h : HouseR) (c : SheetR) (G : List Int) : List Int := stK c.cues (B6 h c) G c.cues.length
theorem Gz (h : HouseR) (c : SheetR) (G : List Int) : (stL h c G).length = c.cues.length := Bz _ _ _ _
structure PlanOk (h : HouseR) (c : SheetR) (G : List Int) : Prop where
 v : validP h c
 fit : ¬ Mx h c
 man : G.length = Aq c.cues
 len : ¬ Cn (B6 h c)
 given : ¬ Cn G
theorem A02 {h : HouseR} {c : SheetR} {G : List Int} (v : validP h c) (e : mdE h c G = 0) : PlanOk h c G := by
 unfold mdE at e
 split at e
 ·cases e
 ·rename_i hb
  unfold stE at e
  split at e
  ·cases e
  ·rename_i hl
   split at e
   ·cases e
   ·rename_i hw
    exact ⟨v, hb, Classical.not_not.1 fun k => hl (.inr k), fun k => hw (.inl k), fun k => hw (.inr k)⟩
theorem PlanOk.zero {h : HouseR} {c : SheetR} {G : List Int} (p : PlanOk h c G) : mdE h c G = 0 := by
 unfold mdE stE
 rw [if_neg p.fit, if_neg (fun k => k.elim (fun k => k (Cb ..)) fun k => k p.man), if_neg (fun k => k.elim p.len p.given)]
theorem PlanOk.st {h : HouseR} {c : SheetR} {G : List Int} (p : PlanOk h c G) (i : Nat) : 0 <= (stL h c G).getD i 0 /\ (stL h c G).getD i 0 <= 257698037760 := by
 have h60 := p.v.2.1
 by_cases hi : i < c.cues.length
 ·have := I3 p.v.lk p.len p.given c.cues.length i hi
  unfold stL
  omega
 ·rw [List.getD_eq_getElem?_getD, List.getElem?_eq_none (by rw [Gz];omega)]
  simp
theorem PlanOk.ln {h : HouseR} {c : SheetR} {G : List Int} (p : PlanOk h c G) (i : Nat) : 0 <= (B6 h c).getD i 0 /\ (B6 h c).getD i 0 <= 2147483648 := Dl p.len i
def D5 (h : HouseR) (c : SheetR) (G : List Int) (i : Nat) : Int := (stL h c G).getD i 0 + (B6 h c).getD i 0
def Fs (h : HouseR) (c : SheetR) (G : List Int) (n : Nat) : List Int := (List.range n).map (D5 h c G)
abbrev Di (h : HouseR) (c : SheetR) (G : List Int) : List Int := Fs h c G c.cues.length
theorem J7 (h : HouseR) (c : SheetR) (G : List Int) (n : Nat) : (Fs h c G n).length = n := by simp [Fs]
theorem Z0 (h : HouseR) (c : SheetR) (G : List Int) (n : Nat) : Fs h c G (n + 1) = Fs h c G n ++ [D5 h c G n] := by simp [Fs, List.range_succ]
theorem PlanOk.end_ {h : HouseR} {c : SheetR} {G : List Int} (p : PlanOk h c G) (i : Nat) : 0 <= D5 h c G i /\ D5 h c G i <= 259845521408 := by
 have := p.st i
 have := p.ln i
 unfold D5
 omega
end Go.Proofs.YtkboebgkcjcpfaaGreatDoor
