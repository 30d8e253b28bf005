/- Plain: the order and the starts of the cues of a valid sheet. No conditions but those of each statement. -/
import Derived.Test.YtcbfnkgodiaiiaaGreatPa
import Derived.Test.YtcbfnkgodiaiiaaGreatMn
import Derived.Test.YtcbfnkgodiaiiaaGreatMs
import Derived.Test.YtcbfnkgodiaiiaaGreatNk
set_option linter.unusedSimpArgs false
set_option linter.unusedVariables false
namespace Go.Proofs.YtcbfnkgodiaiiaaGreat
open Go Go.RowKit
def Bi (l : List CueR) : Nat := (l.filter fun q => q.link = 1).length
theorem Uv (l : List CueR) (q : CueR) : Bi (l ++ [q]) = Bi l + (if q.link = 1 then 1 else 0) := by
 unfold Bi
 rw [List.filter_append, List.length_append]
 by_cases h : q.link = 1 <;> simp [h]
theorem H7 {l : List CueR} {k : Nat} {q : CueR} (hq : l[k]? = some q) (h : q.link = 1) : Bi (l.take (k + 1)) = Bi (l.take k) + 1 := by rw [Bn hq, Uv, if_pos h]
theorem Jp {l : List CueR} {k : Nat} {q : CueR} (hq : l[k]? = some q) (h : ¬ q.link = 1) : Bi (l.take (k + 1)) = Bi (l.take k) := by rw [Bn hq, Uv, if_neg h];rfl
theorem Jv (l : List CueR) : Bi l <= l.length := List.length_filter_le _ _
theorem A48 (l : List CueR) {a b : Nat} (h : a <= b) : Bi (l.take a) <= Bi (l.take b) := by
 rw [show l.take a = (l.take b).take a by rw [List.take_take, Nat.min_eq_left h]]
 unfold Bi
 exact ((List.take_sublist a (l.take b)).filter _).length_le
theorem U2 {l : List CueR} {k : Nat} {q : CueR} (hq : l[k]? = some q) (h : q.link = 1) : Bi (l.take k) < Bi l := by
 have h1 := H7 hq h
 have hk := (List.getElem?_eq_some_iff.1 hq).1
 have h2 := A48 l (show k + 1 <= l.length by omega)
 rw [List.take_length] at h2
 omega
def Fi (l : List CueR) (q : CueR) : Nat := (Cn l q.after).toNat
def hgI (l : List CueR) (q : CueR) : Int := if q.link = 1 then -1 else Cn l q.after
def hgL (l : List CueR) : List Int := l.map (hgI l)
structure LkQ (l : List CueR) (k : Nat) (q : CueR) : Prop where
 name : F0 q.name = true
 self : Cn l q.name = (k : Int)
 delay : 0 <= q.delay /\ q.delay <= 2147483648
 link : 1 <= q.link /\ q.link <= 3
 man : q.link = 1 -> q.after = ⟨#[]⟩
 aft : ¬ q.link = 1 -> Cn l q.after = (Fi l q : Int) /\ Fi l q < k
def LkP (l : List CueR) : Prop := ∀ k q, l[k]? = some q -> LkQ l k q
theorem validP.lk {h : HouseR} {c : SheetR} (v : validP h c) : LkP c.cues := fun k q hq => by
 obtain ⟨_, hr, hn, h1, h2⟩ := v.2.2.1 k q hq
 refine ⟨hr.1, (Nn (p := fun x : CueR => x.name = q.name) hq rfl).2 hn, hr.2.2.1, hr.2.1, h1, fun hl => ?_⟩
 obtain ⟨y, hy, e⟩ := h2 hl
 have hi : 0 <= Cn c.cues q.after /\ Cn c.cues q.after < (k : Nat) := idx_lt_iff.2 ⟨y, hy, e⟩
 unfold Fi
 omega
def fsV (l : List CueR) (G : List Int) (k : Nat) : Int := match l[k]? with | some q => if q.link = 1 then G.getD (Bi (l.take k)) 0 + q.delay else 0 | none => 0
def fsK (l : List CueR) (G : List Int) (k : Nat) : List Int := (List.range k).map (fsV l G)
theorem Q7 (l : List CueR) (G : List Int) (k : Nat) : (fsK l G k).length = k := by simp [fsK]
theorem Xp (l : List CueR) (G : List Int) (k : Nat) : fsK l G (k + 1) = fsK l G k ++ [fsV l G k] := by simp [fsK, List.range_succ]
def stV (l : List CueR) (L G S : List Int) (k : Nat) : Int := match l[k]? with
 | some q => if q.link = 1 then G.getD (Bi (l.take k)) 0 + q.delay else if q.link = 2 then S.getD (Fi l q) 0 + q.delay + L.getD (Fi l q) 0 else S.getD (Fi l q) 0 + q.delay
 | none => 0
def stK (l : List CueR) (L G : List Int) : Nat -> List Int
 | 0 => []
 | k + 1 => stK l L G k ++ [stV l L G (stK l L G k) k]
theorem Dk (l : List CueR) (L G : List Int) : ∀ k, (stK l L G k).length = k
 | 0 => rfl
 | k + 1 => by rw [stK, List.length_append, Dk l L G k];rfl
theorem A0p (l : List CueR) (L G : List Int) {j k : Nat} (h : j < k) : (stK l L G k)[j]? = some (stV l L G (stK l L G j) j) := by
 induction k with
 | zero => omega
 | succ k ih =>
  rw [stK]
  by_cases e : j = k
  ·subst e
   rw [List.getElem?_append_right (by rw [Dk];omega), Dk, Nat.sub_self];rfl
  ·rw [List.getElem?_append_left (by rw [Dk];omega)]
   exact ih (by omega)
def Ek (n : Int) : Prop := ¬ (0 <= n /\ n <= 2147483648)
instance (n : Int) : Decidable (Ek n) := by unfold Ek;exact inferInstance
def Fq (l : List Int) : Prop := ∃ x ∈ l, Ek x
noncomputable instance (l : List Int) : Decidable (Fq l) := Classical.propDecidable _
noncomputable def stE (l : List CueR) (L G : List Int) : Int := if L.length ≠ l.length \/ G.length ≠ Bi l then 3 else if Fq L \/ Fq G then 2 else 0
theorem I4 {l : List Int} (h : ¬ Fq l) (i : Nat) : 0 <= l.getD i 0 /\ l.getD i 0 <= 2147483648 := by
 rw [List.getD_eq_getElem?_getD]
 cases e : l[i]? with
 | none => simp
 | some x =>
  have : ¬ Ek x := fun hw => h ⟨x, List.mem_of_getElem? e, hw⟩
  unfold Ek at this
  exact Classical.not_not.1 this
theorem A4c {l : List CueR} {L G S : List Int} {k : Nat} (hl : LkP l) (hL : ¬ Fq L) (hG : ¬ Fq G) (hS : ∀ j, j < k -> 0 <= S.getD j 0 /\ S.getD j 0 <= (k : Int) * 4294967296) : 0 <= stV l L G S k /\ stV l L G S k <= ((k : Int) + 1) * 4294967296 := by
 unfold stV
 cases e : l[k]? with
 | none => dsimp only;omega
 | some q =>
  obtain ⟨_, _, hd, _, _, ha⟩ := hl k q e
  dsimp only
  have g1 := I4 hG (Bi (l.take k))
  have g2 := I4 hL (Fi l q)
  split
  ·omega
  ·rename_i hm
   obtain ⟨_, a2⟩ := ha hm
   have := hS _ a2
   split <;> omega
theorem O2 {l : List CueR} {L G : List Int} (hl : LkP l) (hL : ¬ Fq L) (hG : ¬ Fq G) : ∀ k j, j < k -> 0 <= (stK l L G k).getD j 0 /\ (stK l L G k).getD j 0 <= (k : Int) * 4294967296
 | 0, j, h => by omega
 | k + 1, j, h => by
  have ih := O2 hl hL hG k
  have hb := A4c hl hL hG ih
  rw [stK, List.getD_eq_getElem?_getD]
  by_cases e : j = k
  ·subst e
   rw [List.getElem?_append_right (by rw [Dk];omega), Dk, Nat.sub_self]
   simp only [List.getElem?_cons_zero, Option.getD_some]
   omega
  ·rw [List.getElem?_append_left (by rw [Dk];omega), <- List.getD_eq_getElem?_getD]
   have := ih j (by omega)
   omega
def Ej (l : List CueR) (L G : List Int) (k : Nat) : List Int := stK l L G k ++ (fsK l G l.length).drop k
theorem Ab4 (l : List CueR) (G : List Int) {j k : Nat} (h : j < k) : (fsK l G k)[j]? = some (fsV l G j) := by
 unfold fsK
 rw [List.getElem?_map, List.getElem?_range h];rfl
theorem A89 (l : List CueR) (L G : List Int) {k : Nat} (h : k <= l.length) : (Ej l L G k).length = l.length := by
 unfold Ej
 rw [List.length_append, Dk, List.length_drop, Q7];omega
theorem V1 (l : List CueR) (L G : List Int) {k : Nat} (h : k < l.length) : Ej l L G k = stK l L G k ++ fsV l G k :: (fsK l G l.length).drop (k + 1) := by
 unfold Ej
 have := Ab4 l G h
 rw [List.getElem?_eq_some_iff] at this
 obtain ⟨h1, h2⟩ := this
 rw [List.drop_eq_getElem_cons h1, h2]
theorem Pg {α : Type} (A B : List α) (x y : α) {n : Nat} (h : A.length = n) : (A ++ x :: B).set n y = A ++ y :: B := by
 subst h
 rw [List.set_append_right _ _ (Nat.le_refl _), Nat.sub_self];rfl
theorem A7p (l : List CueR) (L G : List Int) {k : Nat} (h : k < l.length) : (Ej l L G k).set k (stV l L G (stK l L G k) k) = Ej l L G (k + 1) := by
 rw [V1 l L G h, Pg _ _ _ _ (Dk l L G k)]
 unfold Ej
 rw [stK, List.append_assoc];rfl
theorem A9n {l : List CueR} {L G : List Int} {k : Nat} {q : CueR} (hq : l[k]? = some q) (hm : q.link = 1) : Ej l L G (k + 1) = Ej l L G k := by
 have h := (List.getElem?_eq_some_iff.1 hq).1
 rw [V1 l L G h]
 unfold Ej
 have h1 : stV l L G (stK l L G k) k = fsV l G k := by unfold stV fsV;rw [hq];simp only [hm, if_true]
 rw [stK, h1, List.append_assoc];rfl
theorem A4q (l : List CueR) (L G : List Int) : Ej l L G l.length = stK l L G l.length := by
 unfold Ej
 rw [List.drop_of_length_le (by rw [Q7];exact Nat.le_refl _), List.append_nil]
theorem Abv {l : List CueR} {L G : List Int} {j k : Nat} (h : j < k) : (Ej l L G k)[j]? = some ((stK l L G k).getD j 0) := by
 unfold Ej
 rw [List.getElem?_append_left (by rw [Dk];exact h), A0p l L G h, List.getD_eq_getElem?_getD, A0p l L G h];rfl
def H8 (l : List CueR) (G : List Int) (k : Nat) : List Int := fsK l G k ++ List.replicate (l.length - k) 0
theorem A8h (l : List CueR) (G : List Int) {k : Nat} (h : k <= l.length) : (H8 l G k).length = l.length := by
 unfold H8
 rw [List.length_append, Q7, List.length_replicate];omega
theorem W5 (l : List CueR) (G : List Int) {k : Nat} (h : k < l.length) : H8 l G k = fsK l G k ++ 0 :: List.replicate (l.length - (k + 1)) 0 := by
 unfold H8
 rw [show l.length - k = (l.length - (k + 1)) + 1 by omega, List.replicate_succ]
theorem A83 {l : List CueR} {G : List Int} {k : Nat} {q : CueR} (hq : l[k]? = some q) (hm : q.link = 1) : (H8 l G k).set k (G.getD (Bi (l.take k)) 0 + q.delay) = H8 l G (k + 1) := by
 rw [W5 l G (List.getElem?_eq_some_iff.1 hq).1, Pg _ _ _ _ (Q7 l G k)]
 unfold H8
 rw [Xp, List.append_assoc, show fsV l G k = G.getD (Bi (l.take k)) 0 + q.delay by unfold fsV;rw [hq];simp only [hm, if_true]]
 rfl
theorem Abj {l : List CueR} {G : List Int} {k : Nat} {q : CueR} (hq : l[k]? = some q) (hm : ¬ q.link = 1) : H8 l G (k + 1) = H8 l G k := by
 rw [W5 l G (List.getElem?_eq_some_iff.1 hq).1]
 unfold H8
 rw [Xp, List.append_assoc, show fsV l G k = 0 by unfold fsV;rw [hq];simp only [hm, if_false]]
 rfl
theorem A6s (l : List CueR) (L G : List Int) : H8 l G l.length = Ej l L G 0 := by
 unfold H8 Ej
 rw [Nat.sub_self]
 simp [stK]
def Ik (n k : Nat) : List Bool := List.replicate k true ++ List.replicate (n - k) false
theorem Nm {n k : Nat} (h : k < n) : (Ik n k).set k true = Ik n (k + 1) := by
 unfold Ik
 rw [show n - k = (n - (k + 1)) + 1 by omega, List.replicate_succ, Pg _ _ _ _ (List.length_replicate ..), List.replicate_succ', List.append_assoc];rfl
theorem X3 {n k j : Nat} (h : j < k) : (Ik n k)[j]? = some true := by
 unfold Ik
 rw [List.getElem?_append_left (by rw [List.length_replicate];exact h), List.getElem?_replicate, if_pos h]
theorem Ab7 {n k : Nat} (h : k < n) : (Ik n k)[k]? = some false := by
 unfold Ik
 rw [List.getElem?_append_right (by rw [List.length_replicate];exact Nat.le_refl _), List.length_replicate, Nat.sub_self, List.getElem?_replicate, if_pos (by omega)]
theorem A8b {n k : Nat} (h : k <= n) : (Ik n k).length = n := by
 unfold Ik
 rw [List.length_append, List.length_replicate, List.length_replicate];omega
def Cm (d : Int) (m : MoveR) : List PcQ := if (Gy d m).num = 0 then [⟨0, 0, 0, A8 m.rise 2⟩, ⟨Cw d m, Je d m, ((An d m : Int) : Rat), A8 (-m.fall) 2⟩, ⟨Dv d m, (d : Rat), 0, 0⟩] else [⟨0, 0, 0, A8 m.rise 2⟩, ⟨Dm d m, Fo d m, ((An d m : Int) : Rat), 0⟩, ⟨Cw d m, Je d m, ((An d m : Int) : Rat), A8 (-m.fall) 2⟩, ⟨Dv d m, (d : Rat), 0, 0⟩]
theorem A2w (d : Int) (m : MoveR) : (Cm d m).map PcQ.row = Ki d m := by unfold Cm Ki;split <;> rfl
theorem Sw (d : Int) (m : MoveR) : (Cm d m).length <= 4 := by unfold Cm;split <;> simp
theorem A2b {d : Int} {m : MoveR} (hm : D8 m) (hd : 1 <= d /\ d <= 1048576) : okC (Cm d m) := by
 have K := Kk hm hd
 have z : Fits (0 : Rat) := Ct (n := 0) (by omega) (by omega)
 have t : Fits ((An d m : Int) : Rat) := Ct (by have := K.w;omega) (by have := K.w;omega)
 have e : Fits (d : Rat) := Ct (by omega) (by omega)
 intro p hp
 unfold Cm at hp
 split at hp
 ·simp only [List.mem_cons, List.not_mem_nil, or_false] at hp
  rcases hp with rfl | rfl | rfl
  ·exact ⟨z, z, z, K.half⟩
  ·exact ⟨K.stop, K.top, t, K.halfF⟩
  ·exact ⟨K.fin, e, z, z⟩
 ·simp only [List.mem_cons, List.not_mem_nil, or_false] at hp
  rcases hp with rfl | rfl | rfl | rfl
  ·exact ⟨z, z, z, K.half⟩
  ·exact ⟨K.start, K.rise, t, z⟩
  ·exact ⟨K.stop, K.top, t, K.halfF⟩
  ·exact ⟨K.fin, e, z, z⟩
/-! ### Lengths, starts, ends -/
def A8t (h : HouseR) (c : SheetR) (k : Nat) : Rat := match c.cues[k]? with | some q => D9 h (Ax h c k) q.moves | none => 0
theorem A1l {h : HouseR} {c : SheetR} {k : Nat} {q : CueR} (hq : c.cues[k]? = some q) : A8t h c k = D9 h (Ax h c k) q.moves := by unfold A8t;rw [hq]
def msQ (h : HouseR) (c : SheetR) (k : Nat) : Rat := 1000 * A8t h c k
def upI (q : Rat) : Int := -(-q.num / q.den)
def msI (h : HouseR) (c : SheetR) (k : Nat) : Int := upI (msQ h c k)
def Uo (h : HouseR) (c : SheetR) : Prop := ∃ k, k < c.cues.length /\ ¬ Fits (msQ h c k)
noncomputable instance (h : HouseR) (c : SheetR) : Decidable (Uo h c) := Classical.propDecidable _
def F1 (h : HouseR) (c : SheetR) (n : Nat) : List Int := (List.range n).map (msI h c)
theorem E9 (h : HouseR) (c : SheetR) (n : Nat) : (F1 h c n).length = n := by simp [F1]
theorem A2n (h : HouseR) (c : SheetR) (n : Nat) : F1 h c (n + 1) = F1 h c n ++ [msI h c n] := by simp [F1, List.range_succ]
theorem A5n (h : HouseR) (c : SheetR) {j n : Nat} (hj : j < n) : (F1 h c n)[j]? = some (msI h c j) := by
 unfold F1
 rw [List.getElem?_map, List.getElem?_range hj];rfl
abbrev Br (h : HouseR) (c : SheetR) : List Int := F1 h c c.cues.length
noncomputable def mdE (h : HouseR) (c : SheetR) (G : List Int) : Int := if Uo h c then 5 else stE c.cues (Br h c) G
def stL (h : HouseR) (c : SheetR) (G : List Int) : List Int := stK c.cues (Br h c) G c.cues.length
theorem Dg (h : HouseR) (c : SheetR) (G : List Int) : (stL h c G).length = c.cues.length := Dk _ _ _ _
structure PlanOk (h : HouseR) (c : SheetR) (G : List Int) : Prop where
 v : validP h c
 fit : ¬ Uo h c
 man : G.length = Bi c.cues
 len : ¬ Fq (Br h c)
 given : ¬ Fq G
theorem A40 {h : HouseR} {c : SheetR} {G : List Int} (v : validP h c) (e : mdE h c G = 0) : PlanOk h c G := by
 unfold mdE at e
 split at e
 ·cases e
 ·rename_i hb
  unfold stE at e
  split at e
  ·cases e
  ·rename_i hl
   split at e
   ·cases e
   ·rename_i hw
    exact ⟨v, hb, Classical.not_not.1 fun k => hl (.inr k), fun k => hw (.inl k), fun k => hw (.inr k)⟩
theorem PlanOk.zero {h : HouseR} {c : SheetR} {G : List Int} (p : PlanOk h c G) : mdE h c G = 0 := by
 unfold mdE stE
 rw [if_neg p.fit, if_neg (fun k => k.elim (fun k => k (E9 ..)) fun k => k p.man), if_neg (fun k => k.elim p.len p.given)]
theorem PlanOk.st {h : HouseR} {c : SheetR} {G : List Int} (p : PlanOk h c G) (i : Nat) : 0 <= (stL h c G).getD i 0 /\ (stL h c G).getD i 0 <= 257698037760 := by
 have h60 := p.v.2.1
 by_cases hi : i < c.cues.length
 ·have := O2 p.v.lk p.len p.given c.cues.length i hi
  unfold stL
  omega
 ·rw [List.getD_eq_getElem?_getD, List.getElem?_eq_none (by rw [Dg];omega)]
  simp
theorem PlanOk.ln {h : HouseR} {c : SheetR} {G : List Int} (p : PlanOk h c G) (i : Nat) : 0 <= (Br h c).getD i 0 /\ (Br h c).getD i 0 <= 2147483648 := I4 p.len i
def G7 (h : HouseR) (c : SheetR) (G : List Int) (i : Nat) : Int := (stL h c G).getD i 0 + (Br h c).getD i 0
def Dn (h : HouseR) (c : SheetR) (G : List Int) (n : Nat) : List Int := (List.range n).map (G7 h c G)
abbrev Dl (h : HouseR) (c : SheetR) (G : List Int) : List Int := Dn h c G c.cues.length
theorem H2 (h : HouseR) (c : SheetR) (G : List Int) (n : Nat) : (Dn h c G n).length = n := by simp [Dn]
theorem Ob (h : HouseR) (c : SheetR) (G : List Int) (n : Nat) : Dn h c G (n + 1) = Dn h c G n ++ [G7 h c G n] := by simp [Dn, List.range_succ]
theorem PlanOk.end_ {h : HouseR} {c : SheetR} {G : List Int} (p : PlanOk h c G) (i : Nat) : 0 <= G7 h c G i /\ G7 h c G i <= 259845521408 := by
 have := p.st i
 have := p.ln i
 unfold G7
 omega
def mxL : List Int -> Int
 | [] => 0
 | x :: xs => xs.foldl max x
theorem L5 {B : Int} : ∀ (l : List Int) (a : Int), (0 <= a /\ a <= B) -> (∀ x ∈ l, 0 <= x /\ x <= B) -> 0 <= l.foldl max a /\ l.foldl max a <= B
 | [], a, h, _ => h
 | x :: xs, a, h, hl => L5 xs (max a x) (by have := hl x (by simp);omega) fun y hy => hl y (by simp [hy])
theorem A4u {l : List Int} {B : Int} (hB : 0 <= B) (h : ∀ x ∈ l, 0 <= x /\ x <= B) : 0 <= mxL l /\ mxL l <= B := by
 cases l with
 | nil => exact ⟨Int.le_refl _, hB⟩
 | cons x xs => exact L5 xs x (h x (by simp)) fun y hy => h y (by simp [hy])
def endI (h : HouseR) (c : SheetR) (G : List Int) : Int := mxL (Dl h c G ++ [0])
theorem PlanOk.endI {h : HouseR} {c : SheetR} {G : List Int} (p : PlanOk h c G) : 0 <= endI h c G /\ endI h c G <= 259845521408 := by
 refine A4u (by omega) fun x hx => ?_
 rcases List.mem_append.1 hx with hx | hx
 ·obtain ⟨i, _, rfl⟩ := List.mem_map.1 hx
  exact p.end_ i
 ·obtain rfl := List.mem_singleton.1 hx
  omega
/-! ### The order of a sheet -/
def mvI (q : CueR) (s : ByteArray) : Int := idx (fun m : MoveR => m.set = s) q.moves
def mvO (q : CueR) (s : ByteArray) : Option MoveR := if mvI q s < 0 then none else q.moves[(mvI q s).toNat]?
theorem A1j {q : CueR} {s : ByteArray} {m : MoveR} (h : mvO q s = some m) : m ∈ q.moves := by
 unfold mvO at h
 split at h
 ·cases h
 ·exact List.mem_of_getElem? h
def Mj (c : SheetR) (S L : List Int) (i k : Nat) (q r : CueR) (m : MoveR) : Prop := (mvO r m.set).isSome = true -> S.getD k 0 + L.getD k 0 <= S.getD i 0
def Ig (c : SheetR) (S L : List Int) : Prop := ∀ i q, c.cues[i]? = some q -> ∀ k r, k < i -> c.cues[k]? = some r -> ∀ m ∈ q.moves, Mj c S L i k q r m
noncomputable instance (c : SheetR) (S L : List Int) : Decidable (Ig c S L) := Classical.propDecidable _
/-! ### Paths -/
def Ag (s z : Int) (up : Prop) [Decidable up] (x : PcQ) : PcQ := if up then ⟨A8 s 1000 + x.f, (z : Rat) + x.a, x.b, x.c⟩ else ⟨A8 s 1000 + x.f, (z : Rat) - x.a, -x.b, -x.c⟩
def G6 (s z : Int) (m : MoveR) : List PcQ := if m.to = z then [] else (Cm (max (m.to - z) (z - m.to)) m).map (Ag s z (z < m.to))
def C5 (h : HouseR) (c : SheetR) (S : List Int) (k : Nat) (n : ByteArray) (i : Nat) : List PcQ := match c.cues[i]? with
 | some q => (match mvO q n with | some m => G6 (S.getD i 0) ((Ax h c i).getD k 0) m | none => [])
 | none => []
def Ar (o : List PcQ) (y : PcQ) : List PcQ := if (o.getLastD default).f = y.f then o.dropLast ++ [y] else o ++ [y]
theorem E4 (A : List PcQ) (l y : PcQ) (h : l.f = y.f) : Ar (A ++ [l]) y = A ++ [y] := by simp [Ar, h]
theorem Ef (A : List PcQ) (l y : PcQ) (h : ¬ l.f = y.f) : Ar (A ++ [l]) y = (A ++ [l]) ++ [y] := by simp [Ar, h]
theorem Aa4 (o : List PcQ) (y : PcQ) : Ar o y ≠ [] := by unfold Ar;split <;> simp
theorem A4k (o : List PcQ) (y : PcQ) : (Ar o y).length <= o.length + 1 := by unfold Ar;split <;> simp <;> omega
theorem A9p {o : List PcQ} {y : PcQ} (ho : okC o) (hy : y.ok) : okC (Ar o y) := fun p hp => by
 unfold Ar at hp
 split at hp
 ·rcases List.mem_append.1 hp with h | h
  ·exact ho p (List.dropLast_subset _ h)
  ·obtain rfl := List.mem_singleton.1 h;exact hy
 ·rcases List.mem_append.1 hp with h | h
  ·exact ho p h
  ·obtain rfl := List.mem_singleton.1 h;exact hy
theorem Rm : ∀ (l : List PcQ) (o : List PcQ), o ≠ [] -> l.foldl Ar o ≠ []
 | [], _, h => h
 | y :: l, o, _ => Rm l _ (Aa4 o y)
theorem O6 : ∀ (l : List PcQ) (o : List PcQ), (l.foldl Ar o).length <= o.length + l.length
 | [], _ => Nat.le_refl _
 | y :: l, o => by
  have := O6 l (Ar o y)
  have := A4k o y
  rw [List.foldl_cons, List.length_cons]
  omega
theorem Wv : ∀ (l : List PcQ) (o : List PcQ), okC o -> okC l -> okC (l.foldl Ar o)
 | [], _, h, _ => h
 | y :: l, o, h, hl => Wv l _ (A9p h (hl y (by simp))) fun p hp => hl p (by simp [hp])
def Bh (h : HouseR) (c : SheetR) (S : List Int) (k : Nat) (s : SetR) : Nat -> List PcQ
 | 0 => [⟨0, (s.high : Rat), 0, 0⟩]
 | i + 1 => (C5 h c S k s.name i).foldl Ar (Bh h c S k s i)
def U8 (h : HouseR) (c : SheetR) (S : List Int) (k : Nat) (s : SetR) : Prop := ∃ i, i < c.cues.length /\ ¬ okC (C5 h c S k s.name i)
noncomputable instance (h : HouseR) (c : SheetR) (S : List Int) (k : Nat) (s : SetR) : Decidable (U8 h c S k s) := Classical.propDecidable _
def Db (h : HouseR) (c : SheetR) (S : List Int) (k : Nat) (s : SetR) : List PcQ := Bh h c S k s c.cues.length
noncomputable def Fh (h : HouseR) (c : SheetR) (S : List Int) (k : Nat) (s : SetR) : Int := if U8 h c S k s then 5 else if 200 < (Db h c S k s).length then 4 else 0
theorem Uh (h : HouseR) (c : SheetR) (S : List Int) (k : Nat) (s : SetR) : ∀ i, Bh h c S k s i ≠ []
 | 0 => by simp [Bh]
 | i + 1 => Rm _ _ (Uh h c S k s i)
theorem Aab (h : HouseR) (c : SheetR) (S : List Int) (k : Nat) (n : ByteArray) (i : Nat) : (C5 h c S k n i).length <= 4 := by
 unfold C5
 split
 ·split
  ·unfold G6
   split
   ·simp
   ·rw [List.length_map];exact Sw _ _
  ·simp
 ·simp
theorem Rr (h : HouseR) (c : SheetR) (S : List Int) (k : Nat) (s : SetR) : ∀ i, (Bh h c S k s i).length <= 4 * i + 1
 | 0 => by simp [Bh]
 | i + 1 => by
  have := Rr h c S k s i
  have := O6 (C5 h c S k s.name i) (Bh h c S k s i)
  have := Aab h c S k s.name i
  rw [Bh]
  omega
theorem A0x {h : HouseR} {c : SheetR} {S : List Int} {k : Nat} {s : SetR} (hs : Fits (s.high : Rat)) (hb : ¬ U8 h c S k s) : ∀ i, i <= c.cues.length -> okC (Bh h c S k s i)
 | 0, _ => fun p hp => by
  have z : Fits (0 : Rat) := Ct (n := 0) (by omega) (by omega)
  obtain rfl := List.mem_singleton.1 hp
  exact ⟨z, hs, z, z⟩
 | i + 1, hi => Wv _ _ (A0x hs hb i (by omega)) (Classical.not_not.1 fun hn => hb ⟨i, by omega, hn⟩)
end Go.Proofs.YtcbfnkgodiaiiaaGreat
