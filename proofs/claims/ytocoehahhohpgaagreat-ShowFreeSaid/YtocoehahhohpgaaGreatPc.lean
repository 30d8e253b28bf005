/- Plain: the order and the starts of the cues of a valid sheet. No conditions but those of each statement. -/
import Derived.Test.YtocoehahhohpgaaGreatPa
import Derived.Test.YtocoehahhohpgaaGreatMn
import Derived.Test.YtocoehahhohpgaaGreatMs
import Derived.Test.YtocoehahhohpgaaGreatNk
set_option linter.unusedSimpArgs false
set_option linter.unusedVariables false
namespace Go.Proofs.YtocoehahhohpgaaGreat
open Go Go.RowKit
def Bj (l : List CueR) : Nat := (l.filter fun q => q.link = 1).length
theorem V2 (l : List CueR) (q : CueR) : Bj (l ++ [q]) = Bj l + (if q.link = 1 then 1 else 0) := by
 unfold Bj
 rw [List.filter_append, List.length_append]
 by_cases h : q.link = 1 <;> simp [h]
theorem Gw {l : List CueR} {k : Nat} {q : CueR} (hq : l[k]? = some q) (h : q.link = 1) : Bj (l.take (k + 1)) = Bj (l.take k) + 1 := by rw [Br hq, V2, if_pos h]
theorem Jk {l : List CueR} {k : Nat} {q : CueR} (hq : l[k]? = some q) (h : ¬ q.link = 1) : Bj (l.take (k + 1)) = Bj (l.take k) := by rw [Br hq, V2, if_neg h];rfl
theorem Jh (l : List CueR) : Bj l <= l.length := List.length_filter_le _ _
theorem A4w (l : List CueR) {a b : Nat} (h : a <= b) : Bj (l.take a) <= Bj (l.take b) := by
 rw [show l.take a = (l.take b).take a by rw [List.take_take, Nat.min_eq_left h]]
 unfold Bj
 exact ((List.take_sublist a (l.take b)).filter _).length_le
theorem A9m {l : List CueR} {k : Nat} {q : CueR} (hq : l[k]? = some q) (h : q.link = 1) : Bj (l.take k) < Bj l := by
 have h1 := Gw hq h
 have hk := (List.getElem?_eq_some_iff.1 hq).1
 have h2 := A4w l (show k + 1 <= l.length by omega)
 rw [List.take_length] at h2
 omega
def F8 (l : List CueR) (q : CueR) : Nat := (Ch l q.after).toNat
def hgI (l : List CueR) (q : CueR) : Int := if q.link = 1 then -1 else Ch l q.after
def hgL (l : List CueR) : List Int := l.map (hgI l)
structure LkQ (l : List CueR) (k : Nat) (q : CueR) : Prop where
 name : Ey q.name = true
 self : Ch l q.name = (k : Int)
 delay : 0 <= q.delay /\ q.delay <= 2147483648
 link : 1 <= q.link /\ q.link <= 3
 man : q.link = 1 -> q.after = ⟨#[]⟩
 aft : ¬ q.link = 1 -> Ch l q.after = (F8 l q : Int) /\ F8 l q < k
def LkP (l : List CueR) : Prop := ∀ k q, l[k]? = some q -> LkQ l k q
theorem validP.lk {h : HouseR} {c : SheetR} (v : validP h c) : LkP c.cues := fun k q hq => by
 obtain ⟨_, hr, hn, h1, h2⟩ := v.2.2.1 k q hq
 refine ⟨hr.1, (Mq (p := fun x : CueR => x.name = q.name) hq rfl).2 hn, hr.2.2.1, hr.2.1, h1, fun hl => ?_⟩
 obtain ⟨y, hy, e⟩ := h2 hl
 have hi : 0 <= Ch c.cues q.after /\ Ch c.cues q.after < (k : Nat) := idx_lt_iff.2 ⟨y, hy, e⟩
 unfold F8
 omega
def fsV (l : List CueR) (G : List Int) (k : Nat) : Int := match l[k]? with | some q => if q.link = 1 then G.getD (Bj (l.take k)) 0 + q.delay else 0 | none => 0
def fsK (l : List CueR) (G : List Int) (k : Nat) : List Int := (List.range k).map (fsV l G)
theorem Pj (l : List CueR) (G : List Int) (k : Nat) : (fsK l G k).length = k := by simp [fsK]
theorem X8 (l : List CueR) (G : List Int) (k : Nat) : fsK l G (k + 1) = fsK l G k ++ [fsV l G k] := by simp [fsK, List.range_succ]
def stV (l : List CueR) (L G S : List Int) (k : Nat) : Int := match l[k]? with
 | some q => if q.link = 1 then G.getD (Bj (l.take k)) 0 + q.delay else if q.link = 2 then S.getD (F8 l q) 0 + q.delay + L.getD (F8 l q) 0 else S.getD (F8 l q) 0 + q.delay
 | none => 0
def stK (l : List CueR) (L G : List Int) : Nat -> List Int
 | 0 => []
 | k + 1 => stK l L G k ++ [stV l L G (stK l L G k) k]
theorem Dp (l : List CueR) (L G : List Int) : ∀ k, (stK l L G k).length = k
 | 0 => rfl
 | k + 1 => by rw [stK, List.length_append, Dp l L G k];rfl
theorem A0q (l : List CueR) (L G : List Int) {j k : Nat} (h : j < k) : (stK l L G k)[j]? = some (stV l L G (stK l L G j) j) := by
 induction k with
 | zero => omega
 | succ k ih =>
  rw [stK]
  by_cases e : j = k
  ·subst e
   rw [List.getElem?_append_right (by rw [Dp];omega), Dp, Nat.sub_self];rfl
  ·rw [List.getElem?_append_left (by rw [Dp];omega)]
   exact ih (by omega)
def Fq (n : Int) : Prop := ¬ (0 <= n /\ n <= 2147483648)
instance (n : Int) : Decidable (Fq n) := by unfold Fq;exact inferInstance
def Fl (l : List Int) : Prop := ∃ x ∈ l, Fq x
noncomputable instance (l : List Int) : Decidable (Fl l) := Classical.propDecidable _
noncomputable def stE (l : List CueR) (L G : List Int) : Int := if L.length ≠ l.length \/ G.length ≠ Bj l then 3 else if Fl L \/ Fl G then 2 else 0
theorem Hs {l : List Int} (h : ¬ Fl l) (i : Nat) : 0 <= l.getD i 0 /\ l.getD i 0 <= 2147483648 := by
 rw [List.getD_eq_getElem?_getD]
 cases e : l[i]? with
 | none => simp
 | some x =>
  have : ¬ Fq x := fun hw => h ⟨x, List.mem_of_getElem? e, hw⟩
  unfold Fq at this
  exact Classical.not_not.1 this
theorem A3p {l : List CueR} {L G S : List Int} {k : Nat} (hl : LkP l) (hL : ¬ Fl L) (hG : ¬ Fl G) (hS : ∀ j, j < k -> 0 <= S.getD j 0 /\ S.getD j 0 <= (k : Int) * 4294967296) : 0 <= stV l L G S k /\ stV l L G S k <= ((k : Int) + 1) * 4294967296 := by
 unfold stV
 cases e : l[k]? with
 | none => dsimp only;omega
 | some q =>
  obtain ⟨_, _, hd, _, _, ha⟩ := hl k q e
  dsimp only
  have g1 := Hs hG (Bj (l.take k))
  have g2 := Hs hL (F8 l q)
  split
  ·omega
  ·rename_i hm
   obtain ⟨_, a2⟩ := ha hm
   have := hS _ a2
   split <;> omega
theorem Nt {l : List CueR} {L G : List Int} (hl : LkP l) (hL : ¬ Fl L) (hG : ¬ Fl G) : ∀ k j, j < k -> 0 <= (stK l L G k).getD j 0 /\ (stK l L G k).getD j 0 <= (k : Int) * 4294967296
 | 0, j, h => by omega
 | k + 1, j, h => by
  have ih := Nt hl hL hG k
  have hb := A3p hl hL hG ih
  rw [stK, List.getD_eq_getElem?_getD]
  by_cases e : j = k
  ·subst e
   rw [List.getElem?_append_right (by rw [Dp];omega), Dp, Nat.sub_self]
   simp only [List.getElem?_cons_zero, Option.getD_some]
   omega
  ·rw [List.getElem?_append_left (by rw [Dp];omega), <- List.getD_eq_getElem?_getD]
   have := ih j (by omega)
   omega
def Eb (l : List CueR) (L G : List Int) (k : Nat) : List Int := stK l L G k ++ (fsK l G l.length).drop k
theorem A9t (l : List CueR) (G : List Int) {j k : Nat} (h : j < k) : (fsK l G k)[j]? = some (fsV l G j) := by
 unfold fsK
 rw [List.getElem?_map, List.getElem?_range h];rfl
theorem A8g (l : List CueR) (L G : List Int) {k : Nat} (h : k <= l.length) : (Eb l L G k).length = l.length := by
 unfold Eb
 rw [List.length_append, Dp, List.length_drop, Pj];omega
theorem V4 (l : List CueR) (L G : List Int) {k : Nat} (h : k < l.length) : Eb l L G k = stK l L G k ++ fsV l G k :: (fsK l G l.length).drop (k + 1) := by
 unfold Eb
 have := A9t l G h
 rw [List.getElem?_eq_some_iff] at this
 obtain ⟨h1, h2⟩ := this
 rw [List.drop_eq_getElem_cons h1, h2]
theorem Tw {α : Type} (A B : List α) (x y : α) {n : Nat} (h : A.length = n) : (A ++ x :: B).set n y = A ++ y :: B := by
 subst h
 rw [List.set_append_right _ _ (Nat.le_refl _), Nat.sub_self];rfl
theorem A8k (l : List CueR) (L G : List Int) {k : Nat} (h : k < l.length) : (Eb l L G k).set k (stV l L G (stK l L G k) k) = Eb l L G (k + 1) := by
 rw [V4 l L G h, Tw _ _ _ _ (Dp l L G k)]
 unfold Eb
 rw [stK, List.append_assoc];rfl
theorem A8v {l : List CueR} {L G : List Int} {k : Nat} {q : CueR} (hq : l[k]? = some q) (hm : q.link = 1) : Eb l L G (k + 1) = Eb l L G k := by
 have h := (List.getElem?_eq_some_iff.1 hq).1
 rw [V4 l L G h]
 unfold Eb
 have h1 : stV l L G (stK l L G k) k = fsV l G k := by unfold stV fsV;rw [hq];simp only [hm, if_true]
 rw [stK, h1, List.append_assoc];rfl
theorem A3l (l : List CueR) (L G : List Int) : Eb l L G l.length = stK l L G l.length := by
 unfold Eb
 rw [List.drop_of_length_le (by rw [Pj];exact Nat.le_refl _), List.append_nil]
theorem Aba {l : List CueR} {L G : List Int} {j k : Nat} (h : j < k) : (Eb l L G k)[j]? = some ((stK l L G k).getD j 0) := by
 unfold Eb
 rw [List.getElem?_append_left (by rw [Dp];exact h), A0q l L G h, List.getD_eq_getElem?_getD, A0q l L G h];rfl
def Gt (l : List CueR) (G : List Int) (k : Nat) : List Int := fsK l G k ++ List.replicate (l.length - k) 0
theorem A83 (l : List CueR) (G : List Int) {k : Nat} (h : k <= l.length) : (Gt l G k).length = l.length := by
 unfold Gt
 rw [List.length_append, Pj, List.length_replicate];omega
theorem Vb (l : List CueR) (G : List Int) {k : Nat} (h : k < l.length) : Gt l G k = fsK l G k ++ 0 :: List.replicate (l.length - (k + 1)) 0 := by
 unfold Gt
 rw [show l.length - k = (l.length - (k + 1)) + 1 by omega, List.replicate_succ]
theorem A8e {l : List CueR} {G : List Int} {k : Nat} {q : CueR} (hq : l[k]? = some q) (hm : q.link = 1) : (Gt l G k).set k (G.getD (Bj (l.take k)) 0 + q.delay) = Gt l G (k + 1) := by
 rw [Vb l G (List.getElem?_eq_some_iff.1 hq).1, Tw _ _ _ _ (Pj l G k)]
 unfold Gt
 rw [X8, List.append_assoc, show fsV l G k = G.getD (Bj (l.take k)) 0 + q.delay by unfold fsV;rw [hq];simp only [hm, if_true]]
 rfl
theorem Aaz {l : List CueR} {G : List Int} {k : Nat} {q : CueR} (hq : l[k]? = some q) (hm : ¬ q.link = 1) : Gt l G (k + 1) = Gt l G k := by
 rw [Vb l G (List.getElem?_eq_some_iff.1 hq).1]
 unfold Gt
 rw [X8, List.append_assoc, show fsV l G k = 0 by unfold fsV;rw [hq];simp only [hm, if_false]]
 rfl
theorem A38 (l : List CueR) (L G : List Int) : Gt l G l.length = Eb l L G 0 := by
 unfold Gt Eb
 rw [Nat.sub_self]
 simp [stK]
def Hv (n k : Nat) : List Bool := List.replicate k true ++ List.replicate (n - k) false
theorem Ml {n k : Nat} (h : k < n) : (Hv n k).set k true = Hv n (k + 1) := by
 unfold Hv
 rw [show n - k = (n - (k + 1)) + 1 by omega, List.replicate_succ, Tw _ _ _ _ (List.length_replicate ..), List.replicate_succ', List.append_assoc];rfl
theorem Xt {n k j : Nat} (h : j < k) : (Hv n k)[j]? = some true := by
 unfold Hv
 rw [List.getElem?_append_left (by rw [List.length_replicate];exact h), List.getElem?_replicate, if_pos h]
theorem A9x {n k : Nat} (h : k < n) : (Hv n k)[k]? = some false := by
 unfold Hv
 rw [List.getElem?_append_right (by rw [List.length_replicate];exact Nat.le_refl _), List.length_replicate, Nat.sub_self, List.getElem?_replicate, if_pos (by omega)]
theorem A78 {n k : Nat} (h : k <= n) : (Hv n k).length = n := by
 unfold Hv
 rw [List.length_append, List.length_replicate, List.length_replicate];omega
def Cx (d : Int) (m : MoveR) : List PcQ := if (Gs d m).num = 0 then [⟨0, 0, 0, A7 m.rise 2⟩, ⟨Cu d m, J3 d m, ((Ak d m : Int) : Rat), A7 (-m.fall) 2⟩, ⟨Do d m, (d : Rat), 0, 0⟩] else [⟨0, 0, 0, A7 m.rise 2⟩, ⟨Dj d m, Fe d m, ((Ak d m : Int) : Rat), 0⟩, ⟨Cu d m, J3 d m, ((Ak d m : Int) : Rat), A7 (-m.fall) 2⟩, ⟨Do d m, (d : Rat), 0, 0⟩]
theorem A1m (d : Int) (m : MoveR) : (Cx d m).map PcQ.row = K1 d m := by unfold Cx K1;split <;> rfl
theorem T2 (d : Int) (m : MoveR) : (Cx d m).length <= 4 := by unfold Cx;split <;> simp
theorem A1g {d : Int} {m : MoveR} (hm : D8 m) (hd : 1 <= d /\ d <= 1048576) : okC (Cx d m) := by
 have K := K8 hm hd
 have z : Fits (0 : Rat) := Cj (n := 0) (by omega) (by omega)
 have t : Fits ((Ak d m : Int) : Rat) := Cj (by have := K.w;omega) (by have := K.w;omega)
 have e : Fits (d : Rat) := Cj (by omega) (by omega)
 intro p hp
 unfold Cx at hp
 split at hp
 ·simp only [List.mem_cons, List.not_mem_nil, or_false] at hp
  rcases hp with rfl | rfl | rfl
  ·exact ⟨z, z, z, K.half⟩
  ·exact ⟨K.stop, K.top, t, K.halfF⟩
  ·exact ⟨K.fin, e, z, z⟩
 ·simp only [List.mem_cons, List.not_mem_nil, or_false] at hp
  rcases hp with rfl | rfl | rfl | rfl
  ·exact ⟨z, z, z, K.half⟩
  ·exact ⟨K.start, K.rise, t, z⟩
  ·exact ⟨K.stop, K.top, t, K.halfF⟩
  ·exact ⟨K.fin, e, z, z⟩
/-! ### Lengths, starts, ends -/
def A93 (h : HouseR) (c : SheetR) (k : Nat) : Rat := match c.cues[k]? with | some q => De h (Ay h c k) q.moves | none => 0
theorem Zt {h : HouseR} {c : SheetR} {k : Nat} {q : CueR} (hq : c.cues[k]? = some q) : A93 h c k = De h (Ay h c k) q.moves := by unfold A93;rw [hq]
def msQ (h : HouseR) (c : SheetR) (k : Nat) : Rat := 1000 * A93 h c k
def upI (q : Rat) : Int := -(-q.num / q.den)
def msI (h : HouseR) (c : SheetR) (k : Nat) : Int := upI (msQ h c k)
def T9 (h : HouseR) (c : SheetR) : Prop := ∃ k, k < c.cues.length /\ ¬ Fits (msQ h c k)
noncomputable instance (h : HouseR) (c : SheetR) : Decidable (T9 h c) := Classical.propDecidable _
def En (h : HouseR) (c : SheetR) (n : Nat) : List Int := (List.range n).map (msI h c)
theorem Ds (h : HouseR) (c : SheetR) (n : Nat) : (En h c n).length = n := by simp [En]
theorem A19 (h : HouseR) (c : SheetR) (n : Nat) : En h c (n + 1) = En h c n ++ [msI h c n] := by simp [En, List.range_succ]
theorem A5j (h : HouseR) (c : SheetR) {j n : Nat} (hj : j < n) : (En h c n)[j]? = some (msI h c j) := by
 unfold En
 rw [List.getElem?_map, List.getElem?_range hj];rfl
abbrev Bo (h : HouseR) (c : SheetR) : List Int := En h c c.cues.length
noncomputable def mdE (h : HouseR) (c : SheetR) (G : List Int) : Int := if T9 h c then 5 else stE c.cues (Bo h c) G
def stL (h : HouseR) (c : SheetR) (G : List Int) : List Int := stK c.cues (Bo h c) G c.cues.length
theorem E8 (h : HouseR) (c : SheetR) (G : List Int) : (stL h c G).length = c.cues.length := Dp _ _ _ _
structure PlanOk (h : HouseR) (c : SheetR) (G : List Int) : Prop where
 v : validP h c
 fit : ¬ T9 h c
 man : G.length = Bj c.cues
 len : ¬ Fl (Bo h c)
 given : ¬ Fl G
theorem A4q {h : HouseR} {c : SheetR} {G : List Int} (v : validP h c) (e : mdE h c G = 0) : PlanOk h c G := by
 unfold mdE at e
 split at e
 ·cases e
 ·rename_i hb
  unfold stE at e
  split at e
  ·cases e
  ·rename_i hl
   split at e
   ·cases e
   ·rename_i hw
    exact ⟨v, hb, Classical.not_not.1 fun k => hl (.inr k), fun k => hw (.inl k), fun k => hw (.inr k)⟩
theorem PlanOk.zero {h : HouseR} {c : SheetR} {G : List Int} (p : PlanOk h c G) : mdE h c G = 0 := by
 unfold mdE stE
 rw [if_neg p.fit, if_neg (fun k => k.elim (fun k => k (Ds ..)) fun k => k p.man), if_neg (fun k => k.elim p.len p.given)]
theorem PlanOk.st {h : HouseR} {c : SheetR} {G : List Int} (p : PlanOk h c G) (i : Nat) : 0 <= (stL h c G).getD i 0 /\ (stL h c G).getD i 0 <= 257698037760 := by
 have h60 := p.v.2.1
 by_cases hi : i < c.cues.length
 ·have := Nt p.v.lk p.len p.given c.cues.length i hi
  unfold stL
  omega
 ·rw [List.getD_eq_getElem?_getD, List.getElem?_eq_none (by rw [E8];omega)]
  simp
theorem PlanOk.ln {h : HouseR} {c : SheetR} {G : List Int} (p : PlanOk h c G) (i : Nat) : 0 <= (Bo h c).getD i 0 /\ (Bo h c).getD i 0 <= 2147483648 := Hs p.len i
def Hc (h : HouseR) (c : SheetR) (G : List Int) (i : Nat) : Int := (stL h c G).getD i 0 + (Bo h c).getD i 0
def E7 (h : HouseR) (c : SheetR) (G : List Int) (n : Nat) : List Int := (List.range n).map (Hc h c G)
abbrev Eo (h : HouseR) (c : SheetR) (G : List Int) : List Int := E7 h c G c.cues.length
theorem Gv (h : HouseR) (c : SheetR) (G : List Int) (n : Nat) : (E7 h c G n).length = n := by simp [E7]
theorem Oe (h : HouseR) (c : SheetR) (G : List Int) (n : Nat) : E7 h c G (n + 1) = E7 h c G n ++ [Hc h c G n] := by simp [E7, List.range_succ]
theorem PlanOk.end_ {h : HouseR} {c : SheetR} {G : List Int} (p : PlanOk h c G) (i : Nat) : 0 <= Hc h c G i /\ Hc h c G i <= 259845521408 := by
 have := p.st i
 have := p.ln i
 unfold Hc
 omega
def mxL : List Int -> Int
 | [] => 0
 | x :: xs => xs.foldl max x
theorem Km {B : Int} : ∀ (l : List Int) (a : Int), (0 <= a /\ a <= B) -> (∀ x ∈ l, 0 <= x /\ x <= B) -> 0 <= l.foldl max a /\ l.foldl max a <= B
 | [], a, h, _ => h
 | x :: xs, a, h, hl => Km xs (max a x) (by have := hl x (by simp);omega) fun y hy => hl y (by simp [hy])
theorem A33 {l : List Int} {B : Int} (hB : 0 <= B) (h : ∀ x ∈ l, 0 <= x /\ x <= B) : 0 <= mxL l /\ mxL l <= B := by
 cases l with
 | nil => exact ⟨Int.le_refl _, hB⟩
 | cons x xs => exact Km xs x (h x (by simp)) fun y hy => h y (by simp [hy])
def endI (h : HouseR) (c : SheetR) (G : List Int) : Int := mxL (Eo h c G ++ [0])
theorem PlanOk.endI {h : HouseR} {c : SheetR} {G : List Int} (p : PlanOk h c G) : 0 <= endI h c G /\ endI h c G <= 259845521408 := by
 refine A33 (by omega) fun x hx => ?_
 rcases List.mem_append.1 hx with hx | hx
 ·obtain ⟨i, _, rfl⟩ := List.mem_map.1 hx
  exact p.end_ i
 ·obtain rfl := List.mem_singleton.1 hx
  omega
/-! ### The order of a sheet -/
def mvI (q : CueR) (s : ByteArray) : Int := idx (fun m : MoveR => m.set = s) q.moves
def mvO (q : CueR) (s : ByteArray) : Option MoveR := if mvI q s < 0 then none else q.moves[(mvI q s).toNat]?
theorem A0y {q : CueR} {s : ByteArray} {m : MoveR} (h : mvO q s = some m) : m ∈ q.moves := by
 unfold mvO at h
 split at h
 ·cases h
 ·exact List.mem_of_getElem? h
def Nu (c : SheetR) (S L : List Int) (i k : Nat) (q r : CueR) (m : MoveR) : Prop := (mvO r m.set).isSome = true -> S.getD k 0 + L.getD k 0 <= S.getD i 0
def Ju (c : SheetR) (S L : List Int) : Prop := ∀ i q, c.cues[i]? = some q -> ∀ k r, k < i -> c.cues[k]? = some r -> ∀ m ∈ q.moves, Nu c S L i k q r m
noncomputable instance (c : SheetR) (S L : List Int) : Decidable (Ju c S L) := Classical.propDecidable _
/-! ### Paths -/
def Ag (s z : Int) (up : Prop) [Decidable up] (x : PcQ) : PcQ := if up then ⟨A7 s 1000 + x.f, (z : Rat) + x.a, x.b, x.c⟩ else ⟨A7 s 1000 + x.f, (z : Rat) - x.a, -x.b, -x.c⟩
def I3 (s z : Int) (m : MoveR) : List PcQ := if m.to = z then [] else (Cx (max (m.to - z) (z - m.to)) m).map (Ag s z (z < m.to))
def Cy (h : HouseR) (c : SheetR) (S : List Int) (k : Nat) (n : ByteArray) (i : Nat) : List PcQ := match c.cues[i]? with
 | some q => (match mvO q n with | some m => I3 (S.getD i 0) ((Ay h c i).getD k 0) m | none => [])
 | none => []
def Be (o : List PcQ) (y : PcQ) : List PcQ := if (o.getLastD default).f = y.f then o.dropLast ++ [y] else o ++ [y]
theorem O7 (A : List PcQ) (l y : PcQ) (h : l.f = y.f) : Be (A ++ [l]) y = A ++ [y] := by simp [Be, h]
theorem R9 (A : List PcQ) (l y : PcQ) (h : ¬ l.f = y.f) : Be (A ++ [l]) y = (A ++ [l]) ++ [y] := by simp [Be, h]
theorem A6y (o : List PcQ) (y : PcQ) : Be o y ≠ [] := by unfold Be;split <;> simp
theorem A6c (o : List PcQ) (y : PcQ) : (Be o y).length <= o.length + 1 := by unfold Be;split <;> simp <;> omega
theorem A8p {o : List PcQ} {y : PcQ} (ho : okC o) (hy : y.ok) : okC (Be o y) := fun p hp => by
 unfold Be at hp
 split at hp
 ·rcases List.mem_append.1 hp with h | h
  ·exact ho p (List.dropLast_subset _ h)
  ·obtain rfl := List.mem_singleton.1 h;exact hy
 ·rcases List.mem_append.1 hp with h | h
  ·exact ho p h
  ·obtain rfl := List.mem_singleton.1 h;exact hy
theorem Qz : ∀ (l : List PcQ) (o : List PcQ), o ≠ [] -> l.foldl Be o ≠ []
 | [], _, h => h
 | y :: l, o, _ => Qz l _ (A6y o y)
theorem O3 : ∀ (l : List PcQ) (o : List PcQ), (l.foldl Be o).length <= o.length + l.length
 | [], _ => Nat.le_refl _
 | y :: l, o => by
  have := O3 l (Be o y)
  have := A6c o y
  rw [List.foldl_cons, List.length_cons]
  omega
theorem Xq : ∀ (l : List PcQ) (o : List PcQ), okC o -> okC l -> okC (l.foldl Be o)
 | [], _, h, _ => h
 | y :: l, o, h, hl => Xq l _ (A8p h (hl y (by simp))) fun p hp => hl p (by simp [hp])
def Bl (h : HouseR) (c : SheetR) (S : List Int) (k : Nat) (s : SetR) : Nat -> List PcQ
 | 0 => [⟨0, (s.high : Rat), 0, 0⟩]
 | i + 1 => (Cy h c S k s.name i).foldl Be (Bl h c S k s i)
def Qy (h : HouseR) (c : SheetR) (S : List Int) (k : Nat) (s : SetR) : Prop := ∃ i, i < c.cues.length /\ ¬ okC (Cy h c S k s.name i)
noncomputable instance (h : HouseR) (c : SheetR) (S : List Int) (k : Nat) (s : SetR) : Decidable (Qy h c S k s) := Classical.propDecidable _
def Ec (h : HouseR) (c : SheetR) (S : List Int) (k : Nat) (s : SetR) : List PcQ := Bl h c S k s c.cues.length
noncomputable def D5 (h : HouseR) (c : SheetR) (S : List Int) (k : Nat) (s : SetR) : Int := if Qy h c S k s then 5 else if 200 < (Ec h c S k s).length then 4 else 0
theorem Po (h : HouseR) (c : SheetR) (S : List Int) (k : Nat) (s : SetR) : ∀ i, Bl h c S k s i ≠ []
 | 0 => by simp [Bl]
 | i + 1 => Qz _ _ (Po h c S k s i)
theorem A80 (h : HouseR) (c : SheetR) (S : List Int) (k : Nat) (n : ByteArray) (i : Nat) : (Cy h c S k n i).length <= 4 := by
 unfold Cy
 split
 ·split
  ·unfold I3
   split
   ·simp
   ·rw [List.length_map];exact T2 _ _
  ·simp
 ·simp
theorem Re (h : HouseR) (c : SheetR) (S : List Int) (k : Nat) (s : SetR) : ∀ i, (Bl h c S k s i).length <= 4 * i + 1
 | 0 => by simp [Bl]
 | i + 1 => by
  have := Re h c S k s i
  have := O3 (Cy h c S k s.name i) (Bl h c S k s i)
  have := A80 h c S k s.name i
  rw [Bl]
  omega
theorem Th {h : HouseR} {c : SheetR} {S : List Int} {k : Nat} {s : SetR} (hs : Fits (s.high : Rat)) (hb : ¬ Qy h c S k s) : ∀ i, i <= c.cues.length -> okC (Bl h c S k s i)
 | 0, _ => fun p hp => by
  have z : Fits (0 : Rat) := Cj (n := 0) (by omega) (by omega)
  obtain rfl := List.mem_singleton.1 hp
  exact ⟨z, hs, z, z⟩
 | i + 1, hi => Xq _ _ (Th hs hb i (by omega)) (Classical.not_not.1 fun hn => hb ⟨i, by omega, hn⟩)
end Go.Proofs.YtocoehahhohpgaaGreat
