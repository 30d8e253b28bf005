/- Plain: the order and the starts of the cues of a valid sheet. No conditions but those of each statement. -/
import Derived.Test.YtocoehahhohpgaaGreatPa
import Derived.Test.YtocoehahhohpgaaGreatMn
import Derived.Test.YtocoehahhohpgaaGreatMs
import Derived.Test.YtocoehahhohpgaaGreatNk
set_option linter.unusedSimpArgs false
set_option linter.unusedVariables false
namespace Go.Proofs.YtocoehahhohpgaaGreat
open Go Go.RowKit
def Bj (l : List CueR) : Nat := (l.filter fun q => q.link = 1).length
theorem Us (l : List CueR) (q : CueR) : Bj (l ++ [q]) = Bj l + (if q.link = 1 then 1 else 0) := by
 unfold Bj
 rw [List.filter_append, List.length_append]
 by_cases h : q.link = 1 <;> simp [h]
theorem Gh {l : List CueR} {k : Nat} {q : CueR} (hq : l[k]? = some q) (h : q.link = 1) : Bj (l.take (k + 1)) = Bj (l.take k) + 1 := by rw [B7 hq, Us, if_pos h]
theorem J6 {l : List CueR} {k : Nat} {q : CueR} (hq : l[k]? = some q) (h : ¬ q.link = 1) : Bj (l.take (k + 1)) = Bj (l.take k) := by rw [B7 hq, Us, if_neg h];rfl
theorem J8 (l : List CueR) : Bj l <= l.length := List.length_filter_le _ _
theorem A5h (l : List CueR) {a b : Nat} (h : a <= b) : Bj (l.take a) <= Bj (l.take b) := by
 rw [show l.take a = (l.take b).take a by rw [List.take_take, Nat.min_eq_left h]]
 unfold Bj
 exact ((List.take_sublist a (l.take b)).filter _).length_le
theorem Aad {l : List CueR} {k : Nat} {q : CueR} (hq : l[k]? = some q) (h : q.link = 1) : Bj (l.take k) < Bj l := by
 have h1 := Gh hq h
 have hk := (List.getElem?_eq_some_iff.1 hq).1
 have h2 := A5h l (show k + 1 <= l.length by omega)
 rw [List.take_length] at h2
 omega
def F3 (l : List CueR) (q : CueR) : Nat := (Bq l q.after).toNat
def hgI (l : List CueR) (q : CueR) : Int := if q.link = 1 then -1 else Bq l q.after
def hgL (l : List CueR) : List Int := l.map (hgI l)
structure LkQ (l : List CueR) (k : Nat) (q : CueR) : Prop where
 name : El q.name = true
 self : Bq l q.name = (k : Int)
 delay : 0 <= q.delay /\ q.delay <= 2147483648
 link : 1 <= q.link /\ q.link <= 3
 man : q.link = 1 -> q.after = ⟨#[]⟩
 aft : ¬ q.link = 1 -> Bq l q.after = (F3 l q : Int) /\ F3 l q < k
def LkP (l : List CueR) : Prop := ∀ k q, l[k]? = some q -> LkQ l k q
theorem validP.lk {h : HouseR} {c : SheetR} (v : validP h c) : LkP c.cues := fun k q hq => by
 obtain ⟨_, hr, hn, h1, h2⟩ := v.2.2.1 k q hq
 refine ⟨hr.1, (Ly (p := fun x : CueR => x.name = q.name) hq rfl).2 hn, hr.2.2.1, hr.2.1, h1, fun hl => ?_⟩
 obtain ⟨y, hy, e⟩ := h2 hl
 have hi : 0 <= Bq c.cues q.after /\ Bq c.cues q.after < (k : Nat) := idx_lt_iff.2 ⟨y, hy, e⟩
 unfold F3
 omega
def fsV (l : List CueR) (G : List Int) (k : Nat) : Int := match l[k]? with | some q => if q.link = 1 then G.getD (Bj (l.take k)) 0 + q.delay else 0 | none => 0
def fsK (l : List CueR) (G : List Int) (k : Nat) : List Int := (List.range k).map (fsV l G)
theorem Ox (l : List CueR) (G : List Int) (k : Nat) : (fsK l G k).length = k := by simp [fsK]
theorem Ww (l : List CueR) (G : List Int) (k : Nat) : fsK l G (k + 1) = fsK l G k ++ [fsV l G k] := by simp [fsK, List.range_succ]
def stV (l : List CueR) (L G S : List Int) (k : Nat) : Int := match l[k]? with
 | some q => if q.link = 1 then G.getD (Bj (l.take k)) 0 + q.delay else if q.link = 2 then S.getD (F3 l q) 0 + q.delay + L.getD (F3 l q) 0 else S.getD (F3 l q) 0 + q.delay
 | none => 0
def stK (l : List CueR) (L G : List Int) : Nat -> List Int
 | 0 => []
 | k + 1 => stK l L G k ++ [stV l L G (stK l L G k) k]
theorem Dq (l : List CueR) (L G : List Int) : ∀ k, (stK l L G k).length = k
 | 0 => rfl
 | k + 1 => by rw [stK, List.length_append, Dq l L G k];rfl
theorem A03 (l : List CueR) (L G : List Int) {j k : Nat} (h : j < k) : (stK l L G k)[j]? = some (stV l L G (stK l L G j) j) := by
 induction k with
 | zero => omega
 | succ k ih =>
  rw [stK]
  by_cases e : j = k
  ·subst e
   rw [List.getElem?_append_right (by rw [Dq];omega), Dq, Nat.sub_self];rfl
  ·rw [List.getElem?_append_left (by rw [Dq];omega)]
   exact ih (by omega)
def F9 (n : Int) : Prop := ¬ (0 <= n /\ n <= 2147483648)
instance (n : Int) : Decidable (F9 n) := by unfold F9;exact inferInstance
def Fg (l : List Int) : Prop := ∃ x ∈ l, F9 x
noncomputable instance (l : List Int) : Decidable (Fg l) := Classical.propDecidable _
noncomputable def stE (l : List CueR) (L G : List Int) : Int := if L.length ≠ l.length \/ G.length ≠ Bj l then 3 else if Fg L \/ Fg G then 2 else 0
theorem Hn {l : List Int} (h : ¬ Fg l) (i : Nat) : 0 <= l.getD i 0 /\ l.getD i 0 <= 2147483648 := by
 rw [List.getD_eq_getElem?_getD]
 cases e : l[i]? with
 | none => simp
 | some x =>
  have : ¬ F9 x := fun hw => h ⟨x, List.mem_of_getElem? e, hw⟩
  unfold F9 at this
  exact Classical.not_not.1 this
theorem A59 {l : List CueR} {L G S : List Int} {k : Nat} (hl : LkP l) (hL : ¬ Fg L) (hG : ¬ Fg G) (hS : ∀ j, j < k -> 0 <= S.getD j 0 /\ S.getD j 0 <= (k : Int) * 4294967296) : 0 <= stV l L G S k /\ stV l L G S k <= ((k : Int) + 1) * 4294967296 := by
 unfold stV
 cases e : l[k]? with
 | none => dsimp only;omega
 | some q =>
  obtain ⟨_, _, hd, _, _, ha⟩ := hl k q e
  dsimp only
  have g1 := Hn hG (Bj (l.take k))
  have g2 := Hn hL (F3 l q)
  split
  ·omega
  ·rename_i hm
   obtain ⟨_, a2⟩ := ha hm
   have := hS _ a2
   split <;> omega
theorem Om {l : List CueR} {L G : List Int} (hl : LkP l) (hL : ¬ Fg L) (hG : ¬ Fg G) : ∀ k j, j < k -> 0 <= (stK l L G k).getD j 0 /\ (stK l L G k).getD j 0 <= (k : Int) * 4294967296
 | 0, j, h => by omega
 | k + 1, j, h => by
  have ih := Om hl hL hG k
  have hb := A59 hl hL hG ih
  rw [stK, List.getD_eq_getElem?_getD]
  by_cases e : j = k
  ·subst e
   rw [List.getElem?_append_right (by rw [Dq];omega), Dq, Nat.sub_self]
   simp only [List.getElem?_cons_zero, Option.getD_some]
   omega
  ·rw [List.getElem?_append_left (by rw [Dq];omega), <- List.getD_eq_getElem?_getD]
   have := ih j (by omega)
   omega
def Ea (l : List CueR) (L G : List Int) (k : Nat) : List Int := stK l L G k ++ (fsK l G l.length).drop k
theorem Aae (l : List CueR) (G : List Int) {j k : Nat} (h : j < k) : (fsK l G k)[j]? = some (fsV l G j) := by
 unfold fsK
 rw [List.getElem?_map, List.getElem?_range h];rfl
theorem A7i (l : List CueR) (L G : List Int) {k : Nat} (h : k <= l.length) : (Ea l L G k).length = l.length := by
 unfold Ea
 rw [List.length_append, Dq, List.length_drop, Ox];omega
theorem Uz (l : List CueR) (L G : List Int) {k : Nat} (h : k < l.length) : Ea l L G k = stK l L G k ++ fsV l G k :: (fsK l G l.length).drop (k + 1) := by
 unfold Ea
 have := Aae l G h
 rw [List.getElem?_eq_some_iff] at this
 obtain ⟨h1, h2⟩ := this
 rw [List.drop_eq_getElem_cons h1, h2]
theorem U0 {α : Type} (A B : List α) (x y : α) {n : Nat} (h : A.length = n) : (A ++ x :: B).set n y = A ++ y :: B := by
 subst h
 rw [List.set_append_right _ _ (Nat.le_refl _), Nat.sub_self];rfl
theorem A6s (l : List CueR) (L G : List Int) {k : Nat} (h : k < l.length) : (Ea l L G k).set k (stV l L G (stK l L G k) k) = Ea l L G (k + 1) := by
 rw [Uz l L G h, U0 _ _ _ _ (Dq l L G k)]
 unfold Ea
 rw [stK, List.append_assoc];rfl
theorem A7g {l : List CueR} {L G : List Int} {k : Nat} {q : CueR} (hq : l[k]? = some q) (hm : q.link = 1) : Ea l L G (k + 1) = Ea l L G k := by
 have h := (List.getElem?_eq_some_iff.1 hq).1
 rw [Uz l L G h]
 unfold Ea
 have h1 : stV l L G (stK l L G k) k = fsV l G k := by unfold stV fsV;rw [hq];simp only [hm, if_true]
 rw [stK, h1, List.append_assoc];rfl
theorem A5p (l : List CueR) (L G : List Int) : Ea l L G l.length = stK l L G l.length := by
 unfold Ea
 rw [List.drop_of_length_le (by rw [Ox];exact Nat.le_refl _), List.append_nil]
theorem A9n {l : List CueR} {L G : List Int} {j k : Nat} (h : j < k) : (Ea l L G k)[j]? = some ((stK l L G k).getD j 0) := by
 unfold Ea
 rw [List.getElem?_append_left (by rw [Dq];exact h), A03 l L G h, List.getD_eq_getElem?_getD, A03 l L G h];rfl
def Gl (l : List CueR) (G : List Int) (k : Nat) : List Int := fsK l G k ++ List.replicate (l.length - k) 0
theorem A6j (l : List CueR) (G : List Int) {k : Nat} (h : k <= l.length) : (Gl l G k).length = l.length := by
 unfold Gl
 rw [List.length_append, Ox, List.length_replicate];omega
theorem Va (l : List CueR) (G : List Int) {k : Nat} (h : k < l.length) : Gl l G k = fsK l G k ++ 0 :: List.replicate (l.length - (k + 1)) 0 := by
 unfold Gl
 rw [show l.length - k = (l.length - (k + 1)) + 1 by omega, List.replicate_succ]
theorem A8m {l : List CueR} {G : List Int} {k : Nat} {q : CueR} (hq : l[k]? = some q) (hm : q.link = 1) : (Gl l G k).set k (G.getD (Bj (l.take k)) 0 + q.delay) = Gl l G (k + 1) := by
 rw [Va l G (List.getElem?_eq_some_iff.1 hq).1, U0 _ _ _ _ (Ox l G k)]
 unfold Gl
 rw [Ww, List.append_assoc, show fsV l G k = G.getD (Bj (l.take k)) 0 + q.delay by unfold fsV;rw [hq];simp only [hm, if_true]]
 rfl
theorem A9a {l : List CueR} {G : List Int} {k : Nat} {q : CueR} (hq : l[k]? = some q) (hm : ¬ q.link = 1) : Gl l G (k + 1) = Gl l G k := by
 rw [Va l G (List.getElem?_eq_some_iff.1 hq).1]
 unfold Gl
 rw [Ww, List.append_assoc, show fsV l G k = 0 by unfold fsV;rw [hq];simp only [hm, if_false]]
 rfl
theorem A5g (l : List CueR) (L G : List Int) : Gl l G l.length = Ea l L G 0 := by
 unfold Gl Ea
 rw [Nat.sub_self]
 simp [stK]
def I1 (n k : Nat) : List Bool := List.replicate k true ++ List.replicate (n - k) false
theorem Mp {n k : Nat} (h : k < n) : (I1 n k).set k true = I1 n (k + 1) := by
 unfold I1
 rw [show n - k = (n - (k + 1)) + 1 by omega, List.replicate_succ, U0 _ _ _ _ (List.length_replicate ..), List.replicate_succ', List.append_assoc];rfl
theorem Y5 {n k j : Nat} (h : j < k) : (I1 n k)[j]? = some true := by
 unfold I1
 rw [List.getElem?_append_left (by rw [List.length_replicate];exact h), List.getElem?_replicate, if_pos h]
theorem A9l {n k : Nat} (h : k < n) : (I1 n k)[k]? = some false := by
 unfold I1
 rw [List.getElem?_append_right (by rw [List.length_replicate];exact Nat.le_refl _), List.length_replicate, Nat.sub_self, List.getElem?_replicate, if_pos (by omega)]
theorem A7d {n k : Nat} (h : k <= n) : (I1 n k).length = n := by
 unfold I1
 rw [List.length_append, List.length_replicate, List.length_replicate];omega
def H1 (d : Int) (m : MoveR) : List PcQ := if (Tt d m).num = 0 then [⟨0, 0, 0, Aa m.rise 2⟩, ⟨J3 d m, Qv d m, ((B9 d m : Int) : Rat), Aa (-m.fall) 2⟩, ⟨K2 d m, (d : Rat), 0, 0⟩] else [⟨0, 0, 0, Aa m.rise 2⟩, ⟨L8 d m, Pr d m, ((B9 d m : Int) : Rat), 0⟩, ⟨J3 d m, Qv d m, ((B9 d m : Int) : Rat), Aa (-m.fall) 2⟩, ⟨K2 d m, (d : Rat), 0, 0⟩]
theorem A32 (d : Int) (m : MoveR) : (H1 d m).map PcQ.row = Jo d m := by unfold H1 Jo;split <;> rfl
theorem Rq (d : Int) (m : MoveR) : (H1 d m).length <= 4 := by unfold H1;split <;> simp
theorem A2v {d : Int} {m : MoveR} (hm : E5 m) (hd : 1 <= d /\ d <= 1048576) : okC (H1 d m) := by
 have K := Qs hm hd
 have z : Fits (0 : Rat) := Cu (n := 0) (by omega) (by omega)
 have t : Fits ((B9 d m : Int) : Rat) := Cu (by have := K.w;omega) (by have := K.w;omega)
 have e : Fits (d : Rat) := Cu (by omega) (by omega)
 intro p hp
 unfold H1 at hp
 split at hp
 ·simp only [List.mem_cons, List.not_mem_nil, or_false] at hp
  rcases hp with rfl | rfl | rfl
  ·exact ⟨z, z, z, K.half⟩
  ·exact ⟨K.stop, K.top, t, K.halfF⟩
  ·exact ⟨K.fin, e, z, z⟩
 ·simp only [List.mem_cons, List.not_mem_nil, or_false] at hp
  rcases hp with rfl | rfl | rfl | rfl
  ·exact ⟨z, z, z, K.half⟩
  ·exact ⟨K.start, K.rise, t, z⟩
  ·exact ⟨K.stop, K.top, t, K.halfF⟩
  ·exact ⟨K.fin, e, z, z⟩
/-! ### Lengths, starts, ends -/
def A81 (h : HouseR) (c : SheetR) (k : Nat) : Rat := match c.cues[k]? with | some q => Dm h (D6 h c k) q.moves | none => 0
theorem A9x {h : HouseR} {c : SheetR} {k : Nat} {q : CueR} (hq : c.cues[k]? = some q) : A81 h c k = Dm h (D6 h c k) q.moves := by unfold A81;rw [hq]
def msQ (h : HouseR) (c : SheetR) (k : Nat) : Rat := 1000 * A81 h c k
def upI (q : Rat) : Int := -(-q.num / q.den)
def msI (h : HouseR) (c : SheetR) (k : Nat) : Int := upI (msQ h c k)
def Ub (h : HouseR) (c : SheetR) : Prop := ∃ k, k < c.cues.length /\ ¬ Fits (msQ h c k)
noncomputable instance (h : HouseR) (c : SheetR) : Decidable (Ub h c) := Classical.propDecidable _
def Fp (h : HouseR) (c : SheetR) (n : Nat) : List Int := (List.range n).map (msI h c)
theorem Dz (h : HouseR) (c : SheetR) (n : Nat) : (Fp h c n).length = n := by simp [Fp]
theorem A1r (h : HouseR) (c : SheetR) (n : Nat) : Fp h c (n + 1) = Fp h c n ++ [msI h c n] := by simp [Fp, List.range_succ]
abbrev Av (h : HouseR) (c : SheetR) : List Int := Fp h c c.cues.length
noncomputable def mdE (h : HouseR) (c : SheetR) (G : List Int) : Int := if Ub h c then 5 else stE c.cues (Av h c) G
def stL (h : HouseR) (c : SheetR) (G : List Int) : List Int := stK c.cues (Av h c) G c.cues.length
theorem C0 (h : HouseR) (c : SheetR) (G : List Int) : (stL h c G).length = c.cues.length := Dq _ _ _ _
structure PlanOk (h : HouseR) (c : SheetR) (G : List Int) : Prop where
 v : validP h c
 fit : ¬ Ub h c
 man : G.length = Bj c.cues
 len : ¬ Fg (Av h c)
 given : ¬ Fg G
theorem A5t {h : HouseR} {c : SheetR} {G : List Int} (v : validP h c) (e : mdE h c G = 0) : PlanOk h c G := by
 unfold mdE at e
 split at e
 ·cases e
 ·rename_i hb
  unfold stE at e
  split at e
  ·cases e
  ·rename_i hl
   split at e
   ·cases e
   ·rename_i hw
    exact ⟨v, hb, Classical.not_not.1 fun k => hl (.inr k), fun k => hw (.inl k), fun k => hw (.inr k)⟩
theorem PlanOk.zero {h : HouseR} {c : SheetR} {G : List Int} (p : PlanOk h c G) : mdE h c G = 0 := by
 unfold mdE stE
 rw [if_neg p.fit, if_neg (fun k => k.elim (fun k => k (Dz ..)) fun k => k p.man), if_neg (fun k => k.elim p.len p.given)]
theorem PlanOk.st {h : HouseR} {c : SheetR} {G : List Int} (p : PlanOk h c G) (i : Nat) : 0 <= (stL h c G).getD i 0 /\ (stL h c G).getD i 0 <= 257698037760 := by
 have h60 := p.v.2.1
 by_cases hi : i < c.cues.length
 ·have := Om p.v.lk p.len p.given c.cues.length i hi
  unfold stL
  omega
 ·rw [List.getD_eq_getElem?_getD, List.getElem?_eq_none (by rw [C0];omega)]
  simp
theorem PlanOk.ln {h : HouseR} {c : SheetR} {G : List Int} (p : PlanOk h c G) (i : Nat) : 0 <= (Av h c).getD i 0 /\ (Av h c).getD i 0 <= 2147483648 := Hn p.len i
def G3 (h : HouseR) (c : SheetR) (G : List Int) (i : Nat) : Int := (stL h c G).getD i 0 + (Av h c).getD i 0
def Dj (h : HouseR) (c : SheetR) (G : List Int) (n : Nat) : List Int := (List.range n).map (G3 h c G)
abbrev Cc (h : HouseR) (c : SheetR) (G : List Int) : List Int := Dj h c G c.cues.length
theorem Fk (h : HouseR) (c : SheetR) (G : List Int) (n : Nat) : (Dj h c G n).length = n := by simp [Dj]
theorem Nw (h : HouseR) (c : SheetR) (G : List Int) (n : Nat) : Dj h c G (n + 1) = Dj h c G n ++ [G3 h c G n] := by simp [Dj, List.range_succ]
theorem PlanOk.end_ {h : HouseR} {c : SheetR} {G : List Int} (p : PlanOk h c G) (i : Nat) : 0 <= G3 h c G i /\ G3 h c G i <= 259845521408 := by
 have := p.st i
 have := p.ln i
 unfold G3
 omega
def mxL : List Int -> Int
 | [] => 0
 | x :: xs => xs.foldl max x
theorem K9 {B : Int} : ∀ (l : List Int) (a : Int), (0 <= a /\ a <= B) -> (∀ x ∈ l, 0 <= x /\ x <= B) -> 0 <= l.foldl max a /\ l.foldl max a <= B
 | [], a, h, _ => h
 | x :: xs, a, h, hl => K9 xs (max a x) (by have := hl x (by simp);omega) fun y hy => hl y (by simp [hy])
theorem A3g {l : List Int} {B : Int} (hB : 0 <= B) (h : ∀ x ∈ l, 0 <= x /\ x <= B) : 0 <= mxL l /\ mxL l <= B := by
 cases l with
 | nil => exact ⟨Int.le_refl _, hB⟩
 | cons x xs => exact K9 xs x (h x (by simp)) fun y hy => h y (by simp [hy])
def endI (h : HouseR) (c : SheetR) (G : List Int) : Int := mxL (Cc h c G ++ [0])
theorem PlanOk.endI {h : HouseR} {c : SheetR} {G : List Int} (p : PlanOk h c G) : 0 <= endI h c G /\ endI h c G <= 259845521408 := by
 refine A3g (by omega) fun x hx => ?_
 rcases List.mem_append.1 hx with hx | hx
 ·obtain ⟨i, _, rfl⟩ := List.mem_map.1 hx
  exact p.end_ i
 ·obtain rfl := List.mem_singleton.1 hx
  omega
/-! ### The order of a sheet -/
def mvI (q : CueR) (s : ByteArray) : Int := idx (fun m : MoveR => m.set = s) q.moves
def mvO (q : CueR) (s : ByteArray) : Option MoveR := if mvI q s < 0 then none else q.moves[(mvI q s).toNat]?
theorem A9u {q : CueR} {s : ByteArray} {m : MoveR} (h : mvO q s = some m) : m ∈ q.moves := by
 unfold mvO at h
 split at h
 ·cases h
 ·exact List.mem_of_getElem? h
def Oi (c : SheetR) (S L : List Int) (i k : Nat) (q r : CueR) (m : MoveR) : Prop := (mvO r m.set).isSome = true -> S.getD k 0 + L.getD k 0 <= S.getD i 0
def Ok (c : SheetR) (S L : List Int) : Prop := ∀ i q, c.cues[i]? = some q -> ∀ k r, k < i -> c.cues[k]? = some r -> ∀ m ∈ q.moves, Oi c S L i k q r m
noncomputable instance (c : SheetR) (S L : List Int) : Decidable (Ok c S L) := Classical.propDecidable _
/-! ### Paths -/
def Br (s z : Int) (up : Prop) [Decidable up] (x : PcQ) : PcQ := if up then ⟨Aa s 1000 + x.f, (z : Rat) + x.a, x.b, x.c⟩ else ⟨Aa s 1000 + x.f, (z : Rat) - x.a, -x.b, -x.c⟩
def R3 (s z : Int) (m : MoveR) : List PcQ := if m.to = z then [] else (H1 (max (m.to - z) (z - m.to)) m).map (Br s z (z < m.to))
def Hg (h : HouseR) (c : SheetR) (S : List Int) (k : Nat) (n : ByteArray) (i : Nat) : List PcQ := match c.cues[i]? with
 | some q => (match mvO q n with | some m => R3 (S.getD i 0) ((D6 h c i).getD k 0) m | none => [])
 | none => []
def Ch (o : List PcQ) (y : PcQ) : List PcQ := if (o.getLastD default).f = y.f then o.dropLast ++ [y] else o ++ [y]
theorem A3e (A : List PcQ) (l y : PcQ) (h : l.f = y.f) : Ch (A ++ [l]) y = A ++ [y] := by simp [Ch, h]
theorem A73 (A : List PcQ) (l y : PcQ) (h : ¬ l.f = y.f) : Ch (A ++ [l]) y = (A ++ [l]) ++ [y] := by simp [Ch, h]
theorem A6p (o : List PcQ) (y : PcQ) : Ch o y ≠ [] := by unfold Ch;split <;> simp
theorem A5o (o : List PcQ) (y : PcQ) : (Ch o y).length <= o.length + 1 := by unfold Ch;split <;> simp <;> omega
theorem A71 {o : List PcQ} {y : PcQ} (ho : okC o) (hy : y.ok) : okC (Ch o y) := fun p hp => by
 unfold Ch at hp
 split at hp
 ·rcases List.mem_append.1 hp with h | h
  ·exact ho p (List.dropLast_subset _ h)
  ·obtain rfl := List.mem_singleton.1 h;exact hy
 ·rcases List.mem_append.1 hp with h | h
  ·exact ho p h
  ·obtain rfl := List.mem_singleton.1 h;exact hy
theorem Qu : ∀ (l : List PcQ) (o : List PcQ), o ≠ [] -> l.foldl Ch o ≠ []
 | [], _, h => h
 | y :: l, o, _ => Qu l _ (A6p o y)
theorem Ol : ∀ (l : List PcQ) (o : List PcQ), (l.foldl Ch o).length <= o.length + l.length
 | [], _ => Nat.le_refl _
 | y :: l, o => by
  have := Ol l (Ch o y)
  have := A5o o y
  rw [List.foldl_cons, List.length_cons]
  omega
theorem Xk : ∀ (l : List PcQ) (o : List PcQ), okC o -> okC l -> okC (l.foldl Ch o)
 | [], _, h, _ => h
 | y :: l, o, h, hl => Xk l _ (A71 h (hl y (by simp))) fun p hp => hl p (by simp [hp])
def Cz (h : HouseR) (c : SheetR) (S : List Int) (k : Nat) (s : SetR) : Nat -> List PcQ
 | 0 => [⟨0, (s.high : Rat), 0, 0⟩]
 | i + 1 => (Hg h c S k s.name i).foldl Ch (Cz h c S k s i)
def Ti (h : HouseR) (c : SheetR) (S : List Int) (k : Nat) (s : SetR) : Prop := ∃ i, i < c.cues.length /\ ¬ okC (Hg h c S k s.name i)
noncomputable instance (h : HouseR) (c : SheetR) (S : List Int) (k : Nat) (s : SetR) : Decidable (Ti h c S k s) := Classical.propDecidable _
def Md (h : HouseR) (c : SheetR) (S : List Int) (k : Nat) (s : SetR) : List PcQ := Cz h c S k s c.cues.length
noncomputable def Hx (h : HouseR) (c : SheetR) (S : List Int) (k : Nat) (s : SetR) : Int := if Ti h c S k s then 5 else if 200 < (Md h c S k s).length then 4 else 0
theorem Tn (h : HouseR) (c : SheetR) (S : List Int) (k : Nat) (s : SetR) : ∀ i, Cz h c S k s i ≠ []
 | 0 => by simp [Cz]
 | i + 1 => Qu _ _ (Tn h c S k s i)
theorem A77 (h : HouseR) (c : SheetR) (S : List Int) (k : Nat) (n : ByteArray) (i : Nat) : (Hg h c S k n i).length <= 4 := by
 unfold Hg
 split
 ·split
  ·unfold R3
   split
   ·simp
   ·rw [List.length_map];exact Rq _ _
  ·simp
 ·simp
theorem Xj (h : HouseR) (c : SheetR) (S : List Int) (k : Nat) (s : SetR) : ∀ i, (Cz h c S k s i).length <= 4 * i + 1
 | 0 => by simp [Cz]
 | i + 1 => by
  have := Xj h c S k s i
  have := Ol (Hg h c S k s.name i) (Cz h c S k s i)
  have := A77 h c S k s.name i
  rw [Cz]
  omega
theorem A14 {h : HouseR} {c : SheetR} {S : List Int} {k : Nat} {s : SetR} (hs : Fits (s.high : Rat)) (hb : ¬ Ti h c S k s) : ∀ i, i <= c.cues.length -> okC (Cz h c S k s i)
 | 0, _ => fun p hp => by
  have z : Fits (0 : Rat) := Cu (n := 0) (by omega) (by omega)
  obtain rfl := List.mem_singleton.1 hp
  exact ⟨z, hs, z, z⟩
 | i + 1, hi => Xk _ _ (A14 hs hb i (by omega)) (Classical.not_not.1 fun hn => hb ⟨i, by omega, hn⟩)
end Go.Proofs.YtocoehahhohpgaaGreat
