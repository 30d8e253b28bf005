/- Plain: the order and the starts of the cues of a valid sheet. No conditions but those of each statement. -/
import Derived.Test.YtbceahipbdmocaaGreatPa
import Derived.Test.YtbceahipbdmocaaGreatMn
import Derived.Test.YtbceahipbdmocaaGreatMs
import Derived.Test.YtbceahipbdmocaaGreatNk
set_option linter.unusedSimpArgs false
set_option linter.unusedVariables false
namespace Go.Proofs.YtbceahipbdmocaaGreat
open Go Go.RowKit
def Bf (l : List CueR) : Nat := (l.filter fun q => q.link = 1).length
theorem Vz (l : List CueR) (q : CueR) : Bf (l ++ [q]) = Bf l + (if q.link = 1 then 1 else 0) := by
 unfold Bf
 rw [List.filter_append, List.length_append]
 by_cases h : q.link = 1 <;> simp [h]
theorem Ga {l : List CueR} {k : Nat} {q : CueR} (hq : l[k]? = some q) (h : q.link = 1) : Bf (l.take (k + 1)) = Bf (l.take k) + 1 := by rw [B9 hq, Vz, if_pos h]
theorem Jb {l : List CueR} {k : Nat} {q : CueR} (hq : l[k]? = some q) (h : ¬ q.link = 1) : Bf (l.take (k + 1)) = Bf (l.take k) := by rw [B9 hq, Vz, if_neg h];rfl
theorem Ja (l : List CueR) : Bf l <= l.length := List.length_filter_le _ _
theorem A67 (l : List CueR) {a b : Nat} (h : a <= b) : Bf (l.take a) <= Bf (l.take b) := by
 rw [show l.take a = (l.take b).take a by rw [List.take_take, Nat.min_eq_left h]]
 unfold Bf
 exact ((List.take_sublist a (l.take b)).filter _).length_le
theorem Aaj {l : List CueR} {k : Nat} {q : CueR} (hq : l[k]? = some q) (h : q.link = 1) : Bf (l.take k) < Bf l := by
 have h1 := Ga hq h
 have hk := (List.getElem?_eq_some_iff.1 hq).1
 have h2 := A67 l (show k + 1 <= l.length by omega)
 rw [List.take_length] at h2
 omega
def Ev (l : List CueR) (q : CueR) : Nat := (C9 l q.after).toNat
def hgI (l : List CueR) (q : CueR) : Int := if q.link = 1 then -1 else C9 l q.after
def hgL (l : List CueR) : List Int := l.map (hgI l)
structure LkQ (l : List CueR) (k : Nat) (q : CueR) : Prop where
 name : Ed q.name = true
 self : C9 l q.name = (k : Int)
 delay : 0 <= q.delay /\ q.delay <= 2147483648
 link : 1 <= q.link /\ q.link <= 3
 man : q.link = 1 -> q.after = ⟨#[]⟩
 aft : ¬ q.link = 1 -> C9 l q.after = (Ev l q : Int) /\ Ev l q < k
def LkP (l : List CueR) : Prop := ∀ k q, l[k]? = some q -> LkQ l k q
theorem validP.lk {h : HouseR} {c : SheetR} (v : validP h c) : LkP c.cues := fun k q hq => by
 obtain ⟨_, hr, hn, h1, h2⟩ := v.2.2.1 k q hq
 refine ⟨hr.1, (J1 (p := fun x : CueR => x.name = q.name) hq rfl).2 hn, hr.2.2.1, hr.2.1, h1, fun hl => ?_⟩
 obtain ⟨y, hy, e⟩ := h2 hl
 have hi : 0 <= C9 c.cues q.after /\ C9 c.cues q.after < (k : Nat) := idx_lt_iff.2 ⟨y, hy, e⟩
 unfold Ev
 omega
def fsV (l : List CueR) (G : List Int) (k : Nat) : Int := match l[k]? with | some q => if q.link = 1 then G.getD (Bf (l.take k)) 0 + q.delay else 0 | none => 0
def fsK (l : List CueR) (G : List Int) (k : Nat) : List Int := (List.range k).map (fsV l G)
theorem Ph (l : List CueR) (G : List Int) (k : Nat) : (fsK l G k).length = k := by simp [fsK]
theorem Xw (l : List CueR) (G : List Int) (k : Nat) : fsK l G (k + 1) = fsK l G k ++ [fsV l G k] := by simp [fsK, List.range_succ]
def stV (l : List CueR) (L G S : List Int) (k : Nat) : Int := match l[k]? with
 | some q => if q.link = 1 then G.getD (Bf (l.take k)) 0 + q.delay else if q.link = 2 then S.getD (Ev l q) 0 + q.delay + L.getD (Ev l q) 0 else S.getD (Ev l q) 0 + q.delay
 | none => 0
def stK (l : List CueR) (L G : List Int) : Nat -> List Int
 | 0 => []
 | k + 1 => stK l L G k ++ [stV l L G (stK l L G k) k]
theorem De (l : List CueR) (L G : List Int) : ∀ k, (stK l L G k).length = k
 | 0 => rfl
 | k + 1 => by rw [stK, List.length_append, De l L G k];rfl
theorem A1c (l : List CueR) (L G : List Int) {j k : Nat} (h : j < k) : (stK l L G k)[j]? = some (stV l L G (stK l L G j) j) := by
 induction k with
 | zero => omega
 | succ k ih =>
  rw [stK]
  by_cases e : j = k
  ·subst e
   rw [List.getElem?_append_right (by rw [De];omega), De, Nat.sub_self];rfl
  ·rw [List.getElem?_append_left (by rw [De];omega)]
   exact ih (by omega)
def Fa (n : Int) : Prop := ¬ (0 <= n /\ n <= 2147483648)
instance (n : Int) : Decidable (Fa n) := by unfold Fa;exact inferInstance
def F0 (l : List Int) : Prop := ∃ x ∈ l, Fa x
noncomputable instance (l : List Int) : Decidable (F0 l) := Classical.propDecidable _
noncomputable def stE (l : List CueR) (L G : List Int) : Int := if L.length ≠ l.length \/ G.length ≠ Bf l then 3 else if F0 L \/ F0 G then 2 else 0
theorem Gy {l : List Int} (h : ¬ F0 l) (i : Nat) : 0 <= l.getD i 0 /\ l.getD i 0 <= 2147483648 := by
 rw [List.getD_eq_getElem?_getD]
 cases e : l[i]? with
 | none => simp
 | some x =>
  have : ¬ Fa x := fun hw => h ⟨x, List.mem_of_getElem? e, hw⟩
  unfold Fa at this
  exact Classical.not_not.1 this
theorem A5n {l : List CueR} {L G S : List Int} {k : Nat} (hl : LkP l) (hL : ¬ F0 L) (hG : ¬ F0 G) (hS : ∀ j, j < k -> 0 <= S.getD j 0 /\ S.getD j 0 <= (k : Int) * 4294967296) : 0 <= stV l L G S k /\ stV l L G S k <= ((k : Int) + 1) * 4294967296 := by
 unfold stV
 cases e : l[k]? with
 | none => dsimp only;omega
 | some q =>
  obtain ⟨_, _, hd, _, _, ha⟩ := hl k q e
  dsimp only
  have g1 := Gy hG (Bf (l.take k))
  have g2 := Gy hL (Ev l q)
  split
  ·omega
  ·rename_i hm
   obtain ⟨_, a2⟩ := ha hm
   have := hS _ a2
   split <;> omega
theorem Ot {l : List CueR} {L G : List Int} (hl : LkP l) (hL : ¬ F0 L) (hG : ¬ F0 G) : ∀ k j, j < k -> 0 <= (stK l L G k).getD j 0 /\ (stK l L G k).getD j 0 <= (k : Int) * 4294967296
 | 0, j, h => by omega
 | k + 1, j, h => by
  have ih := Ot hl hL hG k
  have hb := A5n hl hL hG ih
  rw [stK, List.getD_eq_getElem?_getD]
  by_cases e : j = k
  ·subst e
   rw [List.getElem?_append_right (by rw [De];omega), De, Nat.sub_self]
   simp only [List.getElem?_cons_zero, Option.getD_some]
   omega
  ·rw [List.getElem?_append_left (by rw [De];omega), <- List.getD_eq_getElem?_getD]
   have := ih j (by omega)
   omega
def Dz (l : List CueR) (L G : List Int) (k : Nat) : List Int := stK l L G k ++ (fsK l G l.length).drop k
theorem A9p (l : List CueR) (G : List Int) {j k : Nat} (h : j < k) : (fsK l G k)[j]? = some (fsV l G j) := by
 unfold fsK
 rw [List.getElem?_map, List.getElem?_range h];rfl
theorem A6t (l : List CueR) (L G : List Int) {k : Nat} (h : k <= l.length) : (Dz l L G k).length = l.length := by
 unfold Dz
 rw [List.length_append, De, List.length_drop, Ph];omega
theorem Ve (l : List CueR) (L G : List Int) {k : Nat} (h : k < l.length) : Dz l L G k = stK l L G k ++ fsV l G k :: (fsK l G l.length).drop (k + 1) := by
 unfold Dz
 have := A9p l G h
 rw [List.getElem?_eq_some_iff] at this
 obtain ⟨h1, h2⟩ := this
 rw [List.drop_eq_getElem_cons h1, h2]
theorem Ud {α : Type} (A B : List α) (x y : α) {n : Nat} (h : A.length = n) : (A ++ x :: B).set n y = A ++ y :: B := by
 subst h
 rw [List.set_append_right _ _ (Nat.le_refl _), Nat.sub_self];rfl
theorem A77 (l : List CueR) (L G : List Int) {k : Nat} (h : k < l.length) : (Dz l L G k).set k (stV l L G (stK l L G k) k) = Dz l L G (k + 1) := by
 rw [Ve l L G h, Ud _ _ _ _ (De l L G k)]
 unfold Dz
 rw [stK, List.append_assoc];rfl
theorem A84 {l : List CueR} {L G : List Int} {k : Nat} {q : CueR} (hq : l[k]? = some q) (hm : q.link = 1) : Dz l L G (k + 1) = Dz l L G k := by
 have h := (List.getElem?_eq_some_iff.1 hq).1
 rw [Ve l L G h]
 unfold Dz
 have h1 : stV l L G (stK l L G k) k = fsV l G k := by unfold stV fsV;rw [hq];simp only [hm, if_true]
 rw [stK, h1, List.append_assoc];rfl
theorem A6d (l : List CueR) (L G : List Int) : Dz l L G l.length = stK l L G l.length := by
 unfold Dz
 rw [List.drop_of_length_le (by rw [Ph];exact Nat.le_refl _), List.append_nil]
theorem Aag {l : List CueR} {L G : List Int} {j k : Nat} (h : j < k) : (Dz l L G k)[j]? = some ((stK l L G k).getD j 0) := by
 unfold Dz
 rw [List.getElem?_append_left (by rw [De];exact h), A1c l L G h, List.getD_eq_getElem?_getD, A1c l L G h];rfl
def G7 (l : List CueR) (G : List Int) (k : Nat) : List Int := fsK l G k ++ List.replicate (l.length - k) 0
theorem A7v (l : List CueR) (G : List Int) {k : Nat} (h : k <= l.length) : (G7 l G k).length = l.length := by
 unfold G7
 rw [List.length_append, Ph, List.length_replicate];omega
theorem V1 (l : List CueR) (G : List Int) {k : Nat} (h : k < l.length) : G7 l G k = fsK l G k ++ 0 :: List.replicate (l.length - (k + 1)) 0 := by
 unfold G7
 rw [show l.length - k = (l.length - (k + 1)) + 1 by omega, List.replicate_succ]
theorem A7b {l : List CueR} {G : List Int} {k : Nat} {q : CueR} (hq : l[k]? = some q) (hm : q.link = 1) : (G7 l G k).set k (G.getD (Bf (l.take k)) 0 + q.delay) = G7 l G (k + 1) := by
 rw [V1 l G (List.getElem?_eq_some_iff.1 hq).1, Ud _ _ _ _ (Ph l G k)]
 unfold G7
 rw [Xw, List.append_assoc, show fsV l G k = G.getD (Bf (l.take k)) 0 + q.delay by unfold fsV;rw [hq];simp only [hm, if_true]]
 rfl
theorem Aa3 {l : List CueR} {G : List Int} {k : Nat} {q : CueR} (hq : l[k]? = some q) (hm : ¬ q.link = 1) : G7 l G (k + 1) = G7 l G k := by
 rw [V1 l G (List.getElem?_eq_some_iff.1 hq).1]
 unfold G7
 rw [Xw, List.append_assoc, show fsV l G k = 0 by unfold fsV;rw [hq];simp only [hm, if_false]]
 rfl
theorem A5v (l : List CueR) (L G : List Int) : G7 l G l.length = Dz l L G 0 := by
 unfold G7 Dz
 rw [Nat.sub_self]
 simp [stK]
def Hw (n k : Nat) : List Bool := List.replicate k true ++ List.replicate (n - k) false
theorem M9 {n k : Nat} (h : k < n) : (Hw n k).set k true = Hw n (k + 1) := by
 unfold Hw
 rw [show n - k = (n - (k + 1)) + 1 by omega, List.replicate_succ, Ud _ _ _ _ (List.length_replicate ..), List.replicate_succ', List.append_assoc];rfl
theorem Zd {n k j : Nat} (h : j < k) : (Hw n k)[j]? = some true := by
 unfold Hw
 rw [List.getElem?_append_left (by rw [List.length_replicate];exact h), List.getElem?_replicate, if_pos h]
theorem A9w {n k : Nat} (h : k < n) : (Hw n k)[k]? = some false := by
 unfold Hw
 rw [List.getElem?_append_right (by rw [List.length_replicate];exact Nat.le_refl _), List.length_replicate, Nat.sub_self, List.getElem?_replicate, if_pos (by omega)]
theorem A6z {n k : Nat} (h : k <= n) : (Hw n k).length = n := by
 unfold Hw
 rw [List.length_append, List.length_replicate, List.length_replicate];omega
def Hk (d : Int) (m : MoveR) : List PcQ := if (Tx d m).num = 0 then [⟨0, 0, 0, Aa m.rise 2⟩, ⟨J2 d m, Qy d m, ((B7 d m : Int) : Rat), Aa (-m.fall) 2⟩, ⟨Jy d m, (d : Rat), 0, 0⟩] else [⟨0, 0, 0, Aa m.rise 2⟩, ⟨Lx d m, Pm d m, ((B7 d m : Int) : Rat), 0⟩, ⟨J2 d m, Qy d m, ((B7 d m : Int) : Rat), Aa (-m.fall) 2⟩, ⟨Jy d m, (d : Rat), 0, 0⟩]
theorem A2x (d : Int) (m : MoveR) : (Hk d m).map PcQ.row = Jr d m := by unfold Hk Jr;split <;> rfl
theorem Rx (d : Int) (m : MoveR) : (Hk d m).length <= 4 := by unfold Hk;split <;> simp
theorem A35 {d : Int} {m : MoveR} (hm : Dw m) (hd : 1 <= d /\ d <= 1048576) : okC (Hk d m) := by
 have K := Rf hm hd
 have z : Fits (0 : Rat) := Ch (n := 0) (by omega) (by omega)
 have t : Fits ((B7 d m : Int) : Rat) := Ch (by have := K.w;omega) (by have := K.w;omega)
 have e : Fits (d : Rat) := Ch (by omega) (by omega)
 intro p hp
 unfold Hk at hp
 split at hp
 ·simp only [List.mem_cons, List.not_mem_nil, or_false] at hp
  rcases hp with rfl | rfl | rfl
  ·exact ⟨z, z, z, K.half⟩
  ·exact ⟨K.stop, K.top, t, K.halfF⟩
  ·exact ⟨K.fin, e, z, z⟩
 ·simp only [List.mem_cons, List.not_mem_nil, or_false] at hp
  rcases hp with rfl | rfl | rfl | rfl
  ·exact ⟨z, z, z, K.half⟩
  ·exact ⟨K.start, K.rise, t, z⟩
  ·exact ⟨K.stop, K.top, t, K.halfF⟩
  ·exact ⟨K.fin, e, z, z⟩
/-! ### Lengths, starts, ends -/
def A8s (h : HouseR) (c : SheetR) (k : Nat) : Rat := match c.cues[k]? with | some q => D8 h (Cv h c k) q.moves | none => 0
theorem A9u {h : HouseR} {c : SheetR} {k : Nat} {q : CueR} (hq : c.cues[k]? = some q) : A8s h c k = D8 h (Cv h c k) q.moves := by unfold A8s;rw [hq]
def msQ (h : HouseR) (c : SheetR) (k : Nat) : Rat := 1000 * A8s h c k
def upI (q : Rat) : Int := -(-q.num / q.den)
def msI (h : HouseR) (c : SheetR) (k : Nat) : Int := upI (msQ h c k)
def Uf (h : HouseR) (c : SheetR) : Prop := ∃ k, k < c.cues.length /\ ¬ Fits (msQ h c k)
noncomputable instance (h : HouseR) (c : SheetR) : Decidable (Uf h c) := Classical.propDecidable _
def Fo (h : HouseR) (c : SheetR) (n : Nat) : List Int := (List.range n).map (msI h c)
theorem E7 (h : HouseR) (c : SheetR) (n : Nat) : (Fo h c n).length = n := by simp [Fo]
theorem A1o (h : HouseR) (c : SheetR) (n : Nat) : Fo h c (n + 1) = Fo h c n ++ [msI h c n] := by simp [Fo, List.range_succ]
abbrev C3 (h : HouseR) (c : SheetR) : List Int := Fo h c c.cues.length
noncomputable def mdE (h : HouseR) (c : SheetR) (G : List Int) : Int := if Uf h c then 5 else stE c.cues (C3 h c) G
def stL (h : HouseR) (c : SheetR) (G : List Int) : List Int := stK c.cues (C3 h c) G c.cues.length
theorem En (h : HouseR) (c : SheetR) (G : List Int) : (stL h c G).length = c.cues.length := De _ _ _ _
structure PlanOk (h : HouseR) (c : SheetR) (G : List Int) : Prop where
 v : validP h c
 fit : ¬ Uf h c
 man : G.length = Bf c.cues
 len : ¬ F0 (C3 h c)
 given : ¬ F0 G
theorem A6q {h : HouseR} {c : SheetR} {G : List Int} (v : validP h c) (e : mdE h c G = 0) : PlanOk h c G := by
 unfold mdE at e
 split at e
 ·cases e
 ·rename_i hb
  unfold stE at e
  split at e
  ·cases e
  ·rename_i hl
   split at e
   ·cases e
   ·rename_i hw
    exact ⟨v, hb, Classical.not_not.1 fun k => hl (.inr k), fun k => hw (.inl k), fun k => hw (.inr k)⟩
theorem PlanOk.zero {h : HouseR} {c : SheetR} {G : List Int} (p : PlanOk h c G) : mdE h c G = 0 := by
 unfold mdE stE
 rw [if_neg p.fit, if_neg (fun k => k.elim (fun k => k (E7 ..)) fun k => k p.man), if_neg (fun k => k.elim p.len p.given)]
theorem PlanOk.st {h : HouseR} {c : SheetR} {G : List Int} (p : PlanOk h c G) (i : Nat) : 0 <= (stL h c G).getD i 0 /\ (stL h c G).getD i 0 <= 257698037760 := by
 have h60 := p.v.2.1
 by_cases hi : i < c.cues.length
 ·have := Ot p.v.lk p.len p.given c.cues.length i hi
  unfold stL
  omega
 ·rw [List.getD_eq_getElem?_getD, List.getElem?_eq_none (by rw [En];omega)]
  simp
theorem PlanOk.ln {h : HouseR} {c : SheetR} {G : List Int} (p : PlanOk h c G) (i : Nat) : 0 <= (C3 h c).getD i 0 /\ (C3 h c).getD i 0 <= 2147483648 := Gy p.len i
def Hg (h : HouseR) (c : SheetR) (G : List Int) (i : Nat) : Int := (stL h c G).getD i 0 + (C3 h c).getD i 0
def Ds (h : HouseR) (c : SheetR) (G : List Int) (n : Nat) : List Int := (List.range n).map (Hg h c G)
abbrev Ea (h : HouseR) (c : SheetR) (G : List Int) : List Int := Ds h c G c.cues.length
theorem G6 (h : HouseR) (c : SheetR) (G : List Int) (n : Nat) : (Ds h c G n).length = n := by simp [Ds]
theorem Om (h : HouseR) (c : SheetR) (G : List Int) (n : Nat) : Ds h c G (n + 1) = Ds h c G n ++ [Hg h c G n] := by simp [Ds, List.range_succ]
theorem PlanOk.end_ {h : HouseR} {c : SheetR} {G : List Int} (p : PlanOk h c G) (i : Nat) : 0 <= Hg h c G i /\ Hg h c G i <= 259845521408 := by
 have := p.st i
 have := p.ln i
 unfold Hg
 omega
def mxL : List Int -> Int
 | [] => 0
 | x :: xs => xs.foldl max x
theorem Ko {B : Int} : ∀ (l : List Int) (a : Int), (0 <= a /\ a <= B) -> (∀ x ∈ l, 0 <= x /\ x <= B) -> 0 <= l.foldl max a /\ l.foldl max a <= B
 | [], a, h, _ => h
 | x :: xs, a, h, hl => Ko xs (max a x) (by have := hl x (by simp);omega) fun y hy => hl y (by simp [hy])
theorem A6o {l : List Int} {B : Int} (hB : 0 <= B) (h : ∀ x ∈ l, 0 <= x /\ x <= B) : 0 <= mxL l /\ mxL l <= B := by
 cases l with
 | nil => exact ⟨Int.le_refl _, hB⟩
 | cons x xs => exact Ko xs x (h x (by simp)) fun y hy => h y (by simp [hy])
def endI (h : HouseR) (c : SheetR) (G : List Int) : Int := mxL (Ea h c G ++ [0])
theorem PlanOk.endI {h : HouseR} {c : SheetR} {G : List Int} (p : PlanOk h c G) : 0 <= endI h c G /\ endI h c G <= 259845521408 := by
 refine A6o (by omega) fun x hx => ?_
 rcases List.mem_append.1 hx with hx | hx
 ·obtain ⟨i, _, rfl⟩ := List.mem_map.1 hx
  exact p.end_ i
 ·obtain rfl := List.mem_singleton.1 hx
  omega
/-! ### The order of a sheet -/
def mvI (q : CueR) (s : ByteArray) : Int := idx (fun m : MoveR => m.set = s) q.moves
def mvO (q : CueR) (s : ByteArray) : Option MoveR := if mvI q s < 0 then none else q.moves[(mvI q s).toNat]?
theorem Ab7 {q : CueR} {s : ByteArray} {m : MoveR} (h : mvO q s = some m) : m ∈ q.moves := by
 unfold mvO at h
 split at h
 ·cases h
 ·exact List.mem_of_getElem? h
def Oe (c : SheetR) (S L : List Int) (i k : Nat) (q r : CueR) (m : MoveR) : Prop := (mvO r m.set).isSome = true -> S.getD k 0 + L.getD k 0 <= S.getD i 0
def O7 (c : SheetR) (S L : List Int) : Prop := ∀ i q, c.cues[i]? = some q -> ∀ k r, k < i -> c.cues[k]? = some r -> ∀ m ∈ q.moves, Oe c S L i k q r m
noncomputable instance (c : SheetR) (S L : List Int) : Decidable (O7 c S L) := Classical.propDecidable _
/-! ### Paths -/
def Bl (s z : Int) (up : Prop) [Decidable up] (x : PcQ) : PcQ := if up then ⟨Aa s 1000 + x.f, (z : Rat) + x.a, x.b, x.c⟩ else ⟨Aa s 1000 + x.f, (z : Rat) - x.a, -x.b, -x.c⟩
def Rd (s z : Int) (m : MoveR) : List PcQ := if m.to = z then [] else (Hk (max (m.to - z) (z - m.to)) m).map (Bl s z (z < m.to))
def Hb (h : HouseR) (c : SheetR) (S : List Int) (k : Nat) (n : ByteArray) (i : Nat) : List PcQ := match c.cues[i]? with
 | some q => (match mvO q n with | some m => Rd (S.getD i 0) ((Cv h c i).getD k 0) m | none => [])
 | none => []
def Cc (o : List PcQ) (y : PcQ) : List PcQ := if (o.getLastD default).f = y.f then o.dropLast ++ [y] else o ++ [y]
theorem A46 (A : List PcQ) (l y : PcQ) (h : l.f = y.f) : Cc (A ++ [l]) y = A ++ [y] := by simp [Cc, h]
theorem A8f (A : List PcQ) (l y : PcQ) (h : ¬ l.f = y.f) : Cc (A ++ [l]) y = (A ++ [l]) ++ [y] := by simp [Cc, h]
theorem A8i (o : List PcQ) (y : PcQ) : Cc o y ≠ [] := by unfold Cc;split <;> simp
theorem A43 (o : List PcQ) (y : PcQ) : (Cc o y).length <= o.length + 1 := by unfold Cc;split <;> simp <;> omega
theorem A8m {o : List PcQ} {y : PcQ} (ho : okC o) (hy : y.ok) : okC (Cc o y) := fun p hp => by
 unfold Cc at hp
 split at hp
 ·rcases List.mem_append.1 hp with h | h
  ·exact ho p (List.dropLast_subset _ h)
  ·obtain rfl := List.mem_singleton.1 h;exact hy
 ·rcases List.mem_append.1 hp with h | h
  ·exact ho p h
  ·obtain rfl := List.mem_singleton.1 h;exact hy
theorem Rp : ∀ (l : List PcQ) (o : List PcQ), o ≠ [] -> l.foldl Cc o ≠ []
 | [], _, h => h
 | y :: l, o, _ => Rp l _ (A8i o y)
theorem Nt : ∀ (l : List PcQ) (o : List PcQ), (l.foldl Cc o).length <= o.length + l.length
 | [], _ => Nat.le_refl _
 | y :: l, o => by
  have := Nt l (Cc o y)
  have := A43 o y
  rw [List.foldl_cons, List.length_cons]
  omega
theorem Z9 : ∀ (l : List PcQ) (o : List PcQ), okC o -> okC l -> okC (l.foldl Cc o)
 | [], _, h, _ => h
 | y :: l, o, h, hl => Z9 l _ (A8m h (hl y (by simp))) fun p hp => hl p (by simp [hp])
def Cr (h : HouseR) (c : SheetR) (S : List Int) (k : Nat) (s : SetR) : Nat -> List PcQ
 | 0 => [⟨0, (s.high : Rat), 0, 0⟩]
 | i + 1 => (Hb h c S k s.name i).foldl Cc (Cr h c S k s i)
def Un (h : HouseR) (c : SheetR) (S : List Int) (k : Nat) (s : SetR) : Prop := ∃ i, i < c.cues.length /\ ¬ okC (Hb h c S k s.name i)
noncomputable instance (h : HouseR) (c : SheetR) (S : List Int) (k : Nat) (s : SetR) : Decidable (Un h c S k s) := Classical.propDecidable _
def Na (h : HouseR) (c : SheetR) (S : List Int) (k : Nat) (s : SetR) : List PcQ := Cr h c S k s c.cues.length
noncomputable def Hl (h : HouseR) (c : SheetR) (S : List Int) (k : Nat) (s : SetR) : Int := if Un h c S k s then 5 else if 200 < (Na h c S k s).length then 4 else 0
theorem Uu (h : HouseR) (c : SheetR) (S : List Int) (k : Nat) (s : SetR) : ∀ i, Cr h c S k s i ≠ []
 | 0 => by simp [Cr]
 | i + 1 => Rp _ _ (Uu h c S k s i)
theorem A86 (h : HouseR) (c : SheetR) (S : List Int) (k : Nat) (n : ByteArray) (i : Nat) : (Hb h c S k n i).length <= 4 := by
 unfold Hb
 split
 ·split
  ·unfold Rd
   split
   ·simp
   ·rw [List.length_map];exact Rx _ _
  ·simp
 ·simp
theorem X0 (h : HouseR) (c : SheetR) (S : List Int) (k : Nat) (s : SetR) : ∀ i, (Cr h c S k s i).length <= 4 * i + 1
 | 0 => by simp [Cr]
 | i + 1 => by
  have := X0 h c S k s i
  have := Nt (Hb h c S k s.name i) (Cr h c S k s i)
  have := A86 h c S k s.name i
  rw [Cr]
  omega
theorem A0o {h : HouseR} {c : SheetR} {S : List Int} {k : Nat} {s : SetR} (hs : Fits (s.high : Rat)) (hb : ¬ Un h c S k s) : ∀ i, i <= c.cues.length -> okC (Cr h c S k s i)
 | 0, _ => fun p hp => by
  have z : Fits (0 : Rat) := Ch (n := 0) (by omega) (by omega)
  obtain rfl := List.mem_singleton.1 hp
  exact ⟨z, hs, z, z⟩
 | i + 1, hi => Z9 _ _ (A0o hs hb i (by omega)) (Classical.not_not.1 fun hn => hb ⟨i, by omega, hn⟩)
end Go.Proofs.YtbceahipbdmocaaGreat
