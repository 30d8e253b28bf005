/- Lemmas of the proof. -/
import Derived.Test.YtlapbaiejnaeiaaGreatDoorMj
import Derived.Test.YtlapbaiejnaeiaaGreatDoorMn
import Derived.Test.YtlapbaiejnaeiaaGreatDoorNn
import Derived.Test.YtlapbaiejnaeiaaGreatDoorOa
import Derived.Test.YtlapbaiejnaeiaaGreatDoorNz
import Derived.Test.YtlapbaiejnaeiaaGreatDoorMh
set_option linter.all false
set_option maxHeartbeats 64000000
namespace Go.Proofs.YtlapbaiejnaeiaaGreatDoor
open Go Go.RowKit
def a8y := @List.mem_of_mem_drop
def Bk (l : List CueR) : Nat := (l.filter fun q => q.link = 1).length
theorem Vd (l : List CueR) (q : CueR) : Bk (l ++ [q]) = Bk l + (if q.link = 1 then 1 else 0) := by
 unfold Bk
 rw [List.filter_append, a0q]
 by_cases h : q.link = 1 <;> simp [h]
theorem Gr {l : List CueR} {k : Nat} {q : CueR} (hq : l[k]? = some q) (h : q.link = 1) : Bk (l.take (k + 1)) = Bk (l.take k) + 1 := by rw [B8 hq, Vd, if_pos h]
theorem J8 {l : List CueR} {k : Nat} {q : CueR} (hq : l[k]? = some q) (h : ¬ q.link = 1) : Bk (l.take (k + 1)) = Bk (l.take k) := by rw [B8 hq, Vd, if_neg h];rfl
theorem J7 (l : List CueR) : Bk l <= l.length := List.length_filter_le _ _
theorem A5u (l : List CueR) {a b : Nat} (h : a <= b) : Bk (l.take a) <= Bk (l.take b) := by
 rw [show l.take a = (l.take b).take a by rw [List.take_take, a4b h]]
 unfold Bk
 exact ((List.take_sublist a (l.take b)).filter _).length_le
theorem Abi {l : List CueR} {k : Nat} {q : CueR} (hq : l[k]? = some q) (h : q.link = 1) : Bk (l.take k) < Bk l := by
 have h1 := Gr hq h
 have hk := (a0g.1 hq).1
 have h2 := A5u l (show k + 1 <= l.length by omega)
 rw [a1w] at h2
 omega
def F0 (l : List CueR) (q : CueR) : Nat := (Cd l q.after).toNat
def hgI (l : List CueR) (q : CueR) : Int := if q.link = 1 then -1 else Cd l q.after
def hgL (l : List CueR) : List Int := l.map (hgI l)
structure LkQ (l : List CueR) (k : Nat) (q : CueR) : Prop where
 name : Ct q.name = true
 self : Cd l q.name = (k : Int)
 delay : 0 <= q.delay /\ q.delay <= 2147483648
 link : 1 <= q.link /\ q.link <= 3
 man : q.link = 1 -> q.after = ⟨#[]⟩
 aft : ¬ q.link = 1 -> Cd l q.after = (F0 l q : Int) /\ F0 l q < k
def LkP (l : List CueR) : Prop := ∀ k q, l[k]? = some q -> LkQ l k q
theorem validP.lk {h : HouseR} {c : SheetR} (v : validP h c) : LkP c.cues := fun k q hq => by
 obtain ⟨_, hr, hn, h1, h2⟩ := v.2.2.1 k q hq
 refine ⟨hr.1, (M3 (p := fun x : CueR => x.name = q.name) hq rfl).2 hn, hr.2.2.1, hr.2.1, h1, fun hl => ?_⟩
 obtain ⟨y, hy, e⟩ := h2 hl
 have hi : 0 <= Cd c.cues q.after /\ Cd c.cues q.after < (k : Nat) := idx_lt_iff.2 ⟨y, hy, e⟩
 unfold F0
 omega
def fsV (l : List CueR) (G : List Int) (k : Nat) : Int := match l[k]? with | some q => if q.link = 1 then G.getD (Bk (l.take k)) 0 + q.delay else 0 | none => 0
def fsK (l : List CueR) (G : List Int) (k : Nat) : List Int := (List.range k).map (fsV l G)
theorem P3 (l : List CueR) (G : List Int) (k : Nat) : (fsK l G k).length = k := by simp [fsK]
theorem Xn (l : List CueR) (G : List Int) (k : Nat) : fsK l G (k + 1) = fsK l G k ++ [fsV l G k] := by simp [fsK, a6y]
def stV (l : List CueR) (L G S : List Int) (k : Nat) : Int := match l[k]? with
 | some q => if q.link = 1 then G.getD (Bk (l.take k)) 0 + q.delay else if q.link = 2 then S.getD (F0 l q) 0 + q.delay + L.getD (F0 l q) 0 else S.getD (F0 l q) 0 + q.delay
 | none => 0
def stK (l : List CueR) (L G : List Int) : Nat -> List Int
 | 0 => []
 | k + 1 => stK l L G k ++ [stV l L G (stK l L G k) k]
theorem Dp (l : List CueR) (L G : List Int) : ∀ k, (stK l L G k).length = k
 | 0 => rfl
 | k + 1 => by rw [stK, a0q, Dp l L G k];rfl
theorem A1w (l : List CueR) (L G : List Int) {j k : Nat} (h : j < k) : (stK l L G k)[j]? = some (stV l L G (stK l L G j) j) := by
 induction k with
 | zero => omega
 | succ k ih =>
  rw [stK]
  by_cases e : j = k
  ·subst e
   rw [a1d (by rw [Dp];omega), Dp, a5y];rfl
  ·rw [a1g (by rw [Dp];omega)]
   exact ih (by omega)
def Fk (n : Int) : Prop := ¬ (0 <= n /\ n <= 2147483648)
instance (n : Int) : Decidable (Fk n) := by unfold Fk;exact inferInstance
def F1 (l : List Int) : Prop := ∃ x ∈ l, Fk x
noncomputable instance (l : List Int) : Decidable (F1 l) := Classical.propDecidable _
noncomputable def stE (l : List CueR) (L G : List Int) : Int := if L.length ≠ l.length \/ G.length ≠ Bk l then 3 else if F1 L \/ F1 G then 2 else 0
theorem Hb {l : List Int} (h : ¬ F1 l) (i : Nat) : 0 <= l.getD i 0 /\ l.getD i 0 <= 2147483648 := by
 rw [a0p]
 cases e : l[i]? with
 | none => simp
 | some x =>
  have : ¬ Fk x := fun hw => h ⟨x, a0c e, hw⟩
  unfold Fk at this
  exact a2l.1 this
theorem A74 {l : List CueR} {L G S : List Int} {k : Nat} (hl : LkP l) (hL : ¬ F1 L) (hG : ¬ F1 G) (hS : ∀ j, j < k -> 0 <= S.getD j 0 /\ S.getD j 0 <= (k : Int) * 4294967296) : 0 <= stV l L G S k /\ stV l L G S k <= ((k : Int) + 1) * 4294967296 := by
 unfold stV
 cases e : l[k]? with
 | none => dsimp only;omega
 | some q =>
  obtain ⟨_, _, hd, _, _, ha⟩ := hl k q e
  dsimp only
  have g1 := Hb hG (Bk (l.take k))
  have g2 := Hb hL (F0 l q)
  split
  ·omega
  ·rename_i hm
   obtain ⟨_, a2⟩ := ha hm
   have := hS _ a2
   split <;> omega
theorem Oc {l : List CueR} {L G : List Int} (hl : LkP l) (hL : ¬ F1 L) (hG : ¬ F1 G) : ∀ k j, j < k -> 0 <= (stK l L G k).getD j 0 /\ (stK l L G k).getD j 0 <= (k : Int) * 4294967296
 | 0, j, h => by omega
 | k + 1, j, h => by
  have ih := Oc hl hL hG k
  have hb := A74 hl hL hG ih
  rw [stK, a0p]
  by_cases e : j = k
  ·subst e
   rw [a1d (by rw [Dp];omega), Dp, a5y]
   simp only [a2h, a1i]
   omega
  ·rw [a1g (by rw [Dp];omega), <- a0p]
   have := ih j (by omega)
   omega
def E7 (l : List CueR) (L G : List Int) (k : Nat) : List Int := stK l L G k ++ (fsK l G l.length).drop k
theorem Ab7 (l : List CueR) (G : List Int) {j k : Nat} (h : j < k) : (fsK l G k)[j]? = some (fsV l G j) := by
 unfold fsK
 rw [a0e, a3c h];rfl
theorem A98 (l : List CueR) (L G : List Int) {k : Nat} (h : k <= l.length) : (E7 l L G k).length = l.length := by
 unfold E7
 rw [a0q, Dp, a1v, P3];omega
theorem Vf (l : List CueR) (L G : List Int) {k : Nat} (h : k < l.length) : E7 l L G k = stK l L G k ++ fsV l G k :: (fsK l G l.length).drop (k + 1) := by
 unfold E7
 have := Ab7 l G h
 rw [a0g] at this
 obtain ⟨h1, h2⟩ := this
 rw [a7p h1, h2]
theorem Ug {α : Type} (A B : List α) (x y : α) {n : Nat} (h : A.length = n) : (A ++ x :: B).set n y = A ++ y :: B := by
 subst h
 rw [a6s _ _ (a0l _), a5y];rfl
theorem A9a (l : List CueR) (L G : List Int) {k : Nat} (h : k < l.length) : (E7 l L G k).set k (stV l L G (stK l L G k) k) = E7 l L G (k + 1) := by
 rw [Vf l L G h, Ug _ _ _ _ (Dp l L G k)]
 unfold E7
 rw [stK, a2v];rfl
theorem A99 {l : List CueR} {L G : List Int} {k : Nat} {q : CueR} (hq : l[k]? = some q) (hm : q.link = 1) : E7 l L G (k + 1) = E7 l L G k := by
 have h := (a0g.1 hq).1
 rw [Vf l L G h]
 unfold E7
 have h1 : stV l L G (stK l L G k) k = fsV l G k := by unfold stV fsV;rw [hq];simp only [hm, if_true]
 rw [stK, h1, a2v];rfl
theorem A5x (l : List CueR) (L G : List Int) : E7 l L G l.length = stK l L G l.length := by
 unfold E7
 rw [a5b (by rw [P3];exact a0l _), a2g]
theorem Abj {l : List CueR} {L G : List Int} {j k : Nat} (h : j < k) : (E7 l L G k)[j]? = some ((stK l L G k).getD j 0) := by
 unfold E7
 rw [a1g (by rw [Dp];exact h), A1w l L G h, a0p, A1w l L G h];rfl
def Gn (l : List CueR) (G : List Int) (k : Nat) : List Int := fsK l G k ++ List.replicate (l.length - k) 0
theorem A8l (l : List CueR) (G : List Int) {k : Nat} (h : k <= l.length) : (Gn l G k).length = l.length := by
 unfold Gn
 rw [a0q, P3, a3e];omega
theorem V9 (l : List CueR) (G : List Int) {k : Nat} (h : k < l.length) : Gn l G k = fsK l G k ++ 0 :: List.replicate (l.length - (k + 1)) 0 := by
 unfold Gn
 rw [show l.length - k = (l.length - (k + 1)) + 1 by omega, a9d]
theorem A8m {l : List CueR} {G : List Int} {k : Nat} {q : CueR} (hq : l[k]? = some q) (hm : q.link = 1) : (Gn l G k).set k (G.getD (Bk (l.take k)) 0 + q.delay) = Gn l G (k + 1) := by
 rw [V9 l G (a0g.1 hq).1, Ug _ _ _ _ (P3 l G k)]
 unfold Gn
 rw [Xn, a2v, show fsV l G k = G.getD (Bk (l.take k)) 0 + q.delay by unfold fsV;rw [hq];simp only [hm, if_true]]
 rfl
theorem Ab8 {l : List CueR} {G : List Int} {k : Nat} {q : CueR} (hq : l[k]? = some q) (hm : ¬ q.link = 1) : Gn l G (k + 1) = Gn l G k := by
 rw [V9 l G (a0g.1 hq).1]
 unfold Gn
 rw [Xn, a2v, show fsV l G k = 0 by unfold fsV;rw [hq];simp only [hm, if_false]]
 rfl
theorem A5f (l : List CueR) (L G : List Int) : Gn l G l.length = E7 l L G 0 := by
 unfold Gn E7
 rw [a5y]
 simp [stK]
def Hu (n k : Nat) : List Bool := List.replicate k true ++ List.replicate (n - k) false
theorem Lz {n k : Nat} (h : k < n) : (Hu n k).set k true = Hu n (k + 1) := by
 unfold Hu
 rw [show n - k = (n - (k + 1)) + 1 by omega, a9d, Ug _ _ _ _ (a3e ..), List.replicate_succ', a2v];rfl
theorem Xf {n k j : Nat} (h : j < k) : (Hu n k)[j]? = some true := by
 unfold Hu
 rw [a1g (by rw [a3e];exact h), a3y, if_pos h]
theorem Ab3 {n k : Nat} (h : k < n) : (Hu n k)[k]? = some false := by
 unfold Hu
 rw [a1d (by rw [a3e];exact a0l _), a3e, a5y, a3y, if_pos (by omega)]
theorem A8d {n k : Nat} (h : k <= n) : (Hu n k).length = n := by
 unfold Hu
 rw [a0q, a3e, a3e];omega
/-! ### Lengths, starts, ends -/
def A93 (h : HouseR) (c : SheetR) (k : Nat) : Rat := match c.cues[k]? with | some q => Dh h (D9 h c k) q.moves | none => 0
theorem Abd {h : HouseR} {c : SheetR} {k : Nat} {q : CueR} (hq : c.cues[k]? = some q) : A93 h c k = Dh h (D9 h c k) q.moves := by unfold A93;rw [hq]
def msQ (h : HouseR) (c : SheetR) (k : Nat) : Rat := 1000 * A93 h c k
def upI (q : Rat) : Int := -(-q.num / q.den)
def msI (h : HouseR) (c : SheetR) (k : Nat) : Int := upI (msQ h c k)
def Qo (h : HouseR) (c : SheetR) : Prop := ∃ k, k < c.cues.length /\ ¬ Fits (msQ h c k)
noncomputable instance (h : HouseR) (c : SheetR) : Decidable (Qo h c) := Classical.propDecidable _
def Fs (h : HouseR) (c : SheetR) (n : Nat) : List Int := (List.range n).map (msI h c)
theorem Fa (h : HouseR) (c : SheetR) (n : Nat) : (Fs h c n).length = n := by simp [Fs]
theorem A32 (h : HouseR) (c : SheetR) (n : Nat) : Fs h c (n + 1) = Fs h c n ++ [msI h c n] := by simp [Fs, a6y]
abbrev Cv (h : HouseR) (c : SheetR) : List Int := Fs h c c.cues.length
noncomputable def mdE (h : HouseR) (c : SheetR) (G : List Int) : Int := if Qo h c then 5 else stE c.cues (Cv h c) G
def stL (h : HouseR) (c : SheetR) (G : List Int) : List Int := stK c.cues (Cv h c) G c.cues.length
theorem I5 (h : HouseR) (c : SheetR) (G : List Int) : (stL h c G).length = c.cues.length := Dp _ _ _ _
structure PlanOk (h : HouseR) (c : SheetR) (G : List Int) : Prop where
 v : validP h c
 fit : ¬ Qo h c
 man : G.length = Bk c.cues
 len : ¬ F1 (Cv h c)
 given : ¬ F1 G
theorem A6c {h : HouseR} {c : SheetR} {G : List Int} (v : validP h c) (e : mdE h c G = 0) : PlanOk h c G := by
 unfold mdE at e
 split at e
 ·cases e
 ·rename_i hb
  unfold stE at e
  split at e
  ·cases e
  ·rename_i hl
   split at e
   ·cases e
   ·rename_i hw
    exact ⟨v, hb, a2l.1 fun k => hl (.inr k), fun k => hw (.inl k), fun k => hw (.inr k)⟩
theorem PlanOk.zero {h : HouseR} {c : SheetR} {G : List Int} (p : PlanOk h c G) : mdE h c G = 0 := by
 unfold mdE stE
 rw [if_neg p.fit, if_neg (fun k => k.elim (fun k => k (Fa ..)) fun k => k p.man), if_neg (fun k => k.elim p.len p.given)]
theorem PlanOk.st {h : HouseR} {c : SheetR} {G : List Int} (p : PlanOk h c G) (i : Nat) : 0 <= (stL h c G).getD i 0 /\ (stL h c G).getD i 0 <= 257698037760 := by
 have h60 := p.v.2.1
 by_cases hi : i < c.cues.length
 ·have := Oc p.v.lk p.len p.given c.cues.length i hi
  unfold stL
  omega
 ·rw [a0p, a0w (by rw [I5];omega)]
  simp
theorem PlanOk.ln {h : HouseR} {c : SheetR} {G : List Int} (p : PlanOk h c G) (i : Nat) : 0 <= (Cv h c).getD i 0 /\ (Cv h c).getD i 0 <= 2147483648 := Hb p.len i
def Jj (h : HouseR) (c : SheetR) (G : List Int) (i : Nat) : Int := (stL h c G).getD i 0 + (Cv h c).getD i 0
def G3 (h : HouseR) (c : SheetR) (G : List Int) (n : Nat) : List Int := (List.range n).map (Jj h c G)
abbrev F3 (h : HouseR) (c : SheetR) (G : List Int) : List Int := G3 h c G c.cues.length
theorem Ji (h : HouseR) (c : SheetR) (G : List Int) (n : Nat) : (G3 h c G n).length = n := by simp [G3]
theorem Uz (h : HouseR) (c : SheetR) (G : List Int) (n : Nat) : G3 h c G (n + 1) = G3 h c G n ++ [Jj h c G n] := by simp [G3, a6y]
theorem PlanOk.end_ {h : HouseR} {c : SheetR} {G : List Int} (p : PlanOk h c G) (i : Nat) : 0 <= Jj h c G i /\ Jj h c G i <= 259845521408 := by
 have := p.st i
 have := p.ln i
 unfold Jj
 omega
def mxL : List Int -> Int
 | [] => 0
 | x :: xs => xs.foldl max x
theorem K7 {B : Int} : ∀ (l : List Int) (a : Int), (0 <= a /\ a <= B) -> (∀ x ∈ l, 0 <= x /\ x <= B) -> 0 <= l.foldl max a /\ l.foldl max a <= B
 | [], a, h, _ => h
 | x :: xs, a, h, hl => K7 xs (max a x) (by have := hl x (by simp);omega) fun y hy => hl y (by simp [hy])
theorem A61 {l : List Int} {B : Int} (hB : 0 <= B) (h : ∀ x ∈ l, 0 <= x /\ x <= B) : 0 <= mxL l /\ mxL l <= B := by
 cases l with
 | nil => exact ⟨a4m _, hB⟩
 | cons x xs => exact K7 xs x (h x (by simp)) fun y hy => h y (by simp [hy])
def endI (h : HouseR) (c : SheetR) (G : List Int) : Int := mxL (F3 h c G ++ [0])
theorem PlanOk.endI {h : HouseR} {c : SheetR} {G : List Int} (p : PlanOk h c G) : 0 <= endI h c G /\ endI h c G <= 259845521408 := by
 refine A61 (by omega) fun x hx => ?_
 rcases a0u.1 hx with hx | hx
 ·obtain ⟨i, _, rfl⟩ := a1b.1 hx
  exact p.end_ i
 ·obtain rfl := a2n.1 hx
  omega
def H5 (d : Int) (m : MoveR) : List PcQ := if (Ub d m).num = 0 then [⟨0, 0, 0, A9 m.rise 2⟩, ⟨Iy d m, Rc d m, ((Bb d m : Int) : Rat), A9 (-m.fall) 2⟩, ⟨Ju d m, (d : Rat), 0, 0⟩] else [⟨0, 0, 0, A9 m.rise 2⟩, ⟨La d m, Pc d m, ((Bb d m : Int) : Rat), 0⟩, ⟨Iy d m, Rc d m, ((Bb d m : Int) : Rat), A9 (-m.fall) 2⟩, ⟨Ju d m, (d : Rat), 0, 0⟩]
theorem A2r (d : Int) (m : MoveR) : (H5 d m).map PcQ.row = Jg d m := by unfold H5 Jg;split <;> rfl
theorem S5 (d : Int) (m : MoveR) : (H5 d m).length <= 4 := by unfold H5;split <;> simp
theorem A2q {d : Int} {m : MoveR} (hm : E4 m) (hd : 1 <= d /\ d <= 1048576) : okC (H5 d m) := by
 have K := Qx hm hd
 have z : Fits (0 : Rat) := Cq (n := 0) (by omega) (by omega)
 have t : Fits ((Bb d m : Int) : Rat) := Cq (by have := K.w;omega) (by have := K.w;omega)
 have e : Fits (d : Rat) := Cq (by omega) (by omega)
 intro p hp
 unfold H5 at hp
 split at hp
 ·simp only [a1j, a2e, or_false] at hp
  rcases hp with rfl | rfl | rfl
  ·exact ⟨z, z, z, K.half⟩
  ·exact ⟨K.stop, K.top, t, K.halfF⟩
  ·exact ⟨K.fin, e, z, z⟩
 ·simp only [a1j, a2e, or_false] at hp
  rcases hp with rfl | rfl | rfl | rfl
  ·exact ⟨z, z, z, K.half⟩
  ·exact ⟨K.start, K.rise, t, z⟩
  ·exact ⟨K.stop, K.top, t, K.halfF⟩
  ·exact ⟨K.fin, e, z, z⟩
/-! ### The order of a sheet -/
def mvI (q : CueR) (s : ByteArray) : Int := idx (fun m : MoveR => m.set = s) q.moves
def mvO (q : CueR) (s : ByteArray) : Option MoveR := if mvI q s < 0 then none else q.moves[(mvI q s).toNat]?
theorem Abp {q : CueR} {s : ByteArray} {m : MoveR} (h : mvO q s = some m) : m ∈ q.moves := by
 unfold mvO at h
 split at h
 ·cases h
 ·exact a0c h
def Nw (c : SheetR) (S L : List Int) (i k : Nat) (q r : CueR) (m : MoveR) : Prop := (mvO r m.set).isSome = true -> S.getD k 0 + L.getD k 0 <= S.getD i 0
def U7 (c : SheetR) (S L : List Int) : Prop := ∀ i q, c.cues[i]? = some q -> ∀ k r, k < i -> c.cues[k]? = some r -> ∀ m ∈ q.moves, Nw c S L i k q r m
noncomputable instance (c : SheetR) (S L : List Int) : Decidable (U7 c S L) := Classical.propDecidable _
/-! ### Paths -/
def Bt (s z : Int) (up : Prop) [Decidable up] (x : PcQ) : PcQ := if up then ⟨A9 s 1000 + x.f, (z : Rat) + x.a, x.b, x.c⟩ else ⟨A9 s 1000 + x.f, (z : Rat) - x.a, -x.b, -x.c⟩
def R4 (s z : Int) (m : MoveR) : List PcQ := if m.to = z then [] else (H5 (max (m.to - z) (z - m.to)) m).map (Bt s z (z < m.to))
def He (h : HouseR) (c : SheetR) (S : List Int) (k : Nat) (n : ByteArray) (i : Nat) : List PcQ := match c.cues[i]? with
 | some q => (match mvO q n with | some m => R4 (S.getD i 0) ((D9 h c i).getD k 0) m | none => [])
 | none => []
def Cg (o : List PcQ) (y : PcQ) : List PcQ := if (o.getLastD default).f = y.f then o.dropLast ++ [y] else o ++ [y]
theorem A6h (A : List PcQ) (l y : PcQ) (h : l.f = y.f) : Cg (A ++ [l]) y = A ++ [y] := by simp [Cg, h]
theorem A9x (A : List PcQ) (l y : PcQ) (h : ¬ l.f = y.f) : Cg (A ++ [l]) y = (A ++ [l]) ++ [y] := by simp [Cg, h]
theorem A9w (o : List PcQ) (y : PcQ) : Cg o y ≠ [] := by unfold Cg;split <;> simp
theorem A6g (o : List PcQ) (y : PcQ) : (Cg o y).length <= o.length + 1 := by unfold Cg;split <;> simp <;> omega
theorem A9y {o : List PcQ} {y : PcQ} (ho : okC o) (hy : y.ok) : okC (Cg o y) := fun p hp => by
 unfold Cg at hp
 split at hp
 ·rcases a0u.1 hp with h | h
  ·exact ho p (List.dropLast_subset _ h)
  ·obtain rfl := a2n.1 h;exact hy
 ·rcases a0u.1 hp with h | h
  ·exact ho p h
  ·obtain rfl := a2n.1 h;exact hy
theorem Rb : ∀ (l : List PcQ) (o : List PcQ), o ≠ [] -> l.foldl Cg o ≠ []
 | [], _, h => h
 | y :: l, o, _ => Rb l _ (A9w o y)
theorem O2 : ∀ (l : List PcQ) (o : List PcQ), (l.foldl Cg o).length <= o.length + l.length
 | [], _ => a0l _
 | y :: l, o => by
  have := O2 l (Cg o y)
  have := A6g o y
  rw [a4t, a0i]
  omega
theorem Yn : ∀ (l : List PcQ) (o : List PcQ), okC o -> okC l -> okC (l.foldl Cg o)
 | [], _, h, _ => h
 | y :: l, o, h, hl => Yn l _ (A9y h (hl y (by simp))) fun p hp => hl p (by simp [hp])
def D5 (h : HouseR) (c : SheetR) (S : List Int) (k : Nat) (s : SetR) : Nat -> List PcQ
 | 0 => [⟨0, (s.high : Rat), 0, 0⟩]
 | i + 1 => (He h c S k s.name i).foldl Cg (D5 h c S k s i)
def Wv (h : HouseR) (c : SheetR) (S : List Int) (k : Nat) (s : SetR) : Prop := ∃ i, i < c.cues.length /\ ¬ okC (He h c S k s.name i)
noncomputable instance (h : HouseR) (c : SheetR) (S : List Int) (k : Nat) (s : SetR) : Decidable (Wv h c S k s) := Classical.propDecidable _
def Mf (h : HouseR) (c : SheetR) (S : List Int) (k : Nat) (s : SetR) : List PcQ := D5 h c S k s c.cues.length
noncomputable def Js (h : HouseR) (c : SheetR) (S : List Int) (k : Nat) (s : SetR) : Int := if Wv h c S k s then 5 else if 200 < (Mf h c S k s).length then 4 else 0
theorem Ua (h : HouseR) (c : SheetR) (S : List Int) (k : Nat) (s : SetR) : ∀ i, D5 h c S k s i ≠ []
 | 0 => by simp [D5]
 | i + 1 => Rb _ _ (Ua h c S k s i)
theorem A9j (h : HouseR) (c : SheetR) (S : List Int) (k : Nat) (n : ByteArray) (i : Nat) : (He h c S k n i).length <= 4 := by
 unfold He
 split
 ·split
  ·unfold R4
   split
   ·simp
   ·rw [a0a];exact S5 _ _
  ·simp
 ·simp
theorem Ym (h : HouseR) (c : SheetR) (S : List Int) (k : Nat) (s : SetR) : ∀ i, (D5 h c S k s i).length <= 4 * i + 1
 | 0 => by simp [D5]
 | i + 1 => by
  have := Ym h c S k s i
  have := O2 (He h c S k s.name i) (D5 h c S k s i)
  have := A9j h c S k s.name i
  rw [D5]
  omega
theorem A1m {h : HouseR} {c : SheetR} {S : List Int} {k : Nat} {s : SetR} (hs : Fits (s.high : Rat)) (hb : ¬ Wv h c S k s) : ∀ i, i <= c.cues.length -> okC (D5 h c S k s i)
 | 0, _ => fun p hp => by
  have z : Fits (0 : Rat) := Cq (n := 0) (by omega) (by omega)
  obtain rfl := a2n.1 hp
  exact ⟨z, hs, z, z⟩
 | i + 1, hi => Yn _ _ (A1m hs hb i (by omega)) (a2l.1 fun hn => hb ⟨i, by omega, hn⟩)
abbrev Ad7 (l : List SetR) : List AV := (l.map SetR.row).flatten.map .lf
theorem Mn (l : List SetR) : ∀ r ∈ l.map SetR.row, r.length = 13 := by
 intro r hr
 obtain ⟨n, _, rfl⟩ := a1b.1 hr
 rfl
theorem Aa6 (l : List SetR) : (l.map SetR.row).flatten.all Lf.one = true := by
 rw [a0k]
 intro x hx
 obtain ⟨r, hr, hxr⟩ := a5q.1 hx
 obtain ⟨s, _, rfl⟩ := a1b.1 hr
 simp only [SetR.row, a1j, a2e, or_false] at hxr
 rcases hxr with rfl | rfl | rfl | rfl | rfl | rfl | rfl | rfl | rfl | rfl | rfl | rfl | rfl <;> rfl
theorem Yg (l : List SetR) : OwnRows (Ad7 l) 0 (l.map SetR.row).length 13 (l.map SetR.row) := OwnRows.of (l.map SetR.row).flatten (Mn l) rfl
theorem A2f (l : List SetR) (hl : l.length <= 1000) : FnOwn Tryz.prog 77 [.sl (l.map SetR.row)] (l.map SetR.row) 13 := by
 have hle : (l.map SetR.row).length = l.length := a0a _
 refine FnOwn.of Tryz.func77 Tryz.ntmps77 rfl rfl rfl ?_
 simp only [A2]
 repeat' (first|refine W ?_|(apply p3i;exact rfl;exact rfl;intro hnil;rotate_left;rotate_right)|(apply p1c;(iterate 6 exact rfl))|(apply p0p;(iterate 9 exact rfl);exact Mn l;exact Aa6 l;exact rfl;omega;omega)|refine V ?_|(refine W2 ?_ ?_<;>intro hc))
 all_goals (apply T.ret;change Wm _ _ _ _ _ _)
 ·exact ⟨.inr rfl, .inl ⟨_, .cons (.tmp rfl) .nil, rfl, hnil⟩⟩
 ·exact ⟨.inr rfl, .inr (.inr ⟨0, .cons (p2z rfl) .nil, rfl⟩)⟩

/-! ### Lists of pairs -/
def Al (l : List SetR) (k : Nat) (a : SetR) : Nat -> List (ByteArray × ByteArray)
 | 0 => []
 | j + 1 => Al l k a j ++ (match l[k + 1 + j]? with | some b => if Ek a b then [(a.name, b.name)] else [] | none => [])
def D1 (l : List SetR) : Nat -> List (ByteArray × ByteArray)
 | 0 => []
 | k + 1 => D1 l k ++ (match l[k]? with | some a => Al l k a (l.length - (k + 1)) | none => [])
abbrev prC (L : List (ByteArray × ByteArray)) : List AV := (L.map Ac).flatten.map .lf
theorem Pa (L : List (ByteArray × ByteArray)) : (prC L).length = L.length * 2 := by
 rw [a0a]
 induction L with
 | nil => rfl
 | cons p L ih => rw [a1q, a3d, a0q, ih];simp [Ac];omega
theorem Ss (L M : List (ByteArray × ByteArray)) : prC (L ++ M) = prC L ++ prC M := by simp [prC]
theorem Adk (L : List (ByteArray × ByteArray)) : ∀ r ∈ L.map Ac, r.length = 2 := by
 intro r hr
 obtain ⟨n, _, rfl⟩ := a1b.1 hr
 rfl
theorem Abx (L : List (ByteArray × ByteArray)) : OwnRows (prC L) 0 L.length 2 (L.map Ac) := by
 have := OwnRows.of (L.map Ac).flatten (Adk L) rfl
 rw [a0a] at this
 exact this
theorem Xw {l : List SetR} {k : Nat} {a b : SetR} {j : Nat} (h : l[k + 1 + j]? = some b) (hn : Ek a b) : Al l k a (j + 1) = Al l k a j ++ [(a.name, b.name)] := by rw [Al, h];simp only [hn, if_true]
theorem A17 {l : List SetR} {k : Nat} {a b : SetR} {j : Nat} (h : l[k + 1 + j]? = some b) (hn : ¬ Ek a b) : Al l k a (j + 1) = Al l k a j := by rw [Al, h];simp only [hn, if_false, a2g]
theorem M4 (l : List SetR) (k : Nat) (a : SetR) : ∀ j, (Al l k a j).length <= j
 | 0 => a0l _
 | j + 1 => by
  have ih := M4 l k a j
  rw [Al, a0q]
  split
  ·split <;> simp <;> omega
  ·simp;omega
theorem Jr (l : List SetR) : ∀ k, (D1 l k).length <= k * l.length
 | 0 => by simp [D1]
 | k + 1 => by
  have ih := Jr l k
  rw [D1, a0q, a5u, Nat.one_mul]
  split
  ·rename_i a _
   have := M4 l k a (l.length - (k + 1))
   omega
  ·simp;omega
theorem A4m (X Y Z : List Lf) : AH.clear 3 0 [.live (X.map .lf), .live (Y.map .lf), .live (Z.map .lf)] = true := by
 simp only [AH.clear, HB.clear, B6]
 rfl
theorem Ur (h : HouseR) (hf : h.fits) (hp : Cn h) : Fn0 Tryz.prog 50 [A1 h.row] (.tup [.sl ((D1 h.sets h.sets.length).map Ac), .i 0]) := by
 have hv := G6 h hf
 rw [decide_eq_true hp] at hv
 have h60 : h.sets.length <= 60 := hp.2.2.2.1
 have hsP : ∀ s ∈ h.sets, Ec s := fun s hs => (hp.2.2.2.2.2.1 s hs).1
 have hle : (h.sets.map SetR.row).length = h.sets.length := a0a _
 skip
 refine Fn0.of Tryz.func50 Tryz.ntmps50 rfl rfl rfl ?_
 simp only [A2]
 repeat' (first|refine W ?_|refine Zc hv ?_|refine V ?_|(refine W2 ?_ ?_<;>intro hc))
 refine T.kill 1 ?_
 refine p0d (fun k => k <= h.sets.length) (fun k => h.sets.length - k) (fun k => [(17, .i k), (4, rT 1 2 (D1 h.sets k).length), (16, .i (h.sets.map SetR.row).length), (15, .sl (h.sets.map SetR.row)), (1, .ptr 0 0)]) (fun k => [.live (h.row.map .lf), rB (prC (D1 h.sets k)) (D1 h.sets k).length]) 0 (a0o _) CW CG ?_
 intro k hk
 by_cases hlt : (k : Int) < ((h.sets.map SetR.row).length : Nat)
 ·obtain ⟨a, ha⟩ := Aa (l := h.sets) (k := k) (by omega)
  have hb := Ab (R := SetR.row) ha
  have hma := a0c ha
  have hcl := A2f (h.sets.drop (k + 1)) (by rw [a1v];omega)
  have hdr : (h.sets.map SetR.row).drop ((k : Int) + 1).toNat = (h.sets.drop (k + 1)).map SetR.row := by rw [show ((k : Int) + 1).toNat = k + 1 by omega, List.map_drop]
  replace hcl : FnOwn Tryz.prog 77 [.sl ((h.sets.map SetR.row).drop ((k : Int) + 1).toNat)] ((h.sets.drop (k + 1)).map SetR.row) 13 := by rw [hdr];exact hcl
  clear hdr
  have hsl : (h.sets.drop (k + 1)).length = h.sets.length - (k + 1) := a1v
  have hK : D1 h.sets (k + 1) = D1 h.sets k ++ Al h.sets k a (h.sets.length - (k + 1)) := by rw [D1, ha]
  have hb60 : (D1 h.sets k).length <= 3600 := a1z (Jr h.sets k) (a1z (a6p (show k <= 60 by omega) h60) (by decide))
  have hmm : ∀ j x, (h.sets.drop (k + 1))[j]? = some x -> h.sets[k + 1 + j]? = some x := fun j x hx => by rwa [a1t] at hx
  have hms : ∀ x ∈ h.sets.drop (k + 1), x ∈ h.sets := fun x hx => a8y hx
  rw [<- hsl] at hK
  generalize D1 h.sets k = L at *
  have hle2 : ((h.sets.drop (k + 1)).map SetR.row).length = (h.sets.drop (k + 1)).length := a0a _
  generalize h.sets.drop (k + 1) = m at *
  cases L with
  | nil =>
   repeat' (first|refine W ?_|(apply S.indexR;(iterate 3 exact rfl);exact hb;omega;exact rfl)|refine Za ?_|(apply p2t;(iterate 3 exact rfl);omega;(intro row hr;obtain ⟨z, _, rfl⟩ := a1b.1 hr;rfl))|(apply p2b 3 hcl;(iterate 4 exact rfl);(first|exact rfl|exact A4m h.row _ a.row);exact rfl;exact Mn m;intro hnil;rotate_left;rotate_right)|(apply S.lenO;(iterate 3 exact rfl))|refine V ?_|(refine W2 ?_ ?_<;>intro hc))
   ·have hm0 : m = [] := a6x.1 hnil
    subst hm0
    refine T.kill 3 ?_
    refine p0d (fun j : Nat => j = 0) (fun _ => 0) (fun j => [(29, .i j), (4, rT 1 2 ([] ++ Al h.sets k a j).length), (28, .i ((([] : List SetR)).map SetR.row).length), (27, .sl ((([] : List SetR)).map SetR.row)), (6, .ptr 2 0), (17, .i k), (16, .i (h.sets.map SetR.row).length), (15, .sl (h.sets.map SetR.row)), (1, .ptr 0 0)]) (fun j => [.live (h.row.map .lf), rB (prC ([] ++ Al h.sets k a j)) ([] ++ Al h.sets k a j).length, .live (a.row.map .lf), .dead]) 0 rfl (by rw [show [] ++ Al h.sets k a 0 = [] from a2g _];exact CW) (by rw [show [] ++ Al h.sets k a 0 = [] from a2g _];exact .live rfl CG) ?_
    intro j hj
    subst hj
    have hltj : ¬ ((0 : Nat) : Int) < ((([] : List SetR).map SetR.row).length : Nat) := by simp
    have hK' : [] ++ Al h.sets k a 0 = D1 h.sets (k + 1) := hK.symm
    obtain ⟨LL, hLL⟩ : ∃ LL, LL = D1 h.sets (k + 1) := ⟨_, rfl⟩
    rw [hK', <- hLL]
    repeat' (first|refine W ?_|refine Za ?_|refine V ?_|(refine W2 ?_ ?_<;>intro hc))
    change Next _ _ _ _ _ _
    exact Next.go (k + 1) (by omega) (by omega) (by rw [<- hLL];exact (.cons (by rw [show (((k + 1 : Nat) : Int)) = (k : Int) + 1 by omega];rfl) rfl (.cons rfl (by cases LL <;> rfl) CW))) (by rw [<- hLL];clear hLL;cases LL <;> first | exact .live rfl (.dead .nil) | exact .live rfl (.live (Aj _ _) .nil))
   ·refine T.freeze 27 rfl rfl (Yg m) ?_
    refine p0d (fun j => j <= (m).length) (fun j => (m).length - j) (fun j => [(29, .i j), (4, rT 1 2 ([] ++ Al h.sets k a j).length), (28, .i ((m).map SetR.row).length), (27, .sl ((m).map SetR.row)), (6, .ptr 2 0), (17, .i k), (16, .i (h.sets.map SetR.row).length), (15, .sl (h.sets.map SetR.row)), (1, .ptr 0 0)]) (fun j => [.live (h.row.map .lf), rB (prC ([] ++ Al h.sets k a j)) ([] ++ Al h.sets k a j).length, .live (a.row.map .lf), .dead]) 0 (a0o _) (by rw [show [] ++ Al h.sets k a 0 = [] from a2g _];exact CW) (by rw [show [] ++ Al h.sets k a 0 = [] from a2g _];exact .live rfl CG) ?_
    intro j hj
    by_cases hltj : (j : Int) < (((m).map SetR.row).length : Nat)
    ·obtain ⟨x, hx⟩ := Aa (l := m) (k := j) (by omega)
     have hbx := Ab (R := SetR.row) hx
     have hmx := hms x (a0c hx)
     have cn := Mq a x (hsP a hma) (hsP x hmx) (hf.2.2 a hma) (hf.2.2 x hmx)
     have hj60 := M4 h.sets k a j
     have hll : ([] ++ Al h.sets k a j).length <= 3700 := by rw [a0q];omega
     by_cases hn : Ek a x
     ·rw [decide_eq_true hn] at cn
      have hS : [] ++ Al h.sets k a (j + 1) = ([] ++ Al h.sets k a j) ++ [(a.name, x.name)] := by rw [Xw (hmm j x hx) hn, a2v]
      have hS2 : prC ([] ++ Al h.sets k a (j + 1)) = prC ([] ++ Al h.sets k a j) ++ [.s a.name, .s x.name] := by rw [hS, Ss];rfl
      have hS3 : ([] ++ Al h.sets k a (j + 1)).length = ([] ++ Al h.sets k a j).length + 1 := by rw [hS, a0q];rfl
      have hpc := Pa ([] ++ Al h.sets k a j)
      generalize [] ++ Al h.sets k a j = LL at *
      cases LL with
      | nil =>
       repeat' (first|refine W ?_|refine Za ?_|(apply S.indexR;(iterate 3 exact rfl);exact hbx;omega;exact rfl)|refine Zc cn ?_|(apply p2f;(iterate 3 exact rfl))|(apply p0c;(iterate 7 exact rfl))|(apply p0u 1 (rows := []);(iterate 8 exact rfl);exact Af rfl;exact rfl;exact a0d rfl;exact a0d rfl)|refine V ?_|(refine W2 ?_ ?_<;>intro hc))
       change Next _ _ _ _ _ _
       exact Next.go (j + 1) (by omega) (by omega) (by rw [hS3, show (((j + 1 : Nat) : Int)) = (j : Int) + 1 by omega];exact CW) (by rw [hS2, hS3];exact .live rfl CG)
      | cons p0 LL =>
       have hll2 : LL.length + 1 <= 3700 := hll
       repeat' (first|refine W ?_|refine Za ?_|(apply S.indexR;(iterate 3 exact rfl);exact hbx;omega;exact rfl)|refine Zc cn ?_|(apply p2f;(iterate 3 exact rfl))|(apply p0c;(iterate 7 exact rfl))|(apply p0p;(iterate 8 exact rfl);(first|exact hpc|(rw [Pa];simp only [a0i];omega));exact Af rfl;exact rfl;exact B6 _ _;simp only [a0i, a0n];omega;simp only [a0i, a0n];omega)|refine V ?_|(refine W2 ?_ ?_<;>intro hc))
       change Next _ _ _ _ _ _
       exact Next.go (j + 1) (by omega) (by omega) (by rw [hS3, show (((j + 1 : Nat) : Int)) = (j : Int) + 1 by omega];exact CW) (by rw [hS2, hS3];exact .live rfl (.live (by rw [a2r, Aj];rfl) CG))
     ·rw [decide_eq_false hn] at cn
      have hS : [] ++ Al h.sets k a (j + 1) = [] ++ Al h.sets k a j := by rw [A17 (hmm j x hx) hn]
      generalize [] ++ Al h.sets k a j = LL at *
      repeat' (first|refine W ?_|refine Za ?_|(apply S.indexR;(iterate 3 exact rfl);exact hbx;omega;exact rfl)|refine Zc cn ?_|refine V ?_|(refine W2 ?_ ?_<;>intro hc))
      change Next _ _ _ _ _ _
      exact Next.go (j + 1) (by omega) (by omega) (by rw [hS, show (((j + 1 : Nat) : Int)) = (j : Int) + 1 by omega];exact (.cons rfl rfl (.cons rfl (by cases LL <;> rfl) CW))) (by rw [hS];cases LL <;> first | exact .live rfl CG | exact .live rfl (.live (Aj _ _) CG))
    ·obtain rfl : j = (m).length := by omega
     obtain ⟨LL, hLL⟩ : ∃ LL, LL = D1 h.sets (k + 1) := ⟨_, rfl⟩
     rw [<- hK, <- hLL]
     repeat' (first|refine W ?_|refine Za ?_|refine V ?_|(refine W2 ?_ ?_<;>intro hc))
     change Next _ _ _ _ _ _
     exact Next.go (k + 1) (by omega) (by omega) (by rw [<- hLL];exact (.cons (by rw [show (((k + 1 : Nat) : Int)) = (k : Int) + 1 by omega];rfl) rfl (.cons rfl (by cases LL <;> rfl) CW))) (by rw [<- hLL];clear hLL;cases LL <;> first | exact .live rfl (.dead .nil) | exact .live rfl (.live (Aj _ _) .nil))
  | cons p L =>
   repeat' (first|refine W ?_|(apply S.indexR;(iterate 3 exact rfl);exact hb;omega;exact rfl)|refine Za ?_|(apply p2t;(iterate 3 exact rfl);omega;(intro row hr;obtain ⟨z, _, rfl⟩ := a1b.1 hr;rfl))|(apply p2b 3 hcl;(iterate 4 exact rfl);(first|exact rfl|exact A4m h.row _ a.row);exact rfl;exact Mn m;intro hnil;rotate_left;rotate_right)|(apply S.lenO;(iterate 3 exact rfl))|refine V ?_|(refine W2 ?_ ?_<;>intro hc))
   ·have hm0 : m = [] := a6x.1 hnil
    subst hm0
    refine T.kill 3 ?_
    refine p0d (fun j : Nat => j = 0) (fun _ => 0) (fun j => [(29, .i j), (4, rT 1 2 ((p :: L) ++ Al h.sets k a j).length), (28, .i ((([] : List SetR)).map SetR.row).length), (27, .sl ((([] : List SetR)).map SetR.row)), (6, .ptr 2 0), (17, .i k), (16, .i (h.sets.map SetR.row).length), (15, .sl (h.sets.map SetR.row)), (1, .ptr 0 0)]) (fun j => [.live (h.row.map .lf), rB (prC ((p :: L) ++ Al h.sets k a j)) ((p :: L) ++ Al h.sets k a j).length, .live (a.row.map .lf), .dead]) 0 rfl (by rw [show (p :: L) ++ Al h.sets k a 0 = (p :: L) from a2g _];exact CW) (by rw [show (p :: L) ++ Al h.sets k a 0 = (p :: L) from a2g _];exact .live rfl (.live (Aj _ _) CG)) ?_
    intro j hj
    subst hj
    have hltj : ¬ ((0 : Nat) : Int) < ((([] : List SetR).map SetR.row).length : Nat) := by simp
    have hK' : (p :: L) ++ Al h.sets k a 0 = D1 h.sets (k + 1) := hK.symm
    obtain ⟨LL, hLL⟩ : ∃ LL, LL = D1 h.sets (k + 1) := ⟨_, rfl⟩
    rw [hK', <- hLL]
    repeat' (first|refine W ?_|refine Za ?_|refine V ?_|(refine W2 ?_ ?_<;>intro hc))
    change Next _ _ _ _ _ _
    exact Next.go (k + 1) (by omega) (by omega) (by rw [<- hLL];exact (.cons (by rw [show (((k + 1 : Nat) : Int)) = (k : Int) + 1 by omega];rfl) rfl (.cons rfl (by cases LL <;> rfl) CW))) (by rw [<- hLL];clear hLL;cases LL <;> first | exact .live rfl (.dead .nil) | exact .live rfl (.live (Aj _ _) .nil))
   ·refine T.freeze 27 rfl rfl (Yg m) ?_
    refine p0d (fun j => j <= (m).length) (fun j => (m).length - j) (fun j => [(29, .i j), (4, rT 1 2 ((p :: L) ++ Al h.sets k a j).length), (28, .i ((m).map SetR.row).length), (27, .sl ((m).map SetR.row)), (6, .ptr 2 0), (17, .i k), (16, .i (h.sets.map SetR.row).length), (15, .sl (h.sets.map SetR.row)), (1, .ptr 0 0)]) (fun j => [.live (h.row.map .lf), rB (prC ((p :: L) ++ Al h.sets k a j)) ((p :: L) ++ Al h.sets k a j).length, .live (a.row.map .lf), .dead]) 0 (a0o _) (by rw [show (p :: L) ++ Al h.sets k a 0 = (p :: L) from a2g _];exact CW) (by rw [show (p :: L) ++ Al h.sets k a 0 = (p :: L) from a2g _];exact .live rfl (.live (Aj _ _) CG)) ?_
    intro j hj
    by_cases hltj : (j : Int) < (((m).map SetR.row).length : Nat)
    ·obtain ⟨x, hx⟩ := Aa (l := m) (k := j) (by omega)
     have hbx := Ab (R := SetR.row) hx
     have hmx := hms x (a0c hx)
     have cn := Mq a x (hsP a hma) (hsP x hmx) (hf.2.2 a hma) (hf.2.2 x hmx)
     have hj60 := M4 h.sets k a j
     have hll : ((p :: L) ++ Al h.sets k a j).length <= 3700 := by rw [a0q];omega
     by_cases hn : Ek a x
     ·rw [decide_eq_true hn] at cn
      have hS : (p :: L) ++ Al h.sets k a (j + 1) = ((p :: L) ++ Al h.sets k a j) ++ [(a.name, x.name)] := by rw [Xw (hmm j x hx) hn, a2v]
      have hS2 : prC ((p :: L) ++ Al h.sets k a (j + 1)) = prC ((p :: L) ++ Al h.sets k a j) ++ [.s a.name, .s x.name] := by rw [hS, Ss];rfl
      have hS3 : ((p :: L) ++ Al h.sets k a (j + 1)).length = ((p :: L) ++ Al h.sets k a j).length + 1 := by rw [hS, a0q];rfl
      have hpc := Pa ((p :: L) ++ Al h.sets k a j)
      generalize (p :: L) ++ Al h.sets k a j = LL at *
      cases LL with
      | nil =>
       repeat' (first|refine W ?_|refine Za ?_|(apply S.indexR;(iterate 3 exact rfl);exact hbx;omega;exact rfl)|refine Zc cn ?_|(apply p2f;(iterate 3 exact rfl))|(apply p0c;(iterate 7 exact rfl))|(apply p0u 1 (rows := []);(iterate 8 exact rfl);exact Af rfl;exact rfl;exact a0d rfl;exact a0d rfl)|refine V ?_|(refine W2 ?_ ?_<;>intro hc))
       change Next _ _ _ _ _ _
       exact Next.go (j + 1) (by omega) (by omega) (by rw [hS3, show (((j + 1 : Nat) : Int)) = (j : Int) + 1 by omega];exact CW) (by rw [hS2, hS3];exact .live rfl CG)
      | cons p0 LL =>
       have hll2 : LL.length + 1 <= 3700 := hll
       repeat' (first|refine W ?_|refine Za ?_|(apply S.indexR;(iterate 3 exact rfl);exact hbx;omega;exact rfl)|refine Zc cn ?_|(apply p2f;(iterate 3 exact rfl))|(apply p0c;(iterate 7 exact rfl))|(apply p0p;(iterate 8 exact rfl);(first|exact hpc|(rw [Pa];simp only [a0i];omega));exact Af rfl;exact rfl;exact B6 _ _;simp only [a0i, a0n];omega;simp only [a0i, a0n];omega)|refine V ?_|(refine W2 ?_ ?_<;>intro hc))
       change Next _ _ _ _ _ _
       exact Next.go (j + 1) (by omega) (by omega) (by rw [hS3, show (((j + 1 : Nat) : Int)) = (j : Int) + 1 by omega];exact CW) (by rw [hS2, hS3];exact .live rfl (.live (by rw [a2r, Aj];rfl) CG))
     ·rw [decide_eq_false hn] at cn
      have hS : (p :: L) ++ Al h.sets k a (j + 1) = (p :: L) ++ Al h.sets k a j := by rw [A17 (hmm j x hx) hn]
      generalize (p :: L) ++ Al h.sets k a j = LL at *
      repeat' (first|refine W ?_|refine Za ?_|(apply S.indexR;(iterate 3 exact rfl);exact hbx;omega;exact rfl)|refine Zc cn ?_|refine V ?_|(refine W2 ?_ ?_<;>intro hc))
      change Next _ _ _ _ _ _
      exact Next.go (j + 1) (by omega) (by omega) (by rw [hS, show (((j + 1 : Nat) : Int)) = (j : Int) + 1 by omega];exact (.cons rfl rfl (.cons rfl (by cases LL <;> rfl) CW))) (by rw [hS];cases LL <;> first | exact .live rfl CG | exact .live rfl (.live (Aj _ _) CG))
    ·obtain rfl : j = (m).length := by omega
     obtain ⟨LL, hLL⟩ : ∃ LL, LL = D1 h.sets (k + 1) := ⟨_, rfl⟩
     rw [<- hK, <- hLL]
     repeat' (first|refine W ?_|refine Za ?_|refine V ?_|(refine W2 ?_ ?_<;>intro hc))
     change Next _ _ _ _ _ _
     exact Next.go (k + 1) (by omega) (by omega) (by rw [<- hLL];exact (.cons (by rw [show (((k + 1 : Nat) : Int)) = (k : Int) + 1 by omega];rfl) rfl (.cons rfl (by cases LL <;> rfl) CW))) (by rw [<- hLL];clear hLL;cases LL <;> first | exact .live rfl (.dead .nil) | exact .live rfl (.live (Aj _ _) .nil))
 ·obtain rfl : k = h.sets.length := by omega
  have hown := Abx (D1 h.sets h.sets.length)
  generalize D1 h.sets h.sets.length = L at *
  cases L with
  | nil =>
   repeat' (first|refine W ?_|(refine p0z 4 rfl ?_)|refine V ?_|(refine W2 ?_ ?_<;>intro hc))
   exact D2 rfl rfl rfl
  | cons p L =>
   repeat' (first|refine W ?_|(refine T.freeze 4 rfl rfl hown ?_)|refine V ?_|(refine W2 ?_ ?_<;>intro hc))
   exact D2 rfl rfl rfl
theorem A5n (a : List (ByteArray × ByteArray)) (p : ByteArray × ByteArray) (ha : a.length <= 1000000) : Fn0 Tryz.prog 96 [.sl (a.map Ac), A1 (Ac p)] (.i (idx (fun q => q = p) a)) := by
 have hla : (a.map Ac).length = a.length := a0a _
 obtain ⟨p1, p2⟩ := p
 refine Fn0.of Tryz.func96 Tryz.ntmps96 rfl rfl rfl ?_
 simp only [A2]
 repeat' (first|refine W ?_|refine V ?_|(refine W2 ?_ ?_<;>intro hc))
 refine p0d (fun k => k <= a.length /\ ∀ x ∈ a.take k, ¬ x = (p1, p2)) (fun k => a.length - k) (fun k => [(8, .i k), (7, .i (a.map Ac).length), (0, .sl (a.map Ac)), (3, .ptr 0 0)]) (fun _ => [.live [.s p1, .s p2]]) 0 ⟨a0o _, by simp⟩ CW (.live rfl .nil) ?_
 rintro k ⟨hk, hno⟩
 by_cases hlt : k < a.length
 ·have h1 : (k : Int) < ((a.map Ac).length : Nat) := by omega
  obtain ⟨x, hx⟩ := Aa hlt
  have hbx := Ab (R := Ac) hx
  obtain ⟨x1, x2⟩ := x
  repeat' (first|refine W ?_|(apply p0b A0 (by decide +kernel))|(apply S.indexR;(iterate 3 exact rfl);exact hbx;omega;exact rfl)|refine Za ?_|(apply p4j (by kernel_rfl);(iterate 3 exact rfl))|(apply p4i (by kernel_rfl);(iterate 3 exact rfl))|refine V ?_|(refine W2 ?_ ?_<;>intro hc))
  all_goals (try change Next _ _ _ _ _ _)
  all_goals first
   | exact Next.go (k + 1) ⟨by omega, fun y hy => by
     rw [B8 hx] at hy
     rcases a0u.1 hy with hy | hy
     ·exact hno y hy
     ·obtain rfl : y = (x1, x2) := by simpa using hy
      exact fun e => absurd e.symm (by assumption)⟩ (by omega) CW (.live rfl .nil)
   | exact A4 (by simp) Tryz.results96 rfl (congrArg (Value.int .i64) (G7 hx hno (b0w (by assumption))).symm)
 ·have h1 : ¬ (k : Int) < ((a.map Ac).length : Nat) := by omega
  repeat' (first|refine W ?_|refine V ?_|(refine W2 ?_ ?_<;>intro hc))
  exact A4 (by simp) Tryz.results96 rfl (congrArg (Value.int .i64) (A8w hno (by omega)).symm)
theorem Xc (a : List (ByteArray × ByteArray)) (p : ByteArray × ByteArray) (ha : a.length <= 1000000) : Fn0 Tryz.prog 58 [.sl (a.map Ac), A1 (Ac p)] (.b (decide (∃ x ∈ a, x = p))) := by
 have ci := A5n a p ha
 have hi : 0 <= idx (fun q => q = p) a ↔ ∃ x ∈ a, x = p := decide_eq_decide.1 (Jl (fun q => q = p) a)
 rw [show decide (∃ x ∈ a, x = p) = decide (idx (fun q => q = p) a >= 0) from decide_eq_decide.2 hi.symm]
 clear hi
 generalize idx (fun q => q = p) a = n at *
 refine Fn0.of Tryz.func58 Tryz.ntmps58 rfl rfl rfl ?_
 simp only [A2]
 repeat' (first|refine W ?_|refine Zc ci ?_|refine V ?_|(refine W2 ?_ ?_<;>intro hc))
 all_goals exact A4 (by simp) Tryz.results58 rfl (by rfl)
end Go.Proofs.YtlapbaiejnaeiaaGreatDoor
