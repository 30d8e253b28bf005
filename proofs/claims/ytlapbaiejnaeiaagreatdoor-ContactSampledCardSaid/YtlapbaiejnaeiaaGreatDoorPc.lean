/- Lemmas of the proof. -/
import Derived.Test.YtlapbaiejnaeiaaGreatDoorMk
import Derived.Test.YtlapbaiejnaeiaaGreatDoorMn
import Derived.Test.YtlapbaiejnaeiaaGreatDoorMq
import Derived.Test.YtlapbaiejnaeiaaGreatDoorNk
import Derived.Test.YtlapbaiejnaeiaaGreatDoorNz
import Derived.Test.YtlapbaiejnaeiaaGreatDoorMh
set_option linter.all false
set_option maxHeartbeats 64000000
namespace Go.Proofs.YtlapbaiejnaeiaaGreatDoor
open Go Go.RowKit
def b2b := @List.replicate_succ'
def Bj (l : List CueR) : Nat := (l.filter fun q => q.link = 1).length
theorem Vk (l : List CueR) (q : CueR) : Bj (l ++ [q]) = Bj l + (if q.link = 1 then 1 else 0) := by
 unfold Bj
 rw [List.filter_append, a0q]
 by_cases h : q.link = 1 <;> simp [h]
theorem H7 {l : List CueR} {k : Nat} {q : CueR} (hq : l[k]? = some q) (h : q.link = 1) : Bj (l.take (k + 1)) = Bj (l.take k) + 1 := by rw [Be hq, Vk, if_pos h]
theorem Jn {l : List CueR} {k : Nat} {q : CueR} (hq : l[k]? = some q) (h : ¬ q.link = 1) : Bj (l.take (k + 1)) = Bj (l.take k) := by rw [Be hq, Vk, if_neg h];rfl
theorem Jm (l : List CueR) : Bj l <= l.length := List.length_filter_le _ _
theorem A6l (l : List CueR) {a b : Nat} (h : a <= b) : Bj (l.take a) <= Bj (l.take b) := by
 rw [show l.take a = (l.take b).take a by rw [List.take_take, a7a h]]
 unfold Bj
 exact ((List.take_sublist a (l.take b)).filter _).length_le
theorem Acm {l : List CueR} {k : Nat} {q : CueR} (hq : l[k]? = some q) (h : q.link = 1) : Bj (l.take k) < Bj l := by
 have h1 := H7 hq h
 have hk := (a0g.1 hq).1
 have h2 := A6l l (show k + 1 <= l.length by omega)
 rw [a1s] at h2
 omega
def Fc (l : List CueR) (q : CueR) : Nat := (Cl l q.after).toNat
def hgI (l : List CueR) (q : CueR) : Int := if q.link = 1 then -1 else Cl l q.after
def hgL (l : List CueR) : List Int := l.map (hgI l)
structure LkQ (l : List CueR) (k : Nat) (q : CueR) : Prop where
 name : Cy q.name = true
 self : Cl l q.name = (k : Int)
 delay : 0 <= q.delay /\ q.delay <= 2147483648
 link : 1 <= q.link /\ q.link <= 3
 man : q.link = 1 -> q.after = ⟨#[]⟩
 aft : ¬ q.link = 1 -> Cl l q.after = (Fc l q : Int) /\ Fc l q < k
def LkP (l : List CueR) : Prop := ∀ k q, l[k]? = some q -> LkQ l k q
theorem validP.lk {h : HouseR} {c : SheetR} (v : validP h c) : LkP c.cues := fun k q hq => by
 obtain ⟨_, hr, hn, h1, h2⟩ := v.2.2.1 k q hq
 refine ⟨hr.1, (Mm (p := fun x : CueR => x.name = q.name) hq rfl).2 hn, hr.2.2.1, hr.2.1, h1, fun hl => ?_⟩
 obtain ⟨y, hy, e⟩ := h2 hl
 have hi : 0 <= Cl c.cues q.after /\ Cl c.cues q.after < (k : Nat) := idx_lt_iff.2 ⟨y, hy, e⟩
 unfold Fc
 omega
def fsV (l : List CueR) (G : List Int) (k : Nat) : Int := match l[k]? with | some q => if q.link = 1 then G.getD (Bj (l.take k)) 0 + q.delay else 0 | none => 0
def fsK (l : List CueR) (G : List Int) (k : Nat) : List Int := (List.range k).map (fsV l G)
theorem Pq (l : List CueR) (G : List Int) (k : Nat) : (fsK l G k).length = k := by simp [fsK]
theorem Xp (l : List CueR) (G : List Int) (k : Nat) : fsK l G (k + 1) = fsK l G k ++ [fsV l G k] := by simp [fsK, a4p]
def stV (l : List CueR) (L G S : List Int) (k : Nat) : Int := match l[k]? with
 | some q => if q.link = 1 then G.getD (Bj (l.take k)) 0 + q.delay else if q.link = 2 then S.getD (Fc l q) 0 + q.delay + L.getD (Fc l q) 0 else S.getD (Fc l q) 0 + q.delay
 | none => 0
def stK (l : List CueR) (L G : List Int) : Nat -> List Int
 | 0 => []
 | k + 1 => stK l L G k ++ [stV l L G (stK l L G k) k]
theorem Dv (l : List CueR) (L G : List Int) : ∀ k, (stK l L G k).length = k
 | 0 => rfl
 | k + 1 => by rw [stK, a0q, Dv l L G k];rfl
theorem A2c (l : List CueR) (L G : List Int) {j k : Nat} (h : j < k) : (stK l L G k)[j]? = some (stV l L G (stK l L G j) j) := by
 induction k with
 | zero => omega
 | succ k ih =>
  rw [stK]
  by_cases e : j = k
  ·subst e
   rw [a1g (by rw [Dv];omega), Dv, a5f];rfl
  ·rw [a1h (by rw [Dv];omega)]
   exact ih (by omega)
def G2 (n : Int) : Prop := ¬ (0 <= n /\ n <= 2147483648)
instance (n : Int) : Decidable (G2 n) := by unfold G2;exact inferInstance
def Fd (l : List Int) : Prop := ∃ x ∈ l, G2 x
noncomputable instance (l : List Int) : Decidable (Fd l) := Classical.propDecidable _
noncomputable def stE (l : List CueR) (L G : List Int) : Int := if L.length ≠ l.length \/ G.length ≠ Bj l then 3 else if Fd L \/ Fd G then 2 else 0
theorem Hu {l : List Int} (h : ¬ Fd l) (i : Nat) : 0 <= l.getD i 0 /\ l.getD i 0 <= 2147483648 := by
 rw [a0j]
 cases e : l[i]? with
 | none => simp
 | some x =>
  have : ¬ G2 x := fun hw => h ⟨x, a0b e, hw⟩
  unfold G2 at this
  exact a1x.1 this
theorem A84 {l : List CueR} {L G S : List Int} {k : Nat} (hl : LkP l) (hL : ¬ Fd L) (hG : ¬ Fd G) (hS : ∀ j, j < k -> 0 <= S.getD j 0 /\ S.getD j 0 <= (k : Int) * 4294967296) : 0 <= stV l L G S k /\ stV l L G S k <= ((k : Int) + 1) * 4294967296 := by
 unfold stV
 cases e : l[k]? with
 | none => dsimp only;omega
 | some q =>
  obtain ⟨_, _, hd, _, _, ha⟩ := hl k q e
  dsimp only
  have g1 := Hu hG (Bj (l.take k))
  have g2 := Hu hL (Fc l q)
  split
  ·omega
  ·rename_i hm
   obtain ⟨_, a2⟩ := ha hm
   have := hS _ a2
   split <;> omega
theorem P0 {l : List CueR} {L G : List Int} (hl : LkP l) (hL : ¬ Fd L) (hG : ¬ Fd G) : ∀ k j, j < k -> 0 <= (stK l L G k).getD j 0 /\ (stK l L G k).getD j 0 <= (k : Int) * 4294967296
 | 0, j, h => by omega
 | k + 1, j, h => by
  have ih := P0 hl hL hG k
  have hb := A84 hl hL hG ih
  rw [stK, a0j]
  by_cases e : j = k
  ·subst e
   rw [a1g (by rw [Dv];omega), Dv, a5f]
   simp only [a2h, a1f]
   omega
  ·rw [a1h (by rw [Dv];omega), <- a0j]
   have := ih j (by omega)
   omega
def Eg (l : List CueR) (L G : List Int) (k : Nat) : List Int := stK l L G k ++ (fsK l G l.length).drop k
theorem Acc (l : List CueR) (G : List Int) {j k : Nat} (h : j < k) : (fsK l G k)[j]? = some (fsV l G j) := by
 unfold fsK
 rw [a0e, a2y h];rfl
theorem Aa9 (l : List CueR) (L G : List Int) {k : Nat} (h : k <= l.length) : (Eg l L G k).length = l.length := by
 unfold Eg
 rw [a0q, Dv, a3a, Pq];omega
theorem Vm (l : List CueR) (L G : List Int) {k : Nat} (h : k < l.length) : Eg l L G k = stK l L G k ++ fsV l G k :: (fsK l G l.length).drop (k + 1) := by
 unfold Eg
 have := Acc l G h
 rw [a0g] at this
 obtain ⟨h1, h2⟩ := this
 rw [a7r h1, h2]
theorem Q6 {α : Type} (A B : List α) (x y : α) {n : Nat} (h : A.length = n) : (A ++ x :: B).set n y = A ++ y :: B := by
 subst h
 rw [a6t _ _ (a0m _), a5f];rfl
theorem Aab (l : List CueR) (L G : List Int) {k : Nat} (h : k < l.length) : (Eg l L G k).set k (stV l L G (stK l L G k) k) = Eg l L G (k + 1) := by
 rw [Vm l L G h, Q6 _ _ _ _ (Dv l L G k)]
 unfold Eg
 rw [stK, a2t];rfl
theorem Aaa {l : List CueR} {L G : List Int} {k : Nat} {q : CueR} (hq : l[k]? = some q) (hm : q.link = 1) : Eg l L G (k + 1) = Eg l L G k := by
 have h := (a0g.1 hq).1
 rw [Vm l L G h]
 unfold Eg
 have h1 : stV l L G (stK l L G k) k = fsV l G k := by unfold stV fsV;rw [hq];simp only [hm, if_true]
 rw [stK, h1, a2t];rfl
theorem A6o (l : List CueR) (L G : List Int) : Eg l L G l.length = stK l L G l.length := by
 unfold Eg
 rw [b1c (by rw [Pq];exact a0m _), a2b]
theorem Acn {l : List CueR} {L G : List Int} {j k : Nat} (h : j < k) : (Eg l L G k)[j]? = some ((stK l L G k).getD j 0) := by
 unfold Eg
 rw [a1h (by rw [Dv];exact h), A2c l L G h, a0j, A2c l L G h];rfl
def H3 (l : List CueR) (G : List Int) (k : Nat) : List Int := fsK l G k ++ List.replicate (l.length - k) 0
theorem A9l (l : List CueR) (G : List Int) {k : Nat} (h : k <= l.length) : (H3 l G k).length = l.length := by
 unfold H3
 rw [a0q, Pq, a1v];omega
theorem Ve (l : List CueR) (G : List Int) {k : Nat} (h : k < l.length) : H3 l G k = fsK l G k ++ 0 :: List.replicate (l.length - (k + 1)) 0 := by
 unfold H3
 rw [show l.length - k = (l.length - (k + 1)) + 1 by omega, a5r]
theorem A9m {l : List CueR} {G : List Int} {k : Nat} {q : CueR} (hq : l[k]? = some q) (hm : q.link = 1) : (H3 l G k).set k (G.getD (Bj (l.take k)) 0 + q.delay) = H3 l G (k + 1) := by
 rw [Ve l G (a0g.1 hq).1, Q6 _ _ _ _ (Pq l G k)]
 unfold H3
 rw [Xp, a2t, show fsV l G k = G.getD (Bj (l.take k)) 0 + q.delay by unfold fsV;rw [hq];simp only [hm, if_true]]
 rfl
theorem Acd {l : List CueR} {G : List Int} {k : Nat} {q : CueR} (hq : l[k]? = some q) (hm : ¬ q.link = 1) : H3 l G (k + 1) = H3 l G k := by
 rw [Ve l G (a0g.1 hq).1]
 unfold H3
 rw [Xp, a2t, show fsV l G k = 0 by unfold fsV;rw [hq];simp only [hm, if_false]]
 rfl
theorem A65 (l : List CueR) (L G : List Int) : H3 l G l.length = Eg l L G 0 := by
 unfold H3 Eg
 rw [a5f]
 simp [stK]
def I9 (n k : Nat) : List Bool := List.replicate k true ++ List.replicate (n - k) false
theorem Mh {n k : Nat} (h : k < n) : (I9 n k).set k true = I9 n (k + 1) := by
 unfold I9
 rw [show n - k = (n - (k + 1)) + 1 by omega, a5r, Q6 _ _ _ _ (a1v ..), b2b, a2t];rfl
theorem Xg {n k j : Nat} (h : j < k) : (I9 n k)[j]? = some true := by
 unfold I9
 rw [a1h (by rw [a1v];exact h), a3u, if_pos h]
theorem Ac8 {n k : Nat} (h : k < n) : (I9 n k)[k]? = some false := by
 unfold I9
 rw [a1g (by rw [a1v];exact a0m _), a1v, a5f, a3u, if_pos (by omega)]
theorem A9e {n k : Nat} (h : k <= n) : (I9 n k).length = n := by
 unfold I9
 rw [a0q, a1v, a1v];omega
/-! ### Lengths, starts, ends -/
def Aa4 (h : HouseR) (c : SheetR) (k : Nat) : Rat := match c.cues[k]? with | some q => Db h (Bv h c k) q.moves | none => 0
theorem A1s {h : HouseR} {c : SheetR} {k : Nat} {q : CueR} (hq : c.cues[k]? = some q) : Aa4 h c k = Db h (Bv h c k) q.moves := by unfold Aa4;rw [hq]
def msQ (h : HouseR) (c : SheetR) (k : Nat) : Rat := 1000 * Aa4 h c k
def upI (q : Rat) : Int := -(-q.num / q.den)
def msI (h : HouseR) (c : SheetR) (k : Nat) : Int := upI (msQ h c k)
def Rb (h : HouseR) (c : SheetR) : Prop := ∃ k, k < c.cues.length /\ ¬ Fits (msQ h c k)
noncomputable instance (h : HouseR) (c : SheetR) : Decidable (Rb h c) := Classical.propDecidable _
def Er (h : HouseR) (c : SheetR) (n : Nat) : List Int := (List.range n).map (msI h c)
theorem E1 (h : HouseR) (c : SheetR) (n : Nat) : (Er h c n).length = n := by simp [Er]
theorem A3p (h : HouseR) (c : SheetR) (n : Nat) : Er h c (n + 1) = Er h c n ++ [msI h c n] := by simp [Er, a4p]
theorem A6g (h : HouseR) (c : SheetR) {j n : Nat} (hj : j < n) : (Er h c n)[j]? = some (msI h c j) := by
 unfold Er
 rw [a0e, a2y hj];rfl
abbrev Bn (h : HouseR) (c : SheetR) : List Int := Er h c c.cues.length
noncomputable def mdE (h : HouseR) (c : SheetR) (G : List Int) : Int := if Rb h c then 5 else stE c.cues (Bn h c) G
def stL (h : HouseR) (c : SheetR) (G : List Int) : List Int := stK c.cues (Bn h c) G c.cues.length
theorem Gf (h : HouseR) (c : SheetR) (G : List Int) : (stL h c G).length = c.cues.length := Dv _ _ _ _
structure PlanOk (h : HouseR) (c : SheetR) (G : List Int) : Prop where
 v : validP h c
 fit : ¬ Rb h c
 man : G.length = Bj c.cues
 len : ¬ Fd (Bn h c)
 given : ¬ Fd G
theorem A77 {h : HouseR} {c : SheetR} {G : List Int} (v : validP h c) (e : mdE h c G = 0) : PlanOk h c G := by
 unfold mdE at e
 split at e
 ·cases e
 ·rename_i hb
  unfold stE at e
  split at e
  ·cases e
  ·rename_i hl
   split at e
   ·cases e
   ·rename_i hw
    exact ⟨v, hb, a1x.1 fun k => hl (.inr k), fun k => hw (.inl k), fun k => hw (.inr k)⟩
theorem PlanOk.zero {h : HouseR} {c : SheetR} {G : List Int} (p : PlanOk h c G) : mdE h c G = 0 := by
 unfold mdE stE
 rw [if_neg p.fit, if_neg (fun k => k.elim (fun k => k (E1 ..)) fun k => k p.man), if_neg (fun k => k.elim p.len p.given)]
theorem PlanOk.st {h : HouseR} {c : SheetR} {G : List Int} (p : PlanOk h c G) (i : Nat) : 0 <= (stL h c G).getD i 0 /\ (stL h c G).getD i 0 <= 257698037760 := by
 have h60 := p.v.2.1
 by_cases hi : i < c.cues.length
 ·have := P0 p.v.lk p.len p.given c.cues.length i hi
  unfold stL
  omega
 ·rw [a0j, a0u (by rw [Gf];omega)]
  simp
theorem PlanOk.ln {h : HouseR} {c : SheetR} {G : List Int} (p : PlanOk h c G) (i : Nat) : 0 <= (Bn h c).getD i 0 /\ (Bn h c).getD i 0 <= 2147483648 := Hu p.len i
def K0 (h : HouseR) (c : SheetR) (G : List Int) (i : Nat) : Int := (stL h c G).getD i 0 + (Bn h c).getD i 0
def Gh (h : HouseR) (c : SheetR) (G : List Int) (n : Nat) : List Int := (List.range n).map (K0 h c G)
abbrev Ff (h : HouseR) (c : SheetR) (G : List Int) : List Int := Gh h c G c.cues.length
theorem Jz (h : HouseR) (c : SheetR) (G : List Int) (n : Nat) : (Gh h c G n).length = n := by simp [Gh]
theorem V4 (h : HouseR) (c : SheetR) (G : List Int) (n : Nat) : Gh h c G (n + 1) = Gh h c G n ++ [K0 h c G n] := by simp [Gh, a4p]
theorem PlanOk.end_ {h : HouseR} {c : SheetR} {G : List Int} (p : PlanOk h c G) (i : Nat) : 0 <= K0 h c G i /\ K0 h c G i <= 259845521408 := by
 have := p.st i
 have := p.ln i
 unfold K0
 omega
def mxL : List Int -> Int
 | [] => 0
 | x :: xs => xs.foldl max x
theorem Kl {B : Int} : ∀ (l : List Int) (a : Int), (0 <= a /\ a <= B) -> (∀ x ∈ l, 0 <= x /\ x <= B) -> 0 <= l.foldl max a /\ l.foldl max a <= B
 | [], a, h, _ => h
 | x :: xs, a, h, hl => Kl xs (max a x) (by have := hl x (by simp);omega) fun y hy => hl y (by simp [hy])
theorem A6t {l : List Int} {B : Int} (hB : 0 <= B) (h : ∀ x ∈ l, 0 <= x /\ x <= B) : 0 <= mxL l /\ mxL l <= B := by
 cases l with
 | nil => exact ⟨a5p _, hB⟩
 | cons x xs => exact Kl xs x (h x (by simp)) fun y hy => h y (by simp [hy])
def endI (h : HouseR) (c : SheetR) (G : List Int) : Int := mxL (Ff h c G ++ [0])
theorem PlanOk.endI {h : HouseR} {c : SheetR} {G : List Int} (p : PlanOk h c G) : 0 <= endI h c G /\ endI h c G <= 259845521408 := by
 refine A6t (by omega) fun x hx => ?_
 rcases a0t.1 hx with hx | hx
 ·obtain ⟨i, _, rfl⟩ := a1a.1 hx
  exact p.end_ i
 ·obtain rfl := a2n.1 hx
  omega
def Di (d : Int) (m : MoveR) : List PcQ := if (J6 d m).num = 0 then [⟨0, 0, 0, A9 m.rise 2⟩, ⟨Ev d m, Rv d m, ((Au d m : Int) : Rat), A9 (-m.fall) 2⟩, ⟨Fg d m, (d : Rat), 0, 0⟩] else [⟨0, 0, 0, A9 m.rise 2⟩, ⟨Fw d m, Jh d m, ((Au d m : Int) : Rat), 0⟩, ⟨Ev d m, Rv d m, ((Au d m : Int) : Rat), A9 (-m.fall) 2⟩, ⟨Fg d m, (d : Rat), 0, 0⟩]
theorem A3c (d : Int) (m : MoveR) : (Di d m).map PcQ.row = Jx d m := by unfold Di Jx;split <;> rfl
theorem Sj (d : Int) (m : MoveR) : (Di d m).length <= 4 := by unfold Di;split <;> simp
theorem A3b {d : Int} {m : MoveR} (hm : Dp m) (hd : 1 <= d /\ d <= 1048576) : okC (Di d m) := by
 have K := Me hm hd
 have z : Fits (0 : Rat) := Cd (n := 0) (by omega) (by omega)
 have t : Fits ((Au d m : Int) : Rat) := Cd (by have := K.w;omega) (by have := K.w;omega)
 have e : Fits (d : Rat) := Cd (by omega) (by omega)
 intro p hp
 unfold Di at hp
 split at hp
 ·simp only [a1i, a2r, or_false] at hp
  rcases hp with rfl | rfl | rfl
  ·exact ⟨z, z, z, K.half⟩
  ·exact ⟨K.stop, K.top, t, K.halfF⟩
  ·exact ⟨K.fin, e, z, z⟩
 ·simp only [a1i, a2r, or_false] at hp
  rcases hp with rfl | rfl | rfl | rfl
  ·exact ⟨z, z, z, K.half⟩
  ·exact ⟨K.start, K.rise, t, z⟩
  ·exact ⟨K.stop, K.top, t, K.halfF⟩
  ·exact ⟨K.fin, e, z, z⟩
/-! ### The order of a sheet -/
def mvI (q : CueR) (s : ByteArray) : Int := idx (fun m : MoveR => m.set = s) q.moves
def mvO (q : CueR) (s : ByteArray) : Option MoveR := if mvI q s < 0 then none else q.moves[(mvI q s).toNat]?
theorem A1z {q : CueR} {s : ByteArray} {m : MoveR} (h : mvO q s = some m) : m ∈ q.moves := by
 unfold mvO at h
 split at h
 ·cases h
 ·exact a0b h
def Oe (c : SheetR) (S L : List Int) (i k : Nat) (q r : CueR) (m : MoveR) : Prop := (mvO r m.set).isSome = true -> S.getD k 0 + L.getD k 0 <= S.getD i 0
def J5 (c : SheetR) (S L : List Int) : Prop := ∀ i q, c.cues[i]? = some q -> ∀ k r, k < i -> c.cues[k]? = some r -> ∀ m ∈ q.moves, Oe c S L i k q r m
noncomputable instance (c : SheetR) (S L : List Int) : Decidable (J5 c S L) := Classical.propDecidable _
/-! ### Paths -/
def Aw (s z : Int) (up : Prop) [Decidable up] (x : PcQ) : PcQ := if up then ⟨A9 s 1000 + x.f, (z : Rat) + x.a, x.b, x.c⟩ else ⟨A9 s 1000 + x.f, (z : Rat) - x.a, -x.b, -x.c⟩
def L4 (s z : Int) (m : MoveR) : List PcQ := if m.to = z then [] else (Di (max (m.to - z) (z - m.to)) m).map (Aw s z (z < m.to))
def Eh (h : HouseR) (c : SheetR) (S : List Int) (k : Nat) (n : ByteArray) (i : Nat) : List PcQ := match c.cues[i]? with
 | some q => (match mvO q n with | some m => L4 (S.getD i 0) ((Bv h c i).getD k 0) m | none => [])
 | none => []
def Bz (o : List PcQ) (y : PcQ) : List PcQ := if (o.getLastD default).f = y.f then o.dropLast ++ [y] else o ++ [y]
theorem Vr (A : List PcQ) (l y : PcQ) (h : l.f = y.f) : Bz (A ++ [l]) y = A ++ [y] := by simp [Bz, h]
theorem Yq (A : List PcQ) (l y : PcQ) (h : ¬ l.f = y.f) : Bz (A ++ [l]) y = (A ++ [l]) ++ [y] := by simp [Bz, h]
theorem Ab0 (o : List PcQ) (y : PcQ) : Bz o y ≠ [] := by unfold Bz;split <;> simp
theorem A7b (o : List PcQ) (y : PcQ) : (Bz o y).length <= o.length + 1 := by unfold Bz;split <;> simp <;> omega
theorem Ab1 {o : List PcQ} {y : PcQ} (ho : okC o) (hy : y.ok) : okC (Bz o y) := fun p hp => by
 unfold Bz at hp
 split at hp
 ·rcases a0t.1 hp with h | h
  ·exact ho p (List.dropLast_subset _ h)
  ·obtain rfl := a2n.1 h;exact hy
 ·rcases a0t.1 hp with h | h
  ·exact ho p h
  ·obtain rfl := a2n.1 h;exact hy
theorem Ru : ∀ (l : List PcQ) (o : List PcQ), o ≠ [] -> l.foldl Bz o ≠ []
 | [], _, h => h
 | y :: l, o, _ => Ru l _ (Ab0 o y)
theorem Om : ∀ (l : List PcQ) (o : List PcQ), (l.foldl Bz o).length <= o.length + l.length
 | [], _ => a0m _
 | y :: l, o => by
  have := Om l (Bz o y)
  have := A7b o y
  rw [a3g, a0i]
  omega
theorem Yr : ∀ (l : List PcQ) (o : List PcQ), okC o -> okC l -> okC (l.foldl Bz o)
 | [], _, h, _ => h
 | y :: l, o, h, hl => Yr l _ (Ab1 h (hl y (by simp))) fun p hp => hl p (by simp [hp])
def Cb (h : HouseR) (c : SheetR) (S : List Int) (k : Nat) (s : SetR) : Nat -> List PcQ
 | 0 => [⟨0, (s.high : Rat), 0, 0⟩]
 | i + 1 => (Eh h c S k s.name i).foldl Bz (Cb h c S k s i)
def R9 (h : HouseR) (c : SheetR) (S : List Int) (k : Nat) (s : SetR) : Prop := ∃ i, i < c.cues.length /\ ¬ okC (Eh h c S k s.name i)
noncomputable instance (h : HouseR) (c : SheetR) (S : List Int) (k : Nat) (s : SetR) : Decidable (R9 h c S k s) := Classical.propDecidable _
def Ds (h : HouseR) (c : SheetR) (S : List Int) (k : Nat) (s : SetR) : List PcQ := Cb h c S k s c.cues.length
noncomputable def Dr (h : HouseR) (c : SheetR) (S : List Int) (k : Nat) (s : SetR) : Int := if R9 h c S k s then 5 else if 200 < (Ds h c S k s).length then 4 else 0
theorem Lu (h : HouseR) (c : SheetR) (S : List Int) (k : Nat) (s : SetR) : ∀ i, Cb h c S k s i ≠ []
 | 0 => by simp [Cb]
 | i + 1 => Ru _ _ (Lu h c S k s i)
theorem Aam (h : HouseR) (c : SheetR) (S : List Int) (k : Nat) (n : ByteArray) (i : Nat) : (Eh h c S k n i).length <= 4 := by
 unfold Eh
 split
 ·split
  ·unfold L4
   split
   ·simp
   ·rw [a0a];exact Sj _ _
  ·simp
 ·simp
theorem Rs (h : HouseR) (c : SheetR) (S : List Int) (k : Nat) (s : SetR) : ∀ i, (Cb h c S k s i).length <= 4 * i + 1
 | 0 => by simp [Cb]
 | i + 1 => by
  have := Rs h c S k s i
  have := Om (Eh h c S k s.name i) (Cb h c S k s i)
  have := Aam h c S k s.name i
  rw [Cb]
  omega
theorem Q2 {h : HouseR} {c : SheetR} {S : List Int} {k : Nat} {s : SetR} (hs : Fits (s.high : Rat)) (hb : ¬ R9 h c S k s) : ∀ i, i <= c.cues.length -> okC (Cb h c S k s i)
 | 0, _ => fun p hp => by
  have z : Fits (0 : Rat) := Cd (n := 0) (by omega) (by omega)
  obtain rfl := a2n.1 hp
  exact ⟨z, hs, z, z⟩
 | i + 1, hi => Yr _ _ (Q2 hs hb i (by omega)) (a1x.1 fun hn => hb ⟨i, by omega, hn⟩)
abbrev Aef (l : List SetR) : List AV := (l.map SetR.row).flatten.map .lf
theorem N9 (l : List SetR) : ∀ r ∈ l.map SetR.row, r.length = 13 := by
 intro r hr
 obtain ⟨n, _, rfl⟩ := a1a.1 hr
 rfl
theorem Ab9 (l : List SetR) : (l.map SetR.row).flatten.all Lf.one = true := by
 rw [a0k]
 intro x hx
 obtain ⟨r, hr, hxr⟩ := a8h.1 hx
 obtain ⟨s, _, rfl⟩ := a1a.1 hr
 simp only [SetR.row, a1i, a2r, or_false] at hxr
 rcases hxr with rfl | rfl | rfl | rfl | rfl | rfl | rfl | rfl | rfl | rfl | rfl | rfl | rfl <;> rfl
theorem Yl (l : List SetR) : OwnRows (Aef l) 0 (l.map SetR.row).length 13 (l.map SetR.row) := OwnRows.of (l.map SetR.row).flatten (N9 l) rfl
theorem A30 (l : List SetR) (hl : l.length <= 1000) : FnOwn Tryz.prog 77 [.sl (l.map SetR.row)] (l.map SetR.row) 13 := by
 have hle : (l.map SetR.row).length = l.length := a0a _
 refine FnOwn.of Tryz.func77 Tryz.ntmps77 rfl rfl rfl ?_
 simp only [A1]
 repeat' (first|refine W ?_|(apply p3w;exact rfl;exact rfl;intro hnil;rotate_left;rotate_right)|(apply p1e;(iterate 6 exact rfl))|(apply p0n;(iterate 9 exact rfl);exact N9 l;exact Ab9 l;exact rfl;omega;omega)|refine V ?_|(refine W2 ?_ ?_<;>intro hc))
 all_goals (apply T.ret;change A2n _ _ _ _ _ _)
 ·exact ⟨.inr rfl, .inl ⟨_, .cons (.tmp rfl) .nil, rfl, hnil⟩⟩
 ·exact ⟨.inr rfl, .inr (.inr ⟨0, .cons (p3k rfl) .nil, rfl⟩)⟩

/-! ### Lists of pairs -/
def Al (l : List SetR) (k : Nat) (a : SetR) : Nat -> List (ByteArray × ByteArray)
 | 0 => []
 | j + 1 => Al l k a j ++ (match l[k + 1 + j]? with | some b => if D0 a b then [(a.name, b.name)] else [] | none => [])
def D7 (l : List SetR) : Nat -> List (ByteArray × ByteArray)
 | 0 => []
 | k + 1 => D7 l k ++ (match l[k]? with | some a => Al l k a (l.length - (k + 1)) | none => [])
abbrev prC (L : List (ByteArray × ByteArray)) : List AV := (L.map A8).flatten.map .lf
theorem Py (L : List (ByteArray × ByteArray)) : (prC L).length = L.length * 2 := by
 rw [a0a]
 induction L with
 | nil => rfl
 | cons p L ih => rw [a1l, a3b, a0q, ih];simp [A8];omega
theorem T7 (L M : List (ByteArray × ByteArray)) : prC (L ++ M) = prC L ++ prC M := by simp [prC]
theorem Aeu (L : List (ByteArray × ByteArray)) : ∀ r ∈ L.map A8, r.length = 2 := by
 intro r hr
 obtain ⟨n, _, rfl⟩ := a1a.1 hr
 rfl
theorem Ad2 (L : List (ByteArray × ByteArray)) : OwnRows (prC L) 0 L.length 2 (L.map A8) := by
 have := OwnRows.of (L.map A8).flatten (Aeu L) rfl
 rw [a0a] at this
 exact this
theorem Xy {l : List SetR} {k : Nat} {a b : SetR} {j : Nat} (h : l[k + 1 + j]? = some b) (hn : D0 a b) : Al l k a (j + 1) = Al l k a j ++ [(a.name, b.name)] := by rw [Al, h];simp only [hn, if_true]
theorem A1l {l : List SetR} {k : Nat} {a b : SetR} {j : Nat} (h : l[k + 1 + j]? = some b) (hn : ¬ D0 a b) : Al l k a (j + 1) = Al l k a j := by rw [Al, h];simp only [hn, if_false, a2b]
theorem Mn (l : List SetR) (k : Nat) (a : SetR) : ∀ j, (Al l k a j).length <= j
 | 0 => a0m _
 | j + 1 => by
  have ih := Mn l k a j
  rw [Al, a0q]
  split
  ·split <;> simp <;> omega
  ·simp;omega
theorem Mu (l : List SetR) : ∀ k, (D7 l k).length <= k * l.length
 | 0 => by simp [D7]
 | k + 1 => by
  have ih := Mu l k
  rw [D7, a0q, a5s, Nat.one_mul]
  split
  ·rename_i a _
   have := Mn l k a (l.length - (k + 1))
   omega
  ·simp;omega
theorem A56 (X Y Z : List Lf) : AH.clear 3 0 [.live (X.map .lf), .live (Y.map .lf), .live (Z.map .lf)] = true := by
 simp only [AH.clear, HB.clear, Av]
 rfl
theorem Uy (h : HouseR) (hf : h.fits) (hp : Cm h) : Fn0 Tryz.prog 50 [A2 h.row] (.tup [.sl ((D7 h.sets h.sets.length).map A8), .i 0]) := by
 have hv := Gn h hf
 rw [decide_eq_true hp] at hv
 have h60 : h.sets.length <= 60 := hp.2.2.2.1
 have hsP : ∀ s ∈ h.sets, Dt s := fun s hs => (hp.2.2.2.2.2.1 s hs).1
 have hle : (h.sets.map SetR.row).length = h.sets.length := a0a _
 skip
 refine Fn0.of Tryz.func50 Tryz.ntmps50 rfl rfl rfl ?_
 simp only [A1]
 repeat' (first|refine W ?_|refine Zc hv ?_|refine V ?_|(refine W2 ?_ ?_<;>intro hc))
 refine T.kill 1 ?_
 refine p0d (fun k => k <= h.sets.length) (fun k => h.sets.length - k) (fun k => [(17, .i k), (4, rT 1 2 (D7 h.sets k).length), (16, .i (h.sets.map SetR.row).length), (15, .sl (h.sets.map SetR.row)), (1, .ptr 0 0)]) (fun k => [.live (h.row.map .lf), rB (prC (D7 h.sets k)) (D7 h.sets k).length]) 0 (a0n _) CW CG ?_
 intro k hk
 by_cases hlt : (k : Int) < ((h.sets.map SetR.row).length : Nat)
 ·obtain ⟨a, ha⟩ := Ac (l := h.sets) (k := k) (by omega)
  have hb := Af (R := SetR.row) ha
  have hma := a0b ha
  have hcl := A30 (h.sets.drop (k + 1)) (by rw [a3a];omega)
  have hdr : (h.sets.map SetR.row).drop ((k : Int) + 1).toNat = (h.sets.drop (k + 1)).map SetR.row := by rw [show ((k : Int) + 1).toNat = k + 1 by omega, List.map_drop]
  replace hcl : FnOwn Tryz.prog 77 [.sl ((h.sets.map SetR.row).drop ((k : Int) + 1).toNat)] ((h.sets.drop (k + 1)).map SetR.row) 13 := by rw [hdr];exact hcl
  clear hdr
  have hsl : (h.sets.drop (k + 1)).length = h.sets.length - (k + 1) := a3a
  have hK : D7 h.sets (k + 1) = D7 h.sets k ++ Al h.sets k a (h.sets.length - (k + 1)) := by rw [D7, ha]
  have hb60 : (D7 h.sets k).length <= 3600 := a2c (Mu h.sets k) (a2c (a7u (show k <= 60 by omega) h60) (by decide))
  have hmm : ∀ j x, (h.sets.drop (k + 1))[j]? = some x -> h.sets[k + 1 + j]? = some x := fun j x hx => by rwa [a1z] at hx
  have hms : ∀ x ∈ h.sets.drop (k + 1), x ∈ h.sets := fun x hx => List.mem_of_mem_drop hx
  rw [<- hsl] at hK
  generalize D7 h.sets k = L at *
  have hle2 : ((h.sets.drop (k + 1)).map SetR.row).length = (h.sets.drop (k + 1)).length := a0a _
  generalize h.sets.drop (k + 1) = m at *
  cases L with
  | nil =>
   repeat' (first|refine W ?_|(apply S.indexR;(iterate 3 exact rfl);exact hb;omega;exact rfl)|refine Za ?_|(apply p2t;(iterate 3 exact rfl);omega;(intro row hr;obtain ⟨z, _, rfl⟩ := a1a.1 hr;rfl))|(apply p2r 3 hcl;(iterate 4 exact rfl);(first|exact rfl|exact A56 h.row _ a.row);exact rfl;exact N9 m;intro hnil;rotate_left;rotate_right)|(apply S.lenO;(iterate 3 exact rfl))|refine V ?_|(refine W2 ?_ ?_<;>intro hc))
   ·have hm0 : m = [] := a6y.1 hnil
    subst hm0
    refine T.kill 3 ?_
    refine p0d (fun j : Nat => j = 0) (fun _ => 0) (fun j => [(29, .i j), (4, rT 1 2 ([] ++ Al h.sets k a j).length), (28, .i ((([] : List SetR)).map SetR.row).length), (27, .sl ((([] : List SetR)).map SetR.row)), (6, .ptr 2 0), (17, .i k), (16, .i (h.sets.map SetR.row).length), (15, .sl (h.sets.map SetR.row)), (1, .ptr 0 0)]) (fun j => [.live (h.row.map .lf), rB (prC ([] ++ Al h.sets k a j)) ([] ++ Al h.sets k a j).length, .live (a.row.map .lf), .dead]) 0 rfl (by rw [show [] ++ Al h.sets k a 0 = [] from a2b _];exact CW) (by rw [show [] ++ Al h.sets k a 0 = [] from a2b _];exact .live rfl CG) ?_
    intro j hj
    subst hj
    have hltj : ¬ ((0 : Nat) : Int) < ((([] : List SetR).map SetR.row).length : Nat) := by simp
    have hK' : [] ++ Al h.sets k a 0 = D7 h.sets (k + 1) := hK.symm
    obtain ⟨LL, hLL⟩ : ∃ LL, LL = D7 h.sets (k + 1) := ⟨_, rfl⟩
    rw [hK', <- hLL]
    repeat' (first|refine W ?_|refine Za ?_|refine V ?_|(refine W2 ?_ ?_<;>intro hc))
    change Next _ _ _ _ _ _
    exact Next.go (k + 1) (by omega) (by omega) (by rw [<- hLL];exact (.cons (by rw [show (((k + 1 : Nat) : Int)) = (k : Int) + 1 by omega];rfl) rfl (.cons rfl (by cases LL <;> rfl) CW))) (by rw [<- hLL];clear hLL;cases LL <;> first | exact .live rfl (.dead .nil) | exact .live rfl (.live (Ah _ _) .nil))
   ·refine T.freeze 27 rfl rfl (Yl m) ?_
    refine p0d (fun j => j <= (m).length) (fun j => (m).length - j) (fun j => [(29, .i j), (4, rT 1 2 ([] ++ Al h.sets k a j).length), (28, .i ((m).map SetR.row).length), (27, .sl ((m).map SetR.row)), (6, .ptr 2 0), (17, .i k), (16, .i (h.sets.map SetR.row).length), (15, .sl (h.sets.map SetR.row)), (1, .ptr 0 0)]) (fun j => [.live (h.row.map .lf), rB (prC ([] ++ Al h.sets k a j)) ([] ++ Al h.sets k a j).length, .live (a.row.map .lf), .dead]) 0 (a0n _) (by rw [show [] ++ Al h.sets k a 0 = [] from a2b _];exact CW) (by rw [show [] ++ Al h.sets k a 0 = [] from a2b _];exact .live rfl CG) ?_
    intro j hj
    by_cases hltj : (j : Int) < (((m).map SetR.row).length : Nat)
    ·obtain ⟨x, hx⟩ := Ac (l := m) (k := j) (by omega)
     have hbx := Af (R := SetR.row) hx
     have hmx := hms x (a0b hx)
     have cn := Jj a x (hsP a hma) (hsP x hmx) (hf.2.2 a hma) (hf.2.2 x hmx)
     have hj60 := Mn h.sets k a j
     have hll : ([] ++ Al h.sets k a j).length <= 3700 := by rw [a0q];omega
     by_cases hn : D0 a x
     ·rw [decide_eq_true hn] at cn
      have hS : [] ++ Al h.sets k a (j + 1) = ([] ++ Al h.sets k a j) ++ [(a.name, x.name)] := by rw [Xy (hmm j x hx) hn, a2t]
      have hS2 : prC ([] ++ Al h.sets k a (j + 1)) = prC ([] ++ Al h.sets k a j) ++ [.s a.name, .s x.name] := by rw [hS, T7];rfl
      have hS3 : ([] ++ Al h.sets k a (j + 1)).length = ([] ++ Al h.sets k a j).length + 1 := by rw [hS, a0q];rfl
      have hpc := Py ([] ++ Al h.sets k a j)
      generalize [] ++ Al h.sets k a j = LL at *
      cases LL with
      | nil =>
       repeat' (first|refine W ?_|refine Za ?_|(apply S.indexR;(iterate 3 exact rfl);exact hbx;omega;exact rfl)|refine Zc cn ?_|(apply p2m;(iterate 3 exact rfl))|(apply p0c;(iterate 7 exact rfl))|(apply p0r 1 (rows := []);(iterate 8 exact rfl);exact Ag rfl;exact rfl;exact a0d rfl;exact a0d rfl)|refine V ?_|(refine W2 ?_ ?_<;>intro hc))
       change Next _ _ _ _ _ _
       exact Next.go (j + 1) (by omega) (by omega) (by rw [hS3, show (((j + 1 : Nat) : Int)) = (j : Int) + 1 by omega];exact CW) (by rw [hS2, hS3];exact .live rfl CG)
      | cons p0 LL =>
       have hll2 : LL.length + 1 <= 3700 := hll
       repeat' (first|refine W ?_|refine Za ?_|(apply S.indexR;(iterate 3 exact rfl);exact hbx;omega;exact rfl)|refine Zc cn ?_|(apply p2m;(iterate 3 exact rfl))|(apply p0c;(iterate 7 exact rfl))|(apply p0n;(iterate 8 exact rfl);(first|exact hpc|(rw [Py];simp only [a0i];omega));exact Ag rfl;exact rfl;exact Av _ _;simp only [a0i, a0o];omega;simp only [a0i, a0o];omega)|refine V ?_|(refine W2 ?_ ?_<;>intro hc))
       change Next _ _ _ _ _ _
       exact Next.go (j + 1) (by omega) (by omega) (by rw [hS3, show (((j + 1 : Nat) : Int)) = (j : Int) + 1 by omega];exact CW) (by rw [hS2, hS3];exact .live rfl (.live (by rw [a2x, Ah];rfl) CG))
     ·rw [decide_eq_false hn] at cn
      have hS : [] ++ Al h.sets k a (j + 1) = [] ++ Al h.sets k a j := by rw [A1l (hmm j x hx) hn]
      generalize [] ++ Al h.sets k a j = LL at *
      repeat' (first|refine W ?_|refine Za ?_|(apply S.indexR;(iterate 3 exact rfl);exact hbx;omega;exact rfl)|refine Zc cn ?_|refine V ?_|(refine W2 ?_ ?_<;>intro hc))
      change Next _ _ _ _ _ _
      exact Next.go (j + 1) (by omega) (by omega) (by rw [hS, show (((j + 1 : Nat) : Int)) = (j : Int) + 1 by omega];exact (.cons rfl rfl (.cons rfl (by cases LL <;> rfl) CW))) (by rw [hS];cases LL <;> first | exact .live rfl CG | exact .live rfl (.live (Ah _ _) CG))
    ·obtain rfl : j = (m).length := by omega
     obtain ⟨LL, hLL⟩ : ∃ LL, LL = D7 h.sets (k + 1) := ⟨_, rfl⟩
     rw [<- hK, <- hLL]
     repeat' (first|refine W ?_|refine Za ?_|refine V ?_|(refine W2 ?_ ?_<;>intro hc))
     change Next _ _ _ _ _ _
     exact Next.go (k + 1) (by omega) (by omega) (by rw [<- hLL];exact (.cons (by rw [show (((k + 1 : Nat) : Int)) = (k : Int) + 1 by omega];rfl) rfl (.cons rfl (by cases LL <;> rfl) CW))) (by rw [<- hLL];clear hLL;cases LL <;> first | exact .live rfl (.dead .nil) | exact .live rfl (.live (Ah _ _) .nil))
  | cons p L =>
   repeat' (first|refine W ?_|(apply S.indexR;(iterate 3 exact rfl);exact hb;omega;exact rfl)|refine Za ?_|(apply p2t;(iterate 3 exact rfl);omega;(intro row hr;obtain ⟨z, _, rfl⟩ := a1a.1 hr;rfl))|(apply p2r 3 hcl;(iterate 4 exact rfl);(first|exact rfl|exact A56 h.row _ a.row);exact rfl;exact N9 m;intro hnil;rotate_left;rotate_right)|(apply S.lenO;(iterate 3 exact rfl))|refine V ?_|(refine W2 ?_ ?_<;>intro hc))
   ·have hm0 : m = [] := a6y.1 hnil
    subst hm0
    refine T.kill 3 ?_
    refine p0d (fun j : Nat => j = 0) (fun _ => 0) (fun j => [(29, .i j), (4, rT 1 2 ((p :: L) ++ Al h.sets k a j).length), (28, .i ((([] : List SetR)).map SetR.row).length), (27, .sl ((([] : List SetR)).map SetR.row)), (6, .ptr 2 0), (17, .i k), (16, .i (h.sets.map SetR.row).length), (15, .sl (h.sets.map SetR.row)), (1, .ptr 0 0)]) (fun j => [.live (h.row.map .lf), rB (prC ((p :: L) ++ Al h.sets k a j)) ((p :: L) ++ Al h.sets k a j).length, .live (a.row.map .lf), .dead]) 0 rfl (by rw [show (p :: L) ++ Al h.sets k a 0 = (p :: L) from a2b _];exact CW) (by rw [show (p :: L) ++ Al h.sets k a 0 = (p :: L) from a2b _];exact .live rfl (.live (Ah _ _) CG)) ?_
    intro j hj
    subst hj
    have hltj : ¬ ((0 : Nat) : Int) < ((([] : List SetR).map SetR.row).length : Nat) := by simp
    have hK' : (p :: L) ++ Al h.sets k a 0 = D7 h.sets (k + 1) := hK.symm
    obtain ⟨LL, hLL⟩ : ∃ LL, LL = D7 h.sets (k + 1) := ⟨_, rfl⟩
    rw [hK', <- hLL]
    repeat' (first|refine W ?_|refine Za ?_|refine V ?_|(refine W2 ?_ ?_<;>intro hc))
    change Next _ _ _ _ _ _
    exact Next.go (k + 1) (by omega) (by omega) (by rw [<- hLL];exact (.cons (by rw [show (((k + 1 : Nat) : Int)) = (k : Int) + 1 by omega];rfl) rfl (.cons rfl (by cases LL <;> rfl) CW))) (by rw [<- hLL];clear hLL;cases LL <;> first | exact .live rfl (.dead .nil) | exact .live rfl (.live (Ah _ _) .nil))
   ·refine T.freeze 27 rfl rfl (Yl m) ?_
    refine p0d (fun j => j <= (m).length) (fun j => (m).length - j) (fun j => [(29, .i j), (4, rT 1 2 ((p :: L) ++ Al h.sets k a j).length), (28, .i ((m).map SetR.row).length), (27, .sl ((m).map SetR.row)), (6, .ptr 2 0), (17, .i k), (16, .i (h.sets.map SetR.row).length), (15, .sl (h.sets.map SetR.row)), (1, .ptr 0 0)]) (fun j => [.live (h.row.map .lf), rB (prC ((p :: L) ++ Al h.sets k a j)) ((p :: L) ++ Al h.sets k a j).length, .live (a.row.map .lf), .dead]) 0 (a0n _) (by rw [show (p :: L) ++ Al h.sets k a 0 = (p :: L) from a2b _];exact CW) (by rw [show (p :: L) ++ Al h.sets k a 0 = (p :: L) from a2b _];exact .live rfl (.live (Ah _ _) CG)) ?_
    intro j hj
    by_cases hltj : (j : Int) < (((m).map SetR.row).length : Nat)
    ·obtain ⟨x, hx⟩ := Ac (l := m) (k := j) (by omega)
     have hbx := Af (R := SetR.row) hx
     have hmx := hms x (a0b hx)
     have cn := Jj a x (hsP a hma) (hsP x hmx) (hf.2.2 a hma) (hf.2.2 x hmx)
     have hj60 := Mn h.sets k a j
     have hll : ((p :: L) ++ Al h.sets k a j).length <= 3700 := by rw [a0q];omega
     by_cases hn : D0 a x
     ·rw [decide_eq_true hn] at cn
      have hS : (p :: L) ++ Al h.sets k a (j + 1) = ((p :: L) ++ Al h.sets k a j) ++ [(a.name, x.name)] := by rw [Xy (hmm j x hx) hn, a2t]
      have hS2 : prC ((p :: L) ++ Al h.sets k a (j + 1)) = prC ((p :: L) ++ Al h.sets k a j) ++ [.s a.name, .s x.name] := by rw [hS, T7];rfl
      have hS3 : ((p :: L) ++ Al h.sets k a (j + 1)).length = ((p :: L) ++ Al h.sets k a j).length + 1 := by rw [hS, a0q];rfl
      have hpc := Py ((p :: L) ++ Al h.sets k a j)
      generalize (p :: L) ++ Al h.sets k a j = LL at *
      cases LL with
      | nil =>
       repeat' (first|refine W ?_|refine Za ?_|(apply S.indexR;(iterate 3 exact rfl);exact hbx;omega;exact rfl)|refine Zc cn ?_|(apply p2m;(iterate 3 exact rfl))|(apply p0c;(iterate 7 exact rfl))|(apply p0r 1 (rows := []);(iterate 8 exact rfl);exact Ag rfl;exact rfl;exact a0d rfl;exact a0d rfl)|refine V ?_|(refine W2 ?_ ?_<;>intro hc))
       change Next _ _ _ _ _ _
       exact Next.go (j + 1) (by omega) (by omega) (by rw [hS3, show (((j + 1 : Nat) : Int)) = (j : Int) + 1 by omega];exact CW) (by rw [hS2, hS3];exact .live rfl CG)
      | cons p0 LL =>
       have hll2 : LL.length + 1 <= 3700 := hll
       repeat' (first|refine W ?_|refine Za ?_|(apply S.indexR;(iterate 3 exact rfl);exact hbx;omega;exact rfl)|refine Zc cn ?_|(apply p2m;(iterate 3 exact rfl))|(apply p0c;(iterate 7 exact rfl))|(apply p0n;(iterate 8 exact rfl);(first|exact hpc|(rw [Py];simp only [a0i];omega));exact Ag rfl;exact rfl;exact Av _ _;simp only [a0i, a0o];omega;simp only [a0i, a0o];omega)|refine V ?_|(refine W2 ?_ ?_<;>intro hc))
       change Next _ _ _ _ _ _
       exact Next.go (j + 1) (by omega) (by omega) (by rw [hS3, show (((j + 1 : Nat) : Int)) = (j : Int) + 1 by omega];exact CW) (by rw [hS2, hS3];exact .live rfl (.live (by rw [a2x, Ah];rfl) CG))
     ·rw [decide_eq_false hn] at cn
      have hS : (p :: L) ++ Al h.sets k a (j + 1) = (p :: L) ++ Al h.sets k a j := by rw [A1l (hmm j x hx) hn]
      generalize (p :: L) ++ Al h.sets k a j = LL at *
      repeat' (first|refine W ?_|refine Za ?_|(apply S.indexR;(iterate 3 exact rfl);exact hbx;omega;exact rfl)|refine Zc cn ?_|refine V ?_|(refine W2 ?_ ?_<;>intro hc))
      change Next _ _ _ _ _ _
      exact Next.go (j + 1) (by omega) (by omega) (by rw [hS, show (((j + 1 : Nat) : Int)) = (j : Int) + 1 by omega];exact (.cons rfl rfl (.cons rfl (by cases LL <;> rfl) CW))) (by rw [hS];cases LL <;> first | exact .live rfl CG | exact .live rfl (.live (Ah _ _) CG))
    ·obtain rfl : j = (m).length := by omega
     obtain ⟨LL, hLL⟩ : ∃ LL, LL = D7 h.sets (k + 1) := ⟨_, rfl⟩
     rw [<- hK, <- hLL]
     repeat' (first|refine W ?_|refine Za ?_|refine V ?_|(refine W2 ?_ ?_<;>intro hc))
     change Next _ _ _ _ _ _
     exact Next.go (k + 1) (by omega) (by omega) (by rw [<- hLL];exact (.cons (by rw [show (((k + 1 : Nat) : Int)) = (k : Int) + 1 by omega];rfl) rfl (.cons rfl (by cases LL <;> rfl) CW))) (by rw [<- hLL];clear hLL;cases LL <;> first | exact .live rfl (.dead .nil) | exact .live rfl (.live (Ah _ _) .nil))
 ·obtain rfl : k = h.sets.length := by omega
  have hown := Ad2 (D7 h.sets h.sets.length)
  generalize D7 h.sets h.sets.length = L at *
  cases L with
  | nil =>
   repeat' (first|refine W ?_|(refine p0u 4 rfl ?_)|refine V ?_|(refine W2 ?_ ?_<;>intro hc))
   exact D2 rfl rfl rfl
  | cons p L =>
   repeat' (first|refine W ?_|(refine T.freeze 4 rfl rfl hown ?_)|refine V ?_|(refine W2 ?_ ?_<;>intro hc))
   exact D2 rfl rfl rfl
end Go.Proofs.YtlapbaiejnaeiaaGreatDoor
