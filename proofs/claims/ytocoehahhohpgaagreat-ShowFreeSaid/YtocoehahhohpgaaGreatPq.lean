/- Plain laws: the paths of sets have no jumps. No conditions but those of each statement. -/
import Derived.Test.YtocoehahhohpgaaGreatPf
import Derived.Test.YtocoehahhohpgaaGreatMv
import Derived.Test.YtocoehahhohpgaaGreatOr
import Derived.Test.YtocoehahhohpgaaGreatPe
import Derived.Test.YtocoehahhohpgaaGreatPh
set_option linter.unusedSimpArgs false
set_option linter.unusedVariables false
namespace Go.Proofs.YtocoehahhohpgaaGreat
open Go Go.RowKit
def Bd (l : List PcQ) : Prop := ∀ i, i + 1 < l.length -> vR (A8 l i) (A8 l (i + 1)).f = (A8 l (i + 1)).a
theorem A4p (p : PcQ) : vR p p.f = p.a := by unfold vR;grind
theorem Cq {A B : List PcQ} {i : Nat} (h : i < A.length) : A8 (A ++ B) i = A8 A i := by
 unfold A8
 rw [List.getD_eq_getElem?_getD, List.getD_eq_getElem?_getD, List.getElem?_append_left h]
theorem H6 (A : List PcQ) (y : PcQ) : A8 (A ++ [y]) A.length = y := by
 unfold A8
 simp
theorem A5a {A : List PcQ} {l y : PcQ} (h : Bd (A ++ [l])) (e : vR l y.f = y.a) : Bd ((A ++ [l]) ++ [y]) := fun i hi => by
 have hlen : (A ++ [l]).length = A.length + 1 := by simp
 rw [List.length_append, hlen] at hi
 simp only [List.length_cons, List.length_nil] at hi
 by_cases hlt : i + 1 < A.length + 1
 ·rw [Cq (A := A ++ [l]) (by rw [hlen];omega), Cq (A := A ++ [l]) (by rw [hlen];exact hlt)]
  exact h i (by rw [hlen];exact hlt)
 ·obtain rfl : i = A.length := by omega
  rw [show A.length + 1 = (A ++ [l]).length from hlen.symm, H6, Cq (A := A ++ [l]) (by rw [hlen];omega), H6]
  exact e
theorem A5t {A : List PcQ} {l y : PcQ} (h : Bd (A ++ [l])) (e : vR l y.f = y.a) : Bd (Be (A ++ [l]) y) /\ ∃ B, Be (A ++ [l]) y = B ++ [y] := by
 by_cases hf : l.f = y.f
 ·rw [O7 A l y hf]
  refine ⟨fun i hi => ?_, A, rfl⟩
  have ha : y.a = l.a := by rw [<- e, <- hf, A4p]
  have hlen : (A ++ [l]).length = A.length + 1 := by simp
  have hlen2 : (A ++ [y]).length = A.length + 1 := by simp
  rw [hlen2] at hi
  by_cases hlt : i + 1 < A.length
  ·have := h i (by rw [hlen];omega)
   rw [Cq (by omega), Cq hlt] at this ⊢
   exact this
  ·have e1 : i + 1 = A.length := by omega
   have := h i (by rw [hlen];omega)
   rw [e1, H6, Cq (by omega)] at this ⊢
   rw [<- hf, ha]
   exact this
 ·rw [R9 A l y hf]
  exact ⟨A5a h e, A ++ [l], rfl⟩
theorem A6f {l : PcQ} {Y : List PcQ} (h : Bd (l :: Y)) : Bd Y := fun i hi => by
 have := h (i + 1) (by simp only [List.length_cons];omega)
 rwa [Eh, Eh] at this
theorem A4m {l y : PcQ} {Y : List PcQ} (h : Bd (y :: Y)) (e : vR l y.f = y.a) : Bd (l :: y :: Y) := fun i hi => by
 cases i with
 | zero => exact e
 | succ i =>
  rw [Eh, Eh]
  exact h i (by simp only [List.length_cons] at hi ⊢;omega)
theorem A4b {l y : PcQ} {Y : List PcQ} (h : Bd (l :: y :: Y)) : vR l y.f = y.a := h 0 (by simp only [List.length_cons];omega)
theorem Sn : ∀ (Y : List PcQ) (A : List PcQ) (l : PcQ), Bd (A ++ [l]) -> Bd (l :: Y) -> Bd (Y.foldl Be (A ++ [l])) /\ ∃ B, Y.foldl Be (A ++ [l]) = B ++ [(l :: Y).getLast (by simp)]
 | [], A, l, h, _ => ⟨h, A, rfl⟩
 | y :: Y, A, l, h, hy => by
  obtain ⟨h1, B, hB⟩ := A5t h (A4b hy)
  rw [List.foldl_cons]
  rw [hB] at h1 ⊢
  have := Sn Y B y h1 (A6f hy)
  rwa [List.getLast_cons (by simp)]
/-! ### The curve of a move -/
theorem A2p {d : Int} {m : MoveR} (hm : D8 m) (hd : 1 <= d /\ d <= 1048576) : Bd (Cx d m) := by
 have K := K8 hm hd
 have hw := K.w
 obtain ⟨_, _, h3, h4, h5⟩ := hm
 have r0 := Jz (n := m.rise) (by omega)
 have f0 := Jz (n := m.fall) (by omega)
 have w0 := Jz (n := (Ak d m : Int)) (by omega)
 have two : ((2 : Int) : Rat) = 2 := rfl
 have e1 : Fe d m = ((Ak d m : Int) : Rat) * ((Ak d m : Int) : Rat) / (2 * (m.rise : Rat)) := by rw [Fe, C6, Rat.intCast_mul, Rat.intCast_mul, two]
 have e2 : Gk d m = ((Ak d m : Int) : Rat) * ((Ak d m : Int) : Rat) / (2 * (m.fall : Rat)) := by rw [Gk, C6, Rat.intCast_mul, Rat.intCast_mul, two]
 have e3 : Dj d m = ((Ak d m : Int) : Rat) / (m.rise : Rat) := C6 _ _
 have e4 : Kf d m = ((Ak d m : Int) : Rat) / (m.fall : Rat) := C6 _ _
 have e5 : A7 m.rise 2 = (m.rise : Rat) / 2 := C6 _ _
 have e6 : A7 (-m.fall) 2 = -(m.fall : Rat) / 2 := by rw [C6, Rat.intCast_neg];rfl
 have a0 : (2 * (m.rise : Rat)) ≠ 0 := by grind
 have b0 : (2 * (m.fall : Rat)) ≠ 0 := by grind
 have k0 : Jd d m = Gs d m / ((Ak d m : Int) : Rat) := rfl
 have k1 : Cu d m = Dj d m + Jd d m := rfl
 have k2 : Do d m = Cu d m + Kf d m := rfl
 have k3 : J3 d m = (d : Rat) - Gk d m := rfl
 have k4 : Gs d m = (d : Rat) - Fe d m - Gk d m := rfl
 unfold Cx
 generalize ((Ak d m : Int) : Rat) = w at *
 generalize (m.rise : Rat) = R at *
 generalize (m.fall : Rat) = F at *
 generalize (d : Rat) = D at *
 split
 ·rename_i hz
  have hz' : Gs d m = 0 := Rat.num_eq_zero.1 hz
  rw [hz'] at k0
  intro i hi
  match i, hi with
  | 0, _ =>
   show vR ⟨0, 0, 0, A7 m.rise 2⟩ (Cu d m) = J3 d m
   unfold vR
   dsimp only
   rw [e5, k1, k0, e3, k3]
   grind
  | 1, _ =>
   show vR ⟨Cu d m, J3 d m, w, A7 (-m.fall) 2⟩ (Do d m) = D
   unfold vR
   dsimp only
   rw [e6, k2, e4, k3, e2]
   grind
 ·intro i hi
  match i, hi with
  | 0, _ =>
   show vR ⟨0, 0, 0, A7 m.rise 2⟩ (Dj d m) = Fe d m
   unfold vR
   dsimp only
   rw [e5, e3, e1]
   grind
  | 1, _ =>
   show vR ⟨Dj d m, Fe d m, w, 0⟩ (Cu d m) = J3 d m
   unfold vR
   dsimp only
   rw [k1, k0, k3, k4]
   grind
  | 2, _ =>
   show vR ⟨Cu d m, J3 d m, w, A7 (-m.fall) 2⟩ (Do d m) = D
   unfold vR
   dsimp only
   rw [e6, k2, e4, k3, e2]
   grind
theorem A4v (s z : Int) (up : Prop) [Decidable up] (x : PcQ) (t : Rat) : vR (Ag s z up x) (A7 s 1000 + t) = if up then (z : Rat) + vR x t else (z : Rat) - vR x t := by
 unfold Ag vR
 split <;> dsimp only <;> grind
theorem A1h {l : List PcQ} (h : Bd l) (s z : Int) (up : Prop) [Decidable up] : Bd (l.map (Ag s z up)) := fun i hi => by
 rw [List.length_map] at hi
 have at_ : ∀ j, j < l.length -> A8 (l.map (Ag s z up)) j = Ag s z up (A8 l j) := fun j hj => by
  have hx : l[j]? = some l[j] := List.getElem?_eq_getElem hj
  rw [Bs hx]
  exact Bs (by rw [List.getElem?_map, hx];rfl)
 rw [at_ i (by omega), at_ (i + 1) hi]
 have hf : (Ag s z up (A8 l (i + 1))).f = A7 s 1000 + (A8 l (i + 1)).f := by unfold Ag;split <;> rfl
 rw [hf, A4v, h i hi]
 unfold Ag
 split <;> rfl
def A2b (p : PcQ) (z : Int) : Prop := p.a = (z : Rat) /\ p.b = 0 /\ p.c = 0
theorem A6n {p : PcQ} {z : Int} (h : A2b p z) (t : Rat) : vR p t = (z : Rat) := by
 obtain ⟨h1, h2, h3⟩ := h
 unfold vR
 rw [h1, h2, h3]
 grind
theorem Qf (d : Int) (m : MoveR) : ∃ y Y, Cx d m = y :: Y /\ y.a = 0 /\ (y :: Y).getLast (by simp) = ⟨Do d m, (d : Rat), 0, 0⟩ := by
 unfold Cx
 split
 ·exact ⟨_, _, rfl, rfl, rfl⟩
 ·exact ⟨_, _, rfl, rfl, rfl⟩
theorem mvO_spec {q : CueR} {n : ByteArray} : (∀ m, mvO q n = some m -> m ∈ q.moves /\ m.set = n) /\ (mvO q n = none -> ¬ ∃ m ∈ q.moves, m.set = n) := by
 have key : ∀ (l : List MoveR), ¬ idx (fun m : MoveR => m.set = n) l < 0 -> ∀ m, l[(idx (fun m : MoveR => m.set = n) l).toNat]? = some m -> m.set = n := by
  intro l
  induction l with
  | nil => intro h0 m h;simp at h
  | cons x l ih =>
   intro h0 m h1
   rw [idx] at h0 h1
   by_cases hx : x.set = n
   ·rw [if_pos hx] at h1
    simp at h1
    rw [<- h1];exact hx
   ·rw [if_neg hx] at h0 h1
    split at h1
    ·rename_i hneg
     rw [if_pos hneg] at h0
     omega
    ·rename_i hneg
     have e : (idx (fun m : MoveR => m.set = n) l + 1).toNat = (idx (fun m : MoveR => m.set = n) l).toNat + 1 := by
      have := C1 (fun m : MoveR => m.set = n) l
      omega
     rw [e, List.getElem?_cons_succ] at h1
     exact ih (by have := C1 (fun m : MoveR => m.set = n) l;omega) m h1
 constructor
 ·intro m hm
  refine ⟨A0y hm, ?_⟩
  unfold mvO at hm
  split at hm
  ·cases hm
  ·rename_i h0
   exact key q.moves h0 m hm
 ·rintro hn ⟨m, hm, e⟩
  have h0 : ¬ idx (fun m : MoveR => m.set = n) q.moves = -1 := Ig ⟨m, hm, e⟩
  have h1 := C1 (fun m : MoveR => m.set = n) q.moves
  have h2 : ¬ mvI q n < 0 := by show ¬ idx _ _ < 0;omega
  unfold mvO at hn
  rw [if_neg h2] at hn
  obtain ⟨x, hx⟩ := Ga (p := fun m : MoveR => m.set = n) (l := q.moves) h2
  change q.moves[(mvI q n).toNat]? = some x at hx
  rw [hx] at hn
  cases hn
theorem Ur {h : HouseR} (hp : By h) {k : Nat} {s : SetR} (hs : h.sets[k]? = some s) : Aa h s.name = k := by
 have hi : ¬ Aa h s.name = -1 := Ig ⟨s, List.mem_of_getElem? hs, rfl⟩
 have h2 : -1 <= Aa h s.name := C1 _ _
 obtain ⟨t, h3, h4⟩ := Ij (h := h) (n := s.name) (by omega)
 have := A6s hp.2.2.2.2.2.2 h3 hs h4
 omega
theorem A87 {h : HouseR} {c : SheetR} (v : validP h c) {i k : Nat} {q : CueR} {s : SetR} (hq : c.cues[i]? = some q) (hs : h.sets[k]? = some s) : (Ay h c (i + 1)).getD k 0 = match mvO q s.name with | some m => m.to | none => (Ay h c i).getD k 0 := by
 have g := Fw v hq
 rw [Nw hq]
 cases e : mvO q s.name with
 | some m =>
  obtain ⟨h1, h2⟩ := mvO_spec.1 m e
  have := A8t g h1
  rw [h2, Ur v.1 hs, Int.toNat_natCast] at this
  rw [List.getD_eq_getElem?_getD, this];rfl
 | none =>
  have := Zl g hs (mvO_spec.2 e)
  rw [List.getD_eq_getElem?_getD, List.getD_eq_getElem?_getD, this]
theorem X3 {h : HouseR} {c : SheetR} (v : validP h c) (S : List Int) {k : Nat} {s : SetR} (hs : h.sets[k]? = some s) : ∀ i, i <= c.cues.length -> Bd (Bl h c S k s i) /\ ∃ A l, Bl h c S k s i = A ++ [l] /\ A2b l ((Ay h c i).getD k 0)
 | 0, _ => by
  refine ⟨fun i hi => (by simp [Bl] at hi), [], ⟨0, (s.high : Rat), 0, 0⟩, rfl, ?_, rfl, rfl⟩
  show (s.high : Rat) = _
  rw [show (Ay h c 0).getD k 0 = s.high by show (Ff h).getD k 0 = _;rw [List.getD_eq_getElem?_getD, Ff, List.getElem?_map, hs];rfl]
 | i + 1, hi => by
  obtain ⟨h1, A, l, hA, hl⟩ := X3 v S hs i (by omega)
  obtain ⟨q, hq⟩ := A9 (l := c.cues) (k := i) (by omega)
  have hn := A87 v hq hs
  have hK : Bl h c S k s (i + 1) = (Cy h c S k s.name i).foldl Be (Bl h c S k s i) := rfl
  have stay : Cy h c S k s.name i = [] -> (Ay h c (i + 1)).getD k 0 = (Ay h c i).getD k 0 -> Bd (Bl h c S k s (i + 1)) /\ ∃ A l, Bl h c S k s (i + 1) = A ++ [l] /\ A2b l ((Ay h c (i + 1)).getD k 0) := fun e1 e2 => by
   rw [hK, e1, e2]
   exact ⟨h1, A, l, hA, hl⟩
  cases e : mvO q s.name with
  | none =>
   rw [e] at hn
   exact stay (by unfold Cy;rw [hq];dsimp only;rw [e]) hn
  | some m =>
   rw [e] at hn
   dsimp only at hn
   have hnew : Cy h c S k s.name i = I3 (S.getD i 0) ((Ay h c i).getD k 0) m := by unfold Cy;rw [hq];dsimp only;rw [e]
   by_cases ez : m.to = (Ay h c i).getD k 0
   ·exact stay (by rw [hnew];unfold I3;rw [if_pos ez]) (by rw [hn, ez])
   ·have g := Fw v hq
    obtain ⟨hmq, hms⟩ := mvO_spec.1 m e
    obtain ⟨_, _, _, _, _, hmv, _⟩ := g.right
    have hmi := hmv m hmq
    have hmr := hmi.range v.1
    have hlk : k < h.sets.length := (List.getElem?_eq_some_iff.1 hs).1
    obtain ⟨z, hz⟩ := A9 (l := Ay h c i) (k := k) (by rw [g.len];exact hlk)
    have hz1 := g.trims k z s hz hs
    have hgz : (Ay h c i).getD k 0 = z := by rw [List.getD_eq_getElem?_getD, hz];rfl
    have hsp := (v.1.2.2.2.2.2.1 s (List.mem_of_getElem? hs)).1
    obtain ⟨_, _, s1, s2, s3, _⟩ := hsp
    rw [hgz] at hnew ez hl
    have hd : 1 <= max (m.to - z) (z - m.to) /\ max (m.to - z) (z - m.to) <= 1048576 := by omega
    have hcc := A2p hmi.1 hd
    obtain ⟨y, Y, hy, hy0, hlast⟩ := Qf (max (m.to - z) (z - m.to)) m
    have hY : Cy h c S k s.name i = Ag (S.getD i 0) z (z < m.to) y :: Y.map (Ag (S.getD i 0) z (z < m.to)) := by
     rw [hnew]
     unfold I3
     rw [if_neg ez, hy];rfl
    have hsc := A1h hcc (S.getD i 0) z (z < m.to)
    rw [hy] at hsc
    have hlk2 : vR l (Ag (S.getD i 0) z (z < m.to) y).f = (Ag (S.getD i 0) z (z < m.to) y).a := by
     rw [A6n hl]
     unfold Ag
     split <;> dsimp only <;> rw [hy0] <;> grind
    rw [hK, hA, hY]
    obtain ⟨r1, B, r2⟩ := Sn _ A l (hA ▸ h1) (A4m hsc hlk2)
    refine ⟨r1, B, _, r2, ?_⟩
    have hgl : (l :: Ag (S.getD i 0) z (z < m.to) y :: Y.map (Ag (S.getD i 0) z (z < m.to))).getLast (by simp) = Ag (S.getD i 0) z (z < m.to) ⟨Do (max (m.to - z) (z - m.to)) m, ((max (m.to - z) (z - m.to) : Int) : Rat), 0, 0⟩ := by
     rw [List.getLast_cons (by simp)]
     show (((y :: Y).map (Ag (S.getD i 0) z (z < m.to))).getLast (by simp)) = _
     rw [List.getLast_map, hlast]
    rw [hgl, hn]
    unfold Ag
    split
    ·rename_i hu
     refine ⟨?_, rfl, rfl⟩
     show (z : Rat) + ((max (m.to - z) (z - m.to) : Int) : Rat) = _
     rw [<- Rat.intCast_add];congr 1;omega
    ·rename_i hu
     refine ⟨?_, by show -(0 : Rat) = 0;grind, by show -(0 : Rat) = 0;grind⟩
     show (z : Rat) - ((max (m.to - z) (z - m.to) : Int) : Rat) = _
     rw [<- Rat.intCast_sub];congr 1;omega
theorem Ub {l : List PcQ} (hs : Ah l) (hc : Bd l) {t u : Rat} (htu : t <= u) (hg : ∀ p ∈ l, p.f <= t \/ u <= p.f) : vaX l u = vaX l t + (slX l t + atC l t * (u - t)) * (u - t) := by
 by_cases he : pcI l u = pcI l t
 ·have := Qs he.symm
  rw [this]
 ·have h1 : pcI l t < pcI l u := by
   rcases Int.lt_trichotomy (pcI l t) (pcI l u) with k | k | k
   ·exact k
   ·exact absurd k.symm he
   ·exfalso
    obtain ⟨r1, r2⟩ := Kg l t
    obtain ⟨r3, r4⟩ := Kg l u
    rw [Jg hs, Jg hs] at k
    have hi : (rpI l t).toNat < l.length := by omega
    have k1 := (Om hs t hi).2 (by omega)
    have k2 := (Om hs u hi).1 (Rat.le_trans k1 htu)
    omega
  obtain ⟨r1, r2⟩ := Kg l t
  obtain ⟨r3, r4⟩ := Kg l u
  rw [Jg hs, Jg hs] at h1
  obtain ⟨j, hj⟩ : ∃ j : Nat, rpI l t + 1 = j := ⟨(rpI l t + 1).toNat, by omega⟩
  have hjl : j < l.length := by omega
  have k1 : ¬ (A8 l j).f <= t := fun k => by have := (Om hs t hjl).1 k;omega
  have k2 : (A8 l j).f <= u := (Om hs u hjl).2 (by omega)
  have hm : A8 l j ∈ l := by rw [Bs (List.getElem?_eq_getElem hjl)];exact List.getElem_mem hjl
  have hfu : (A8 l j).f = u := Rat.le_antisymm k2 ((hg _ hm).resolve_left k1)
  have hju : rpI l u = j := by
   rcases Int.lt_trichotomy (rpI l u) j with k | k | k
   ·omega
   ·exact k
   ·exfalso
    have hl2 : j + 1 < l.length := by omega
    have k3 := (Om hs u hl2).2 (by omega)
    have := hs j hl2
    rw [hfu] at this
    exact Rat.not_le.2 this k3
  have hvu : vaX l u = (A8 l j).a := by
   unfold vaX
   rw [Jg hs, hju, if_neg (by omega), Int.toNat_natCast, <- hfu]
   unfold I0
   grind
  rw [hvu]
  unfold vaX slX atC
  rw [Jg hs]
  by_cases hneg : rpI l t < 0
  ·rw [if_pos hneg, if_pos hneg, if_pos hneg]
   obtain rfl : j = 0 := by omega
   grind
  ·rw [if_neg hneg, if_neg hneg, if_neg hneg]
   obtain ⟨i, rfl⟩ : ∃ i, j = i + 1 := ⟨j - 1, by omega⟩
   have hti : (rpI l t).toNat = i := by omega
   rw [hti]
   have := hc i hjl
   rw [hfu] at this
   rw [<- this]
   unfold vR I0 Tu
   grind
theorem A7e {c : Rat} {op : Rat -> Rat -> Rat} {a b s : List PcQ} {tms : List Rat} (h : Sum op a b tms s) (hop : ∀ p q, op p q = p + c * q) (ha : Ah a) (hb : Ah b) (ca : Bd a) (cb : Bd b) : Bd s := fun k hk => by
 rw [h.len] at hk
 have hp : tms.Pairwise (· < ·) := by rw [h.ht];exact J4 _
 have hlt : tms[k] < tms[k + 1] := List.pairwise_iff_getElem.1 hp k (k + 1) (by omega) hk (by omega)
 have gap : ∀ l : List PcQ, (∀ p ∈ l, p ∈ a \/ p ∈ b) -> ∀ p ∈ l, p.f <= tms[k] \/ tms[k + 1] <= p.f := fun l hl p hpl => by
  obtain ⟨j, hj, hpj⟩ := h.has (hl p hpl)
  rw [<- hpj]
  rcases Nat.lt_or_ge k j with hkj | hkj
  ·exact .inr (h.asc (by omega) hj)
  ·exact .inl (h.asc hkj (by omega))
 have ga := Ub ha ca (Rat.le_of_lt hlt) (gap a fun p hp => .inl hp)
 have gb := Ub hb cb (Rat.le_of_lt hlt) (gap b fun p hp => .inr hp)
 rw [h.at (by omega), h.at hk]
 unfold vR
 dsimp only
 rw [ga, gb]
 simp only [hop]
 grind
theorem A89 {by_ : Rat} {l : List PcQ} (h : Bd l) : Bd (l.map (Fz by_)) := fun i hi => by
 rw [List.length_map] at hi
 rw [Jy (by omega), Jy hi]
 have := h i hi
 unfold vR Fz at *
 dsimp only at *
 grind
theorem A9q {ha hb : Rat} {x y : List PcQ} (hsx : Ah x) (hsy : Ah y) (cx : Bd x) (cy : Bd y) (h : dsE ha hb x y = 0) : Bd (dsL ha hb x y) := by
 have lw : ∀ (x y : List PcQ) (by_ : Rat), Ah x -> Ah y -> Bd x -> Bd y -> lwE x y by_ = 0 -> Bd (lwL x y by_) := fun x y by_ sx sy cx cy h => by
  unfold lwL
  rw [if_pos h]
  unfold lwE at h
  split at h
  ·rename_i hj
   exact A89 (A7e (X2 hj) (c := (-1)) (fun p q => by grind) sx sy cx cy)
  ·rename_i hj;exact absurd h hj
 unfold dsL
 unfold dsE at h
 by_cases e1 : atE x 0 0 = 0
 ·rw [if_pos e1] at h ⊢
  by_cases e2 : atE y 0 0 = 0
  ·rw [if_pos e2] at h ⊢
   by_cases e3 : Fits (atQ x 0 - atQ y 0)
   ·rw [if_pos e3] at h ⊢
    by_cases e4 : Fits (atQ x 0 - atQ y 0 - ha)
    ·rw [if_pos e4] at h ⊢
     by_cases e5 : 0 <= atQ x 0 - atQ y 0 - ha
     ·rw [if_pos e5] at h ⊢;exact lw x y ha hsx hsy cx cy h
     ·rw [if_neg e5] at h ⊢;exact lw y x hb hsy hsx cy cx h
    ·rw [if_neg e4] at h;cases h
   ·rw [if_neg e3] at h;cases h
  ·rw [if_neg e2] at h;exact absurd h e2
 ·rw [if_neg e1] at h;exact absurd h e1
theorem A8d {l : List PcQ} {fr te : Rat} {lo hi : Int} (hs : Ah l) (hc : Bd l) (h0 : l ≠ []) (h : Au l fr te = .tup [A1 [.i lo, .i hi], .i 0]) (hr1 : C3 fr) (hr2 : C3 te) (h1 : fr < mil lo) (h2 : mil lo <= te) : 0 <= vaX l (mil lo) := by
 have hL := A7q hs (Rat.le_of_lt h1) h2
 obtain ⟨i, hi'⟩ : ∃ i : Nat, (pcI l (mil lo) + 1).toNat = i := ⟨_, rfl⟩
 rw [hi'] at hL
 have hlen : (A4 l fr).length = l.length + 1 := rfl
 have hA : ∀ j, A8 (A4 l fr) (j + 1) = A8 l j := fun j => Eh _ _ _
 have hcA : Bd (A4 l fr) := fun j hj => by
  cases j with
  | zero =>
   rw [hA]
   show vR ⟨fr, (A8 l 0).a, 0, 0⟩ _ = _
   unfold vR
   grind
  | succ j =>
   rw [hA, hA]
   exact hc j (by omega)
 unfold Au at h
 cases e : Cm (A4 l fr) fr te (A4 l fr).length with
 | none => rw [e] at h;simp [spE] at h
 | some r =>
  rw [e] at h
  have hr : r = [.i lo, .i hi] := by
   simp only [AV.tup.injEq, List.cons.injEq, and_true] at h
   have := h
   unfold A1 at this
   simp only [AV.agg.injEq] at this
   exact (List.map_inj_right (fun x y h => by injection h)).1 this
  obtain ⟨j, hj, hst, hbef⟩ := Gz e
  rw [hL.val]
  unfold Bf at hst
  split at hst
  ·cases hst
  ·rename_i ho
   obtain ⟨g1, g2, g3⟩ := Gy ho
   rcases Nat.lt_trichotomy i j with hij | hij | hij
   ·exact Mo (hbef i hij) hL.inn hL.ge hL.le
   ·subst hij
    split at hst
    ·rename_i hv
     exfalso
     injection hst with hst
     rw [hr] at hst
     have hlo : lo = An (ptA (A4 l fr) fr i) := by
      unfold enQ at hst
      split at hst <;> (simp only [List.cons.injEq, Lf.val.injEq, Value.int.injEq, true_and] at hst;exact hst.1.symm)
     have ht : mil lo = ptA (A4 l fr) fr i := Rat.le_antisymm (mil_le.2 (Int.le_of_eq hlo)) hL.ge
     have hp : 0 < i /\ fr < (A8 (A4 l fr) i).f := Classical.not_not.1 fun k => by
      unfold ptA at ht
      rw [if_neg k] at ht
      rw [ht] at h1
      exact Rat.lt_irrefl h1
     have hpe : ptA (A4 l fr) fr i = (A8 (A4 l fr) i).f := by unfold ptA;rw [if_pos hp]
     obtain ⟨k, rfl⟩ : ∃ k, i = k + 1 := ⟨i - 1, by omega⟩
     rw [hpe] at hv g2
     have hlt : ptA (A4 l fr) fr k < (A8 (A4 l fr) (k + 1)).f := by
      unfold ptA
      split
      ·rename_i q
       obtain ⟨n, rfl⟩ : ∃ n, k = n + 1 := ⟨k - 1, by omega⟩
       rw [hA, hA]
       exact hs n (by rw [hlen] at hj;omega)
      ·exact hp.2
     have hte : (A8 (A4 l fr) (k + 1)).f <= te := Rat.le_trans g2 g3
     have hno : ¬ Av (A4 l fr) fr te k := by
      rintro (q | ⟨_, q⟩)
      ·exact Rat.not_lt.2 (Rat.le_trans (Rat.le_of_lt hlt) hte) q
      ·exact Rat.not_le.2 hlt q
     have hpb : (A8 (A4 l fr) (k + 1)).f <= ptB (A4 l fr) te k := by
      unfold ptB
      split
      ·exact Rat.le_refl
      ·exact hte
     have := Mo (hbef k (by omega)) hno (Rat.le_of_lt hlt) hpb
     rw [hcA k hj] at this
     rw [A4p] at hv
     exact Rat.not_le.2 hv this
    ·rename_i hv
     split at hst
     ·rename_i hb
      injection hst with hst
      rw [hr] at hst
      have hlo : lo = Dn (A8 (A4 l fr) i) (ptA (A4 l fr) fr i) (ptB (A4 l fr) te i) := by
       unfold Fv at hst
       split at hst <;> (simp only [List.cons.injEq, Lf.val.injEq, Value.int.injEq, true_and] at hst;exact hst.1.symm)
      obtain ⟨q1, _⟩ := Hu hr1 hr2 (Gy hL.inn) hb
      rw [<- hlo] at q1
      refine Rat.not_lt.1 fun hneg => ?_
      have hcut : Ev (ptB (A4 l fr) te i) (mil lo) = mil lo := by
       unfold Ev
       rw [if_neg (Rat.not_lt.2 hL.le)]
      rw [hcut] at q1
      by_cases e : ptA (A4 l fr) fr i = mil lo
      ·rw [e] at hv;exact hv hneg
      ·have hlt2 : ptA (A4 l fr) fr i < mil lo := by
        rcases Rat.le_iff_lt_or_eq.1 hL.ge with h | h
        ·exact h
        ·exact absurd h e
       exact q1 (Tf hlt2 hL.ge Rat.le_refl hneg)
     ·cases hst
   ·exfalso
    have hp := hL.past j hij
    split at hst
    ·injection hst with hst
     rw [hr] at hst
     have hlo : lo = An (ptA (A4 l fr) fr j) := by
      unfold enQ at hst
      split at hst <;> (simp only [List.cons.injEq, Lf.val.injEq, Value.int.injEq, true_and] at hst;exact hst.1.symm)
     have h7 : mil lo <= ptA (A4 l fr) fr j := mil_le.2 (Int.le_of_eq hlo)
     have e1 : ptA (A4 l fr) fr j = ptB (A4 l fr) te j := Rat.le_antisymm g2 (Rat.le_trans hp h7)
     have e2 : j + 1 < (A4 l fr).length := by
      have := hL.lt
      omega
     have e3 : ¬ (A8 (A4 l fr) (j + 1)).f <= ptA (A4 l fr) fr j := fun q => ho (.inr ⟨e2, q⟩)
     have e4 : (A8 (A4 l fr) (j + 1)).f < te := by
      refine Rat.not_le.1 fun q => ?_
      have e5 : ptB (A4 l fr) te j = te := by unfold ptB;rw [if_neg fun z => Rat.not_le.2 z.2 q]
      have e6 : (A8 (A4 l fr) i).f <= te := by
       have := hL.ge
       refine Rat.le_trans ?_ h2
       refine Rat.le_trans ?_ this
       unfold ptA
       split
       ·exact Rat.le_refl
       ·rename_i z
        exact Rat.not_lt.1 fun z2 => z ⟨by omega, z2⟩
      have e7 : (A8 (A4 l fr) (j + 1)).f <= (A8 (A4 l fr) i).f := by
       by_cases ei : i = j + 1
       ·rw [ei];exact Rat.le_refl
       ·obtain ⟨n, rfl⟩ : ∃ n, i = n + 1 := ⟨i - 1, by omega⟩
        rw [hA, hA]
        exact Rat.le_of_lt (Qv hs (by omega) (by have := hL.lt;rw [hlen] at this;omega))
      exact e3 (by rw [e1, e5];exact Rat.le_trans e7 e6)
     have e5 : ptB (A4 l fr) te j = (A8 (A4 l fr) (j + 1)).f := by unfold ptB;rw [if_pos ⟨e2, e4⟩]
     exact e3 (by rw [e1, e5];exact Rat.le_refl)
    ·split at hst
     ·rename_i hb
      injection hst with hst
      rw [hr] at hst
      have hlo : lo = Dn (A8 (A4 l fr) j) (ptA (A4 l fr) fr j) (ptB (A4 l fr) te j) := by
       unfold Fv at hst
       split at hst <;> (simp only [List.cons.injEq, Lf.val.injEq, Value.int.injEq, true_and] at hst;exact hst.1.symm)
      obtain ⟨_, q2⟩ := Hu hr1 hr2 ⟨g1, g2, g3⟩ hb
      rw [<- hlo] at q2
      exact Rat.not_le.2 q2 hp
     ·cases hst
def Wh (r : AV) : Prop := ∃ e : Int, r = .tup [.b false, .i e]
theorem Xh {a b : SetR} {x y l : List PcQ} {t : Rat} (hd : Dst x y (Ap a) l \/ Dst y x (Ap b) l) (hv : 0 <= vaX l t) (e1 : atE x t 0 = 0) (e2 : atE y t 0 = 0) : Wh (J0 a b (atQ x t) (atQ y t)) := A3g fun _ => by
 rw [Y6 e1, Y6 e2]
 rcases hd with hd | hd
 ·rw [hd.val] at hv
  rintro ⟨k1, k2⟩
  grind
 ·rw [hd.val] at hv
  rintro ⟨k1, k2⟩
  grind
theorem A1d (op : Rat -> Rat -> Rat) (a b : List PcQ) : ¬ Gb op a b = 12 := by
 unfold Gb
 split
 ·decide
 ·rcases Ac4 op a b (Ar a b) with e | e <;> rw [e] <;> decide
theorem Wg (x y : List PcQ) (by_ : Rat) : ¬ lwE x y by_ = 12 := by
 unfold lwE
 split
 ·split <;> decide
 ·exact A1d _ _ _
theorem A7p (ha hb : Rat) (x y : List PcQ) : ¬ dsE ha hb x y = 12 := by
 unfold dsE
 split
 ·split
  ·split
   ·split
    ·split
     ·exact Wg _ _ _
     ·exact Wg _ _ _
    ·decide
   ·decide
  ·rcases Xj y 0 with e | e <;> rw [e] <;> decide
 ·rcases Xj x 0 with e | e <;> rw [e] <;> decide
theorem X5 : mil 0 = 0 := by decide +kernel
theorem Aaa {n : Int} (h : 0 < n) : 0 < mil n := by
 have h1 := C8 n
 have h2 : (0 : Rat) < (n : Rat) := by
  have := Rat.intCast_lt_intCast.2 h
  simpa using this
 grind
theorem A7c {a b : SetR} {x y : List PcQ} {n ms : Int} (h : Two a b x y) (cx : Bd x) (cy : Bd y) (hn0 : 0 <= n) (hn1 : n <= 1099511627776) (m0 : 0 <= ms) (m1 : ms <= n) (e1 : atE x (mil ms) 0 = 0) (e2 : atE y (mil ms) 0 = 0) :
  (Ed a b x y (mil n) = spE 12 -> Wh (J0 a b (atQ x (mil ms)) (atQ y (mil ms)))) /\ ∀ lo hi : Int, Ed a b x y (mil n) = .tup [A1 [.i lo, .i hi], .i 0] -> ms <= lo -> ¬ ms + lo = 0 -> Wh (J0 a b (atQ x (mil ms)) (atQ y (mil ms))) := by
 have t0 : 0 <= mil ms := by rw [<- X5];exact I6 m0
 have t1 : mil ms <= mil n := I6 m1
 unfold Ed
 by_cases hc : Cv a b /\ ¬ (C4 a = 0 /\ C4 b = 0)
 ·rw [if_pos hc]
  by_cases hd : dsE (Ap a) (Ap b) x y = 0
  ·rw [if_pos hd]
   have hD := A4h h.ox h.oy h.x0 h.y0 h.sx h.sy hd
   obtain ⟨_, hs, hne, _⟩ := A6k h.ox h.oy h.x0 h.y0 h.sx h.sy hd
   have hcc := A9q h.sx h.sy cx cy hd
   have hn := C8 n
   have hnn : (n : Rat) <= ((1099511627776 : Int) : Rat) := Rat.intCast_le_intCast.2 hn1
   rw [show ((1099511627776 : Int) : Rat) = 1099511627776 from rfl] at hnn
   have hnz : (0 : Rat) <= (n : Rat) := Rat.intCast_nonneg.2 hn0
   have r1 : C3 0 := ⟨by decide, by decide⟩
   have r2 : C3 (mil n) := ⟨by grind, by grind⟩
   refine ⟨fun hf => Xh hD (A1i hs hf t0 t1) e1 e2, fun lo hi hf hl hz => Xh hD ?_ e1 e2⟩
   by_cases e : ms = lo
   ·subst e
    exact A8d hs hcc hne hf r1 r2 (Aaa (by omega)) t1
   ·exact Xk hs hf r1 r2 t0 t1 (I6 (by omega))
  ·rw [if_neg hd]
   refine ⟨fun hf => ?_, fun lo hi hf => ?_⟩
   ·exfalso
    simp only [spE, AV.tup.injEq, List.cons.injEq, and_true] at hf
    have h2 := hf.2
    simp only [AV.lf.injEq, Lf.val.injEq, Value.int.injEq, true_and] at h2
    exact A7p _ _ _ _ h2
   ·exfalso
    simp only [spE, AV.tup.injEq, List.cons.injEq, and_true] at hf
    have h2 := hf.2
    simp only [AV.lf.injEq, Lf.val.injEq, Value.int.injEq, true_and] at h2
    exact hd h2
 ·rw [if_neg hc]
  have := A8i (a := a) (b := b) (x := x) (y := y) (L := mil ms) (fun hn => Classical.not_not.1 fun k => hc ⟨hn, k⟩) (mil ms) t0 Rat.le_refl e1 e2
  refine ⟨fun _ => this, fun lo hi hf => ?_⟩
  exfalso
  simp [spE] at hf
theorem Xe {h : HouseR} {c : SheetR} {G : List Int} (p : PlanOk h c G) {n : ByteArray} {s : SetR} (hs : F9 h n = some s) : Bd (As h c G n) := by
 unfold As
 rw [hs]
 exact (X3 p.v (stL h c G) hs c.cues.length (Nat.le_refl _)).1
structure PairP (h : HouseR) (c : SheetR) (G : List Int) (p : ByteArray × ByteArray) (a b : SetR) : Prop where
 ha : F9 h p.1 = some a
 hb : F9 h p.2 = some b
 e1 : Bw h c G p.1 = 0
 e2 : Bw h c G p.2 = 0
 two : Two a b (As h c G p.1) (As h c G p.2)
 ct : ctR h c G p = pr3 (Ed a b (As h c G p.1) (As h c G p.2) (Er h c G))
theorem A52 {h : HouseR} {c : SheetR} {G : List Int} (hf : h.fits) (po : PlanOk h c G) {p : ByteArray × ByteArray} (hm : p ∈ B8 h) (g : Cc h c G p) : ∃ a b, PairP h c G p a b := by
 have hp := po.v.1
 obtain ⟨n1, n2⟩ := Qp hm
 obtain ⟨a, ha⟩ : ∃ a, h.sets[(Aa h p.1).toNat]? = some a := Ga n1
 obtain ⟨b, hb⟩ : ∃ b, h.sets[(Aa h p.2).toNat]? = some b := Ga n2
 have hsa : F9 h p.1 = some a := ha
 have hsb : F9 h p.2 = some b := hb
 have hct : ctR h c G p = if Bw h c G p.1 = 0 then (if Bw h c G p.2 = 0 then frT a b (As h c G p.1) (As h c G p.2) (Er h c G) else (0, 0, Bw h c G p.2)) else (0, 0, Bw h c G p.1) := by unfold ctR;rw [hsa, hsb]
 have e1 : Bw h c G p.1 = 0 := Classical.not_not.1 fun k => by
  rw [if_neg k] at hct
  unfold Cc at g
  rw [hct] at g
  exact g.elim k (Pd h c G p.1)
 rw [if_pos e1] at hct
 have e2 : Bw h c G p.2 = 0 := Classical.not_not.1 fun k => by
  rw [if_neg k] at hct
  unfold Cc at g
  rw [hct] at g
  exact g.elim k (Pd h c G p.2)
 rw [if_pos e2] at hct
 obtain ⟨ox, x0, nx⟩ := Ld po hsa e1
 obtain ⟨oy, y0, ny⟩ := Ld po hsb e2
 have ma := List.mem_of_getElem? ha
 have mb := List.mem_of_getElem? hb
 have hs : Ah (As h c G p.1) /\ Ah (As h c G p.2) := Classical.not_not.1 fun k => by
  unfold frT at hct
  rw [if_neg k] at hct
  unfold Cc at g
  rw [hct] at g
  exact g.elim (by decide) (by decide)
 refine ⟨a, b, hsa, hsb, e1, e2, ⟨(hp.2.2.2.2.2.1 a ma).1, (hp.2.2.2.2.2.1 b mb).1, hf.2.2 a ma, hf.2.2 b mb, ox, oy, x0, y0, hs.1, hs.2, nx, ny⟩, ?_⟩
 rw [hct]
 unfold frT
 rw [if_pos hs]
theorem A41 {h : HouseR} {c : SheetR} {G : List Int} (po : PlanOk h c G) {p : ByteArray × ByteArray} {a b : SetR} (q : PairP h c G p a b) (g : Cc h c G p) {ms : Int} (m0 : 0 <= ms) (m1 : ms <= endI h c G) (m2 : (ctR h c G p).2.2 = 0 -> ms <= (ctR h c G p).1 /\ ¬ ms + (ctR h c G p).1 = 0)
  (e1 : atE (As h c G p.1) (mil ms) 0 = 0) (e2 : atE (As h c G p.2) (mil ms) 0 = 0) : Wh (J0 a b (atQ (As h c G p.1) (mil ms)) (atQ (As h c G p.2) (mil ms))) := by
 have he := po.endI
 obtain ⟨k1, k2⟩ := A7c q.two (Xe po q.ha) (Xe po q.hb) he.1 (by omega) m0 m1 e1 e2
 have hu : Er h c G = mil (endI h c G) := rfl
 have hpr := Ti a b (As h c G p.1) (As h c G p.2) (Er h c G)
 rw [<- q.ct] at hpr
 rw [hu] at hpr
 rcases g with g | g
 ·rw [g] at hpr
  obtain ⟨z1, z2⟩ := m2 g
  exact k2 _ _ hpr z1 z2
 ·by_cases hz : (ctR h c G p).2.2 = 0
  ·rw [g] at hz;cases hz
  ·refine k1 ?_
   have hfc : Ed a b (As h c G p.1) (As h c G p.2) (mil (endI h c G)) = spE 12 \/ ∃ lo hi : Int, Ed a b (As h c G p.1) (As h c G p.2) (mil (endI h c G)) = .tup [A1 [.i lo, .i hi], .i 0] \/ ∃ e : Int, Ed a b (As h c G p.1) (As h c G p.2) (mil (endI h c G)) = spE e := by
    unfold Ed
    split
    ·split
     ·rcases A3q (dsL (Ap a) (Ap b) (As h c G p.1) (As h c G p.2)) 0 (mil (endI h c G)) with k | ⟨lo, hi, k⟩
      ·exact .inl k
      ·exact .inr ⟨lo, hi, .inl k⟩
     ·exact .inr ⟨0, 0, .inr ⟨_, rfl⟩⟩
    ·exact .inl rfl
   rcases hfc with k | ⟨lo, hi, k | ⟨e, k⟩⟩
   ·exact k
   ·exfalso
    rw [k, g] at hpr
    simp at hpr
   ·rw [k, g] at hpr
    have : e = 12 := by
     simp only [spE, AV.tup.injEq, List.cons.injEq, and_true] at hpr
     have h2 := hpr.2
     simpa using h2
    rw [k, this]
end Go.Proofs.YtocoehahhohpgaaGreat
