/- Plain laws: the paths of sets have no jumps. No conditions but those of each statement. -/
import Derived.Test.YtcbfnkgodiaiiaaGreatPf
import Derived.Test.YtcbfnkgodiaiiaaGreatMv
import Derived.Test.YtcbfnkgodiaiiaaGreatOq
import Derived.Test.YtcbfnkgodiaiiaaGreatPe
import Derived.Test.YtcbfnkgodiaiiaaGreatPh
set_option linter.unusedSimpArgs false
set_option linter.unusedVariables false
namespace Go.Proofs.YtcbfnkgodiaiiaaGreat
open Go Go.RowKit
def Dr (l : List PcQ) : Prop := ∀ i, i + 1 < l.length -> vR (A6 l i) (A6 l (i + 1)).f = (A6 l (i + 1)).a
theorem Adi (p : PcQ) : vR p p.f = p.a := by unfold vR;grind
theorem Cq {A B : List PcQ} {i : Nat} (h : i < A.length) : A6 (A ++ B) i = A6 A i := by
 unfold A6
 rw [List.getD_eq_getElem?_getD, List.getD_eq_getElem?_getD, List.getElem?_append_left h]
theorem Hm (A : List PcQ) (y : PcQ) : A6 (A ++ [y]) A.length = y := by
 unfold A6
 simp
theorem A4m {A : List PcQ} {l y : PcQ} (h : Dr (A ++ [l])) (e : vR l y.f = y.a) : Dr ((A ++ [l]) ++ [y]) := fun i hi => by
 have hlen : (A ++ [l]).length = A.length + 1 := by simp
 rw [List.length_append, hlen] at hi
 simp only [List.length_cons, List.length_nil] at hi
 by_cases hlt : i + 1 < A.length + 1
 ·rw [Cq (A := A ++ [l]) (by rw [hlen];omega), Cq (A := A ++ [l]) (by rw [hlen];exact hlt)]
  exact h i (by rw [hlen];exact hlt)
 ·obtain rfl : i = A.length := by omega
  rw [show A.length + 1 = (A ++ [l]).length from hlen.symm, Hm, Cq (A := A ++ [l]) (by rw [hlen];omega), Hm]
  exact e
theorem A5q {A : List PcQ} {l y : PcQ} (h : Dr (A ++ [l])) (e : vR l y.f = y.a) : Dr (Ar (A ++ [l]) y) /\ ∃ B, Ar (A ++ [l]) y = B ++ [y] := by
 by_cases hf : l.f = y.f
 ·rw [E4 A l y hf]
  refine ⟨fun i hi => ?_, A, rfl⟩
  have ha : y.a = l.a := by rw [<- e, <- hf, Adi]
  have hlen : (A ++ [l]).length = A.length + 1 := by simp
  have hlen2 : (A ++ [y]).length = A.length + 1 := by simp
  rw [hlen2] at hi
  by_cases hlt : i + 1 < A.length
  ·have := h i (by rw [hlen];omega)
   rw [Cq (by omega), Cq hlt] at this ⊢
   exact this
  ·have e1 : i + 1 = A.length := by omega
   have := h i (by rw [hlen];omega)
   rw [e1, Hm, Cq (by omega)] at this ⊢
   rw [<- hf, ha]
   exact this
 ·rw [Ef A l y hf]
  exact ⟨A4m h e, A ++ [l], rfl⟩
theorem A60 {l : PcQ} {Y : List PcQ} (h : Dr (l :: Y)) : Dr Y := fun i hi => by
 have := h (i + 1) (by simp only [List.length_cons];omega)
 rwa [Fx, Fx] at this
theorem A74 {l y : PcQ} {Y : List PcQ} (h : Dr (y :: Y)) (e : vR l y.f = y.a) : Dr (l :: y :: Y) := fun i hi => by
 cases i with
 | zero => exact e
 | succ i =>
  rw [Fx, Fx]
  exact h i (by simp only [List.length_cons] at hi ⊢;omega)
theorem A7h {l y : PcQ} {Y : List PcQ} (h : Dr (l :: y :: Y)) : vR l y.f = y.a := h 0 (by simp only [List.length_cons];omega)
theorem Td : ∀ (Y : List PcQ) (A : List PcQ) (l : PcQ), Dr (A ++ [l]) -> Dr (l :: Y) -> Dr (Y.foldl Ar (A ++ [l])) /\ ∃ B, Y.foldl Ar (A ++ [l]) = B ++ [(l :: Y).getLast (by simp)]
 | [], A, l, h, _ => ⟨h, A, rfl⟩
 | y :: Y, A, l, h, hy => by
  obtain ⟨h1, B, hB⟩ := A5q h (A7h hy)
  rw [List.foldl_cons]
  rw [hB] at h1 ⊢
  have := Td Y B y h1 (A60 hy)
  rwa [List.getLast_cons (by simp)]
/-! ### The curve of a move -/
theorem A30 {d : Int} {m : MoveR} (hm : D8 m) (hd : 1 <= d /\ d <= 1048576) : Dr (Cm d m) := by
 have K := Kk hm hd
 have hw := K.w
 obtain ⟨_, _, h3, h4, h5⟩ := hm
 have r0 := Kb (n := m.rise) (by omega)
 have f0 := Kb (n := m.fall) (by omega)
 have w0 := Kb (n := (An d m : Int)) (by omega)
 have two : ((2 : Int) : Rat) = 2 := rfl
 have e1 : Fo d m = ((An d m : Int) : Rat) * ((An d m : Int) : Rat) / (2 * (m.rise : Rat)) := by rw [Fo, C4, Rat.intCast_mul, Rat.intCast_mul, two]
 have e2 : Gt d m = ((An d m : Int) : Rat) * ((An d m : Int) : Rat) / (2 * (m.fall : Rat)) := by rw [Gt, C4, Rat.intCast_mul, Rat.intCast_mul, two]
 have e3 : Dm d m = ((An d m : Int) : Rat) / (m.rise : Rat) := C4 _ _
 have e4 : Kw d m = ((An d m : Int) : Rat) / (m.fall : Rat) := C4 _ _
 have e5 : A8 m.rise 2 = (m.rise : Rat) / 2 := C4 _ _
 have e6 : A8 (-m.fall) 2 = -(m.fall : Rat) / 2 := by rw [C4, Rat.intCast_neg];rfl
 have a0 : (2 * (m.rise : Rat)) ≠ 0 := by grind
 have b0 : (2 * (m.fall : Rat)) ≠ 0 := by grind
 have k0 : Jh d m = Gy d m / ((An d m : Int) : Rat) := rfl
 have k1 : Cw d m = Dm d m + Jh d m := rfl
 have k2 : Dv d m = Cw d m + Kw d m := rfl
 have k3 : Je d m = (d : Rat) - Gt d m := rfl
 have k4 : Gy d m = (d : Rat) - Fo d m - Gt d m := rfl
 unfold Cm
 generalize ((An d m : Int) : Rat) = w at *
 generalize (m.rise : Rat) = R at *
 generalize (m.fall : Rat) = F at *
 generalize (d : Rat) = D at *
 split
 ·rename_i hz
  have hz' : Gy d m = 0 := Rat.num_eq_zero.1 hz
  rw [hz'] at k0
  intro i hi
  match i, hi with
  | 0, _ =>
   show vR ⟨0, 0, 0, A8 m.rise 2⟩ (Cw d m) = Je d m
   unfold vR
   dsimp only
   rw [e5, k1, k0, e3, k3]
   grind
  | 1, _ =>
   show vR ⟨Cw d m, Je d m, w, A8 (-m.fall) 2⟩ (Dv d m) = D
   unfold vR
   dsimp only
   rw [e6, k2, e4, k3, e2]
   grind
 ·intro i hi
  match i, hi with
  | 0, _ =>
   show vR ⟨0, 0, 0, A8 m.rise 2⟩ (Dm d m) = Fo d m
   unfold vR
   dsimp only
   rw [e5, e3, e1]
   grind
  | 1, _ =>
   show vR ⟨Dm d m, Fo d m, w, 0⟩ (Cw d m) = Je d m
   unfold vR
   dsimp only
   rw [k1, k0, k3, k4]
   grind
  | 2, _ =>
   show vR ⟨Cw d m, Je d m, w, A8 (-m.fall) 2⟩ (Dv d m) = D
   unfold vR
   dsimp only
   rw [e6, k2, e4, k3, e2]
   grind
theorem A5b (s z : Int) (up : Prop) [Decidable up] (x : PcQ) (t : Rat) : vR (Ag s z up x) (A8 s 1000 + t) = if up then (z : Rat) + vR x t else (z : Rat) - vR x t := by
 unfold Ag vR
 split <;> dsimp only <;> grind
theorem A38 {l : List PcQ} (h : Dr l) (s z : Int) (up : Prop) [Decidable up] : Dr (l.map (Ag s z up)) := fun i hi => by
 rw [List.length_map] at hi
 have at_ : ∀ j, j < l.length -> A6 (l.map (Ag s z up)) j = Ag s z up (A6 l j) := fun j hj => by
  have hx : l[j]? = some l[j] := List.getElem?_eq_getElem hj
  rw [Bb hx]
  exact Bb (by rw [List.getElem?_map, hx];rfl)
 rw [at_ i (by omega), at_ (i + 1) hi]
 have hf : (Ag s z up (A6 l (i + 1))).f = A8 s 1000 + (A6 l (i + 1)).f := by unfold Ag;split <;> rfl
 rw [hf, A5b, h i hi]
 unfold Ag
 split <;> rfl
def A2r (p : PcQ) (z : Int) : Prop := p.a = (z : Rat) /\ p.b = 0 /\ p.c = 0
theorem A9o {p : PcQ} {z : Int} (h : A2r p z) (t : Rat) : vR p t = (z : Rat) := by
 obtain ⟨h1, h2, h3⟩ := h
 unfold vR
 rw [h1, h2, h3]
 grind
theorem L9 (d : Int) (m : MoveR) : ∃ y Y, Cm d m = y :: Y /\ y.a = 0 /\ (y :: Y).getLast (by simp) = ⟨Dv d m, (d : Rat), 0, 0⟩ := by
 unfold Cm
 split
 ·exact ⟨_, _, rfl, rfl, rfl⟩
 ·exact ⟨_, _, rfl, rfl, rfl⟩
theorem mvO_spec {q : CueR} {n : ByteArray} : (∀ m, mvO q n = some m -> m ∈ q.moves /\ m.set = n) /\ (mvO q n = none -> ¬ ∃ m ∈ q.moves, m.set = n) := by
 have key : ∀ (l : List MoveR), ¬ idx (fun m : MoveR => m.set = n) l < 0 -> ∀ m, l[(idx (fun m : MoveR => m.set = n) l).toNat]? = some m -> m.set = n := by
  intro l
  induction l with
  | nil => intro h0 m h;simp at h
  | cons x l ih =>
   intro h0 m h1
   rw [idx] at h0 h1
   by_cases hx : x.set = n
   ·rw [if_pos hx] at h1
    simp at h1
    rw [<- h1];exact hx
   ·rw [if_neg hx] at h0 h1
    split at h1
    ·rename_i hneg
     rw [if_pos hneg] at h0
     omega
    ·rename_i hneg
     have e : (idx (fun m : MoveR => m.set = n) l + 1).toNat = (idx (fun m : MoveR => m.set = n) l).toNat + 1 := by
      have := Ch (fun m : MoveR => m.set = n) l
      omega
     rw [e, List.getElem?_cons_succ] at h1
     exact ih (by have := Ch (fun m : MoveR => m.set = n) l;omega) m h1
 constructor
 ·intro m hm
  refine ⟨A1j hm, ?_⟩
  unfold mvO at hm
  split at hm
  ·cases hm
  ·rename_i h0
   exact key q.moves h0 m hm
 ·rintro hn ⟨m, hm, e⟩
  have h0 : ¬ idx (fun m : MoveR => m.set = n) q.moves = -1 := K9 ⟨m, hm, e⟩
  have h1 := Ch (fun m : MoveR => m.set = n) q.moves
  have h2 : ¬ mvI q n < 0 := by show ¬ idx _ _ < 0;omega
  unfold mvO at hn
  rw [if_neg h2] at hn
  obtain ⟨x, hx⟩ := Hd (p := fun m : MoveR => m.set = n) (l := q.moves) h2
  change q.moves[(mvI q n).toNat]? = some x at hx
  rw [hx] at hn
  cases hn
theorem Uz {h : HouseR} (hp : C8 h) {k : Nat} {s : SetR} (hs : h.sets[k]? = some s) : Ad h s.name = k := by
 have hi : ¬ Ad h s.name = -1 := K9 ⟨s, List.mem_of_getElem? hs, rfl⟩
 have h2 : -1 <= Ad h s.name := Ch _ _
 obtain ⟨t, h3, h4⟩ := Iu (h := h) (n := s.name) (by omega)
 have := Aaa hp.2.2.2.2.2.2 h3 hs h4
 omega
theorem A84 {h : HouseR} {c : SheetR} (v : validP h c) {i k : Nat} {q : CueR} {s : SetR} (hq : c.cues[i]? = some q) (hs : h.sets[k]? = some s) : (Ax h c (i + 1)).getD k 0 = match mvO q s.name with | some m => m.to | none => (Ax h c i).getD k 0 := by
 have g := Er v hq
 rw [Ou hq]
 cases e : mvO q s.name with
 | some m =>
  obtain ⟨h1, h2⟩ := mvO_spec.1 m e
  have := A7x g h1
  rw [h2, Uz v.1 hs, Int.toNat_natCast] at this
  rw [List.getD_eq_getElem?_getD, this];rfl
 | none =>
  have := A04 g hs (mvO_spec.2 e)
  rw [List.getD_eq_getElem?_getD, List.getD_eq_getElem?_getD, this]
theorem Z2 {h : HouseR} {c : SheetR} (v : validP h c) (S : List Int) {k : Nat} {s : SetR} (hs : h.sets[k]? = some s) : ∀ i, i <= c.cues.length -> Dr (Bh h c S k s i) /\ ∃ A l, Bh h c S k s i = A ++ [l] /\ A2r l ((Ax h c i).getD k 0)
 | 0, _ => by
  refine ⟨fun i hi => (by simp [Bh] at hi), [], ⟨0, (s.high : Rat), 0, 0⟩, rfl, ?_, rfl, rfl⟩
  show (s.high : Rat) = _
  rw [show (Ax h c 0).getD k 0 = s.high by show (Fl h).getD k 0 = _;rw [List.getD_eq_getElem?_getD, Fl, List.getElem?_map, hs];rfl]
 | i + 1, hi => by
  obtain ⟨h1, A, l, hA, hl⟩ := Z2 v S hs i (by omega)
  obtain ⟨q, hq⟩ := A9 (l := c.cues) (k := i) (by omega)
  have hn := A84 v hq hs
  have hK : Bh h c S k s (i + 1) = (C5 h c S k s.name i).foldl Ar (Bh h c S k s i) := rfl
  have stay : C5 h c S k s.name i = [] -> (Ax h c (i + 1)).getD k 0 = (Ax h c i).getD k 0 -> Dr (Bh h c S k s (i + 1)) /\ ∃ A l, Bh h c S k s (i + 1) = A ++ [l] /\ A2r l ((Ax h c (i + 1)).getD k 0) := fun e1 e2 => by
   rw [hK, e1, e2]
   exact ⟨h1, A, l, hA, hl⟩
  cases e : mvO q s.name with
  | none =>
   rw [e] at hn
   exact stay (by unfold C5;rw [hq];dsimp only;rw [e]) hn
  | some m =>
   rw [e] at hn
   dsimp only at hn
   have hnew : C5 h c S k s.name i = G6 (S.getD i 0) ((Ax h c i).getD k 0) m := by unfold C5;rw [hq];dsimp only;rw [e]
   by_cases ez : m.to = (Ax h c i).getD k 0
   ·exact stay (by rw [hnew];unfold G6;rw [if_pos ez]) (by rw [hn, ez])
   ·have g := Er v hq
    obtain ⟨hmq, hms⟩ := mvO_spec.1 m e
    obtain ⟨_, _, _, _, _, hmv, _⟩ := g.right
    have hmi := hmv m hmq
    have hmr := hmi.range v.1
    have hlk : k < h.sets.length := (List.getElem?_eq_some_iff.1 hs).1
    obtain ⟨z, hz⟩ := A9 (l := Ax h c i) (k := k) (by rw [g.len];exact hlk)
    have hz1 := g.trims k z s hz hs
    have hgz : (Ax h c i).getD k 0 = z := by rw [List.getD_eq_getElem?_getD, hz];rfl
    have hsp := (v.1.2.2.2.2.2.1 s (List.mem_of_getElem? hs)).1
    obtain ⟨_, _, s1, s2, s3, _⟩ := hsp
    rw [hgz] at hnew ez hl
    have hd : 1 <= max (m.to - z) (z - m.to) /\ max (m.to - z) (z - m.to) <= 1048576 := by omega
    have hcc := A30 hmi.1 hd
    obtain ⟨y, Y, hy, hy0, hlast⟩ := L9 (max (m.to - z) (z - m.to)) m
    have hY : C5 h c S k s.name i = Ag (S.getD i 0) z (z < m.to) y :: Y.map (Ag (S.getD i 0) z (z < m.to)) := by
     rw [hnew]
     unfold G6
     rw [if_neg ez, hy];rfl
    have hsc := A38 hcc (S.getD i 0) z (z < m.to)
    rw [hy] at hsc
    have hlk2 : vR l (Ag (S.getD i 0) z (z < m.to) y).f = (Ag (S.getD i 0) z (z < m.to) y).a := by
     rw [A9o hl]
     unfold Ag
     split <;> dsimp only <;> rw [hy0] <;> grind
    rw [hK, hA, hY]
    obtain ⟨r1, B, r2⟩ := Td _ A l (hA ▸ h1) (A74 hsc hlk2)
    refine ⟨r1, B, _, r2, ?_⟩
    have hgl : (l :: Ag (S.getD i 0) z (z < m.to) y :: Y.map (Ag (S.getD i 0) z (z < m.to))).getLast (by simp) = Ag (S.getD i 0) z (z < m.to) ⟨Dv (max (m.to - z) (z - m.to)) m, ((max (m.to - z) (z - m.to) : Int) : Rat), 0, 0⟩ := by
     rw [List.getLast_cons (by simp)]
     show (((y :: Y).map (Ag (S.getD i 0) z (z < m.to))).getLast (by simp)) = _
     rw [List.getLast_map, hlast]
    rw [hgl, hn]
    unfold Ag
    split
    ·rename_i hu
     refine ⟨?_, rfl, rfl⟩
     show (z : Rat) + ((max (m.to - z) (z - m.to) : Int) : Rat) = _
     rw [<- Rat.intCast_add];congr 1;omega
    ·rename_i hu
     refine ⟨?_, by show -(0 : Rat) = 0;grind, by show -(0 : Rat) = 0;grind⟩
     show (z : Rat) - ((max (m.to - z) (z - m.to) : Int) : Rat) = _
     rw [<- Rat.intCast_sub];congr 1;omega
theorem A3i (op : Rat -> Rat -> Rat) (a b : List PcQ) : ¬ Eg op a b = 12 := by
 unfold Eg
 split
 ·decide
 ·rcases A5j op a b (Af a b) with e | e <;> rw [e] <;> decide
theorem Wy (x y : List PcQ) (by_ : Rat) : ¬ lwE x y by_ = 12 := by
 unfold lwE
 split
 ·split <;> decide
 ·exact A3i _ _ _
theorem A8w (ha hb : Rat) (x y : List PcQ) : ¬ dsE ha hb x y = 12 := by
 unfold dsE
 split
 ·split
  ·split
   ·split
    ·split
     ·exact Wy _ _ _
     ·exact Wy _ _ _
    ·decide
   ·decide
  ·rcases Ti y 0 with e | e <;> rw [e] <;> decide
 ·rcases Ti x 0 with e | e <;> rw [e] <;> decide
theorem Re : mil 0 = 0 := by decide +kernel
theorem Q3 {n : Int} (h : 0 < n) : 0 < mil n := by
 have h1 := Co n
 have h2 : (0 : Rat) < (n : Rat) := by
  have := Rat.intCast_lt_intCast.2 h
  simpa using this
 grind
structure PairP (h : HouseR) (c : SheetR) (G : List Int) (p : ByteArray × ByteArray) (a b : SetR) : Prop where
 ha : Gn h p.1 = some a
 hb : Gn h p.2 = some b
 e1 : Bj h c G p.1 = 0
 e2 : Bj h c G p.2 = 0
 two : Two a b (B8 h c G p.1) (B8 h c G p.2)
 ct : ctR h c G p = pr3 (Ee a b (B8 h c G p.1) (B8 h c G p.2) (Ds h c G))
theorem Ox {h : HouseR} {c : SheetR} {G : List Int} (hf : h.fits) (po : PlanOk h c G) {p : ByteArray × ByteArray} (hm : p ∈ Cz h) (g : Bp h c G p) : ∃ a b, PairP h c G p a b := by
 have hp := po.v.1
 obtain ⟨n1, n2⟩ := Xv hm
 obtain ⟨a, ha⟩ : ∃ a, h.sets[(Ad h p.1).toNat]? = some a := Hd n1
 obtain ⟨b, hb⟩ : ∃ b, h.sets[(Ad h p.2).toNat]? = some b := Hd n2
 have hsa : Gn h p.1 = some a := ha
 have hsb : Gn h p.2 = some b := hb
 have hct : ctR h c G p = if Bj h c G p.1 = 0 then (if Bj h c G p.2 = 0 then frT a b (B8 h c G p.1) (B8 h c G p.2) (Ds h c G) else (0, 0, Bj h c G p.2)) else (0, 0, Bj h c G p.1) := by unfold ctR;rw [hsa, hsb]
 have e1 : Bj h c G p.1 = 0 := Classical.not_not.1 fun k => by
  rw [if_neg k] at hct
  unfold Bp at g
  rw [hct] at g
  exact g.elim k (Pf h c G p.1)
 rw [if_pos e1] at hct
 have e2 : Bj h c G p.2 = 0 := Classical.not_not.1 fun k => by
  rw [if_neg k] at hct
  unfold Bp at g
  rw [hct] at g
  exact g.elim k (Pf h c G p.2)
 rw [if_pos e2] at hct
 obtain ⟨ox, x0, nx⟩ := T2 po hsa e1
 obtain ⟨oy, y0, ny⟩ := T2 po hsb e2
 have ma := List.mem_of_getElem? ha
 have mb := List.mem_of_getElem? hb
 have hs : Ah (B8 h c G p.1) /\ Ah (B8 h c G p.2) := Classical.not_not.1 fun k => by
  unfold frT at hct
  rw [if_neg k] at hct
  unfold Bp at g
  rw [hct] at g
  exact g.elim (by decide) (by decide)
 refine ⟨a, b, hsa, hsb, e1, e2, ⟨(hp.2.2.2.2.2.1 a ma).1, (hp.2.2.2.2.2.1 b mb).1, hf.2.2 a ma, hf.2.2 b mb, ox, oy, x0, y0, hs.1, hs.2, nx, ny⟩, ?_⟩
 rw [hct]
 unfold frT
 rw [if_pos hs]
end Go.Proofs.YtcbfnkgodiaiiaaGreat
