/- Plain laws: the pieces of a path come one after the other. No conditions but those of each statement. -/
import Derived.Test.YtcbfnkgodiaiiaaGreatPq
set_option linter.unusedSimpArgs false
set_option linter.unusedVariables false
namespace Go.Proofs.YtcbfnkgodiaiiaaGreat
open Go Go.RowKit
theorem A10 {P : Nat -> Bool} : ∀ k, 1 <= Ii P k -> P (Ii P k) = true
 | 0, h => by simp [Ii] at h
 | k + 1, h => by
  rw [Ii] at h ⊢
  split
  ·assumption
  ·rename_i hn
   rw [if_neg hn] at h
   exact A10 k h
theorem Aa5 {d : Int} {m : MoveR} (hm : D8 m) (hd : 1 <= d /\ d <= 1048576) : Fm d m (An d m) := by
 have h := (V6 hm hd).1
 unfold An at h ⊢
 rw [if_neg (by omega)] at h ⊢
 exact of_decide_eq_true (A10 _ h)
theorem U7 {a b : Rat} (ha : 0 < a) (hb : 0 < b) : 0 < a / b := by
 have h : b * (a / b) = a := by
  have : b ≠ 0 := by grind
  grind
 rw [<- h] at ha
 exact (Rat.mul_pos_iff_of_pos_left hb).1 ha
theorem N8 {n : Int} (h : 1 <= n) : (0 : Rat) < (n : Rat) := by
 have := Rat.intCast_lt_intCast.2 (show (0 : Int) < n by omega)
 simpa using this
theorem Abf (w R F D : Rat) (hR : R ≠ 0) (hF : F ≠ 0) : 2 * R * F * (D - w * w / (2 * R) - w * w / (2 * F)) = 2 * D * R * F - w * w * (R + F) := by
 have h1 : w * w / (2 * R) * (2 * R) = w * w := Rat.div_mul_cancel (by grind)
 have h2 : w * w / (2 * F) * (2 * F) = w * w := Rat.div_mul_cancel (by grind)
 generalize w * w / (2 * R) = u at *
 generalize w * w / (2 * F) = v at *
 generalize w * w = x at *
 grind
theorem Ry {d : Int} {m : MoveR} (hm : D8 m) (hd : 1 <= d /\ d <= 1048576) : Ah (Cm d m) := by
 have K := Kk hm hd
 have hw := K.w
 have hfw := Aa5 hm hd
 unfold Fm at hfw
 obtain ⟨_, _, h3, h4, h5⟩ := hm
 have rp := N8 (n := m.rise) (by omega)
 have fp := N8 (n := m.fall) (by omega)
 have wp := N8 (n := (An d m : Int)) (by omega)
 have two : ((2 : Int) : Rat) = 2 := rfl
 have hfq := Rat.intCast_le_intCast.2 hfw
 simp only [Rat.intCast_mul, Rat.intCast_add, two] at hfq
 have e1 : Fo d m = ((An d m : Int) : Rat) * ((An d m : Int) : Rat) / (2 * (m.rise : Rat)) := by rw [Fo, C4, Rat.intCast_mul, Rat.intCast_mul, two]
 have e2 : Gt d m = ((An d m : Int) : Rat) * ((An d m : Int) : Rat) / (2 * (m.fall : Rat)) := by rw [Gt, C4, Rat.intCast_mul, Rat.intCast_mul, two]
 have e3 : Dm d m = ((An d m : Int) : Rat) / (m.rise : Rat) := C4 _ _
 have e4 : Kw d m = ((An d m : Int) : Rat) / (m.fall : Rat) := C4 _ _
 have k0 : Jh d m = Gy d m / ((An d m : Int) : Rat) := rfl
 have k1 : Cw d m = Dm d m + Jh d m := rfl
 have k2 : Dv d m = Cw d m + Kw d m := rfl
 have k4 : Gy d m = (d : Rat) - Fo d m - Gt d m := rfl
 have p1 : 0 < Dm d m := by rw [e3];exact U7 wp rp
 have p2 : 0 < Kw d m := by rw [e4];exact U7 wp fp
 have hrun : 0 <= Gy d m := by
  refine Rat.not_lt.1 fun hn => ?_
  have c0 : 0 < 2 * (m.rise : Rat) * (m.fall : Rat) := by
   have := (Rat.mul_pos_iff_of_pos_left (show 0 < 2 * (m.rise : Rat) by grind) (b := (m.fall : Rat))).2 fp
   exact this
  have := (Rat.mul_neg_iff_of_pos_left c0 (b := Gy d m)).2 hn
  rw [k4, e1, e2] at this
  have r0 : (m.rise : Rat) ≠ 0 := by grind
  have f0 : (m.fall : Rat) ≠ 0 := by grind
  generalize ((An d m : Int) : Rat) = w at *
  generalize (m.rise : Rat) = R at *
  generalize (m.fall : Rat) = F at *
  generalize (d : Rat) = D at *
  rw [Abf w R F D r0 f0] at this
  exact absurd (show (0 : Rat) <= 2 * D * R * F - w * w * (R + F) by grind) (Rat.not_le.2 this)
 unfold Cm
 split
 ·rename_i hz
  have hz' : Gy d m = 0 := Rat.num_eq_zero.1 hz
  rw [hz'] at k0
  have k5 : Jh d m = 0 := by rw [k0, Rat.div_def, Rat.zero_mul]
  intro i hi
  match i, hi with
  | 0, _ => show (0 : Rat) < Cw d m;grind
  | 1, _ => show Cw d m < Dv d m;grind
 ·rename_i hz
  have hz' : Gy d m ≠ 0 := fun e => hz (Rat.num_eq_zero.2 e)
  have p3 : 0 < Jh d m := by rw [k0];exact U7 (Rat.lt_of_le_of_ne hrun hz'.symm) wp
  intro i hi
  match i, hi with
  | 0, _ => show (0 : Rat) < Dm d m;exact p1
  | 1, _ => show Dm d m < Cw d m;grind
  | 2, _ => show Cw d m < Dv d m;grind
/-! ### Pushing pieces -/
theorem A50 {A : List PcQ} {l y : PcQ} (h : Ah (A ++ [l])) (e : l.f < y.f) : Ah ((A ++ [l]) ++ [y]) := fun i hi => by
 have hlen : (A ++ [l]).length = A.length + 1 := by simp
 rw [List.length_append, hlen] at hi
 simp only [List.length_cons, List.length_nil] at hi
 by_cases hlt : i + 1 < A.length + 1
 ·rw [Cq (A := A ++ [l]) (by rw [hlen];omega), Cq (A := A ++ [l]) (by rw [hlen];exact hlt)]
  exact h i (by rw [hlen];exact hlt)
 ·obtain rfl : i = A.length := by omega
  rw [show A.length + 1 = (A ++ [l]).length from hlen.symm, Hm, Cq (A := A ++ [l]) (by rw [hlen];omega), Hm]
  exact e
theorem A73 {A : List PcQ} {l y : PcQ} (h : Ah (A ++ [l])) (e : l.f <= y.f) : Ah (Ar (A ++ [l]) y) /\ ∃ B, Ar (A ++ [l]) y = B ++ [y] := by
 by_cases hf : l.f = y.f
 ·rw [E4 A l y hf]
  refine ⟨fun i hi => ?_, A, rfl⟩
  have hlen : (A ++ [l]).length = A.length + 1 := by simp
  have hlen2 : (A ++ [y]).length = A.length + 1 := by simp
  rw [hlen2] at hi
  by_cases hlt : i + 1 < A.length
  ·have := h i (by rw [hlen];omega)
   rw [Cq (by omega), Cq hlt] at this ⊢
   exact this
  ·have e1 : i + 1 = A.length := by omega
   have := h i (by rw [hlen];omega)
   rw [e1, Hm, Cq (by omega)] at this ⊢
   rw [<- hf]
   exact this
 ·rw [Ef A l y hf]
  exact ⟨A50 h (Rat.lt_of_le_of_ne e hf), A ++ [l], rfl⟩
theorem L7 {l : PcQ} {Y : List PcQ} (h : Ah (l :: Y)) : Ah Y := fun i hi => by
 have := h (i + 1) (by simp only [List.length_cons];omega)
 rwa [Fx, Fx] at this
theorem Sy : ∀ (Y : List PcQ) (A : List PcQ) (l : PcQ), Ah (A ++ [l]) -> (∀ y Z, Y = y :: Z -> l.f <= y.f) -> Ah Y -> Ah (Y.foldl Ar (A ++ [l])) /\ ∃ B, Y.foldl Ar (A ++ [l]) = B ++ [(l :: Y).getLast (by simp)]
 | [], A, l, h, _, _ => ⟨h, A, rfl⟩
 | y :: Y, A, l, h, hl, hy => by
  obtain ⟨h1, B, hB⟩ := A73 h (hl y Y rfl)
  rw [List.foldl_cons]
  rw [hB] at h1 ⊢
  have := Sy Y B y h1 (fun z Z e => by subst e;exact Rat.le_of_lt (hy 0 (by simp only [List.length_cons];omega))) (L7 hy)
  rwa [List.getLast_cons (by simp)]
theorem A25 {l : List PcQ} (h : Ah l) (s z : Int) (up : Prop) [Decidable up] : Ah (l.map (Ag s z up)) := fun i hi => by
 rw [List.length_map] at hi
 have at_ : ∀ j, j < l.length -> (A6 (l.map (Ag s z up)) j).f = A8 s 1000 + (A6 l j).f := fun j hj => by
  have hx : l[j]? = some l[j] := List.getElem?_eq_getElem hj
  rw [Bb hx, Bb (show (l.map (Ag s z up))[j]? = some (Ag s z up l[j]) by rw [List.getElem?_map, hx];rfl)]
  unfold Ag
  split <;> rfl
 rw [at_ i (by omega), at_ (i + 1) hi]
 have := h i hi
 grind
theorem Acz (q : Rat) : q <= (upI q : Rat) := by
 have hd := Qb q
 have hp : (0 : Rat) < (q.den : Rat) := by
  have := N8 (n := (q.den : Int)) (by have := q.den_pos;omega)
  exact this
 have h1 : q.num <= upI q * q.den := by
  unfold upI
  have := Int.ediv_mul_le (-q.num) (show (q.den : Int) ≠ 0 by have := q.den_pos;omega)
  rw [Int.neg_mul]
  omega
 have h2 := Rat.intCast_le_intCast.2 h1
 rw [Rat.intCast_mul] at h2
 refine Rat.not_lt.1 fun hn => ?_
 have h5 := (Rat.mul_pos_iff_of_pos_left hp (b := q - (upI q : Rat))).2 (by grind)
 have h3 : ((q.den : Int) : Rat) = (q.den : Rat) := rfl
 rw [h3] at h2 hd
 clear h1 hp h3
 generalize (q.den : Rat) = D at *
 generalize (upI q : Rat) = U at *
 generalize (q.num : Rat) = M at *
 have h4 : D * (q - U) = D * q - U * D := by grind
 rw [h4, hd] at h5
 exact absurd h2 (Rat.not_le.2 (by grind))
theorem Hp (m n : Int) : mil (m + n) = mil m + mil n := by
 have h1 := Co (m + n)
 have h2 := Co m
 have h3 := Co n
 rw [Rat.intCast_add] at h1
 grind
theorem A4d {h : HouseR} {c : SheetR} {i k : Nat} {q : CueR} {m : MoveR} {s : SetR} (v : validP h c) (hq : c.cues[i]? = some q) (hm : mvO q s.name = some m) (hs : h.sets[k]? = some s) (hz : ¬ m.to = (Ax h c i).getD k 0) :
  Dv (max (m.to - (Ax h c i).getD k 0) ((Ax h c i).getD k 0 - m.to)) m <= mil ((Br h c).getD i 0) := by
 have g := Er v hq
 obtain ⟨hmq, hms⟩ := mvO_spec.1 m hm
 have hlk : k < h.sets.length := (List.getElem?_eq_some_iff.1 hs).1
 obtain ⟨z, hzk⟩ := A9 (l := Ax h c i) (k := k) (by rw [g.len];exact hlk)
 have hgz : (Ax h c i).getD k 0 = z := by rw [List.getD_eq_getElem?_getD, hzk];rfl
 have hp : (Ad h m.set).toNat = k := by rw [hms, Uz v.1 hs, Int.toNat_natCast]
 have hd : Pv h (Ax h c i) m = max (m.to - z) (z - m.to) := by
  rw [Np (h := h) (n := z) (by rw [hp];exact hzk)]
  congr 1
  omega
 rw [hgz] at hz ⊢
 have hmv : Gw h (Ax h c i) m = Dv (max (m.to - z) (z - m.to)) m := by
  unfold Gw
  rw [hd]
  unfold Mz
  rw [if_neg (by omega)]
 have h1 := (A1n h (Ax h c i) q.moves 0).2 m hmq
 rw [hmv] at h1
 change _ <= D9 h (Ax h c i) q.moves at h1
 rw [<- A1l hq] at h1
 have hil : i < c.cues.length := (List.getElem?_eq_some_iff.1 hq).1
 have h2 : (Br h c).getD i 0 = msI h c i := by rw [List.getD_eq_getElem?_getD, A5n h c hil];rfl
 rw [h2]
 have h3 := Acz (msQ h c i)
 have h4 := Co (msI h c i)
 unfold msI msQ at *
 grind
theorem Kp {h : HouseR} {c : SheetR} {S : List Int} (v : validP h c) (hS : ∀ i, 0 <= S.getD i 0) (ho : Ig c S (Br h c)) {k : Nat} {s : SetR} (hs : h.sets[k]? = some s) : ∀ i, i <= c.cues.length -> Ah (Bh h c S k s i) /\ ∃ A l, Bh h c S k s i = A ++ [l] /\ ∀ j q m, i <= j -> c.cues[j]? = some q -> mvO q s.name = some m -> l.f <= mil (S.getD j 0)
 | 0, _ => by
  refine ⟨fun i hi => (by simp [Bh] at hi), [], ⟨0, (s.high : Rat), 0, 0⟩, rfl, fun j q m _ _ _ => ?_⟩
  show (0 : Rat) <= _
  rw [<- Re]
  exact K0 (hS j)
 | i + 1, hi => by
  obtain ⟨h1, A, l, hA, hl⟩ := Kp v hS ho hs i (by omega)
  obtain ⟨q, hq⟩ := A9 (l := c.cues) (k := i) (by omega)
  have hK : Bh h c S k s (i + 1) = (C5 h c S k s.name i).foldl Ar (Bh h c S k s i) := rfl
  have stay : C5 h c S k s.name i = [] -> Ah (Bh h c S k s (i + 1)) /\ ∃ A l, Bh h c S k s (i + 1) = A ++ [l] /\ ∀ j q m, i + 1 <= j -> c.cues[j]? = some q -> mvO q s.name = some m -> l.f <= mil (S.getD j 0) := fun e1 => by
   rw [hK, e1]
   exact ⟨h1, A, l, hA, fun j q m hj => hl j q m (by omega)⟩
  cases e : mvO q s.name with
  | none => exact stay (by unfold C5;rw [hq];dsimp only;rw [e])
  | some m =>
   have hnew : C5 h c S k s.name i = G6 (S.getD i 0) ((Ax h c i).getD k 0) m := by unfold C5;rw [hq];dsimp only;rw [e]
   by_cases ez : m.to = (Ax h c i).getD k 0
   ·exact stay (by rw [hnew];unfold G6;rw [if_pos ez])
   ·have hov := A4d v hq e hs ez
    have g := Er v hq
    obtain ⟨hmq, hms⟩ := mvO_spec.1 m e
    obtain ⟨_, _, _, _, _, hmv, _⟩ := g.right
    have hmi := hmv m hmq
    have hmr := hmi.range v.1
    have hlk : k < h.sets.length := (List.getElem?_eq_some_iff.1 hs).1
    obtain ⟨z, hz⟩ := A9 (l := Ax h c i) (k := k) (by rw [g.len];exact hlk)
    have hz1 := g.trims k z s hz hs
    have hgz : (Ax h c i).getD k 0 = z := by rw [List.getD_eq_getElem?_getD, hz];rfl
    have hsp := (v.1.2.2.2.2.2.1 s (List.mem_of_getElem? hs)).1
    obtain ⟨_, _, s1, s2, s3, _⟩ := hsp
    rw [hgz] at hnew ez hov
    have hd : 1 <= max (m.to - z) (z - m.to) /\ max (m.to - z) (z - m.to) <= 1048576 := by omega
    have hcs := Ry hmi.1 hd
    obtain ⟨y, Y, hy, hy0, hlast⟩ := L9 (max (m.to - z) (z - m.to)) m
    have hyf : y.f = 0 := by
     have : (Cm (max (m.to - z) (z - m.to)) m).head? = some y := by rw [hy];rfl
     unfold Cm at this
     split at this <;> (simp only [List.head?_cons, Option.some.injEq] at this;rw [<- this])
    have hY : C5 h c S k s.name i = (y :: Y).map (Ag (S.getD i 0) z (z < m.to)) := by
     rw [hnew]
     unfold G6
     rw [if_neg ez, hy]
    have hsc := A25 hcs (S.getD i 0) z (z < m.to)
    rw [hy] at hsc
    have hsf : ∀ x : PcQ, (Ag (S.getD i 0) z (z < m.to) x).f = mil (S.getD i 0) + x.f := fun x => by unfold Ag;split <;> rfl
    rw [hK, hA, hY]
    obtain ⟨r1, B, r2⟩ := Sy ((y :: Y).map (Ag (S.getD i 0) z (z < m.to))) A l (hA ▸ h1) (fun x Z ex => by
     rw [List.map_cons] at ex
     injection ex with ex _
     rw [<- ex, hsf, hyf]
     have := hl i q m (Nat.le_refl _) hq e
     grind) hsc
    refine ⟨r1, B, _, r2, fun j q2 m2 hj hq2 hm2 => ?_⟩
    have hgl : (l :: (y :: Y).map (Ag (S.getD i 0) z (z < m.to))).getLast (by simp) = Ag (S.getD i 0) z (z < m.to) ⟨Dv (max (m.to - z) (z - m.to)) m, ((max (m.to - z) (z - m.to) : Int) : Rat), 0, 0⟩ := by
     rw [List.getLast_cons (by simp)]
     rw [List.getLast_map, hlast]
    rw [hgl, hsf]
    obtain ⟨hmq2, hms2⟩ := mvO_spec.1 m2 hm2
    have hor := ho j q2 hq2 i q (by omega) hq m2 hmq2 (by rw [hms2, e];rfl)
    have h5 := K0 hor
    rw [Hp] at h5
    dsimp only
    grind
theorem O5 (h : HouseR) (c : SheetR) (S : List Int) (k : Nat) (s : SetR) (h6 : c.cues.length <= 6) : (Db h c S k s).length <= 25 := by
 have := Rr h c S k s c.cues.length
 unfold Db
 omega
end Go.Proofs.YtcbfnkgodiaiiaaGreat
