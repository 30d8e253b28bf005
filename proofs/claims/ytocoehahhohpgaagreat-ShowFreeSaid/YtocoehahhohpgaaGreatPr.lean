/- Plain laws: the pieces of a path come one after the other. No conditions but those of each statement. -/
import Derived.Test.YtocoehahhohpgaaGreatPq
import Derived.Test.YtocoehahhohpgaaGreatPf
import Derived.Test.YtocoehahhohpgaaGreatOg
import Derived.Test.YtocoehahhohpgaaGreatPi
import Derived.Test.YtocoehahhohpgaaGreatMx
import Derived.Test.YtocoehahhohpgaaGreatOr
set_option linter.unusedSimpArgs false
set_option linter.unusedVariables false
namespace Go.Proofs.YtocoehahhohpgaaGreat
open Go Go.RowKit
theorem A04 {P : Nat -> Bool} : ∀ k, 1 <= Hz P k -> P (Hz P k) = true
 | 0, h => by simp [Hz] at h
 | k + 1, h => by
  rw [Hz] at h ⊢
  split
  ·assumption
  ·rename_i hn
   rw [if_neg hn] at h
   exact A04 k h
theorem A8y {d : Int} {m : MoveR} (hm : D8 m) (hd : 1 <= d /\ d <= 1048576) : Fd d m (Ak d m) := by
 have h := (V0 hm hd).1
 unfold Ak at h ⊢
 rw [if_neg (by omega)] at h ⊢
 exact of_decide_eq_true (A04 _ h)
theorem Tk {a b : Rat} (ha : 0 < a) (hb : 0 < b) : 0 < a / b := by
 have h : b * (a / b) = a := by
  have : b ≠ 0 := by grind
  grind
 rw [<- h] at ha
 exact (Rat.mul_pos_iff_of_pos_left hb).1 ha
theorem Mu {n : Int} (h : 1 <= n) : (0 : Rat) < (n : Rat) := by
 have := Rat.intCast_lt_intCast.2 (show (0 : Int) < n by omega)
 simpa using this
theorem Aa4 (w R F D : Rat) (hR : R ≠ 0) (hF : F ≠ 0) : 2 * R * F * (D - w * w / (2 * R) - w * w / (2 * F)) = 2 * D * R * F - w * w * (R + F) := by
 have h1 : w * w / (2 * R) * (2 * R) = w * w := Rat.div_mul_cancel (by grind)
 have h2 : w * w / (2 * F) * (2 * F) = w * w := Rat.div_mul_cancel (by grind)
 generalize w * w / (2 * R) = u at *
 generalize w * w / (2 * F) = v at *
 generalize w * w = x at *
 grind
theorem A2s {d : Int} {m : MoveR} (hm : D8 m) (hd : 1 <= d /\ d <= 1048576) : Ah (Cx d m) := by
 have K := K8 hm hd
 have hw := K.w
 have hfw := A8y hm hd
 unfold Fd at hfw
 obtain ⟨_, _, h3, h4, h5⟩ := hm
 have rp := Mu (n := m.rise) (by omega)
 have fp := Mu (n := m.fall) (by omega)
 have wp := Mu (n := (Ak d m : Int)) (by omega)
 have two : ((2 : Int) : Rat) = 2 := rfl
 have hfq := Rat.intCast_le_intCast.2 hfw
 simp only [Rat.intCast_mul, Rat.intCast_add, two] at hfq
 have e1 : Fe d m = ((Ak d m : Int) : Rat) * ((Ak d m : Int) : Rat) / (2 * (m.rise : Rat)) := by rw [Fe, C6, Rat.intCast_mul, Rat.intCast_mul, two]
 have e2 : Gk d m = ((Ak d m : Int) : Rat) * ((Ak d m : Int) : Rat) / (2 * (m.fall : Rat)) := by rw [Gk, C6, Rat.intCast_mul, Rat.intCast_mul, two]
 have e3 : Dj d m = ((Ak d m : Int) : Rat) / (m.rise : Rat) := C6 _ _
 have e4 : Kf d m = ((Ak d m : Int) : Rat) / (m.fall : Rat) := C6 _ _
 have k0 : Jd d m = Gs d m / ((Ak d m : Int) : Rat) := rfl
 have k1 : Cu d m = Dj d m + Jd d m := rfl
 have k2 : Do d m = Cu d m + Kf d m := rfl
 have k4 : Gs d m = (d : Rat) - Fe d m - Gk d m := rfl
 have p1 : 0 < Dj d m := by rw [e3];exact Tk wp rp
 have p2 : 0 < Kf d m := by rw [e4];exact Tk wp fp
 have hrun : 0 <= Gs d m := by
  refine Rat.not_lt.1 fun hn => ?_
  have c0 : 0 < 2 * (m.rise : Rat) * (m.fall : Rat) := by
   have := (Rat.mul_pos_iff_of_pos_left (show 0 < 2 * (m.rise : Rat) by grind) (b := (m.fall : Rat))).2 fp
   exact this
  have := (Rat.mul_neg_iff_of_pos_left c0 (b := Gs d m)).2 hn
  rw [k4, e1, e2] at this
  have r0 : (m.rise : Rat) ≠ 0 := by grind
  have f0 : (m.fall : Rat) ≠ 0 := by grind
  generalize ((Ak d m : Int) : Rat) = w at *
  generalize (m.rise : Rat) = R at *
  generalize (m.fall : Rat) = F at *
  generalize (d : Rat) = D at *
  rw [Aa4 w R F D r0 f0] at this
  exact absurd (show (0 : Rat) <= 2 * D * R * F - w * w * (R + F) by grind) (Rat.not_le.2 this)
 unfold Cx
 split
 ·rename_i hz
  have hz' : Gs d m = 0 := Rat.num_eq_zero.1 hz
  rw [hz'] at k0
  have k5 : Jd d m = 0 := by rw [k0, Rat.div_def, Rat.zero_mul]
  intro i hi
  match i, hi with
  | 0, _ => show (0 : Rat) < Cu d m;grind
  | 1, _ => show Cu d m < Do d m;grind
 ·rename_i hz
  have hz' : Gs d m ≠ 0 := fun e => hz (Rat.num_eq_zero.2 e)
  have p3 : 0 < Jd d m := by rw [k0];exact Tk (Rat.lt_of_le_of_ne hrun hz'.symm) wp
  intro i hi
  match i, hi with
  | 0, _ => show (0 : Rat) < Dj d m;exact p1
  | 1, _ => show Dj d m < Cu d m;grind
  | 2, _ => show Cu d m < Do d m;grind
/-! ### Pushing pieces -/
theorem A5w {A : List PcQ} {l y : PcQ} (h : Ah (A ++ [l])) (e : l.f < y.f) : Ah ((A ++ [l]) ++ [y]) := fun i hi => by
 have hlen : (A ++ [l]).length = A.length + 1 := by simp
 rw [List.length_append, hlen] at hi
 simp only [List.length_cons, List.length_nil] at hi
 by_cases hlt : i + 1 < A.length + 1
 ·rw [Cq (A := A ++ [l]) (by rw [hlen];omega), Cq (A := A ++ [l]) (by rw [hlen];exact hlt)]
  exact h i (by rw [hlen];exact hlt)
 ·obtain rfl : i = A.length := by omega
  rw [show A.length + 1 = (A ++ [l]).length from hlen.symm, H6, Cq (A := A ++ [l]) (by rw [hlen];omega), H6]
  exact e
theorem A42 {A : List PcQ} {l y : PcQ} (h : Ah (A ++ [l])) (e : l.f <= y.f) : Ah (Be (A ++ [l]) y) /\ ∃ B, Be (A ++ [l]) y = B ++ [y] := by
 by_cases hf : l.f = y.f
 ·rw [O7 A l y hf]
  refine ⟨fun i hi => ?_, A, rfl⟩
  have hlen : (A ++ [l]).length = A.length + 1 := by simp
  have hlen2 : (A ++ [y]).length = A.length + 1 := by simp
  rw [hlen2] at hi
  by_cases hlt : i + 1 < A.length
  ·have := h i (by rw [hlen];omega)
   rw [Cq (by omega), Cq hlt] at this ⊢
   exact this
  ·have e1 : i + 1 = A.length := by omega
   have := h i (by rw [hlen];omega)
   rw [e1, H6, Cq (by omega)] at this ⊢
   rw [<- hf]
   exact this
 ·rw [R9 A l y hf]
  exact ⟨A5w h (Rat.lt_of_le_of_ne e hf), A ++ [l], rfl⟩
theorem A4j {l : PcQ} {Y : List PcQ} (h : Ah (l :: Y)) : Ah Y := fun i hi => by
 have := h (i + 1) (by simp only [List.length_cons];omega)
 rwa [Eh, Eh] at this
theorem Sl : ∀ (Y : List PcQ) (A : List PcQ) (l : PcQ), Ah (A ++ [l]) -> (∀ y Z, Y = y :: Z -> l.f <= y.f) -> Ah Y -> Ah (Y.foldl Be (A ++ [l])) /\ ∃ B, Y.foldl Be (A ++ [l]) = B ++ [(l :: Y).getLast (by simp)]
 | [], A, l, h, _, _ => ⟨h, A, rfl⟩
 | y :: Y, A, l, h, hl, hy => by
  obtain ⟨h1, B, hB⟩ := A42 h (hl y Y rfl)
  rw [List.foldl_cons]
  rw [hB] at h1 ⊢
  have := Sl Y B y h1 (fun z Z e => by subst e;exact Rat.le_of_lt (hy 0 (by simp only [List.length_cons];omega))) (A4j hy)
  rwa [List.getLast_cons (by simp)]
theorem A2y {l : List PcQ} (h : Ah l) (s z : Int) (up : Prop) [Decidable up] : Ah (l.map (Ag s z up)) := fun i hi => by
 rw [List.length_map] at hi
 have at_ : ∀ j, j < l.length -> (A8 (l.map (Ag s z up)) j).f = A7 s 1000 + (A8 l j).f := fun j hj => by
  have hx : l[j]? = some l[j] := List.getElem?_eq_getElem hj
  rw [Bs hx, Bs (show (l.map (Ag s z up))[j]? = some (Ag s z up l[j]) by rw [List.getElem?_map, hx];rfl)]
  unfold Ag
  split <;> rfl
 rw [at_ i (by omega), at_ (i + 1) hi]
 have := h i hi
 grind
theorem Abj (q : Rat) : q <= (upI q : Rat) := by
 have hd := Tz q
 have hp : (0 : Rat) < (q.den : Rat) := by
  have := Mu (n := (q.den : Int)) (by have := q.den_pos;omega)
  exact this
 have h1 : q.num <= upI q * q.den := by
  unfold upI
  have := Int.ediv_mul_le (-q.num) (show (q.den : Int) ≠ 0 by have := q.den_pos;omega)
  rw [Int.neg_mul]
  omega
 have h2 := Rat.intCast_le_intCast.2 h1
 rw [Rat.intCast_mul] at h2
 refine Rat.not_lt.1 fun hn => ?_
 have h5 := (Rat.mul_pos_iff_of_pos_left hp (b := q - (upI q : Rat))).2 (by grind)
 have h3 : ((q.den : Int) : Rat) = (q.den : Rat) := rfl
 rw [h3] at h2 hd
 clear h1 hp h3
 generalize (q.den : Rat) = D at *
 generalize (upI q : Rat) = U at *
 generalize (q.num : Rat) = M at *
 have h4 : D * (q - U) = D * q - U * D := by grind
 rw [h4, hd] at h5
 exact absurd h2 (Rat.not_le.2 (by grind))
theorem Ab4 (m n : Int) : mil (m + n) = mil m + mil n := by
 have h1 := C8 (m + n)
 have h2 := C8 m
 have h3 := C8 n
 rw [Rat.intCast_add] at h1
 grind
theorem A3h {h : HouseR} {c : SheetR} {i k : Nat} {q : CueR} {m : MoveR} {s : SetR} (v : validP h c) (hq : c.cues[i]? = some q) (hm : mvO q s.name = some m) (hs : h.sets[k]? = some s) (hz : ¬ m.to = (Ay h c i).getD k 0) :
  Do (max (m.to - (Ay h c i).getD k 0) ((Ay h c i).getD k 0 - m.to)) m <= mil ((Bo h c).getD i 0) := by
 have g := Fw v hq
 obtain ⟨hmq, hms⟩ := mvO_spec.1 m hm
 have hlk : k < h.sets.length := (List.getElem?_eq_some_iff.1 hs).1
 obtain ⟨z, hzk⟩ := A9 (l := Ay h c i) (k := k) (by rw [g.len];exact hlk)
 have hgz : (Ay h c i).getD k 0 = z := by rw [List.getD_eq_getElem?_getD, hzk];rfl
 have hp : (Aa h m.set).toNat = k := by rw [hms, Ur v.1 hs, Int.toNat_natCast]
 have hd : Ou h (Ay h c i) m = max (m.to - z) (z - m.to) := by
  rw [Ms (h := h) (n := z) (by rw [hp];exact hzk)]
  congr 1
  omega
 rw [hgz] at hz ⊢
 have hmv : Gl h (Ay h c i) m = Do (max (m.to - z) (z - m.to)) m := by
  unfold Gl
  rw [hd]
  unfold Mp
  rw [if_neg (by omega)]
 have h1 := (A0g h (Ay h c i) q.moves 0).2 m hmq
 rw [hmv] at h1
 change _ <= De h (Ay h c i) q.moves at h1
 rw [<- Zt hq] at h1
 have hil : i < c.cues.length := (List.getElem?_eq_some_iff.1 hq).1
 have h2 : (Bo h c).getD i 0 = msI h c i := by rw [List.getD_eq_getElem?_getD, A5j h c hil];rfl
 rw [h2]
 have h3 := Abj (msQ h c i)
 have h4 := C8 (msI h c i)
 unfold msI msQ at *
 grind
theorem Y4 {h : HouseR} {c : SheetR} {S : List Int} (v : validP h c) (hS : ∀ i, 0 <= S.getD i 0) (ho : Ju c S (Bo h c)) {k : Nat} {s : SetR} (hs : h.sets[k]? = some s) : ∀ i, i <= c.cues.length -> Ah (Bl h c S k s i) /\ ∃ A l, Bl h c S k s i = A ++ [l] /\ ∀ j q m, i <= j -> c.cues[j]? = some q -> mvO q s.name = some m -> l.f <= mil (S.getD j 0)
 | 0, _ => by
  refine ⟨fun i hi => (by simp [Bl] at hi), [], ⟨0, (s.high : Rat), 0, 0⟩, rfl, fun j q m _ _ _ => ?_⟩
  show (0 : Rat) <= _
  rw [<- X5]
  exact I6 (hS j)
 | i + 1, hi => by
  obtain ⟨h1, A, l, hA, hl⟩ := Y4 v hS ho hs i (by omega)
  obtain ⟨q, hq⟩ := A9 (l := c.cues) (k := i) (by omega)
  have hK : Bl h c S k s (i + 1) = (Cy h c S k s.name i).foldl Be (Bl h c S k s i) := rfl
  have stay : Cy h c S k s.name i = [] -> Ah (Bl h c S k s (i + 1)) /\ ∃ A l, Bl h c S k s (i + 1) = A ++ [l] /\ ∀ j q m, i + 1 <= j -> c.cues[j]? = some q -> mvO q s.name = some m -> l.f <= mil (S.getD j 0) := fun e1 => by
   rw [hK, e1]
   exact ⟨h1, A, l, hA, fun j q m hj => hl j q m (by omega)⟩
  cases e : mvO q s.name with
  | none => exact stay (by unfold Cy;rw [hq];dsimp only;rw [e])
  | some m =>
   have hnew : Cy h c S k s.name i = I3 (S.getD i 0) ((Ay h c i).getD k 0) m := by unfold Cy;rw [hq];dsimp only;rw [e]
   by_cases ez : m.to = (Ay h c i).getD k 0
   ·exact stay (by rw [hnew];unfold I3;rw [if_pos ez])
   ·have hov := A3h v hq e hs ez
    have g := Fw v hq
    obtain ⟨hmq, hms⟩ := mvO_spec.1 m e
    obtain ⟨_, _, _, _, _, hmv, _⟩ := g.right
    have hmi := hmv m hmq
    have hmr := hmi.range v.1
    have hlk : k < h.sets.length := (List.getElem?_eq_some_iff.1 hs).1
    obtain ⟨z, hz⟩ := A9 (l := Ay h c i) (k := k) (by rw [g.len];exact hlk)
    have hz1 := g.trims k z s hz hs
    have hgz : (Ay h c i).getD k 0 = z := by rw [List.getD_eq_getElem?_getD, hz];rfl
    have hsp := (v.1.2.2.2.2.2.1 s (List.mem_of_getElem? hs)).1
    obtain ⟨_, _, s1, s2, s3, _⟩ := hsp
    rw [hgz] at hnew ez hov
    have hd : 1 <= max (m.to - z) (z - m.to) /\ max (m.to - z) (z - m.to) <= 1048576 := by omega
    have hcs := A2s hmi.1 hd
    obtain ⟨y, Y, hy, hy0, hlast⟩ := Qf (max (m.to - z) (z - m.to)) m
    have hyf : y.f = 0 := by
     have : (Cx (max (m.to - z) (z - m.to)) m).head? = some y := by rw [hy];rfl
     unfold Cx at this
     split at this <;> (simp only [List.head?_cons, Option.some.injEq] at this;rw [<- this])
    have hY : Cy h c S k s.name i = (y :: Y).map (Ag (S.getD i 0) z (z < m.to)) := by
     rw [hnew]
     unfold I3
     rw [if_neg ez, hy]
    have hsc := A2y hcs (S.getD i 0) z (z < m.to)
    rw [hy] at hsc
    have hsf : ∀ x : PcQ, (Ag (S.getD i 0) z (z < m.to) x).f = mil (S.getD i 0) + x.f := fun x => by unfold Ag;split <;> rfl
    rw [hK, hA, hY]
    obtain ⟨r1, B, r2⟩ := Sl ((y :: Y).map (Ag (S.getD i 0) z (z < m.to))) A l (hA ▸ h1) (fun x Z ex => by
     rw [List.map_cons] at ex
     injection ex with ex _
     rw [<- ex, hsf, hyf]
     have := hl i q m (Nat.le_refl _) hq e
     grind) hsc
    refine ⟨r1, B, _, r2, fun j q2 m2 hj hq2 hm2 => ?_⟩
    have hgl : (l :: (y :: Y).map (Ag (S.getD i 0) z (z < m.to))).getLast (by simp) = Ag (S.getD i 0) z (z < m.to) ⟨Do (max (m.to - z) (z - m.to)) m, ((max (m.to - z) (z - m.to) : Int) : Rat), 0, 0⟩ := by
     rw [List.getLast_cons (by simp)]
     rw [List.getLast_map, hlast]
    rw [hgl, hsf]
    obtain ⟨hmq2, hms2⟩ := mvO_spec.1 m2 hm2
    have hor := ho j q2 hq2 i q (by omega) hq m2 hmq2 (by rw [hms2, e];rfl)
    have h5 := I6 hor
    rw [Ab4] at h5
    dsimp only
    grind
theorem Vg (h : HouseR) (c : SheetR) (S : List Int) (k : Nat) (s : SetR) (h6 : c.cues.length <= 6) : (Ec h c S k s).length <= 25 := by
 have := Re h c S k s c.cues.length
 unfold Ec
 omega
theorem Aan {f : Nat -> Int} {n k : Nat} (hk : k < n) (h : ∀ j, j < k -> f j = 0) (hn : ¬ f k = 0) : ((List.range n).find? (fun j => f j ≠ 0)).elim 0 f = f k := by
 rw [show (List.range n).find? (fun j => f j ≠ 0) = some k by
  rw [List.find?_range_eq_some]
  exact ⟨by simpa using hn, List.mem_range.2 hk, fun j hj => by simpa using h j hj⟩]
 rfl
theorem Ac3 {f : Nat -> Int} {n : Nat} (h : ∀ j, j < n -> f j = 0) : ((List.range n).find? (fun j => f j ≠ 0)).elim 0 f = 0 := by
 rw [List.find?_eq_none.2 (fun x hx => by simpa using h x (List.mem_range.1 hx))];rfl
noncomputable def taK (h : HouseR) (c : SheetR) (G : List Int) (t : Rat) (k : Nat) : Int := match h.sets[k]? with
 | some s => if D5 h c (stL h c G) k s = 0 then atE (Ec h c (stL h c G) k s) t 0 else D5 h c (stL h c G) k s
 | none => 0
def taQ (h : HouseR) (c : SheetR) (G : List Int) (t : Rat) (k : Nat) : Rat := match h.sets[k]? with
 | some s => atQ (Ec h c (stL h c G) k s) t
 | none => 0
noncomputable def taE (h : HouseR) (c : SheetR) (G : List Int) (t : Rat) : Int := ((List.range h.sets.length).find? (fun j => taK h c G t j ≠ 0)).elim 0 (taK h c G t)
def taN (h : HouseR) (c : SheetR) (G : List Int) (t : Rat) (n : Nat) : List (List Lf) := (List.range n).map fun k => frR (taQ h c G t k)
noncomputable def taL (h : HouseR) (c : SheetR) (G : List Int) (t : Rat) : List (List Lf) := if taE h c G t = 0 then taN h c G t h.sets.length else []
theorem A86 (h : HouseR) (c : SheetR) (G : List Int) (t : Rat) (n : Nat) : taN h c G t (n + 1) = taN h c G t n ++ [frR (taQ h c G t n)] := by simp [taN, List.range_succ]
theorem T8 (h : HouseR) (c : SheetR) (G : List Int) (t : Rat) (n : Nat) : (taN h c G t n).length = n := by simp [taN]
theorem Zq (h : HouseR) (c : SheetR) (G : List Int) (t : Rat) (n : Nat) : ∀ r ∈ taN h c G t n, r.length = 2 := by
 intro r hr
 obtain ⟨i, _, rfl⟩ := List.mem_map.1 hr
 rfl
theorem Abz {h : HouseR} {c : SheetR} {G : List Int} (p : PlanOk h c G) (i : Nat) : 0 <= (stL h c G).getD i 0 := (p.st i).1
set_option maxHeartbeats 16000000 in
theorem Abk (h : HouseR) (c : SheetR) (hf : h.fits) (hc : c.fits) (G : List Int) (hG : G.length <= 4611686018427387904) (e0 : alE h c G = 0) (ho : Ju c (stL h c G) (Bo h c)) (h6 : c.cues.length <= 6) (ms : Int) (m0 : 0 <= ms) (m1 : ms <= 259845521408) : Fn0 Tryz.prog 19 [A1 h.row, A1 c.row, .sl (G.map A3), .i ms] (.tup [.sl (taL h c G (A7 ms 1000)), .i (taE h c G (A7 ms 1000))]) := by
 have cm := I9 h c hf hc G hG
 obtain ⟨p, er⟩ := J5 e0
 rw [e0, er] at cm
 have co := Qe c (trL h c) (stL h c G) (Bo h c) (E8 h c G) (Ds h c _) (by have := p.v.2.1;omega) hc.2.2 p.st p.ln
 rw [decide_eq_true ho] at co
 have hs60 : h.sets.length <= 60 := p.v.1.2.2.2.1
 have hft : Fits (A7 ms 1000) := Bt (by omega) (by omega) (by omega) (by omega)
 have cq := Hb ms 1000 (by decide) (by omega) (by omega) (by decide) (by decide) hft
 have hle : (h.sets.map SetR.row).length = h.sets.length := List.length_map _
 have hbad : ∀ k, k < h.sets.length -> (∀ j, j < k -> taK h c G (A7 ms 1000) j = 0) -> ¬ taK h c G (A7 ms 1000) k = 0 -> taL h c G (A7 ms 1000) = [] /\ taE h c G (A7 ms 1000) = taK h c G (A7 ms 1000) k := fun k hk hj hn => by
  have e := Aan (n := h.sets.length) hk hj hn
  exact ⟨if_neg (by show ¬ taE h c G _ = 0;rw [show taE h c G _ = _ from e];exact hn), e⟩
 have hpth : ∀ (k : Nat) s, h.sets[k]? = some s -> Fn0 Tryz.prog 46 [A1 (plA (trL h c) (stL h c G) (Bo h c)), A1 h.row, A1 c.row, .i k] (.tup [.sl ((R3 h c (stL h c G) k s).map PcQ.row), .i (D5 h c (stL h c G) k s)]) := fun k s hs => X7 h c G p hc hs
 generalize ht : A7 ms 1000 = t at *
 have hu1 : ∀ (k : Nat) s, h.sets[k]? = some s -> D5 h c (stL h c G) k s = 0 -> Fn0 Tryz.prog 47 [.sl ((Ec h c (stL h c G) k s).map PcQ.row), A1 (frR t)] (My (taQ h c G t k) (atE (Ec h c (stL h c G) k s) t 0)) := fun k s hs he => by
  have hmem : s ∈ h.sets := List.mem_of_getElem? hs
  obtain ⟨⟨_, _, s1, s2, s3, _⟩, _⟩ := p.v.1.2.2.2.2.2.1 s hmem
  have hb : ¬ Qy h c (stL h c G) k s := fun hb => by unfold D5 at he;rw [if_pos hb] at he;cases he
  have h25 := Vg h c (stL h c G) k s h6
  have hok : okC (Ec h c (stL h c G) k s) := Th (Cj (by omega) (by omega)) hb _ (Nat.le_refl _)
  have hso := (Y4 p.v (Abz p) ho hs c.cues.length (Nat.le_refl _)).1
  have hne : Ec h c (stL h c G) k s ≠ [] := Po _ _ _ _ _ _
  have := Wx _ t hok hne (by omega) hft (Hl _ hok hso (List.length_pos_iff.2 hne) (by omega))
  unfold taQ
  rw [hs]
  exact this
 have hTK : ∀ (k : Nat) s, h.sets[k]? = some s -> taK h c G t k = if D5 h c (stL h c G) k s = 0 then atE (Ec h c (stL h c G) k s) t 0 else D5 h c (stL h c G) k s := fun k s hs => by unfold taK;rw [hs]
 unfold plA at co hpth
 generalize stL h c G = u1 at *
 generalize Bo h c = u2 at *
 generalize trL h c = u3 at *
 refine Fn0.of Tryz.func19 Tryz.ntmps19 rfl rfl rfl ?_
 simp only [A2]
 repeat' (first
  | refine W ?_
  | refine Y ?_|(apply T.drawAll A0 (by decide +kernel))
  | refine V ?_
  | (refine W2 ?_ ?_ <;> intro hc))
 all_goals (try (exfalso;omega))
 refine T.kill 4 ?_
 refine T.kill 5 ?_
 refine T.loopS (fun k => k <= h.sets.length /\ ∀ j, j < k -> taK h c G t j = 0) (fun k => h.sets.length - k) (fun k => [(52, .i k), (51, .i (h.sets.map SetR.row).length), (13, rT 4 2 k), (12, .ptr 3 0), (10, .ptr 2 0), (5, .ptr 1 0), (4, .ptr 0 0)]) (fun k => [.live (h.row.map .lf), .live (c.row.map .lf), .live ([.sl u3, .sl (u1.map A3), .sl (u2.map A3)].map .lf), .live ((frR t).map .lf), rB (Ii (taN h c G t k)) k, .dead]) 0 ⟨Nat.zero_le _, by intro j hj;omega⟩ CW CH ?_
 rintro k ⟨hk, hok⟩
 by_cases hlt : k < h.sets.length
 ·have h1 : (k : Int) < ((h.sets.map SetR.row).length : Nat) := by omega
  obtain ⟨s, hs⟩ := A9 hlt
  have cp := hpth k s hs
  have hS := S9 (taN h c G t k) (frR (taQ h c G t k))
  rw [<- A86] at hS
  have hT := hTK k s hs
  have hn := hbad k hlt hok
  have hok2 : taK h c G t k = 0 -> ∀ j, j < k + 1 -> taK h c G t j = 0 := fun e j hj => by
   by_cases ej : j = k
   ·rw [ej];exact e
   ·exact hok j (by omega)
  by_cases he : D5 h c u1 k s = 0
  ·have cu := hu1 k s hs he
   rw [if_pos he] at hT
   unfold R3 at cp
   rw [if_pos he, he] at cp
   generalize taQ h c G t k = y at *
   generalize atE (Ec h c u1 k s) t 0 = e at *
   generalize (Ec h c u1 k s).map PcQ.row = O at *
   by_cases e1 : e = 0
   ·have hok3 := hok2 (by rw [hT, e1])
    rw [show My y e = frE y 0 from if_pos e1] at cu
    cases k with
    | zero =>
     repeat' (first
      | refine W ?_
      | (apply S.buildSlice1;(iterate 7 exact rfl))|(apply S.appendN 4 (rows := []);(iterate 8 exact rfl);exact Ae rfl;exact rfl;exact Nat.le_of_ble_eq_true rfl;exact Nat.le_of_ble_eq_true rfl)|refine Za ?_ | refine Y ?_|(apply T.drawAll A0 (by decide +kernel))
      | refine V ?_
      | (refine W2 ?_ ?_ <;> intro hc))
     all_goals (change Next _ _ _ _ _ _)
     all_goals exact Next.go 1 ⟨by omega, hok3⟩ (by omega) CW (by
      show CovH _ _ [_, _, _, _, .live (Ii (taN h c G t (0 + 1))), _]
      rw [hS];exact .live rfl CH)
    | succ k =>
     have hcl := U7 (Zq h c G t (k + 1)) (T8 h c G t (k + 1))
     repeat' (first
      | refine W ?_
      | (apply S.buildSlice1;(iterate 7 exact rfl))|(apply S.appendO;(iterate 8 exact rfl);exact hcl;exact Ae rfl;exact rfl;exact Aw _ _;simp only [List.length_cons, List.length_nil];omega;simp only [List.length_cons, List.length_nil];omega)|refine Za ?_ | refine Y ?_|(apply T.drawAll A0 (by decide +kernel))
      | refine V ?_
      | (refine W2 ?_ ?_ <;> intro hc))
     all_goals (change Next _ _ _ _ _ _)
     all_goals exact Next.go (k + 1 + 1) ⟨by omega, hok3⟩ (by omega) CW (by
      show CovH _ _ [_, _, _, _, .live (Ii (taN h c G t (k + 1 + 1))), _]
      rw [hS];exact .live rfl (.live rfl (.live rfl (.live rfl (.live (by rw [<- List.map_append];exact Ai _ _) (.dead .nil))))))
   ·obtain ⟨b1, b2⟩ := hn (by rw [hT];exact e1)
    rw [b1, b2, hT]
    rw [show My y e = .tup [A1 [.i 0, .i 0], .i e] from if_neg e1] at cu
    repeat' (first
     | refine W ?_
     | refine Za ?_ | refine Y ?_|(apply T.drawAll A0 (by decide +kernel))|(refine T.nilU 8 rfl ?_;apply T.ret;change Bv _ _ _ _ _)
     | refine V ?_
     | (refine W2 ?_ ?_ <;> intro hc))
    all_goals exact D2 rfl rfl rfl
  ·rw [if_neg he] at hT
   obtain ⟨b1, b2⟩ := hn (by rw [hT];exact he)
   rw [b1, b2, hT]
   generalize (R3 h c u1 k s).map PcQ.row = O at *
   generalize D5 h c u1 k s = e at *
   repeat' (first
    | refine W ?_
    | refine Za ?_ | refine Y ?_|(apply T.drawAll A0 (by decide +kernel))|(refine T.nilU 8 rfl ?_;apply T.ret;change Bv _ _ _ _ _)
    | refine V ?_
    | (refine W2 ?_ ?_ <;> intro hc))
   all_goals exact D2 rfl rfl rfl
 ·have h1 : ¬ (k : Int) < ((h.sets.map SetR.row).length : Nat) := by omega
  obtain rfl : k = h.sets.length := by omega
  have hE : taE h c G t = 0 := Ac3 hok
  rw [show taL h c G t = _ from if_pos hE, hE]
  refine T.sealR 13 4 (rows := taN h c G t h.sets.length) (Zq _ _ _ _ _) (T8 _ _ _ _ _) rfl rfl ?_
  repeat' (first
   | refine W ?_

   | refine V ?_
   | (refine W2 ?_ ?_ <;> intro hc))
  exact D2 rfl rfl rfl
set_option maxHeartbeats 4000000 in
theorem R8 {α : Type} (l : List α) (R : α -> List Lf) (p : α -> Prop) [DecidablePred p] (g : FuncId) (caps : List AV) (hR : ∀ x, (R x).length = 4) (hl : l.length <= 9223372036854775807) (hcaps : caps.all AV.cap = true) (hg : ∀ x ∈ l, Fn0 Tryz.prog g (.agg ((R x).map .lf) :: caps) (.b (decide (p x)))) :
  Fn0 Tryz.prog 17 [.sl (l.map R), .fn (.func g) [] caps] (.i (idx p l)) := by
 refine Fn0.of Tryz.func17 Tryz.ntmps17 rfl rfl rfl ?_
 simp only [A2]
 repeat' (first
  | refine W ?_

  | refine V ?_
  | (refine W2 ?_ ?_ <;> intro hc))
 refine T.loopS (fun k => k <= l.length /\ ∀ x ∈ l.take k, ¬ p x) (fun k => l.length - k) (fun k => [(8, .i k), (7, .i (l.map R).length), (0, .sl (l.map R)), (1, .fn (.func g) [] caps)]) (fun _ => []) 0 ⟨Nat.zero_le _, by simp⟩ (.cons rfl rfl (.cons rfl rfl (.cons rfl rfl (.cons rfl (B0 hcaps) .nil)))) .nil ?_
 rintro k ⟨hk, hno⟩
 have hle : (l.map R).length = l.length := List.length_map _
 by_cases hlt : k < l.length
 ·have h1 : (k : Int) < ((l.map R).length : Nat) := by omega
  obtain ⟨x, hx⟩ : ∃ x, l[k]? = some x := ⟨l[k], List.getElem?_eq_getElem hlt⟩
  have hb : (l.map R)[((k : Nat) : Int).toNat]? = some (R x) := by rw [Int.toNat_natCast, List.getElem?_map, hx];rfl
  have hx2 := hg x (List.mem_of_getElem? hx)
  repeat' (first
   | refine W ?_
   | (apply S.indexR;exact rfl;exact rfl;exact rfl;exact hb;omega;exact hR x)|(apply S.loadRW;exact rfl;exact rfl;exact rfl;exact hR x)|(apply S.callF;exact rfl;exact rfl;exact hx2;exact Es hcaps;exact rfl)|refine Za ?_
   | refine V ?_
   | (refine W2 ?_ ?_ <;> intro hc))
  all_goals first
   | exact Next.go (k + 1) ⟨by omega, by rw [List.take_add_one, hx];intro y hy;rcases List.mem_append.1 hy with hy | hy;exact hno y hy;obtain rfl : y = x := (by simpa using hy);assumption⟩ (by omega) (.cons rfl rfl (.cons rfl rfl (.cons rfl rfl (.cons rfl (B0 hcaps) .nil)))) .nil
   | exact A5 (by simp) Tryz.results17 rfl (by rw [Gg hx hno (by assumption)])
 ·have h1 : ¬ (k : Int) < ((l.map R).length : Nat) := by omega
  repeat' (first
   | refine W ?_

   | refine V ?_
   | (refine W2 ?_ ?_ <;> intro hc))
  exact A5 (by simp) Tryz.results17 rfl (by rw [E4 (by rw [List.take_of_length_le (by omega)] at hno;exact hno)])
theorem A8c (n : ByteArray) (s : SetR) : Fn0 Tryz.prog 16 [A1 s.row, .rop [.s n]] (.b (decide (s.name = n))) := by
 refine Fn0.of Tryz.func16 Tryz.ntmps16 rfl rfl rfl ?_
 simp only [A2]
 repeat' (first
  | refine W ?_

  | refine V ?_
  | (refine W2 ?_ ?_ <;> intro hc))
 all_goals exact A5 (by simp) Tryz.results16 rfl (by rfl)
theorem Yi (h : HouseR) (n : ByteArray) (hs : h.sets.length <= 9223372036854775807) : Fn0 Tryz.prog 14 [.s n, .rop h.row] (.i (Aa h n)) := by
 have hc : Fn0 Tryz.prog 15 [.sl (h.sets.map SetR.row), .fn (.func 16) [] [.rop [.s n]]] (.i (Aa h n)) :=
  Hp h.sets SetR.row (fun s => s.name = n) _ _ (fun _ => rfl) hs rfl fun s _ => A8c n s
 refine Fn0.of Tryz.func14 Tryz.ntmps14 rfl rfl rfl ?_
 simp only [A2]
 repeat' (first
  | refine W ?_
  | (apply S.callV;exact rfl;exact hc;exact .cons (.one (.lf _)) (.cons (.fn (.cons (.ptr0 (cs := [.s n]) rfl) .nil)) .nil);exact rfl;exact rfl)
  | refine V ?_
  | (refine W2 ?_ ?_ <;> intro hc))
 all_goals exact A5 (by simp) Tryz.results14 rfl (by rfl)
theorem A7t (p : ByteArray × ByteArray) (x : ConR) : Fn0 Tryz.prog 18 [A1 x.row, .rop [.s p.1, .s p.2]] (.b (decide (x.a = p.1 /\ x.b = p.2))) := by
 refine Fn0.of Tryz.func18 Tryz.ntmps18 rfl rfl rfl ?_
 simp only [A2]
 repeat' (first
  | refine W ?_
  | (apply S.idxAR;exact rfl;exact rfl;exact rfl;exact ⟨by decide, by decide⟩;exact rfl)
  | refine V ?_
  | (refine W2 ?_ ?_ <;> intro hc))
 all_goals exact A5 (by simp) Tryz.results18 rfl (by simp [hc])
theorem A9o (l : List ConR) (p : ByteArray × ByteArray) (hl : l.length <= 9223372036854775807) : Fn0 Tryz.prog 17 [.sl (l.map ConR.row), .fn (.func 18) [] [.rop [.s p.1, .s p.2]]] (.i (idx (fun x : ConR => x.a = p.1 /\ x.b = p.2) l)) :=
 R8 l ConR.row (fun x => x.a = p.1 /\ x.b = p.2) _ _ (fun _ => rfl) hl rfl fun x _ => A7t p x
theorem V6 {α : Type} {p : α -> Prop} [DecidablePred p] : ∀ {l : List α}, ¬ idx p l < 0 -> ∀ {y}, l[(idx p l).toNat]? = some y -> p y
 | [], h, y, _ => absurd (show (-1 : Int) < 0 by decide) h
 | x :: l, h, y, hy => by
  rw [idx] at h hy
  by_cases hx : p x
  ·rw [if_pos hx] at hy
   obtain rfl : x = y := by simpa using hy
   exact hx
  ·rw [if_neg hx] at h hy
   by_cases hn : idx p l = -1
   ·rw [if_pos hn] at h;omega
   ·have hge := C1 p l
    rw [if_neg hn, show (idx p l + 1).toNat = (idx p l).toNat + 1 by omega, List.getElem?_cons_succ] at hy
    exact V6 (by omega) hy
theorem Aaf {h : HouseR} {c : SheetR} (h6 : c.cues.length <= 6) (S : List Int) (k : Nat) (s : SetR) : D5 h c S k s = 0 \/ D5 h c S k s = 5 := by
 have := Vg h c S k s h6
 unfold D5
 split
 ·exact .inr rfl
 ·rw [if_neg (by omega)];exact .inl rfl
theorem Ac0 {h : HouseR} {c : SheetR} {G : List Int} (h6 : c.cues.length <= 6) (t : Rat) (k : Nat) : taK h c G t k = 0 \/ taK h c G t k = 5 := by
 unfold taK
 split
 ·split
  ·exact Xj _ _
  ·rename_i h;exact .inr ((Aaf h6 _ _ _).resolve_left h)
 ·exact .inl rfl
theorem Abq {h : HouseR} {c : SheetR} {G : List Int} (h6 : c.cues.length <= 6) (t : Rat) : taE h c G t = 0 \/ taE h c G t = 5 := by
 unfold taE
 cases (List.range h.sets.length).find? fun j => taK h c G t j ≠ 0 with
 | none => exact .inl rfl
 | some k => exact Ac0 h6 t k
theorem A7u {h : HouseR} {c : SheetR} {G : List Int} {t : Rat} (e : taE h c G t = 0) : ∀ k, k < h.sets.length -> taK h c G t k = 0 := by
 intro k hk
 unfold taE at e
 cases hf : (List.range h.sets.length).find? fun j => taK h c G t j ≠ 0 with
 | none => simpa using List.find?_eq_none.1 hf k (List.mem_range.2 hk)
 | some j =>
  rw [hf] at e
  have := List.find?_some hf
  exact absurd e (by simpa using this)
theorem A9h {h : HouseR} {c : SheetR} {G : List Int} {t : Rat} (e : taE h c G t = 0) {n : ByteArray} {s : SetR} (hs : F9 h n = some s) (hp : Bw h c G n = 0) : (taN h c G t h.sets.length)[Iz h n]? = some (frR (atQ (As h c G n) t)) /\ atE (As h c G n) t 0 = 0 := by
 have hlk := (List.getElem?_eq_some_iff.1 (show h.sets[Iz h n]? = some s from hs)).1
 have k := A7u e _ hlk
 unfold taK at k
 rw [show h.sets[Iz h n]? = some s from hs] at k
 unfold Bw at hp
 rw [hs] at hp
 dsimp only at k hp
 split at hp
 ·rw [if_pos hp] at k
  unfold As
  rw [hs]
  refine ⟨?_, k⟩
  unfold taN
  rw [List.getElem?_map, List.getElem?_range hlk, Option.map_some]
  unfold taQ
  rw [show h.sets[Iz h n]? = some s from hs]
 ·cases hp
theorem A9l (a b : SetR) (p q : Rat) : ∃ (r : Bool) (e : Int), J0 a b p q = .tup [.b r, .i e] := by
 unfold J0
 split
 ·split
  ·split
   ·exact ⟨_, _, rfl⟩
   ·exact ⟨_, _, rfl⟩
  ·exact ⟨_, _, rfl⟩
 ·exact ⟨_, _, rfl⟩
noncomputable def K0 (h : HouseR) (c : SheetR) (G : List Int) (p : ByteArray × ByteArray) : Int := if (ctR h c G p).2.2 = 0 then (ctR h c G p).1 else endI h c G
def Ib (l : List ConR) (p : ByteArray × ByteArray) : Int := idx (fun x : ConR => x.a = p.1 /\ x.b = p.2) l
theorem A4g {h : HouseR} {c : SheetR} {G : List Int} (po : PlanOk h c G) {l : List (ByteArray × ByteArray)} {p : ByteArray × ByteArray} (hm : p ∈ l) : 0 <= K0 h c G p /\ K0 h c G p <= endI h c G /\
  ((∃ y, 0 <= Ib (Az h c G l) p /\ (Az h c G l)[(Ib (Az h c G l) p).toNat]? = some y /\ y.lo = K0 h c G p) \/ (Ib (Az h c G l) p < 0 /\ endI h c G = K0 h c G p)) := by
 have he := po.endI
 by_cases hneg : Ib (Az h c G l) p < 0
 ·have hn : ¬ (ctR h c G p).2.2 = 0 := fun e => by
   have h1 : (⟨p.1, p.2, (ctR h c G p).1, (ctR h c G p).2.1⟩ : ConR) ∈ Az h c G l := List.mem_filterMap.2 ⟨p, hm, by unfold Mx;rw [if_pos e]⟩
   have h2 : ¬ Ib (Az h c G l) p = -1 := Ig ⟨_, h1, rfl, rfl⟩
   have h3 : -1 <= Ib (Az h c G l) p := C1 _ _
   omega
  have hu : K0 h c G p = endI h c G := if_neg hn
  exact ⟨by omega, by omega, .inr ⟨hneg, hu.symm⟩⟩
 ·obtain ⟨y, hy⟩ := Ga hneg
  have hys := V6 hneg hy
  have hym := List.mem_of_getElem? hy
  obtain ⟨s1, s2, s3, s4⟩ := A8f po hym
  obtain ⟨_, hct⟩ := A0p hym
  have hp : (y.a, y.b) = p := Prod.ext hys.1 hys.2
  rw [hp] at hct
  have hu : K0 h c G p = y.lo := by unfold K0;rw [hct];rfl
  exact ⟨by omega, by omega, .inl ⟨y, by omega, hy, hu.symm⟩⟩
theorem Aa7 {h : HouseR} {c : SheetR} {G : List Int} {n : ByteArray} {s : SetR} (hs : F9 h n = some s) (e : Bw h c G n = 0) : Ju c (stL h c G) (Bo h c) := by
 unfold Bw at e
 rw [hs] at e
 dsimp only at e
 split at e
 ·assumption
 ·cases e
theorem A1f (h : HouseR) (c : SheetR) (G : List Int) (l : List (ByteArray × ByteArray)) : (Az h c G l).length <= l.length := List.length_filterMap_le _ _
set_option maxHeartbeats 64000000 in
theorem X6 (h : HouseR) (c : SheetR) (hf : h.fits) (hc : c.fits) (G : List Int) (hG : G.length <= 4611686018427387904) (w : Int) (w0 : 0 <= w) (w1 : w <= 4294967295) : Fn0 Tryz.prog 4 [A1 h.row, A1 c.row, .sl (G.map A3), .val (.int .u32 w)] (.b true) := by
 have aw := A3o
 have lg := A39 h c hf hc G
 by_cases hl : Jw h c G
 ·rw [decide_eq_true hl] at lg
  refine Fn0.of Tryz.func4 Tryz.ntmps4 rfl rfl rfl ?_
  simp only [A2]
  repeat' (first
   | refine W ?_
   | refine Y ?_
   | refine V ?_
   | (refine W2 ?_ ?_ <;> intro hc))
  all_goals exact A5 (by simp) Tryz.results4 rfl rfl
 rw [decide_eq_false hl] at lg
 have ck := L2 h c hf hc G hG
 by_cases e : ckE h c G = 0
 ·obtain ⟨a0, el⟩ := Vz e
  obtain ⟨po, _⟩ := J5 a0
  have hp := po.v.1
  have ce := Qu h c hf hc G hG a0
  have cp := Nz h hf hp
  change Fn0 _ _ _ (.tup [.sl ((B8 h).map Af), .i 0]) at cp
  have hei := po.endI
  have hlp := A85 hp
  have hle : ((B8 h).map Af).length = (B8 h).length := List.length_map _
  rw [e, el] at ck
  have hfe : Fh h c G (B8 h) = 0 := by have := e;unfold ckE at this;rwa [if_pos a0] at this
  have hgo := Us hfe
  refine Fn0.of Tryz.func4 Tryz.ntmps4 rfl rfl rfl ?_
  simp only [A2]
  repeat' (first
   | refine W ?_
   | refine Y ?_
   | refine V ?_
   | (refine W2 ?_ ?_ <;> intro hc))
  refine T.kill 2 ?_
  refine T.loopS (fun k => k <= (B8 h).length) (fun k => (B8 h).length - k) (fun k => [(68, .i k), (67, .i ((B8 h).map Af).length), (66, .sl ((B8 h).map Af)), (15, .fn (.func 14) [] [.ptr 0 0]), (9, .sl ((Az h c G (B8 h)).map ConR.row)), (11, .i (endI h c G)), (4, .ptr 0 0), (5, .ptr 1 0), (2, .sl (G.map A3)), (3, .val (.int .u32 w))]) (fun k => [.live (h.row.map .lf), .live (c.row.map .lf), .dead]) 0 (Nat.zero_le _) CW CH ?_
  intro k hk
  by_cases hlt : k < (B8 h).length
  ·have h1 : (k : Int) < (((B8 h).map Af).length : Nat) := by omega
   obtain ⟨p, hpk⟩ := A9 hlt
   have hb := Ab (R := Af) hpk
   have hm := List.mem_of_getElem? hpk
   obtain ⟨u0, u1, hu⟩ := A4g po hm
   obtain ⟨a, b, pp⟩ := A52 hf po hm (hgo p hm)
   obtain ⟨i1, i2⟩ := Qp hm
   have j1 := Ir (fun s : SetR => s.name = p.1) h.sets
   have j2 := Ir (fun s : SetR => s.name = p.2) h.sets
   change Aa h p.1 < _ at j1
   change Aa h p.2 < _ at j2
   have hcs := A1f h c G (B8 h)
   have cf := A9o (Az h c G (B8 h)) p (by omega)
   change Fn0 _ _ _ (.i (Ib (Az h c G (B8 h)) p)) at cf
   have cg1 := Yi h p.1 hf.1
   have cg2 := Yi h p.2 hf.1
   have h6 : c.cues.length <= 6 := by have := (Classical.not_not.1 hl).2.1.1;omega
   have ho := Aa7 pp.ha pp.e1
   have hs1 : (h.sets.map SetR.row)[(Aa h p.1).toNat]? = some a.row := Ab (R := SetR.row) pp.ha
   have hs2 : (h.sets.map SetR.row)[(Aa h p.2).toNat]? = some b.row := Ab (R := SetR.row) pp.hb
   have hle2 : (h.sets.map SetR.row).length = h.sets.length := List.length_map _
   have hle3 : ((Az h c G (B8 h)).map ConR.row).length = (Az h c G (B8 h)).length := List.length_map _
   have hw : IntKind.i64.wrap w = w := Fu (by omega) (by omega)
   obtain ⟨ms, hms⟩ : ∃ ms, ms = w.tmod (K0 h c G p + 1) := ⟨_, rfl⟩
   have m0 : 0 <= ms := hms ▸ Int.tmod_nonneg _ w0
   have m1 : ms < K0 h c G p + 1 := hms ▸ Int.tmod_lt_of_pos _ (by omega)
   have ca := Abk h c hf hc G hG a0 ho h6 ms m0 (by omega)
   have hup : (ctR h c G p).2.2 = 0 -> K0 h c G p = (ctR h c G p).1 := fun e => if_pos e
   generalize K0 h c G p = u at *
   rcases Abq (h := h) (c := c) (G := G) h6 (A7 ms 1000) with te | te
   ·have hmil : mil ms = A7 ms 1000 := rfl
    obtain ⟨z1, y1⟩ := A9h te pp.ha pp.e1
    obtain ⟨z2, y2⟩ := A9h te pp.hb pp.e2
    obtain ⟨o1, n1, _⟩ := Ld po pp.ha pp.e1
    obtain ⟨o2, n2, _⟩ := Ld po pp.hb pp.e2
    have hma : a ∈ h.sets := List.mem_of_getElem? pp.ha
    have hmb : b ∈ h.sets := List.mem_of_getElem? pp.hb
    have ct := A3t a b (hp.2.2.2.2.2.1 a hma).1 (hp.2.2.2.2.2.1 b hmb).1 (hf.2.2 a hma) (hf.2.2 b hmb) _ _ (Mz (t := A7 ms 1000) o1 n1) (Mz (t := A7 ms 1000) o2 n2)
    have hfree : ¬ ms + u = 0 -> Wh (J0 a b (atQ (As h c G p.1) (A7 ms 1000)) (atQ (As h c G p.2) (A7 ms 1000))) := fun hz => by
     rw [<- hmil] at y1 y2 ⊢
     exact A41 po pp (hgo p hm) m0 (by omega) (fun e => by have := hup e;omega) y1 y2
    rw [show taL h c G (A7 ms 1000) = _ from if_pos te, te] at ca
    have hlz : (taN h c G (A7 ms 1000) h.sets.length).length = h.sets.length := T8 _ _ _ _ _
    generalize taN h c G (A7 ms 1000) h.sets.length = Z at *
    generalize atQ (As h c G p.1) (A7 ms 1000) = q1 at *
    generalize atQ (As h c G p.2) (A7 ms 1000) = q2 at *
    change Z[(Aa h p.1).toNat]? = _ at z1
    change Z[(Aa h p.2).toNat]? = _ at z2
    obtain ⟨r, x, htt⟩ := A9l a b q1 q2
    have hr : r = true -> ¬ 0 < ms + u := fun er => by
     by_cases hz : ms + u = 0
     ·omega
     ·obtain ⟨x2, hx2⟩ := hfree hz
      rw [htt, er] at hx2
      cases hx2
    rw [htt] at ct
    have v4 : ¬ (Z.length : Int) <= Aa h p.1 := by omega
    have v5 : ¬ (Z.length : Int) <= Aa h p.2 := by omega
    have v6 : ¬ (0 : Int) = 5 := by decide
    have v7 : ¬ ¬ (0 : Int) = 0 := fun k => k rfl
    have hr2 : r = false \/ r = true /\ ¬ 0 < ms + u := by cases r;exact .inl rfl;exact .inr ⟨rfl, hr rfl⟩
    clear hr
    rcases hr2 with rfl | ⟨rfl, v8⟩
    all_goals
     rcases hu with ⟨y, v0, hy, hyu⟩ | ⟨v0, hyu⟩
     ·have hb2 := Ab (R := ConR.row) hy
      have v1 := Ir (fun x : ConR => x.a = p.1 /\ x.b = p.2) (Az h c G (B8 h))
      change Ib _ p < _ at v1
      change ((Az h c G (B8 h)).map ConR.row)[(Ib (Az h c G (B8 h)) p).toNat]? = some [.s y.a, .s y.b, .i y.lo, .i y.hi] at hb2
      rw [hyu] at hb2
      have v2 : ¬ u < 0 := by omega
      have v3 : ¬ endI h c G < u := by omega
      repeat' (first
       | refine W ?_
       | refine Y ?_|refine Zi hb ?_|refine Zi hs1 ?_|refine Zi hs2 ?_|(apply S.idxAP;(iterate 4 exact rfl);exact ⟨by decide, by decide⟩;exact rfl)|(apply S.callV;exact rfl;exact cf;exact .cons (.one (.lf _)) (.cons (.fn (.cons (.ptr0 (cs := [.s p.1, .s p.2]) rfl) .nil)) .nil);exact rfl;exact rfl)|(apply S.conv;exact rfl;exact hw;exact rfl)|(apply S.remT;exact rfl;exact rfl;exact rfl;omega;rw [<- hms])|refine Zi hb2 ?_|refine Zi z1 ?_|refine Zi z2 ?_|(apply T.draw 24 A0 (by decide +kernel);simp only [td])|(apply T.draw 10 A0 (by decide +kernel);simp only [td])|(apply T.drawAll A0 (by decide +kernel))|(apply S.callFV;exact rfl;exact rfl;exact rfl;exact cg1;exact .cons (.one (.lf _)) (.cons (.one (.ptr0 (cs := h.row) rfl)) .nil);exact rfl;exact rfl)|(apply S.callFV;exact rfl;exact rfl;exact rfl;exact cg2;exact .cons (.one (.lf _)) (.cons (.one (.ptr0 (cs := h.row) rfl)) .nil);exact rfl;exact rfl)
       | refine V ?_
       | (refine W2 ?_ ?_ <;> intro hc))
      all_goals (change Next _ _ _ _ _ _)
      all_goals exact Next.go (k + 1) (by omega) (by omega) CW CH
     ·subst hyu
      have v1 : ¬ 0 <= Ib (Az h c G (B8 h)) p := by omega
      have v2 : ¬ endI h c G < 0 := by omega
      have v3 : ¬ endI h c G < endI h c G := by omega
      repeat' (first
       | refine W ?_
       | refine Y ?_|refine Zi hb ?_|refine Zi hs1 ?_|refine Zi hs2 ?_|(apply S.idxAP;(iterate 4 exact rfl);exact ⟨by decide, by decide⟩;exact rfl)|(apply S.callV;exact rfl;exact cf;exact .cons (.one (.lf _)) (.cons (.fn (.cons (.ptr0 (cs := [.s p.1, .s p.2]) rfl) .nil)) .nil);exact rfl;exact rfl)|(apply S.conv;exact rfl;exact hw;exact rfl)|(apply S.remT;exact rfl;exact rfl;exact rfl;omega;rw [<- hms])|refine Zi z1 ?_|refine Zi z2 ?_|(apply T.draw 24 A0 (by decide +kernel);simp only [td])|(apply T.draw 10 A0 (by decide +kernel);simp only [td])|(apply T.drawAll A0 (by decide +kernel))|(apply S.callFV;exact rfl;exact rfl;exact rfl;exact cg1;exact .cons (.one (.lf _)) (.cons (.one (.ptr0 (cs := h.row) rfl)) .nil);exact rfl;exact rfl)|(apply S.callFV;exact rfl;exact rfl;exact rfl;exact cg2;exact .cons (.one (.lf _)) (.cons (.one (.ptr0 (cs := h.row) rfl)) .nil);exact rfl;exact rfl)
       | refine V ?_
       | (refine W2 ?_ ?_ <;> intro hc))
      all_goals (change Next _ _ _ _ _ _)
      all_goals exact Next.go (k + 1) (by omega) (by omega) CW CH
   ·have e5 : ¬ ¬ (5 : Int) = 5 := fun k => k rfl
    rw [show taL h c G (A7 ms 1000) = [] from if_neg (by rw [te];decide), te] at ca
    rcases hu with ⟨y, v0, hy, hyu⟩ | ⟨v0, hyu⟩
    ·have hb2 := Ab (R := ConR.row) hy
     have v1 := Ir (fun x : ConR => x.a = p.1 /\ x.b = p.2) (Az h c G (B8 h))
     change Ib _ p < _ at v1
     change ((Az h c G (B8 h)).map ConR.row)[(Ib (Az h c G (B8 h)) p).toNat]? = some [.s y.a, .s y.b, .i y.lo, .i y.hi] at hb2
     rw [hyu] at hb2
     have v2 : ¬ u < 0 := by omega
     have v3 : ¬ endI h c G < u := by omega
     repeat' (first
      | refine W ?_
      | refine Y ?_|refine Zi hb ?_|refine Zi hs1 ?_|refine Zi hs2 ?_|(apply S.idxAP;(iterate 4 exact rfl);exact ⟨by decide, by decide⟩;exact rfl)|(apply S.callV;exact rfl;exact cf;exact .cons (.one (.lf _)) (.cons (.fn (.cons (.ptr0 (cs := [.s p.1, .s p.2]) rfl) .nil)) .nil);exact rfl;exact rfl)|(apply S.conv;exact rfl;exact hw;exact rfl)|(apply S.remT;exact rfl;exact rfl;exact rfl;omega;rw [<- hms])|refine Zi hb2 ?_
      | refine V ?_
      | (refine W2 ?_ ?_ <;> intro hc))
     all_goals exact A5 (by simp) Tryz.results4 rfl rfl
    ·subst hyu
     have v1 : ¬ 0 <= Ib (Az h c G (B8 h)) p := by omega
     have v2 : ¬ endI h c G < 0 := by omega
     have v3 : ¬ endI h c G < endI h c G := by omega
     repeat' (first
      | refine W ?_
      | refine Y ?_|refine Zi hb ?_|refine Zi hs1 ?_|refine Zi hs2 ?_|(apply S.idxAP;(iterate 4 exact rfl);exact ⟨by decide, by decide⟩;exact rfl)|(apply S.callV;exact rfl;exact cf;exact .cons (.one (.lf _)) (.cons (.fn (.cons (.ptr0 (cs := [.s p.1, .s p.2]) rfl) .nil)) .nil);exact rfl;exact rfl)|(apply S.conv;exact rfl;exact hw;exact rfl)|(apply S.remT;exact rfl;exact rfl;exact rfl;omega;rw [<- hms])
      | refine V ?_
      | (refine W2 ?_ ?_ <;> intro hc))
     all_goals exact A5 (by simp) Tryz.results4 rfl rfl
  ·have h1 : ¬ (k : Int) < (((B8 h).map Af).length : Nat) := by omega
   repeat' (first
    | refine W ?_
    | refine Y ?_
    | refine V ?_
    | (refine W2 ?_ ?_ <;> intro hc))
   all_goals exact A5 (by simp) Tryz.results4 rfl rfl
 ·rw [Aae e] at ck
  obtain ⟨z, f, ce⟩ : ∃ z f : Int, Fn0 Tryz.prog 11 [A1 h.row, A1 c.row, .sl (G.map A3)] (.tup [.i z, .i f]) := by
   by_cases a0 : alE h c G = 0
   ·exact ⟨_, _, Qu h c hf hc G hG a0⟩
   ·exact ⟨_, _, Nl h c hf hc G hG a0⟩
  obtain ⟨rs, g, cp⟩ : ∃ (rs : List (List Lf)) (g : Int), Fn0 Tryz.prog 13 [A1 h.row] (.tup [.sl rs, .i g]) := by
   by_cases hp : By h
   ·exact ⟨_, _, Nz h hf hp⟩
   ·exact ⟨_, _, Vr h hf hp⟩
  generalize ckE h c G = x at *
  refine Fn0.of Tryz.func4 Tryz.ntmps4 rfl rfl rfl ?_
  simp only [A2]
  repeat' (first
   | refine W ?_
   | refine Y ?_
   | refine V ?_
   | (refine W2 ?_ ?_ <;> intro hc))
  all_goals exact A5 (by simp) Tryz.results4 rfl rfl
end Go.Proofs.YtocoehahhohpgaaGreat
