/- Contacts as rows of cells. -/
import Derived.Test.YtcbfnkgodiaiiaaGreatMi
import Derived.Test.YtcbfnkgodiaiiaaGreatPa
import Derived.Test.YtcbfnkgodiaiiaaGreatPc
import Derived.Test.YtcbfnkgodiaiiaaGreatOq
import Derived.Test.YtcbfnkgodiaiiaaGreatOg
import Derived.Test.YtcbfnkgodiaiiaaGreatPe
import Derived.Test.YtcbfnkgodiaiiaaGreatNn
import Derived.Test.YtcbfnkgodiaiiaaGreatOl
set_option linter.unusedSimpArgs false
set_option linter.unusedVariables false
namespace Go.Proofs.YtcbfnkgodiaiiaaGreat
open Go Go.RowKit
structure ConR where
 a : ByteArray
 b : ByteArray
 lo : Int
 hi : Int
def ConR.row (x : ConR) : List Lf := [.s x.a, .s x.b, .i x.lo, .i x.hi]
theorem Abk {q : Rat} (h : mil (Aj q) = q) : Gp q := by
 unfold Gp
 have h1 := Co (Aj q)
 rw [h] at h1
 have h2 := Qb q
 have h3 : ((1000 * q.num : Int) : Rat) = ((Aj q * q.den : Int) : Rat) := by
  rw [Rat.intCast_mul, Rat.intCast_mul, show ((1000 : Int) : Rat) = 1000 from rfl]
  grind
 have h4 : 1000 * q.num = Aj q * q.den := Rat.intCast_inj.1 h3
 rw [h4]
 exact Int.mul_emod_left _ _
theorem A8l {l : List PcQ} {fr te : Rat} {lo hi : Int} (h : B9 l fr te = .tup [A1 [.i lo, .i hi], .i 0]) (hr1 : Cx fr) (hr2 : Cx te) : hi = lo \/ hi = lo + 1 /\ mil lo < te := by
 obtain ⟨j, hst⟩ := Vd h
 unfold B5 at hst
 split at hst
 ·cases hst
 ·rename_i ho
  obtain ⟨g1, g2, g3⟩ := Zj ho
  split at hst
  ·injection hst with hst
   unfold enQ at hst
   split at hst
   ·simp only [List.cons.injEq, Lf.val.injEq, Value.int.injEq, true_and, and_true] at hst
    obtain ⟨rfl, rfl⟩ := hst
    exact .inl rfl
   ·rename_i hx
    simp only [List.cons.injEq, Lf.val.injEq, Value.int.injEq, true_and, and_true] at hst
    obtain ⟨rfl, rfl⟩ := hst
    refine .inr ⟨rfl, ?_⟩
    have h1 : mil (Aj (ptA (A4 l fr) fr j)) <= ptA (A4 l fr) fr j := mil_le.2 (Int.le_refl _)
    have h2 : ¬ mil (Aj (ptA (A4 l fr) fr j)) = ptA (A4 l fr) fr j := fun e => hx (Abk e)
    have h3 : mil (Aj (ptA (A4 l fr) fr j)) < ptA (A4 l fr) fr j := by grind
    have h4 : ptA (A4 l fr) fr j <= te := Rat.le_trans g2 g3
    grind
  ·split at hst
   ·rename_i hb
    injection hst with hst
    obtain ⟨q1, q2⟩ := Z4 hr1 hr2 ⟨g1, g2, g3⟩ hb
    unfold H6 at hst
    split at hst
    ·simp only [List.cons.injEq, Lf.val.injEq, Value.int.injEq, true_and, and_true] at hst
     obtain ⟨rfl, rfl⟩ := hst
     exact .inl rfl
    ·simp only [List.cons.injEq, Lf.val.injEq, Value.int.injEq, true_and, and_true] at hst
     obtain ⟨rfl, rfl⟩ := hst
     exact .inr ⟨rfl, by grind⟩
   ·cases hst
def pr3 : AV -> Int × Int × Int
 | .tup [.agg [.lf (.val (.int .i64 u)), .lf (.val (.int .i64 v))], .lf (.val (.int .i64 e))] => (u, v, e)
 | _ => (0, 0, 1)
theorem A0m (a b : SetR) (x y : List PcQ) (te : Rat) : Ee a b x y te = .tup [A1 [.i (pr3 (Ee a b x y te)).1, .i (pr3 (Ee a b x y te)).2.1], .i (pr3 (Ee a b x y te)).2.2] := by
 have key : ∃ u v e : Int, Ee a b x y te = .tup [A1 [.i u, .i v], .i e] := by
  unfold Ee
  split
  ·split
   ·exact Vl _ _ _
   ·exact ⟨0, 0, _, rfl⟩
  ·exact ⟨0, 0, 12, rfl⟩
 obtain ⟨u, v, e, h⟩ := key
 rw [h]
 rfl
theorem A7c {a b : SetR} {x y : List PcQ} {te : Rat} {n u v : Int} (hte : te = mil n) (h0 : 0 <= n) (h1 : n <= 1099511627776000) (he : Ee a b x y te = .tup [A1 [.i u, .i v], .i 0]) : 0 <= u /\ u <= v /\ v <= u + 1 /\ v <= n := by
 have r1 : Cx 0 := ⟨by decide, by decide⟩
 have hm := Co n
 have hn0 : (0 : Rat) <= (n : Rat) := Rat.intCast_nonneg.2 h0
 have hn1 : (n : Rat) <= ((1099511627776000 : Int) : Rat) := Rat.intCast_le_intCast.2 h1
 rw [show ((1099511627776000 : Int) : Rat) = 1099511627776000 from rfl] at hn1
 have r2 : Cx te := by
  subst hte
  exact ⟨by grind, by grind⟩
 have hm0 : Aj 0 = 0 := by decide +kernel
 have hmn : ∀ m : Int, mil m <= te -> m <= n := fun m hle => by
  have k := Co m
  subst hte
  have : (m : Rat) <= (n : Rat) := by grind
  exact Rat.intCast_le_intCast.1 this
 have hml : ∀ m : Int, mil m < te -> m < n := fun m hlt => by
  have k := Co m
  subst hte
  have : (m : Rat) < (n : Rat) := by grind
  exact Rat.intCast_lt_intCast.1 this
 unfold Ee at he
 split at he
 ·split at he
  ·obtain ⟨g1, g2⟩ := Zn he r1 r2
   rw [hm0] at g1
   have g3 := hmn u g2
   rcases A8l he r1 r2 with rfl | ⟨rfl, g4⟩
   ·exact ⟨g1, Int.le_refl _, by omega, g3⟩
   ·have := hml u g4
    exact ⟨g1, by omega, by omega, by omega⟩
  ·rename_i hz
   exfalso
   simp only [spE, AV.tup.injEq, List.cons.injEq, and_true] at he
   have h2 := he.2
   simp only [AV.lf.injEq, Lf.val.injEq, Value.int.injEq, true_and] at h2
   exact hz h2
 ·exfalso
  simp [spE] at he
/-! ### Contacts -/
def Gn (h : HouseR) (n : ByteArray) : Option SetR := h.sets[(Ad h n).toNat]?
def Du (h : HouseR) (n : ByteArray) : Nat := (Ad h n).toNat
noncomputable def Bj (h : HouseR) (c : SheetR) (G : List Int) (n : ByteArray) : Int := match Gn h n with
 | some s => if Ig c (stL h c G) (Br h c) then Fh h c (stL h c G) (Du h n) s else 13
 | none => 9
def B8 (h : HouseR) (c : SheetR) (G : List Int) (n : ByteArray) : List PcQ := match Gn h n with
 | some s => Db h c (stL h c G) (Du h n) s
 | none => []
noncomputable instance (l : List PcQ) : Decidable (Ah l) := Classical.propDecidable _
def Ds (h : HouseR) (c : SheetR) (G : List Int) : Rat := A8 (endI h c G) 1000
noncomputable def frT (a b : SetR) (x y : List PcQ) (te : Rat) : Int × Int × Int := if Ah x /\ Ah y then pr3 (Ee a b x y te) else (0, 0, 1)
noncomputable def ctR (h : HouseR) (c : SheetR) (G : List Int) (p : ByteArray × ByteArray) : Int × Int × Int := match Gn h p.1, Gn h p.2 with
 | some a, some b => if Bj h c G p.1 = 0 then (if Bj h c G p.2 = 0 then frT a b (B8 h c G p.1) (B8 h c G p.2) (Ds h c G) else (0, 0, Bj h c G p.2)) else (0, 0, Bj h c G p.1)
 | _, _ => (0, 0, 9)
noncomputable def Hu (h : HouseR) (c : SheetR) (G : List Int) (p : ByteArray × ByteArray) : Option ConR := if (ctR h c G p).2.2 = 0 then some ⟨p.1, p.2, (ctR h c G p).1, (ctR h c G p).2.1⟩ else none
noncomputable def D5 (h : HouseR) (c : SheetR) (G : List Int) (l : List (ByteArray × ByteArray)) : List ConR := l.filterMap (Hu h c G)
def Bp (h : HouseR) (c : SheetR) (G : List Int) (p : ByteArray × ByteArray) : Prop := (ctR h c G p).2.2 = 0 \/ (ctR h c G p).2.2 = 12
theorem A8d {h : HouseR} {c : SheetR} {G : List Int} {l : List (ByteArray × ByteArray)} {p : ByteArray × ByteArray} (e : (ctR h c G p).2.2 = 0) : D5 h c G (l ++ [p]) = D5 h c G l ++ [⟨p.1, p.2, (ctR h c G p).1, (ctR h c G p).2.1⟩] := by
 unfold D5
 rw [List.filterMap_append]
 congr 1
 simp [Hu, e]
theorem Abs {h : HouseR} {c : SheetR} {G : List Int} {l : List (ByteArray × ByteArray)} {p : ByteArray × ByteArray} (e : ¬ (ctR h c G p).2.2 = 0) : D5 h c G (l ++ [p]) = D5 h c G l := by
 unfold D5
 rw [List.filterMap_append]
 have : List.filterMap (Hu h c G) [p] = [] := by simp [Hu, e]
 rw [this, List.append_nil]
theorem A7o (h : HouseR) (c : SheetR) (G : List Int) (l : List (ByteArray × ByteArray)) : (D5 h c G l).length <= l.length := List.length_filterMap_le _ _
theorem A76 (s : SetR) (n : ByteArray) : Fn0 Tryz.prog 91 [A1 s.row, .rop [.s n]] (.b (decide (s.name = n))) := by
 refine Fn0.of Tryz.func91 Tryz.ntmps91 rfl rfl rfl ?_
 simp only [A2]
 repeat' (first
  | refine W ?_

  | refine V ?_
  | (refine W2 ?_ ?_ <;> intro hc))
 all_goals exact A5 (by simp) Tryz.results91 rfl (by rfl)
noncomputable def Tz (h : HouseR) (c : SheetR) (G : List Int) (n : ByteArray) : List PcQ := if Bj h c G n = 0 then B8 h c G n else []
set_option maxHeartbeats 16000000 in
theorem Yd (h : HouseR) (c : SheetR) (hf : h.fits) (hc : c.fits) (G : List Int) (hG : G.length <= 4611686018427387904) (e0 : alE h c G = 0) (n : ByteArray) (hn : ¬ Ad h n < 0) : Fn0 Tryz.prog 51 [A1 h.row, A1 c.row, .sl (G.map A3), .s n] (.tup [.sl ((Tz h c G n).map PcQ.row), .i (Bj h c G n)]) := by
 have cm := Js h c hf hc G hG
 obtain ⟨p, er⟩ := Gx e0
 rw [e0, er] at cm
 have hs : Fn0 Tryz.prog 90 [.sl (h.sets.map SetR.row), .fn (.func 91) [] [.rop [.s n]]] (.i (Ad h n)) :=
  Kd h.sets SetR.row (fun s => s.name = n) _ _ (fun _ => rfl) hf.1 rfl fun s _ => A76 s n
 obtain ⟨s, hsi⟩ := Hd hn
 have hz : Ad h n = ((Du h n : Nat) : Int) := by unfold Du;omega
 have hset : Gn h n = some s := hsi
 have hsk : h.sets[Du h n]? = some s := hsi
 have co := Zs c (trL h c) (stL h c G) (Br h c) (Dg h c G) (E9 h c _) (by have := p.v.2.1;omega) hc.2.2 p.st p.ln
 have cp := Aac h c G p hc hsk
 unfold plA at co cp
 rw [hz] at hs
 unfold Tz B8 Bj
 rw [hset]
 dsimp only
 generalize Du h n = k at *
 have hk0 : ¬ (k : Int) < 0 := by omega
 by_cases ho : Ig c (stL h c G) (Br h c)
 ·rw [decide_eq_true ho] at co
  simp only [ho, if_true]
  change Fn0 _ _ _ (.tup [.sl ((if Fh h c (stL h c G) k s = 0 then Db h c (stL h c G) k s else []).map PcQ.row), _]) at cp
  generalize (if Fh h c (stL h c G) k s = 0 then Db h c (stL h c G) k s else []) = O at *
  generalize Fh h c (stL h c G) k s = e at *
  generalize stL h c G = u1 at *
  generalize Br h c = u2 at *
  generalize trL h c = u3 at *
  refine Fn0.of Tryz.func51 Tryz.ntmps51 rfl rfl rfl ?_
  simp only [A2]
  repeat' (first
   | refine W ?_
   | (apply S.callV;exact rfl;exact hs;exact .cons (.one (.lf _)) (.cons (.fn (.cons (.ptr0 (cs := [.s n]) rfl) .nil)) .nil);exact rfl;exact rfl) | refine Y ?_|(apply T.drawAll A0 (by decide +kernel))
   | refine V ?_
   | (refine W2 ?_ ?_ <;> intro hc))
  all_goals exact D2 rfl rfl rfl
 ·rw [decide_eq_false ho] at co
  simp only [ho, if_false]
  rw [if_neg (show ¬ (13 : Int) = 0 by decide)]
  generalize stL h c G = u1 at *
  generalize Br h c = u2 at *
  generalize trL h c = u3 at *
  refine Fn0.of Tryz.func51 Tryz.ntmps51 rfl rfl rfl ?_
  simp only [A2]
  repeat' (first
   | refine W ?_
   | (apply S.callV;exact rfl;exact hs;exact .cons (.one (.lf _)) (.cons (.fn (.cons (.ptr0 (cs := [.s n]) rfl) .nil)) .nil);exact rfl;exact rfl) | refine Y ?_|(apply T.drawAll A0 (by decide +kernel))|(refine T.nilU 8 rfl ?_;apply T.ret;change C7 _ _ _ _ _)
   | refine V ?_
   | (refine W2 ?_ ?_ <;> intro hc))
  all_goals exact D2 rfl rfl rfl
theorem T7 (h : HouseR) (hf : h.fits) (hp : C8 h) (n : ByteArray) (hn : ¬ Ad h n < 0) : Fn0 Tryz.prog 50 [A1 h.row, .s n] (.tup [.i (Ad h n), .i 0]) := by
 have hv := J2 h hf
 rw [decide_eq_true hp] at hv
 have cf := T8 h n hf.1
 generalize Ad h n = i at *
 refine Fn0.of Tryz.func50 Tryz.ntmps50 rfl rfl rfl ?_
 simp only [A2]
 repeat' (first
  | refine W ?_
  | refine Y ?_
  | refine V ?_
  | (refine W2 ?_ ?_ <;> intro hc))
 all_goals exact D2 rfl rfl rfl
def unQ (p : PcQ) : PieceR := ⟨p.f.num, p.f.den, p.a.num, p.a.den, p.b.num, p.b.den, p.c.num, p.c.den⟩
theorem Aas (x : List PcQ) : (x.map unQ).map PieceR.row = x.map PcQ.row := by rw [List.map_map];rfl
theorem Abl (p : PcQ) : toQ (unQ p) = p := by
 unfold toQ unQ A8
 simp only [Rat.num_divInt_den]
theorem Vi {x : List PcQ} (h : ¬ Ah x) (hn : x.length <= 1000000) : Fn0 Tryz.prog 95 [.sl (x.map PcQ.row)] (.b false) := by
 have := Vn (x.map unQ) (by rw [List.length_map];exact hn)
 rw [Aas, decide_eq_false (fun k => h (by have := (A46 k).2.2.2;rwa [List.map_map, show toQ ∘ unQ = id from funext Abl, List.map_id] at this))] at this
 exact this
structure TwoP (a b : SetR) (x y : List PcQ) : Prop where
 pa : De a
 pb : De b
 fa : a.fits
 fb : b.fits
 ox : okC x
 oy : okC y
 x0 : x ≠ []
 y0 : y ≠ []
 nx : x.length <= 200
 ny : y.length <= 200
theorem Wf (a b : SetR) (x y : List PcQ) (h : TwoP a b x y) (t : List Lf) (ht : t.length = 2) (hs : ¬ (Ah x /\ Ah y)) : Fn0 Tryz.prog 52 [A1 a.row, A1 b.row, .sl (x.map PcQ.row), .sl (y.map PcQ.row), A1 t] (.i 1) := by
 have va := Fz a h.fa
 have vb := Fz b h.fb
 rw [decide_eq_true h.pa] at va
 rw [decide_eq_true h.pb] at vb
 match t, ht with
 | [u, v], _ =>
 by_cases sx : Ah x
 ·have vx := Jj x h.ox sx (List.length_pos_iff.2 h.x0) h.nx
  have vy := Vi (fun k => hs ⟨sx, k⟩) (by have := h.ny;omega)
  refine Fn0.of Tryz.func52 Tryz.ntmps52 rfl rfl rfl ?_
  simp only [A2]
  repeat' (first
   | refine W ?_
   | refine Y ?_
   | refine V ?_
   | (refine W2 ?_ ?_ <;> intro hc))
  all_goals exact A5 (by simp) Tryz.results52 rfl rfl
 ·have vx := Vi sx (by have := h.nx;omega)
  refine Fn0.of Tryz.func52 Tryz.ntmps52 rfl rfl rfl ?_
  simp only [A2]
  repeat' (first
   | refine W ?_
   | refine Y ?_
   | refine V ?_
   | (refine W2 ?_ ?_ <;> intro hc))
  all_goals exact A5 (by simp) Tryz.results52 rfl rfl
theorem A3n (a b : SetR) (x y : List PcQ) (h : TwoP a b x y) (te : Rat) (ht : Fits te) (h0 : 0 <= te) (h1 : te <= 1099511627776) :
  Fn0 Tryz.prog 25 [A1 a.row, A1 b.row, .sl (x.map PcQ.row), .sl (y.map PcQ.row), A1 (frR te)] (.tup [A1 [.i (frT a b x y te).1, .i (frT a b x y te).2.1], .i (frT a b x y te).2.2]) := by
 by_cases hs : Ah x /\ Ah y
 ·have := A5k a b x y ⟨h.pa, h.pb, h.fa, h.fb, h.ox, h.oy, h.x0, h.y0, hs.1, hs.2, h.nx, h.ny⟩ te ht h0 h1
  rw [A0m] at this
  unfold frT
  rw [if_pos hs]
  exact this
 ·have cg := Wf a b x y h (frR te) rfl hs
  unfold frT
  rw [if_neg hs]
  refine Fn0.of Tryz.func25 Tryz.ntmps25 rfl rfl rfl ?_
  simp only [A2]
  repeat' (first
   | refine W ?_
   | refine Y ?_
   | refine V ?_
   | (refine W2 ?_ ?_ <;> intro hc))
  all_goals exact ⟨.inr rfl, [A1 [.i 0, .i 0], .i 1], .cons (Res.row [.i 0, .i 0] rfl rfl rfl rfl rfl) (.cons (.tmp rfl) .nil), .tup (.cons (.agg (A7 [.i 0, .i 0])) (.cons (.one (.lf _)) .nil))⟩
/-! ### The end of a show -/
theorem A8z {l : List Int} (x : Int) (h : l ≠ []) : mxL (l ++ [x]) = max (mxL l) x := by
 cases l with
 | nil => exact absurd rfl h
 | cons y l =>
  show List.foldl max y (l ++ [x]) = _
  rw [List.foldl_append];rfl
theorem Y8 (l : List Int) (h0 : l ≠ []) (hl : l.length <= 1000000) : Fn0 Tryz.prog 27 [.sl (l.map A3)] (.i (mxL l)) := by
 have hle : (l.map A3).length = l.length := List.length_map _
 have hp := List.length_pos_iff.2 h0
 have h1 : ¬ ((l.map A3).length : Int) < 1 := by omega
 obtain ⟨x, hx⟩ := A9 hp
 have hb0 : (l.map A3)[(0 : Int).toNat]? = some (A3 x) := Ac (k := 0) hx
 have hx1 : mxL (l.take 1) = x := by
  cases l with
  | nil => exact absurd rfl h0
  | cons y l => simp at hx;subst hx;rfl
 refine Fn0.of Tryz.func27 Tryz.ntmps27 rfl rfl rfl ?_
 simp only [A2]
 repeat' (first
  | refine W ?_
  | refine Y ?_
  | refine V ?_
  | (refine W2 ?_ ?_ <;> intro hc))
 refine T.loopS (fun k => 1 <= k /\ k <= l.length) (fun k => l.length - k) (fun k => [(4, .i k), (3, .i (mxL (l.take k))), (0, .sl (l.map A3))]) (fun _ => []) 1 ⟨Nat.le_refl _, hp⟩ (.cons rfl rfl (.cons (by rw [hx1];rfl) rfl (.cons rfl rfl .nil))) .nil ?_
 rintro k ⟨hk1, hk⟩
 by_cases hlt : k < l.length
 ·have h2 : (k : Int) < ((l.map A3).length : Nat) := by omega
  obtain ⟨y, hy⟩ := A9 hlt
  have hb := Ac (R := A3) hy
  have hne : l.take k ≠ [] := fun e => by have := congrArg List.length e;rw [List.length_take, List.length_nil] at this;omega
  have hm : mxL (l.take (k + 1)) = max (mxL (l.take k)) y := by rw [List.take_add_one, hy];exact A8z y hne
  repeat' (first
   | refine W ?_
   | refine Y ?_
   | refine V ?_
   | (refine W2 ?_ ?_ <;> intro hc))
  change Next _ _ _ _ _ _
  exact Next.go (k + 1) ⟨by omega, by omega⟩ (by omega) (by rw [hm, show (((k + 1 : Nat) : Int)) = (k : Int) + 1 by omega];exact CW) .nil
 ·have h2 : ¬ (k : Int) < ((l.map A3).length : Nat) := by omega
  rw [List.take_of_length_le (by omega)]
  repeat' (first
   | refine W ?_
   | refine Y ?_
   | refine V ?_
   | (refine W2 ?_ ?_ <;> intro hc))
  exact A5 (by simp) Tryz.results27 rfl rfl
set_option maxHeartbeats 16000000 in
theorem Zb (h : HouseR) (c : SheetR) (hf : h.fits) (hc : c.fits) (G : List Int) (hG : G.length <= 4611686018427387904) (e0 : alE h c G = 0) (hn : c.cues.length = 0) : Fn0 Tryz.prog 26 [A1 h.row, A1 c.row, .sl (G.map A3)] (.tup [.val (.slice none 0 0), .i 0]) := by
 have cm := Js h c hf hc G hG
 obtain ⟨p, er⟩ := Gx e0
 rw [e0, er] at cm
 have h60 : c.cues.length <= 60 := by have := p.v.2.1;omega
 have hle : ((stL h c G).map A3).length = c.cues.length := by rw [List.length_map, Dg]
 refine Fn0.of Tryz.func26 Tryz.ntmps26 rfl rfl rfl ?_
 simp only [A2]
 repeat' (first
  | refine W ?_
  | refine Zc cm ?_|(apply T.drawAll A0 (by decide +kernel))
  | refine V ?_
  | (refine W2 ?_ ?_ <;> intro hc))
 refine T.kill 3 ?_
 refine T.loopS (fun k => k <= c.cues.length) (fun k => c.cues.length - k) (fun k => [(26, .i k), (25, .i ((stL h c G).map A3).length), (24, .sl ((stL h c G).map A3)), (10, rT 3 1 k), (8, .ptr 2 0)]) (fun k => [.live (h.row.map .lf), .live (c.row.map .lf), .live [.sl (trL h c), .sl ((stL h c G).map A3), .sl ((Br h c).map A3)], rB (Aa (Dn h c G k)) k]) 0 (Nat.zero_le _) CW CG ?_
 intro k hk
 by_cases hlt : k < c.cues.length
 ·have h1 : (k : Int) < (((stL h c G).map A3).length : Nat) := by omega
  obtain ⟨x, hx⟩ := A9 (l := stL h c G) (k := k) (by rw [Dg];exact hlt)
  have hb := Ac (R := A3) hx
  obtain ⟨y, hy⟩ := A9 (l := Br h c) (k := k) (by rw [E9];exact hlt)
  have hb2 := Ac (R := A3) hy
  have r1 := p.st k
  have r2 := p.ln k
  have hV : G7 h c G k = x + y := by unfold G7;rw [List.getD_eq_getElem?_getD, List.getD_eq_getElem?_getD, hx, hy];rfl
  rw [List.getD_eq_getElem?_getD, hx] at r1
  rw [List.getD_eq_getElem?_getD, hy] at r2
  simp only [Option.getD_some] at r1 r2
  have hS := Ka (Dn h c G k) (G7 h c G k)
  rw [<- Ob, hV] at hS
  cases k with
  | zero =>
   repeat' (first
    | refine W ?_
    | refine Zi hb ?_|refine Zi hb2 ?_|(apply S.buildSlice1;(iterate 7 exact rfl))|(apply S.appendN 3 (rows := []);(iterate 8 exact rfl);exact Ai rfl;exact rfl;exact Nat.le_of_ble_eq_true rfl;exact Nat.le_of_ble_eq_true rfl)|refine Za ?_
    | refine V ?_
    | (refine W2 ?_ ?_ <;> intro hc))
   all_goals (try change Next _ _ _ _ _ _)
   all_goals exact Next.go 1 (by omega) (by omega) CW (by
    show CovH _ _ [_, _, _, .live (Aa (Dn h c G (0 + 1)))]
    rw [hS];exact .live rfl CG)
  | succ k =>
   have hcl : (Aa (Dn h c G (k + 1))).length = (k + 1) * 1 := by rw [Cy, H2, Nat.mul_one]
   repeat' (first
    | refine W ?_
    | refine Zi hb ?_|refine Zi hb2 ?_|(apply S.buildSlice1;(iterate 7 exact rfl))|(apply S.appendO;(iterate 8 exact rfl);exact hcl;exact Ai rfl;exact rfl;exact Az _ _;simp only [List.length_cons, List.length_nil];omega;simp only [List.length_cons, List.length_nil];omega)|refine Za ?_
    | refine V ?_
    | (refine W2 ?_ ?_ <;> intro hc))
   all_goals (try change Next _ _ _ _ _ _)
   all_goals exact Next.go (k + 1 + 1) (by omega) (by omega) CW (by
    show CovH _ _ [_, _, _, .live (Aa (Dn h c G (k + 1 + 1)))]
    rw [hS];exact .live rfl (.live rfl (.live rfl (.live (by rw [<- List.map_append];exact Al _ _) .nil))))
 ·have h1 : ¬ (k : Int) < (((stL h c G).map A3).length : Nat) := by omega
  obtain rfl : k = c.cues.length := by omega
  rw [show rT 3 1 c.cues.length = .val (.slice none 0 0) by rw [hn];rfl]
  repeat' (first
   | refine W ?_

   | refine V ?_
   | (refine W2 ?_ ?_ <;> intro hc))
  exact D2 rfl rfl rfl
theorem Hw (h : HouseR) (c : SheetR) (hf : h.fits) (hc : c.fits) (G : List Int) (hG : G.length <= 4611686018427387904) (e0 : ¬ alE h c G = 0) : Fn0 Tryz.prog 9 [A1 h.row, A1 c.row, .sl (G.map A3)] (.tup [.i 0, .i (alE h c G)]) := by
 have ce := Xd h c hf hc G hG e0
 generalize alE h c G = e at *
 refine Fn0.of Tryz.func9 Tryz.ntmps9 rfl rfl rfl ?_
 simp only [A2]
 repeat' (first
  | refine W ?_
  | refine Y ?_
  | refine V ?_
  | (refine W2 ?_ ?_ <;> intro hc))
 all_goals exact D2 rfl rfl rfl
theorem Is (h : HouseR) (c : SheetR) (hf : h.fits) (hc : c.fits) (G : List Int) (hG : G.length <= 4611686018427387904) (e0 : alE h c G = 0) : Fn0 Tryz.prog 9 [A1 h.row, A1 c.row, .sl (G.map A3)] (.tup [.i (endI h c G), .i 0]) := by
 have h60 := (Gx e0).1.v.2.1
 by_cases hn : c.cues.length = 0
 ·have ce := Zb h c hf hc G hG e0 hn
  have hE : endI h c G = mxL [0] := by unfold endI Dl;rw [hn];rfl
  rw [hE]
  have cm := Y8 [0] (by simp) (by simp)
  refine Fn0.of Tryz.func9 Tryz.ntmps9 rfl rfl rfl ?_
  simp only [A2]
  repeat' (first
   | refine W ?_
   | refine Y ?_|(apply S.buildSlice1;(iterate 7 exact rfl))|(apply S.appendN 2 (rows := []);(iterate 8 exact rfl);exact Ai rfl;exact rfl;exact Nat.le_of_ble_eq_true rfl;exact Nat.le_of_ble_eq_true rfl)|(apply S.callV;exact rfl;exact cm;exact .cons (.one (.own (cells := [.i 0]) (rows := [[.i 0]]) rfl (OwnRows.of [.i 0] (Ai rfl) rfl))) .nil;exact rfl;exact rfl)
   | refine V ?_
   | (refine W2 ?_ ?_ <;> intro hc))
  all_goals exact D2 rfl rfl rfl
 ·have ce := Ye h c hf hc G hG e0 hn
  have hEl : ((Dl h c G).map A3).length = c.cues.length := by rw [List.length_map, H2]
  have cm := Y8 (Dl h c G ++ [0]) (by simp) (by rw [List.length_append, H2];show c.cues.length + 1 <= 1000000;omega)
  have hE : endI h c G = mxL (Dl h c G ++ [0]) := rfl
  rw [hE]
  have hown : OwnRows ((((Dl h c G).map A3).flatten.map AV.lf) ++ ([A3 0].flatten).map AV.lf) 0 (((Dl h c G).map A3).length + 1) 1 ((Dl h c G ++ [0]).map A3) := by
   have := OwnRows.of ((Dl h c G ++ [0]).map A3).flatten (C9 _) rfl
   simpa using this
  generalize mxL (Dl h c G ++ [0]) = z at *
  have hcl : ((((Dl h c G).map A3).flatten.map AV.lf)).length = ((Dl h c G).map A3).length * 1 := by rw [List.length_map, Bf _ (C9 _)]
  generalize (Dl h c G ++ [0]).map A3 = r2 at *
  have hrow := C9 (Dl h c G)
  generalize (Dl h c G).map A3 = r1 at *
  refine Fn0.of Tryz.func9 Tryz.ntmps9 rfl rfl rfl ?_
  simp only [A2]
  repeat' (first
   | refine W ?_
   | refine Y ?_|(apply S.buildSlice1;(iterate 7 exact rfl))|(apply S.callOwnT 2 ce;(iterate 6 exact rfl);exact hrow)|(apply S.appendO;(iterate 8 exact rfl);exact hcl;exact Ai rfl;exact rfl;exact Az _ _;simp only [List.length_cons, List.length_nil];omega;simp only [List.length_cons, List.length_nil];omega)|(apply S.callV;exact rfl;exact cm;exact .cons (.one (.own rfl hown)) .nil;exact rfl;exact rfl)
   | refine V ?_
   | (refine W2 ?_ ?_ <;> intro hc))
  all_goals exact D2 rfl rfl rfl
theorem Aaw {h : HouseR} {c : SheetR} {G : List Int} {l : List (ByteArray × ByteArray)} {x : ConR} (hx : x ∈ D5 h c G l) : (x.a, x.b) ∈ l /\ ctR h c G (x.a, x.b) = (x.lo, x.hi, 0) := by
 obtain ⟨p, hp, hx⟩ := List.mem_filterMap.1 hx
 unfold Hu at hx
 split at hx
 ·rename_i e
  injection hx with hx
  subst hx
  exact ⟨hp, by rw [<- e]⟩
 ·cases hx
theorem A9y {h : HouseR} {c : SheetR} {G : List Int} (p : PlanOk h c G) {l : List (ByteArray × ByteArray)} {x : ConR} (hx : x ∈ D5 h c G l) : 0 <= x.lo /\ x.lo <= x.hi /\ x.hi <= x.lo + 1 /\ x.hi <= endI h c G := by
 obtain ⟨_, hc⟩ := Aaw hx
 unfold ctR at hc
 split at hc
 ·rename_i a b _ _
  split at hc
  ·split at hc
   ·unfold frT at hc
    split at hc
    ·have hf := A0m a b (B8 h c G x.a) (B8 h c G x.b) (Ds h c G)
     rw [hc] at hf
     have := p.endI
     exact A7c (n := endI h c G) rfl this.1 (by omega) hf
    ·simp at hc
   ·rename_i e
    simp only [Prod.mk.injEq] at hc
    exact absurd hc.2.2 e
  ·rename_i e
   simp only [Prod.mk.injEq] at hc
   exact absurd hc.2.2 e
 ·simp at hc
set_option maxRecDepth 100000 in
theorem A5v : ∃ n1 n2 n3 : Nat, Tryz.prog.fieldsOf 44 = #[⟨"First", 9, 0, false, "", "", n1⟩, ⟨"Second", 9, 1, false, "", "", n2⟩, ⟨"At", 42, 2, false, "", "", n3⟩] := by
 unfold Program.fieldsOf
 rw [Tryz.underlying44]
 exact ⟨_, _, _, rfl⟩
theorem A8c : Tryz.prog.stoodInHeld 44 = false := by kernel_rfl
theorem Y4 : Tryz.prog.eqGuardType Tryz.prog.depth 44 = false := by kernel_rfl
theorem Adn : Tryz.prog.underlying 44 = some (.struct (Tryz.prog.fieldsOf 44)) := by
 unfold Program.fieldsOf
 rw [Tryz.underlying44]
def Mr (a b : ByteArray) (u v : Int) : Value := .agg #[.string a, .string b, .int .i64 u, .int .i64 v]
def eqC (a b : ByteArray) (u v : Int) (a' b' : ByteArray) (u' v' : Int) : Prop := a = a' /\ b = b' /\ u = u' /\ v = v'
instance (a b : ByteArray) (u v : Int) (a' b' : ByteArray) (u' v' : Int) : Decidable (eqC a b u v a' b' u' v') := by unfold eqC;exact inferInstance
set_option maxRecDepth 100000 in
theorem Vv (w : World) (d : Nat) (a b : ByteArray) (u v : Int) (a' b' : ByteArray) (u' v' : Int) : (Op.equalIn (d + 3) 44 (Mr a b u v) (Mr a' b' u' v')).run Tryz.prog w = .ok (decide (eqC a b u v a' b' u' v')) w := by
 obtain ⟨n1, n2, n3, hcf⟩ := A5v
 have h1 := fun d' (k : IntKind) (a b : Int) => run_equalIn_int (P := Tryz.prog) w d' 3 k .i64 a b Tryz.underlying3
 have h2 := run_equalIn_struct (P := Tryz.prog) w (d + 2) 44 #[.string a, .string b, .int .i64 u, .int .i64 v] #[.string a', .string b', .int .i64 u', .int .i64 v'] Adn A8c
 have h5 := fun d' (x y : ByteArray) => run_equalIn_string (P := Tryz.prog) w d' 9 x y Tryz.underlying9
 have h6 := fun d' => run_equalIn_struct (P := Tryz.prog) w d' 42 #[.int .i64 u, .int .i64 v] #[.int .i64 u', .int .i64 v'] Wq Vk
 rw [hcf] at h2
 rw [Mi] at h6
 unfold Mr
 rw [h2]
 simp [Op.eqFields, go_sem, h1, h5, h6, Lx, Wq]
 unfold eqC
 by_cases e1 : a = a' <;> by_cases e2 : b = b' <;> by_cases e3 : u = u' <;> by_cases e4 : v = v' <;> simp [*]
section
variable {N : Nat} {ops : Array Oper} {m : Option Nat} {K : Tm -> AH -> Prop} {tm : Tm} {H : AH} {rest : List Oper} {ty : TypeId} {pos : String} {af : Array Edge} {d : Nat} {x y : Operand}
theorem S.eqCon {t u' : TypeId} {a b a' b' : ByteArray} {u v w z : Int} (ht : t = 44) (hx : evT tm x = some (.agg [.val (.string a), .val (.string b), .val (.int .i64 u), .val (.int .i64 v)])) (hy : evT tm y = some (.agg [.val (.string a'), .val (.string b'), .val (.int .i64 w), .val (.int .i64 z)])) (hN : Nat.ble (d + 1) N = true) (h : Reg m Tryz.prog N ops rest ((d, .val (.bool (decide (eqC a b u v a' b' w z)))) :: tm) H K) : Reg m Tryz.prog N ops (⟨some d, .binOp .eql t x y u', ty, pos, af, none⟩ :: rest) tm H K := by
 subst ht
 refine S.val (OpV.mk fun L w' ρ η hη hH => ?_) hN h
 have h1 := (hη x (by simp [Op.operands]) _ hx).flat (u := Mr a b u v) rfl
 have h2 := (hη y (by simp [Op.operands]) _ hy).flat (u := Mr a' b' w z) rfl
 refine ⟨_, ?_, Ab _⟩
 have h3 := run_eqGuard_agg (P := Tryz.prog) w' .eql 44 x y #[.string a, .string b, .int .i64 u, .int .i64 v] #[.string a', .string b', .int .i64 w, .int .i64 z] Y4
 have h4 := run_eql_struct (P := Tryz.prog) w' 44 #[.string a, .string b, .int .i64 u, .int .i64 v] #[.string a', .string b', .int .i64 w, .int .i64 z]
 have h5 := Vv w' 9997 a b u v a' b' w z
 unfold Mr at h1 h2 h5
 simp only [execOp, h1, h2, Sem.run_bind, h3, Result.andThen_ok, h4]
 rw [h5]
 rfl
theorem S.neCon {t u' : TypeId} {a b a' b' : ByteArray} {u v w z : Int} (ht : t = 44) (hx : evT tm x = some (.agg [.val (.string a), .val (.string b), .val (.int .i64 u), .val (.int .i64 v)])) (hy : evT tm y = some (.agg [.val (.string a'), .val (.string b'), .val (.int .i64 w), .val (.int .i64 z)])) (hN : Nat.ble (d + 1) N = true) (h : Reg m Tryz.prog N ops rest ((d, .val (.bool (decide (¬ eqC a b u v a' b' w z)))) :: tm) H K) : Reg m Tryz.prog N ops (⟨some d, .binOp .neq t x y u', ty, pos, af, none⟩ :: rest) tm H K := by
 subst ht
 refine S.val (OpV.mk fun L w' ρ η hη hH => ?_) hN h
 have h1 := (hη x (by simp [Op.operands]) _ hx).flat (u := Mr a b u v) rfl
 have h2 := (hη y (by simp [Op.operands]) _ hy).flat (u := Mr a' b' w z) rfl
 refine ⟨_, ?_, Ab _⟩
 have h3 := run_eqGuard_agg (P := Tryz.prog) w' .neq 44 x y #[.string a, .string b, .int .i64 u, .int .i64 v] #[.string a', .string b', .int .i64 w, .int .i64 z] Y4
 have h4 := run_neq_struct (P := Tryz.prog) w' 44 #[.string a, .string b, .int .i64 u, .int .i64 v] #[.string a', .string b', .int .i64 w, .int .i64 z]
 have h5 := Vv w' 9997 a b u v a' b' w z
 unfold Mr at h1 h2 h5
 simp only [execOp, h1, h2, Sem.run_bind, h3, Result.andThen_ok, h4]
 rw [h5]
 simp [go_sem]
end
end Go.Proofs.YtcbfnkgodiaiiaaGreat
