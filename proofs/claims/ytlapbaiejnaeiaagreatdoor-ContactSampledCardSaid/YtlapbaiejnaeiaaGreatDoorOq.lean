/- Lemmas of the proof. -/
import Derived.Test.YtlapbaiejnaeiaaGreatDoorMk
import Derived.Test.YtlapbaiejnaeiaaGreatDoorOm
import Derived.Test.YtlapbaiejnaeiaaGreatDoorPc
set_option linter.all false
set_option maxHeartbeats 64000000
namespace Go.Proofs.YtlapbaiejnaeiaaGreatDoor
open Go Go.RowKit
def a6v := @Tryz.ntmps57
def a7d := @Tryz.func57
def a7n := @Tryz.ntmps94
def a8d := @Tryz.func94
def a9r := @Tryz.ntmps53
def b0f := @Tryz.func53
def b0s := @Tryz.results93
def b1z := @Tryz.ntmps93
def b3a := @Tryz.func93
structure Two (a b : SetR) (x y : List PcQ) : Prop where
 pa : Dt a
 pb : Dt b
 fa : a.fits
 fb : b.fits
 ox : okC x
 oy : okC y
 x0 : x ≠ []
 y0 : y ≠ []
 sx : Aj x
 sy : Aj y
 nx : x.length <= 200
 ny : y.length <= 200
def A4h (x : List PcQ) : Prop := Fn0 Tryz.prog 124 [.sl (x.map PcQ.row)] (.b true)
theorem Two.vx {a b : SetR} {x y : List PcQ} (h : Two a b x y) : A4h x := Hz x h.ox h.sx (a1j.2 h.x0) h.nx
theorem Two.vy {a b : SetR} {x y : List PcQ} (h : Two a b x y) : A4h y := Hz y h.oy h.sy (a1j.2 h.y0) h.ny
theorem A6h : Fits (1099511627776 : Rat) := by decide +kernel
theorem P8 : Fits (0 : Rat) := by decide +kernel
theorem A58 (a b : SetR) (x y : List PcQ) (h : Two a b x y) (te : Rat) (ht : Fits te) (h0 : 0 <= te) (h1 : te <= 1099511627776) :
  Fn0 Tryz.prog 93 [A2 a.row, A2 b.row, .sl (x.map PcQ.row), .sl (y.map PcQ.row), A2 (frR te)] (.i 0) := by
 have va := Dx a h.fa
 have vb := Dx b h.fb
 rw [decide_eq_true h.pa] at va
 rw [decide_eq_true h.pb] at vb
 have vx := h.vx
 have vy := h.vy
 unfold A4h at vx vy
 have vt : Fn0 Tryz.prog 84 [A2 (frR te)] (.b true) := by
  have := Ea te.num te.den
  rwa [ht.valid] at this
 have cm := J0 te 1099511627776 ht A6h
 change Fn0 _ _ [_, A2 [.i 1099511627776, .i 1]] _ at cm
 have k0 : ¬ 0 < Bq te 1099511627776 := fun h => a2l.2 h1 ((Ph _ _).1 h)
 have k1 : ¬ te.num < 0 := by have := a8y.2 h0;omega
 generalize Bq te 1099511627776 = c at cm k0
 refine Fn0.of b3a b1z rfl rfl rfl ?_
 simp only [A1]
 repeat' (first|refine W ?_|refine Zc va ?_|refine Zc vb ?_|refine Zc vx ?_|refine Zc vy ?_|refine Zc vt ?_|refine Zc cm ?_|(apply p0v;(iterate 3 exact rfl))|(apply p0a A0 (by decide +kernel))|refine V ?_|(refine W2 ?_ ?_<;>intro hc))
 all_goals exact A4 (by simp) b0s rfl rfl
theorem V5 (l : List PcQ) (fr te : Rat) : ∃ u v e : Int, Ay l fr te = .tup [A2 [.i u, .i v], .i e] := by
 unfold Ay
 cases e : Cs (A5 l fr) fr te (A5 l fr).length with
 | none => exact ⟨0, 0, 12, rfl⟩
 | some r =>
  obtain ⟨j, _, hst, _⟩ := J1 e
  have key : ∃ u v : Int, r = [.i u, .i v] := by
   unfold Bo at hst
   split at hst
   ·cases hst
   ·split at hst
    ·injection hst with hst;subst hst;unfold enQ;split <;> exact ⟨_, _, rfl⟩
    ·split at hst
     ·injection hst with hst;subst hst;unfold H1;split <;> exact ⟨_, _, rfl⟩
     ·cases hst
  obtain ⟨u, v, rfl⟩ := key
  exact ⟨u, v, 0, rfl⟩
theorem Od : A2 (frR 0) = A2 [.i 0, .i 1] := rfl
theorem Xa (a b : SetR) (x y : List PcQ) (h : Two a b x y) :
  Fn0 Tryz.prog 94 [A2 a.row, A2 b.row, .sl (x.map PcQ.row), .sl (y.map PcQ.row)] (.tup [.sl ((dsL (Ar a) (Ar b) x y).map PcQ.row), .i (dsE (Ar a) (Ar b) x y)]) := by
 have cu := Ys x 0 h.ox h.x0 (by have := h.nx;omega) P8 h.vx
 have cv := Ys y 0 h.oy h.y0 (by have := h.ny;omega) P8 h.vy
 rw [Od] at cu cv
 have gA := I5 a h.fa.2.1
 have gB := I5 b h.fb.2.1
 rw [<- Vg] at gA gB
 have fA := Jb h.pa
 have fB := Jb h.pb
 have fu := R7 (t := 0) h.ox h.x0
 have fv := R7 (t := 0) h.oy h.y0
 have lA := Qi x y (Ar a) h.ox h.oy h.x0 h.y0 h.nx h.ny fA h.vx h.vy
 have lB := Qi y x (Ar b) h.oy h.ox h.y0 h.x0 h.ny h.nx fB h.vy h.vx
 unfold dsL dsE
 generalize Ar a = ha at *
 generalize Ar b = hb at *
 generalize lwL x y ha = LA at *
 generalize lwE x y ha = EA at *
 generalize lwL y x hb = LB at *
 generalize lwE y x hb = EB at *
 unfold N2 at cu cv
 by_cases e1 : atE x 0 0 = 0
 ·rw [if_pos e1] at cu
  by_cases e2 : atE y 0 0 = 0
  ·rw [if_pos e2] at cv
   have c1 := E4 (atQ x 0) (atQ y 0) fu fv
   generalize atQ x 0 = u at *
   generalize atQ y 0 = v at *
   unfold Dm at c1
   by_cases e3 : Fits (u - v)
   ·rw [if_pos e3] at c1
    have c2 := E4 (u - v) ha e3 fA
    unfold Dm at c2
    by_cases e4 : Fits (u - v - ha)
    ·rw [if_pos e4] at c2
     simp only [e1, e2, e3, e4, if_true]
     generalize u - v = w at *
     by_cases e5 : 0 <= w - ha
     ·have e6 : (w - ha).num >= 0 := a8y.2 e5
      generalize w - ha = z at *
      simp only [e5, if_true]
      skip
      refine Fn0.of a8d a7n rfl rfl rfl ?_
      simp only [A1]
      repeat' (first|refine W ?_|refine Zc cu ?_|refine Zc cv ?_|refine Zc gA ?_|refine Zc c1 ?_|refine Zc c2 ?_|refine Zc lA ?_|(apply p0v;(iterate 3 exact rfl))|(apply p0a A0 (by decide +kernel))|(apply p0e 7 A0 (by decide +kernel);simp only [td])|refine V ?_|(refine W2 ?_ ?_<;>intro hc))
      all_goals exact D2 rfl rfl rfl
     ·have e6 : ¬ (w - ha).num >= 0 := fun k => e5 (a8y.1 k)
      generalize w - ha = z at *
      simp only [e5, if_false]
      skip
      refine Fn0.of a8d a7n rfl rfl rfl ?_
      simp only [A1]
      repeat' (first|refine W ?_|refine Zc cu ?_|refine Zc cv ?_|refine Zc gA ?_|refine Zc gB ?_|refine Zc c1 ?_|refine Zc c2 ?_|refine Zc lB ?_|(apply p0v;(iterate 3 exact rfl))|(apply p0a A0 (by decide +kernel))|(apply p0e 7 A0 (by decide +kernel);simp only [td])|refine V ?_|(refine W2 ?_ ?_<;>intro hc))
      all_goals exact D2 rfl rfl rfl
    ·rw [if_neg e4] at c2
     simp only [e1, e2, e3, e4, if_true, if_false]
     skip
     refine Fn0.of a8d a7n rfl rfl rfl ?_
     simp only [A1]
     repeat' (first|refine W ?_|refine Zc cu ?_|refine Zc cv ?_|refine Zc gA ?_|refine Zc c1 ?_|refine Zc c2 ?_|(apply p0v;(iterate 3 exact rfl))|(apply p0a A0 (by decide +kernel))|(apply p0e 7 A0 (by decide +kernel);simp only [td])|(refine p0u 8 rfl ?_;apply T.ret;change Ba _ _ _ _ _)|refine V ?_|(refine W2 ?_ ?_<;>intro hc))
     all_goals exact D2 rfl rfl rfl
   ·rw [if_neg e3] at c1
    simp only [e1, e2, e3, if_true, if_false]
    skip
    refine Fn0.of a8d a7n rfl rfl rfl ?_
    simp only [A1]
    repeat' (first|refine W ?_|refine Zc cu ?_|refine Zc cv ?_|refine Zc c1 ?_|(apply p0v;(iterate 3 exact rfl))|(apply p0a A0 (by decide +kernel))|(refine p0u 8 rfl ?_;apply T.ret;change Ba _ _ _ _ _)|refine V ?_|(refine W2 ?_ ?_<;>intro hc))
    all_goals exact D2 rfl rfl rfl
  ·rw [if_neg e2] at cv
   simp only [e1, e2, if_true, if_false]
   generalize atE y 0 0 = e at *
   skip
   refine Fn0.of a8d a7n rfl rfl rfl ?_
   simp only [A1]
   repeat' (first|refine W ?_|refine Zc cu ?_|refine Zc cv ?_|(apply p0v;(iterate 3 exact rfl))|(apply p0a A0 (by decide +kernel))|(refine p0u 8 rfl ?_;apply T.ret;change Ba _ _ _ _ _)|refine V ?_|(refine W2 ?_ ?_<;>intro hc))
   all_goals exact D2 rfl rfl rfl
 ·rw [if_neg e1] at cu
  simp only [e1, if_false]
  generalize atE x 0 0 = e at *
  skip
  refine Fn0.of a8d a7n rfl rfl rfl ?_
  simp only [A1]
  repeat' (first|refine W ?_|refine Zc cu ?_|(apply p0v;(iterate 3 exact rfl))|(apply p0a A0 (by decide +kernel))|(refine p0u 8 rfl ?_;apply T.ret;change Ba _ _ _ _ _)|refine V ?_|(refine W2 ?_ ?_<;>intro hc))
  all_goals exact D2 rfl rfl rfl
theorem A57 (a b : SetR) (x y : List PcQ) (h : Two a b x y) (te : Rat) (ht : Fits te) (h0 : 0 <= te) (h1 : te <= 1099511627776) :
  Fn0 Tryz.prog 57 [A2 a.row, A2 b.row, .sl (x.map PcQ.row), .sl (y.map PcQ.row), A2 (frR te)] (Gi a b x y te) := by
 have cg := A58 a b x y h te ht h0 h1
 have cn := Jj a b h.pa h.pb h.fa h.fb
 have gA := I5 a h.fa.2.1
 have gB := I5 b h.fb.2.1
 have cd := Xa a b x y h
 unfold Gi
 by_cases e1 : D0 a b
 ·rw [decide_eq_true e1] at cn
  by_cases e2 : C3 a = 0 /\ C3 b = 0
  ·obtain ⟨e2, e3⟩ := e2
   have hc : ¬ (D0 a b /\ ¬ (C3 a = 0 /\ C3 b = 0)) := fun k => k.2 ⟨e2, e3⟩
   rw [if_neg hc]
   rw [e2] at gA
   rw [e3] at gB
   refine Fn0.of a7d a6v rfl rfl rfl ?_
   simp only [A1]
   repeat' (first|refine W ?_|refine Zc cg ?_|refine Zc cn ?_|refine Zc gA ?_|refine Zc gB ?_|(apply S.field (i := 0) (f := ⟨"Num", 3, 0, false, "", "", 0⟩) Tryz.underlying107 rfl Tryz.underlying3 rfl;(iterate 3 exact rfl))|(apply p0v;(iterate 3 exact rfl))|(apply p0a A0 (by decide +kernel))|refine V ?_|(refine W2 ?_ ?_<;>intro hc))
   all_goals exact ⟨.inr rfl, [A2 [.i 0, .i 0], .i 12], .cons (Res.row [.i 0, .i 0] rfl rfl rfl rfl rfl) (.cons (.tmp rfl) .nil), .tup (.cons (.agg (A6 [.i 0, .i 0])) (.cons (.one (.lf _)) .nil))⟩
  ·have hc : D0 a b /\ ¬ (C3 a = 0 /\ C3 b = 0) := ⟨e1, e2⟩
   rw [if_pos hc]
   by_cases e3 : dsE (Ar a) (Ar b) x y = 0
   ·rw [if_pos e3]
    rw [e3] at cd
    obtain ⟨d1, d2, d3, d4⟩ := A5w h.ox h.oy h.x0 h.y0 h.sx h.sy e3
    generalize dsL (Ar a) (Ar b) x y = l at *
    have cf := A7e l 0 te d1 d3 d4 P8 ht (Hz l d1 d2 (a1j.2 d3) d4) h0 ⟨by decide, by decide⟩ ⟨a0v (by decide) h0, h1⟩
    rw [Od] at cf
    obtain ⟨u1, u2, u3, hu⟩ := V5 l 0 te
    rw [hu] at cf ⊢
    by_cases e4 : C3 a = 0
    ·have e5 : ¬ C3 b = 0 := fun k => e2 ⟨e4, k⟩
     refine Fn0.of a7d a6v rfl rfl rfl ?_
     simp only [A1]
     repeat' (first|refine W ?_|refine Zc cg ?_|refine Zc cn ?_|refine Zc gA ?_|refine Zc gB ?_|refine Zc cd ?_|refine Zc cf ?_|(apply S.field (i := 0) (f := ⟨"Num", 3, 0, false, "", "", 0⟩) Tryz.underlying107 rfl Tryz.underlying3 rfl;(iterate 3 exact rfl))|(apply p0v;(iterate 3 exact rfl))|(apply p0a A0 (by decide +kernel))|refine V ?_|(refine W2 ?_ ?_<;>intro hc))
     all_goals exact ⟨.inr rfl, [A2 [.i u1, .i u2], .i u3], .cons (Res.row [.i u1, .i u2] rfl rfl rfl rfl rfl) (.cons (.tmp rfl) .nil), .tup (.cons (.agg (A6 [.i u1, .i u2])) (.cons (.one (.lf _)) .nil))⟩
    ·skip
     refine Fn0.of a7d a6v rfl rfl rfl ?_
     simp only [A1]
     repeat' (first|refine W ?_|refine Zc cg ?_|refine Zc cn ?_|refine Zc gA ?_|refine Zc gB ?_|refine Zc cd ?_|refine Zc cf ?_|(apply S.field (i := 0) (f := ⟨"Num", 3, 0, false, "", "", 0⟩) Tryz.underlying107 rfl Tryz.underlying3 rfl;(iterate 3 exact rfl))|(apply p0v;(iterate 3 exact rfl))|(apply p0a A0 (by decide +kernel))|refine V ?_|(refine W2 ?_ ?_<;>intro hc))
     all_goals exact ⟨.inr rfl, [A2 [.i u1, .i u2], .i u3], .cons (Res.row [.i u1, .i u2] rfl rfl rfl rfl rfl) (.cons (.tmp rfl) .nil), .tup (.cons (.agg (A6 [.i u1, .i u2])) (.cons (.one (.lf _)) .nil))⟩
   ·rw [if_neg e3]
    generalize dsL (Ar a) (Ar b) x y = l at *
    generalize dsE (Ar a) (Ar b) x y = e at *
    by_cases e4 : C3 a = 0
    ·have e5 : ¬ C3 b = 0 := fun k => e2 ⟨e4, k⟩
     refine Fn0.of a7d a6v rfl rfl rfl ?_
     simp only [A1]
     repeat' (first|refine W ?_|refine Zc cg ?_|refine Zc cn ?_|refine Zc gA ?_|refine Zc gB ?_|refine Zc cd ?_|(apply S.field (i := 0) (f := ⟨"Num", 3, 0, false, "", "", 0⟩) Tryz.underlying107 rfl Tryz.underlying3 rfl;(iterate 3 exact rfl))|(apply p0v;(iterate 3 exact rfl))|(apply p0a A0 (by decide +kernel))|refine V ?_|(refine W2 ?_ ?_<;>intro hc))
     all_goals exact ⟨.inr rfl, [A2 [.i 0, .i 0], .i e], .cons (Res.row [.i 0, .i 0] rfl rfl rfl rfl rfl) (.cons (.tmp rfl) .nil), .tup (.cons (.agg (A6 [.i 0, .i 0])) (.cons (.one (.lf _)) .nil))⟩
    ·skip
     refine Fn0.of a7d a6v rfl rfl rfl ?_
     simp only [A1]
     repeat' (first|refine W ?_|refine Zc cg ?_|refine Zc cn ?_|refine Zc gA ?_|refine Zc gB ?_|refine Zc cd ?_|(apply S.field (i := 0) (f := ⟨"Num", 3, 0, false, "", "", 0⟩) Tryz.underlying107 rfl Tryz.underlying3 rfl;(iterate 3 exact rfl))|(apply p0v;(iterate 3 exact rfl))|(apply p0a A0 (by decide +kernel))|refine V ?_|(refine W2 ?_ ?_<;>intro hc))
     all_goals exact ⟨.inr rfl, [A2 [.i 0, .i 0], .i e], .cons (Res.row [.i 0, .i 0] rfl rfl rfl rfl rfl) (.cons (.tmp rfl) .nil), .tup (.cons (.agg (A6 [.i 0, .i 0])) (.cons (.one (.lf _)) .nil))⟩
 ·have hc : ¬ (D0 a b /\ ¬ (C3 a = 0 /\ C3 b = 0)) := fun k => e1 k.1
  rw [if_neg hc]
  rw [decide_eq_false e1] at cn
  refine Fn0.of a7d a6v rfl rfl rfl ?_
  simp only [A1]
  repeat' (first|refine W ?_|refine Zc cg ?_|refine Zc cn ?_|refine Zc gA ?_|refine Zc gB ?_|(apply S.field (i := 0) (f := ⟨"Num", 3, 0, false, "", "", 0⟩) Tryz.underlying107 rfl Tryz.underlying3 rfl;(iterate 3 exact rfl))|(apply p0v;(iterate 3 exact rfl))|(apply p0a A0 (by decide +kernel))|refine V ?_|(refine W2 ?_ ?_<;>intro hc))
  all_goals exact ⟨.inr rfl, [A2 [.i 0, .i 0], .i 12], .cons (Res.row [.i 0, .i 0] rfl rfl rfl rfl rfl) (.cons (.tmp rfl) .nil), .tup (.cons (.agg (A6 [.i 0, .i 0])) (.cons (.one (.lf _)) .nil))⟩
theorem A59 (a b : SetR) (ha : Dt a) (hb : Dt b) (hfa : a.fits) (hfb : b.fits) (p q : Rat) (hp : Fits p) (hq : Fits q) :
  Fn0 Tryz.prog 53 [A2 a.row, A2 b.row, A2 (frR p), A2 (frR q)] (Ha a b p q) := by
 have va := Dx a hfa
 have vb := Dx b hfb
 rw [decide_eq_true ha] at va
 rw [decide_eq_true hb] at vb
 have vp : Fn0 Tryz.prog 84 [A2 (frR p)] (.b true) := by
  have := Ea p.num p.den
  rwa [hp.valid] at this
 have vq : Fn0 Tryz.prog 84 [A2 (frR q)] (.b true) := by
  have := Ea q.num q.den
  rwa [hq.valid] at this
 have cn := Jj a b ha hb hfa hfb
 have gA := I5 a hfa.2.1
 have gB := I5 b hfb.2.1
 rw [<- Vg] at gA gB
 have fA := Jb ha
 have fB := Jb hb
 have c1 := E4 p (Ar a) hp fA
 have c2 := E4 q (Ar b) hq fB
 unfold Ha
 generalize Ar a = u at *
 generalize Ar b = v at *
 by_cases e1 : D0 a b
 ·rw [decide_eq_true e1] at cn
  rw [if_pos e1]
  unfold Dm at c1 c2
  by_cases e2 : Fits (p - u)
  ·rw [if_pos e2] at c1 ⊢
   by_cases e3 : Fits (q - v)
   ·rw [if_pos e3] at c2 ⊢
    have m1 := J0 (p - u) q e2 hq
    have m2 := J0 (q - v) p e3 hp
    have k1 := F6 (p - u) q
    have k2 := F6 (q - v) p
    rw [show decide (p - u < q /\ q - v < p) = decide (Bq (p - u) q < 0 /\ Bq (q - v) p < 0) from decide_eq_decide.2 (by rw [k1, k2])]
    generalize Bq (p - u) q = x1 at *
    generalize Bq (q - v) p = x2 at *
    skip
    refine Fn0.of b0f a9r rfl rfl rfl ?_
    simp only [A1]
    repeat' (first|refine W ?_|refine Zc va ?_|refine Zc vb ?_|refine Zc vp ?_|refine Zc vq ?_|refine Zc cn ?_|refine Zc gA ?_|refine Zc gB ?_|refine Zc c1 ?_|refine Zc c2 ?_|refine Zc m1 ?_|refine Zc m2 ?_|(apply p0a A0 (by decide +kernel))|(apply p0e 7 A0 (by decide +kernel);simp only [td])|refine V ?_|(refine W2 ?_ ?_<;>intro hc))
    all_goals refine ⟨.inr rfl, [.b (decide (x1 < 0 /\ x2 < 0)), .i 0], .cons (p3l rfl (congrArg (fun q : Bool => AV.val (.bool q)) ?_)) (.cons (.tmp rfl) .nil), .tup (.cons (.one (.lf _)) (.cons (.one (.lf _)) .nil))⟩
    all_goals first
     | exact (decide_eq_false (fun h => by obtain ⟨h1, h2⟩ := h;omega)).symm
     | exact decide_eq_decide.2 ⟨fun h => ⟨by assumption, h⟩, fun h => h.2⟩
   ·rw [if_neg e3] at c2 ⊢
    skip
    refine Fn0.of b0f a9r rfl rfl rfl ?_
    simp only [A1]
    repeat' (first|refine W ?_|refine Zc va ?_|refine Zc vb ?_|refine Zc vp ?_|refine Zc vq ?_|refine Zc cn ?_|refine Zc gA ?_|refine Zc gB ?_|refine Zc c1 ?_|refine Zc c2 ?_|(apply p0a A0 (by decide +kernel))|(apply p0e 7 A0 (by decide +kernel);simp only [td])|refine V ?_|(refine W2 ?_ ?_<;>intro hc))
    all_goals exact D2 rfl rfl rfl
  ·rw [if_neg e2] at c1 ⊢
   skip
   refine Fn0.of b0f a9r rfl rfl rfl ?_
   simp only [A1]
   repeat' (first|refine W ?_|refine Zc va ?_|refine Zc vb ?_|refine Zc vp ?_|refine Zc vq ?_|refine Zc cn ?_|refine Zc gA ?_|refine Zc c1 ?_|(apply p0a A0 (by decide +kernel))|(apply p0e 7 A0 (by decide +kernel);simp only [td])|refine V ?_|(refine W2 ?_ ?_<;>intro hc))
   all_goals exact D2 rfl rfl rfl
 ·rw [decide_eq_false e1] at cn
  rw [if_neg e1]
  refine Fn0.of b0f a9r rfl rfl rfl ?_
  simp only [A1]
  repeat' (first|refine W ?_|refine Zc va ?_|refine Zc vb ?_|refine Zc vp ?_|refine Zc vq ?_|refine Zc cn ?_|(apply p0a A0 (by decide +kernel))|refine V ?_|(refine W2 ?_ ?_<;>intro hc))
  all_goals exact D2 rfl rfl rfl
def NoT (a b : SetR) (x y : List PcQ) (L : Rat) : Prop := ∀ t, 0 <= t -> t <= L -> atE x t 0 = 0 -> atE y t 0 = 0 -> ∃ e : Int, Ha a b (atQ x t) (atQ y t) = .tup [.b false, .i e]
theorem A8h {a b : SetR} {p q : Rat} (h : D0 a b -> ¬ (p - Ar a < q /\ q - Ar b < p)) : ∃ e : Int, Ha a b p q = .tup [.b false, .i e] := by
 unfold Ha
 split
 ·rename_i hn
  split
  ·split
   ·rw [decide_eq_false (h hn)]
    exact ⟨_, rfl⟩
   ·exact ⟨_, rfl⟩
  ·exact ⟨_, rfl⟩
 ·exact ⟨_, rfl⟩
theorem Aao {a b : SetR} {x y : List PcQ} {L : Rat} (h : D0 a b -> C3 a = 0 /\ C3 b = 0) : NoT a b x y L := fun t _ _ _ _ => A8h fun hn => by
 obtain ⟨h1, h2⟩ := h hn
 have e1 : Ar a = 0 := by unfold Ar;rw [h1];rfl
 have e2 : Ar b = 0 := by unfold Ar;rw [h2];rfl
 rw [e1, e2]
 rintro ⟨k1, k2⟩
 grind
theorem Yd {a b : SetR} {x y : List PcQ} {L : Rat} {l : List PcQ} (hd : Dst x y (Ar a) l \/ Dst y x (Ar b) l) (h : ∀ t, 0 <= t -> t <= L -> 0 <= vaX l t) : NoT a b x y L := fun t h0 h1 e1 e2 => A8h fun _ => by
 have hv := h t h0 h1
 rw [Wy e1, Wy e2]
 rcases hd with hd | hd
 ·rw [hd.val] at hv
  rintro ⟨k1, k2⟩
  grind
 ·rw [hd.val] at hv
  rintro ⟨k1, k2⟩
  grind
theorem A0t (a b : List PcQ) : (Ap a b).length <= a.length + b.length := by
 have h := A63 ((a ++ b).map (·.f)) []
 rw [a0a, a0q, a0o] at h
 rw [Ap, Iz]
 omega
theorem Aa1 {op : Rat -> Rat -> Rat} {a b : List PcQ} (h : a.length + b.length <= 200) : Fk op a b = 0 \/ Fk op a b = 5 := by
 have h2 := A0t a b
 unfold Fk
 rw [if_neg (by omega)]
 exact Aen _ _ _ _
theorem A6j {x y : List PcQ} {by_ : Rat} (h : x.length + y.length <= 200) : lwE x y by_ = 0 \/ lwE x y by_ = 5 := by
 unfold lwE
 split
 ·split
  ·exact .inl rfl
  ·exact .inr rfl
 ·rename_i hj
  exact .inr ((Aa1 h).resolve_left hj)
theorem Ael {ha hb : Rat} {x y : List PcQ} (h : x.length + y.length <= 200) : dsE ha hb x y = 0 \/ dsE ha hb x y = 5 := by
 unfold dsE
 split
 ·split
  ·split
   ·split
    ·split
     ·exact A6j h
     ·exact A6j (by omega)
    ·exact .inr rfl
   ·exact .inr rfl
  ·exact A4s _ _
 ·exact A4s _ _
theorem A61 (l : List PcQ) (fr te : Rat) : Ay l fr te = spE 12 \/ ∃ lo hi : Int, Ay l fr te = .tup [A2 [.i lo, .i hi], .i 0] := by
 unfold Ay
 cases e : Cs (A5 l fr) fr te (A5 l fr).length with
 | none => exact .inl rfl
 | some r =>
  refine .inr ?_
  obtain ⟨j, _, hst, _⟩ := J1 e
  have key : ∃ u v : Int, r = [.i u, .i v] := by
   unfold Bo at hst
   split at hst
   ·cases hst
   ·split at hst
    ·injection hst with hst;subst hst;unfold enQ;split <;> exact ⟨_, _, rfl⟩
    ·split at hst
     ·injection hst with hst;subst hst;unfold H1;split <;> exact ⟨_, _, rfl⟩
     ·cases hst
  obtain ⟨u, v, rfl⟩ := key
  exact ⟨u, v, rfl⟩
theorem A9h {a b : SetR} {x y : List PcQ} {te : Rat} (h : Two a b x y) (hn : x.length + y.length <= 200) (h0 : 0 <= te) (h1 : te <= 1099511627776) :
  Gi a b x y te = spE 5 \/ (Gi a b x y te = spE 12 /\ NoT a b x y te) \/ ∃ lo hi : Int, Gi a b x y te = .tup [A2 [.i lo, .i hi], .i 0] /\ 0 <= lo /\ mil lo <= te /\ NoT a b x y (mil (lo - 1)) := by
 unfold Gi
 by_cases hc : D0 a b /\ ¬ (C3 a = 0 /\ C3 b = 0)
 ·rw [if_pos hc]
  by_cases hd : dsE (Ar a) (Ar b) x y = 0
  ·rw [if_pos hd]
   have hD := A5x h.ox h.oy h.x0 h.y0 h.sx h.sy hd
   obtain ⟨_, hs, _, _⟩ := A5w h.ox h.oy h.x0 h.y0 h.sx h.sy hd
   have r1 : Cc 0 := ⟨by decide, by decide⟩
   have r2 : Cc te := ⟨a0v (by decide) h0, h1⟩
   rcases A61 (dsL (Ar a) (Ar b) x y) 0 te with hf | ⟨lo, hi, hf⟩
   ·exact .inr (.inl ⟨hf, Yd hD fun t k0 k1 => A3i hs hf k0 k1⟩)
   ·obtain ⟨g1, g2⟩ := Qr hf r1 r2
    have hm0 : Aq 0 = 0 := by decide +kernel
    rw [hm0] at g1
    refine .inr (.inr ⟨lo, hi, hf, g1, g2, Yd hD fun t k0 k1 => ?_⟩)
    have hle : t <= te := a0v k1 (a0v (Fq (by omega)) g2)
    exact Xm hs hf r1 r2 k0 hle k1
  ·rw [if_neg hd, (Ael hn).resolve_left hd]
   exact .inl rfl
 ·rw [if_neg hc]
  refine .inr (.inl ⟨rfl, Aao fun hn => ?_⟩)
  exact a1x.1 fun k => hc ⟨hn, k⟩
theorem mem_innN {l : List SetR} {k : Nat} {a : SetR} {x : ByteArray × ByteArray} : ∀ {m : Nat}, x ∈ Al l k a m ↔ ∃ j, j < m /\ ∃ b, l[k + 1 + j]? = some b /\ D0 a b /\ x = (a.name, b.name)
 | 0 => by simp [Al]
 | m + 1 => by
  rw [Al, a0t, mem_innN]
  constructor
  ·rintro (⟨j, h1, h2⟩ | h)
   ·exact ⟨j, by omega, h2⟩
   ·split at h
    ·rename_i b hb
     split at h
     ·rename_i hn
      exact ⟨m, by omega, b, hb, hn, a2n.1 h⟩
     ·cases h
    ·cases h
  ·rintro ⟨j, h1, b, hb, hn, hx⟩
   by_cases e : j = m
   ·subst e
    refine .inr ?_
    rw [hb]
    simp only [hn, if_true]
    exact a2n.2 hx
   ·exact .inl ⟨j, by omega, b, hb, hn, hx⟩
theorem mem_prsK {l : List SetR} {x : ByteArray × ByteArray} : ∀ {n : Nat}, x ∈ D7 l n ↔ ∃ k, k < n /\ ∃ a, l[k]? = some a /\ x ∈ Al l k a (l.length - (k + 1))
 | 0 => by simp [D7]
 | n + 1 => by
  rw [D7, a0t, mem_prsK]
  constructor
  ·rintro (⟨k, h1, h2⟩ | h)
   ·exact ⟨k, by omega, h2⟩
   ·split at h
    ·rename_i a ha
     exact ⟨n, by omega, a, ha, h⟩
    ·cases h
  ·rintro ⟨k, h1, a, ha, hx⟩
   by_cases e : k = n
   ·subst e
    refine .inr ?_
    rw [ha]
    exact hx
   ·exact .inl ⟨k, by omega, a, ha, hx⟩
theorem Aai {l : List SetR} (hn : (l.map SetR.name).Nodup) {i j : Nat} {x y : SetR} (hx : l[i]? = some x) (hy : l[j]? = some y) (e : x.name = y.name) : i = j := by
 rcases Nat.lt_trichotomy i j with h | h | h
 ·exact absurd e (Ye hn hx hy h)
 ·exact h
 ·exact absurd e.symm (Ye hn hy hx h)
end Go.Proofs.YtlapbaiejnaeiaaGreatDoor
