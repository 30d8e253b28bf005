/- Contracts: collide's given, distance, First, Closest, Touch, of valid sets and paths. No conditions but those of each statement. -/
import Derived.Test.YtocoehahhohpgaaGreatPa
import Derived.Test.YtocoehahhohpgaaGreatOp
set_option linter.unusedSimpArgs false
set_option linter.unusedVariables false
namespace Go.Proofs.YtocoehahhohpgaaGreat
open Go Go.RowKit
structure Two (a b : SetR) (x y : List PcQ) : Prop where
 pa : Cz a
 pb : Cz b
 fa : a.fits
 fb : b.fits
 ox : okC x
 oy : okC y
 x0 : x ≠ []
 y0 : y ≠ []
 sx : Ah x
 sy : Ah y
 nx : x.length <= 200
 ny : y.length <= 200
def A1r (x : List PcQ) : Prop := Fn0 Tryz.prog 95 [.sl (x.map PcQ.row)] (.b true)
theorem Two.vx {a b : SetR} {x y : List PcQ} (h : Two a b x y) : A1r x := Hl x h.ox h.sx (List.length_pos_iff.2 h.x0) h.nx
theorem Two.vy {a b : SetR} {x y : List PcQ} (h : Two a b x y) : A1r y := Hl y h.oy h.sy (List.length_pos_iff.2 h.y0) h.ny
theorem A3d : Fits (1099511627776 : Rat) := by decide +kernel
theorem Ol : Fits (0 : Rat) := by decide +kernel
set_option maxHeartbeats 8000000 in
theorem A64 (a b : SetR) (x y : List PcQ) (h : Two a b x y) (te : Rat) (ht : Fits te) (h0 : 0 <= te) (h1 : te <= 1099511627776) :
  Fn0 Tryz.prog 76 [A1 a.row, A1 b.row, .sl (x.map PcQ.row), .sl (y.map PcQ.row), A1 (frR te)] (.i 0) := by
 have va := Dt a h.fa
 have vb := Dt b h.fb
 rw [decide_eq_true h.pa] at va
 rw [decide_eq_true h.pb] at vb
 have vx := h.vx
 have vy := h.vy
 unfold A1r at vx vy
 have vt : Fn0 Tryz.prog 49 [A1 (frR te)] (.b true) := by
  have := E5 te.num te.den
  rwa [ht.valid] at this
 have cm := Is te 1099511627776 ht A3d
 change Fn0 _ _ [_, A1 [.i 1099511627776, .i 1]] _ at cm
 have k0 : ¬ 0 < Bm te 1099511627776 := fun h => Rat.not_lt.2 h1 ((Pn _ _).1 h)
 have k1 : ¬ te.num < 0 := by have := Rat.num_nonneg.2 h0;omega
 generalize Bm te 1099511627776 = c at cm k0
 refine Fn0.of Tryz.func76 Tryz.ntmps76 rfl rfl rfl ?_
 simp only [A2]
 repeat' (first | refine W ?_|refine Zc va ?_|refine Zc vb ?_|refine Zc vx ?_|refine Zc vy ?_|refine Zc vt ?_|refine Zc cm ?_|(apply S.buildN;exact rfl;exact rfl;exact rfl)|(apply T.drawAll A0 (by decide +kernel)) | refine V ?_|(refine W2 ?_ ?_ <;> intro hc))
 all_goals exact A5 (by simp) Tryz.results76 rfl rfl
theorem Um (l : List PcQ) (fr te : Rat) : ∃ u v e : Int, Au l fr te = .tup [A1 [.i u, .i v], .i e] := by
 unfold Au
 cases e : Cm (A4 l fr) fr te (A4 l fr).length with
 | none => exact ⟨0, 0, 12, rfl⟩
 | some r =>
  obtain ⟨j, _, hst, _⟩ := Gz e
  have key : ∃ u v : Int, r = [.i u, .i v] := by
   unfold Bf at hst
   split at hst
   ·cases hst
   ·split at hst
    ·injection hst with hst;subst hst;unfold enQ;split <;> exact ⟨_, _, rfl⟩
    ·split at hst
     ·injection hst with hst;subst hst;unfold Fv;split <;> exact ⟨_, _, rfl⟩
     ·cases hst
  obtain ⟨u, v, rfl⟩ := key
  exact ⟨u, v, 0, rfl⟩
theorem Oo : A1 (frR 0) = A1 [.i 0, .i 1] := rfl
set_option maxHeartbeats 16000000 in
theorem X0 (a b : SetR) (x y : List PcQ) (h : Two a b x y) :
  Fn0 Tryz.prog 77 [A1 a.row, A1 b.row, .sl (x.map PcQ.row), .sl (y.map PcQ.row)] (.tup [.sl ((dsL (Ap a) (Ap b) x y).map PcQ.row), .i (dsE (Ap a) (Ap b) x y)]) := by
 have cu := Wx x 0 h.ox h.x0 (by have := h.nx;omega) Ol h.vx
 have cv := Wx y 0 h.oy h.y0 (by have := h.ny;omega) Ol h.vy
 rw [Oo] at cu cv
 have gA := Hy a h.fa.2.1
 have gB := Hy b h.fb.2.1
 rw [<- Ud] at gA gB
 have fA := J6 h.pa
 have fB := J6 h.pb
 have fu := Mz (t := 0) h.ox h.x0
 have fv := Mz (t := 0) h.oy h.y0
 have lA := Qh x y (Ap a) h.ox h.oy h.x0 h.y0 h.nx h.ny fA h.vx h.vy
 have lB := Qh y x (Ap b) h.oy h.ox h.y0 h.x0 h.ny h.nx fB h.vy h.vx
 unfold dsL dsE
 generalize Ap a = ha at *
 generalize Ap b = hb at *
 generalize lwL x y ha = LA at *
 generalize lwE x y ha = EA at *
 generalize lwL y x hb = LB at *
 generalize lwE y x hb = EB at *
 unfold My at cu cv
 by_cases e1 : atE x 0 0 = 0
 ·rw [if_pos e1] at cu
  by_cases e2 : atE y 0 0 = 0
  ·rw [if_pos e2] at cv
   have c1 := Dy (atQ x 0) (atQ y 0) fu fv
   generalize atQ x 0 = u at *
   generalize atQ y 0 = v at *
   unfold Db at c1
   by_cases e3 : Fits (u - v)
   ·rw [if_pos e3] at c1
    have c2 := Dy (u - v) ha e3 fA
    unfold Db at c2
    by_cases e4 : Fits (u - v - ha)
    ·rw [if_pos e4] at c2
     simp only [e1, e2, e3, e4, if_true]
     generalize u - v = w at *
     by_cases e5 : 0 <= w - ha
     ·have e6 : (w - ha).num >= 0 := Rat.num_nonneg.2 e5
      generalize w - ha = z at *
      simp only [e5, if_true]
      skip
      refine Fn0.of Tryz.func77 Tryz.ntmps77 rfl rfl rfl ?_
      simp only [A2]
      repeat' (first | refine W ?_|refine Zc cu ?_|refine Zc cv ?_|refine Zc gA ?_|refine Zc c1 ?_|refine Zc c2 ?_|refine Zc lA ?_|(apply S.buildN;exact rfl;exact rfl;exact rfl)|(apply T.drawAll A0 (by decide +kernel))|(apply T.draw 7 A0 (by decide +kernel);simp only [td]) | refine V ?_|(refine W2 ?_ ?_ <;> intro hc))
      all_goals exact D2 rfl rfl rfl
     ·have e6 : ¬ (w - ha).num >= 0 := fun k => e5 (Rat.num_nonneg.1 k)
      generalize w - ha = z at *
      simp only [e5, if_false]
      skip
      refine Fn0.of Tryz.func77 Tryz.ntmps77 rfl rfl rfl ?_
      simp only [A2]
      repeat' (first | refine W ?_|refine Zc cu ?_|refine Zc cv ?_|refine Zc gA ?_|refine Zc gB ?_|refine Zc c1 ?_|refine Zc c2 ?_|refine Zc lB ?_|(apply S.buildN;exact rfl;exact rfl;exact rfl)|(apply T.drawAll A0 (by decide +kernel))|(apply T.draw 7 A0 (by decide +kernel);simp only [td]) | refine V ?_|(refine W2 ?_ ?_ <;> intro hc))
      all_goals exact D2 rfl rfl rfl
    ·rw [if_neg e4] at c2
     simp only [e1, e2, e3, e4, if_true, if_false]
     skip
     refine Fn0.of Tryz.func77 Tryz.ntmps77 rfl rfl rfl ?_
     simp only [A2]
     repeat' (first | refine W ?_|refine Zc cu ?_|refine Zc cv ?_|refine Zc gA ?_|refine Zc c1 ?_|refine Zc c2 ?_|(apply S.buildN;exact rfl;exact rfl;exact rfl)|(apply T.drawAll A0 (by decide +kernel))|(apply T.draw 7 A0 (by decide +kernel);simp only [td])|(refine T.nilU 8 rfl ?_;apply T.ret;change Bv _ _ _ _ _) | refine V ?_|(refine W2 ?_ ?_ <;> intro hc))
     all_goals exact D2 rfl rfl rfl
   ·rw [if_neg e3] at c1
    simp only [e1, e2, e3, if_true, if_false]
    skip
    refine Fn0.of Tryz.func77 Tryz.ntmps77 rfl rfl rfl ?_
    simp only [A2]
    repeat' (first | refine W ?_|refine Zc cu ?_|refine Zc cv ?_|refine Zc c1 ?_|(apply S.buildN;exact rfl;exact rfl;exact rfl)|(apply T.drawAll A0 (by decide +kernel))|(refine T.nilU 8 rfl ?_;apply T.ret;change Bv _ _ _ _ _) | refine V ?_|(refine W2 ?_ ?_ <;> intro hc))
    all_goals exact D2 rfl rfl rfl
  ·rw [if_neg e2] at cv
   simp only [e1, e2, if_true, if_false]
   generalize atE y 0 0 = e at *
   skip
   refine Fn0.of Tryz.func77 Tryz.ntmps77 rfl rfl rfl ?_
   simp only [A2]
   repeat' (first | refine W ?_|refine Zc cu ?_|refine Zc cv ?_|(apply S.buildN;exact rfl;exact rfl;exact rfl)|(apply T.drawAll A0 (by decide +kernel))|(refine T.nilU 8 rfl ?_;apply T.ret;change Bv _ _ _ _ _) | refine V ?_|(refine W2 ?_ ?_ <;> intro hc))
   all_goals exact D2 rfl rfl rfl
 ·rw [if_neg e1] at cu
  simp only [e1, if_false]
  generalize atE x 0 0 = e at *
  skip
  refine Fn0.of Tryz.func77 Tryz.ntmps77 rfl rfl rfl ?_
  simp only [A2]
  repeat' (first | refine W ?_|refine Zc cu ?_|(apply S.buildN;exact rfl;exact rfl;exact rfl)|(apply T.drawAll A0 (by decide +kernel))|(refine T.nilU 8 rfl ?_;apply T.ret;change Bv _ _ _ _ _) | refine V ?_|(refine W2 ?_ ?_ <;> intro hc))
  all_goals exact D2 rfl rfl rfl
set_option maxHeartbeats 16000000 in
theorem A57 (a b : SetR) (x y : List PcQ) (h : Two a b x y) (te : Rat) (ht : Fits te) (h0 : 0 <= te) (h1 : te <= 1099511627776) :
  Fn0 Tryz.prog 38 [A1 a.row, A1 b.row, .sl (x.map PcQ.row), .sl (y.map PcQ.row), A1 (frR te)] (Ed a b x y te) := by
 have cg := A64 a b x y h te ht h0 h1
 have cn := J9 a b h.pa h.pb h.fa h.fb
 have gA := Hy a h.fa.2.1
 have gB := Hy b h.fb.2.1
 have cd := X0 a b x y h
 unfold Ed
 by_cases e1 : Cv a b
 ·rw [decide_eq_true e1] at cn
  by_cases e2 : C4 a = 0 /\ C4 b = 0
  ·obtain ⟨e2, e3⟩ := e2
   have hc : ¬ (Cv a b /\ ¬ (C4 a = 0 /\ C4 b = 0)) := fun k => k.2 ⟨e2, e3⟩
   rw [if_neg hc]
   rw [e2] at gA
   rw [e3] at gB
   refine Fn0.of Tryz.func38 Tryz.ntmps38 rfl rfl rfl ?_
   simp only [A2]
   repeat' (first | refine W ?_|refine Zc cg ?_|refine Zc cn ?_|refine Zc gA ?_|refine Zc gB ?_|(apply S.field (i := 0) (f := ⟨"Num", 3, 0, false, "", "", 0⟩) Tryz.underlying65 rfl Tryz.underlying3 rfl;exact rfl;exact rfl;exact rfl)|(apply S.buildN;exact rfl;exact rfl;exact rfl)|(apply T.drawAll A0 (by decide +kernel)) | refine V ?_|(refine W2 ?_ ?_ <;> intro hc))
   all_goals exact ⟨.inr rfl, [A1 [.i 0, .i 0], .i 12], .cons (Res.row [.i 0, .i 0] rfl rfl rfl rfl rfl) (.cons (.tmp rfl) .nil), .tup (.cons (.agg (A6 [.i 0, .i 0])) (.cons (.one (.lf _)) .nil))⟩
  ·have hc : Cv a b /\ ¬ (C4 a = 0 /\ C4 b = 0) := ⟨e1, e2⟩
   rw [if_pos hc]
   by_cases e3 : dsE (Ap a) (Ap b) x y = 0
   ·rw [if_pos e3]
    rw [e3] at cd
    obtain ⟨d1, d2, d3, d4⟩ := A6k h.ox h.oy h.x0 h.y0 h.sx h.sy e3
    generalize dsL (Ap a) (Ap b) x y = l at *
    have cf := A61 l 0 te d1 d3 d4 Ol ht (Hl l d1 d2 (List.length_pos_iff.2 d3) d4) h0 ⟨by decide, by decide⟩ ⟨Rat.le_trans (by decide) h0, h1⟩
    rw [Oo] at cf
    obtain ⟨u1, u2, u3, hu⟩ := Um l 0 te
    rw [hu] at cf ⊢
    by_cases e4 : C4 a = 0
    ·have e5 : ¬ C4 b = 0 := fun k => e2 ⟨e4, k⟩
     refine Fn0.of Tryz.func38 Tryz.ntmps38 rfl rfl rfl ?_
     simp only [A2]
     repeat' (first | refine W ?_|refine Zc cg ?_|refine Zc cn ?_|refine Zc gA ?_|refine Zc gB ?_|refine Zc cd ?_|refine Zc cf ?_|(apply S.field (i := 0) (f := ⟨"Num", 3, 0, false, "", "", 0⟩) Tryz.underlying65 rfl Tryz.underlying3 rfl;exact rfl;exact rfl;exact rfl)|(apply S.buildN;exact rfl;exact rfl;exact rfl)|(apply T.drawAll A0 (by decide +kernel)) | refine V ?_|(refine W2 ?_ ?_ <;> intro hc))
     all_goals exact ⟨.inr rfl, [A1 [.i u1, .i u2], .i u3], .cons (Res.row [.i u1, .i u2] rfl rfl rfl rfl rfl) (.cons (.tmp rfl) .nil), .tup (.cons (.agg (A6 [.i u1, .i u2])) (.cons (.one (.lf _)) .nil))⟩
    ·skip
     refine Fn0.of Tryz.func38 Tryz.ntmps38 rfl rfl rfl ?_
     simp only [A2]
     repeat' (first | refine W ?_|refine Zc cg ?_|refine Zc cn ?_|refine Zc gA ?_|refine Zc gB ?_|refine Zc cd ?_|refine Zc cf ?_|(apply S.field (i := 0) (f := ⟨"Num", 3, 0, false, "", "", 0⟩) Tryz.underlying65 rfl Tryz.underlying3 rfl;exact rfl;exact rfl;exact rfl)|(apply S.buildN;exact rfl;exact rfl;exact rfl)|(apply T.drawAll A0 (by decide +kernel)) | refine V ?_|(refine W2 ?_ ?_ <;> intro hc))
     all_goals exact ⟨.inr rfl, [A1 [.i u1, .i u2], .i u3], .cons (Res.row [.i u1, .i u2] rfl rfl rfl rfl rfl) (.cons (.tmp rfl) .nil), .tup (.cons (.agg (A6 [.i u1, .i u2])) (.cons (.one (.lf _)) .nil))⟩
   ·rw [if_neg e3]
    generalize dsL (Ap a) (Ap b) x y = l at *
    generalize dsE (Ap a) (Ap b) x y = e at *
    by_cases e4 : C4 a = 0
    ·have e5 : ¬ C4 b = 0 := fun k => e2 ⟨e4, k⟩
     refine Fn0.of Tryz.func38 Tryz.ntmps38 rfl rfl rfl ?_
     simp only [A2]
     repeat' (first | refine W ?_|refine Zc cg ?_|refine Zc cn ?_|refine Zc gA ?_|refine Zc gB ?_|refine Zc cd ?_|(apply S.field (i := 0) (f := ⟨"Num", 3, 0, false, "", "", 0⟩) Tryz.underlying65 rfl Tryz.underlying3 rfl;exact rfl;exact rfl;exact rfl)|(apply S.buildN;exact rfl;exact rfl;exact rfl)|(apply T.drawAll A0 (by decide +kernel)) | refine V ?_|(refine W2 ?_ ?_ <;> intro hc))
     all_goals exact ⟨.inr rfl, [A1 [.i 0, .i 0], .i e], .cons (Res.row [.i 0, .i 0] rfl rfl rfl rfl rfl) (.cons (.tmp rfl) .nil), .tup (.cons (.agg (A6 [.i 0, .i 0])) (.cons (.one (.lf _)) .nil))⟩
    ·skip
     refine Fn0.of Tryz.func38 Tryz.ntmps38 rfl rfl rfl ?_
     simp only [A2]
     repeat' (first | refine W ?_|refine Zc cg ?_|refine Zc cn ?_|refine Zc gA ?_|refine Zc gB ?_|refine Zc cd ?_|(apply S.field (i := 0) (f := ⟨"Num", 3, 0, false, "", "", 0⟩) Tryz.underlying65 rfl Tryz.underlying3 rfl;exact rfl;exact rfl;exact rfl)|(apply S.buildN;exact rfl;exact rfl;exact rfl)|(apply T.drawAll A0 (by decide +kernel)) | refine V ?_|(refine W2 ?_ ?_ <;> intro hc))
     all_goals exact ⟨.inr rfl, [A1 [.i 0, .i 0], .i e], .cons (Res.row [.i 0, .i 0] rfl rfl rfl rfl rfl) (.cons (.tmp rfl) .nil), .tup (.cons (.agg (A6 [.i 0, .i 0])) (.cons (.one (.lf _)) .nil))⟩
 ·have hc : ¬ (Cv a b /\ ¬ (C4 a = 0 /\ C4 b = 0)) := fun k => e1 k.1
  rw [if_neg hc]
  rw [decide_eq_false e1] at cn
  refine Fn0.of Tryz.func38 Tryz.ntmps38 rfl rfl rfl ?_
  simp only [A2]
  repeat' (first | refine W ?_|refine Zc cg ?_|refine Zc cn ?_|refine Zc gA ?_|refine Zc gB ?_|(apply S.field (i := 0) (f := ⟨"Num", 3, 0, false, "", "", 0⟩) Tryz.underlying65 rfl Tryz.underlying3 rfl;exact rfl;exact rfl;exact rfl)|(apply S.buildN;exact rfl;exact rfl;exact rfl)|(apply T.drawAll A0 (by decide +kernel)) | refine V ?_|(refine W2 ?_ ?_ <;> intro hc))
  all_goals exact ⟨.inr rfl, [A1 [.i 0, .i 0], .i 12], .cons (Res.row [.i 0, .i 0] rfl rfl rfl rfl rfl) (.cons (.tmp rfl) .nil), .tup (.cons (.agg (A6 [.i 0, .i 0])) (.cons (.one (.lf _)) .nil))⟩
end Go.Proofs.YtocoehahhohpgaaGreat
