/- Contracts: collide's given, distance, First, Closest, Touch, of valid sets and paths. No conditions but those of each statement. -/
import Derived.Test.YtcbfnkgodiaiiaaGreatPa
import Derived.Test.YtcbfnkgodiaiiaaGreatOp
import Derived.Test.YtcbfnkgodiaiiaaGreatOs
set_option linter.unusedSimpArgs false
set_option linter.unusedVariables false
namespace Go.Proofs.YtcbfnkgodiaiiaaGreat
open Go Go.RowKit
structure Two (a b : SetR) (x y : List PcQ) : Prop where
 pa : De a
 pb : De b
 fa : a.fits
 fb : b.fits
 ox : okC x
 oy : okC y
 x0 : x ≠ []
 y0 : y ≠ []
 sx : Ah x
 sy : Ah y
 nx : x.length <= 200
 ny : y.length <= 200
def A2m (x : List PcQ) : Prop := Fn0 Tryz.prog 95 [.sl (x.map PcQ.row)] (.b true)
theorem Two.vx {a b : SetR} {x y : List PcQ} (h : Two a b x y) : A2m x := Jj x h.ox h.sx (List.length_pos_iff.2 h.x0) h.nx
theorem Two.vy {a b : SetR} {x y : List PcQ} (h : Two a b x y) : A2m y := Jj y h.oy h.sy (List.length_pos_iff.2 h.y0) h.ny
theorem A70 : Fits (1099511627776 : Rat) := by decide +kernel
theorem Pa : Fits (0 : Rat) := by decide +kernel
set_option maxHeartbeats 8000000 in
theorem A43 (a b : SetR) (x y : List PcQ) (h : Two a b x y) (te : Rat) (ht : Fits te) (h0 : 0 <= te) (h1 : te <= 1099511627776) :
  Fn0 Tryz.prog 52 [A1 a.row, A1 b.row, .sl (x.map PcQ.row), .sl (y.map PcQ.row), A1 (frR te)] (.i 0) := by
 have va := Fz a h.fa
 have vb := Fz b h.fb
 rw [decide_eq_true h.pa] at va
 rw [decide_eq_true h.pb] at vb
 have vx := h.vx
 have vy := h.vy
 unfold A2m at vx vy
 have vt : Fn0 Tryz.prog 73 [A1 (frR te)] (.b true) := by
  have := Gr te.num te.den
  rwa [ht.valid] at this
 have cm := P3 te 1099511627776 ht A70
 change Fn0 _ _ [_, A1 [.i 1099511627776, .i 1]] _ at cm
 have k0 : ¬ 0 < C2 te 1099511627776 := fun h => Rat.not_lt.2 h1 ((Ps _ _).1 h)
 have k1 : ¬ te.num < 0 := by have := Rat.num_nonneg.2 h0;omega
 generalize C2 te 1099511627776 = c at cm k0
 refine Fn0.of Tryz.func52 Tryz.ntmps52 rfl rfl rfl ?_
 simp only [A2]
 repeat' (first | refine W ?_|refine Zc va ?_|refine Zc vb ?_|refine Zc vx ?_|refine Zc vy ?_|refine Zc vt ?_|refine Zc cm ?_|(apply S.buildN;exact rfl;exact rfl;exact rfl)|(apply T.drawAll A0 (by decide +kernel)) | refine V ?_|(refine W2 ?_ ?_ <;> intro hc))
 all_goals exact A5 (by simp) Tryz.results52 rfl rfl
theorem Vl (l : List PcQ) (fr te : Rat) : ∃ u v e : Int, B9 l fr te = .tup [A1 [.i u, .i v], .i e] := by
 unfold B9
 cases e : Bc (A4 l fr) fr te (A4 l fr).length with
 | none => exact ⟨0, 0, 12, rfl⟩
 | some r =>
  obtain ⟨j, _, hst, _⟩ := Pd e
  have key : ∃ u v : Int, r = [.i u, .i v] := by
   unfold B5 at hst
   split at hst
   ·cases hst
   ·split at hst
    ·injection hst with hst;subst hst;unfold enQ;split <;> exact ⟨_, _, rfl⟩
    ·split at hst
     ·injection hst with hst;subst hst;unfold H6;split <;> exact ⟨_, _, rfl⟩
     ·cases hst
  obtain ⟨u, v, rfl⟩ := key
  exact ⟨u, v, 0, rfl⟩
theorem Oq : A1 (frR 0) = A1 [.i 0, .i 1] := rfl
set_option maxHeartbeats 16000000 in
theorem Xo (a b : SetR) (x y : List PcQ) (h : Two a b x y) :
  Fn0 Tryz.prog 55 [A1 a.row, A1 b.row, .sl (x.map PcQ.row), .sl (y.map PcQ.row)] (.tup [.sl ((dsL (Aw a) (Aw b) x y).map PcQ.row), .i (dsE (Aw a) (Aw b) x y)]) := by
 have cu := A5m x 0 h.ox h.x0 (by have := h.nx;omega) Pa h.vx
 have cv := A5m y 0 h.oy h.y0 (by have := h.ny;omega) Pa h.vy
 rw [Oq] at cu cv
 have gA := N4 a h.fa.2.1
 have gB := N4 b h.fb.2.1
 rw [<- A6v] at gA gB
 have fA := To h.pa
 have fB := To h.pb
 have fu := X2 (t := 0) h.ox h.x0
 have fv := X2 (t := 0) h.oy h.y0
 have lA := Qp x y (Aw a) h.ox h.oy h.x0 h.y0 h.nx h.ny fA h.vx h.vy
 have lB := Qp y x (Aw b) h.oy h.ox h.y0 h.x0 h.ny h.nx fB h.vy h.vx
 unfold dsL dsE
 generalize Aw a = ha at *
 generalize Aw b = hb at *
 generalize lwL x y ha = LA at *
 generalize lwE x y ha = EA at *
 generalize lwL y x hb = LB at *
 generalize lwE y x hb = EB at *
 unfold Ud at cu cv
 by_cases e1 : atE x 0 0 = 0
 ·rw [if_pos e1] at cu
  by_cases e2 : atE y 0 0 = 0
  ·rw [if_pos e2] at cv
   have c1 := Gc (atQ x 0) (atQ y 0) fu fv
   generalize atQ x 0 = u at *
   generalize atQ y 0 = v at *
   unfold Dt at c1
   by_cases e3 : Fits (u - v)
   ·rw [if_pos e3] at c1
    have c2 := Gc (u - v) ha e3 fA
    unfold Dt at c2
    by_cases e4 : Fits (u - v - ha)
    ·rw [if_pos e4] at c2
     simp only [e1, e2, e3, e4, if_true]
     generalize u - v = w at *
     by_cases e5 : 0 <= w - ha
     ·have e6 : (w - ha).num >= 0 := Rat.num_nonneg.2 e5
      generalize w - ha = z at *
      simp only [e5, if_true]
      skip
      refine Fn0.of Tryz.func55 Tryz.ntmps55 rfl rfl rfl ?_
      simp only [A2]
      repeat' (first | refine W ?_|refine Zc cu ?_|refine Zc cv ?_|refine Zc gA ?_|refine Zc c1 ?_|refine Zc c2 ?_|refine Zc lA ?_|(apply S.buildN;exact rfl;exact rfl;exact rfl)|(apply T.drawAll A0 (by decide +kernel))|(apply T.draw 7 A0 (by decide +kernel);simp only [td]) | refine V ?_|(refine W2 ?_ ?_ <;> intro hc))
      all_goals exact D2 rfl rfl rfl
     ·have e6 : ¬ (w - ha).num >= 0 := fun k => e5 (Rat.num_nonneg.1 k)
      generalize w - ha = z at *
      simp only [e5, if_false]
      skip
      refine Fn0.of Tryz.func55 Tryz.ntmps55 rfl rfl rfl ?_
      simp only [A2]
      repeat' (first | refine W ?_|refine Zc cu ?_|refine Zc cv ?_|refine Zc gA ?_|refine Zc gB ?_|refine Zc c1 ?_|refine Zc c2 ?_|refine Zc lB ?_|(apply S.buildN;exact rfl;exact rfl;exact rfl)|(apply T.drawAll A0 (by decide +kernel))|(apply T.draw 7 A0 (by decide +kernel);simp only [td]) | refine V ?_|(refine W2 ?_ ?_ <;> intro hc))
      all_goals exact D2 rfl rfl rfl
    ·rw [if_neg e4] at c2
     simp only [e1, e2, e3, e4, if_true, if_false]
     skip
     refine Fn0.of Tryz.func55 Tryz.ntmps55 rfl rfl rfl ?_
     simp only [A2]
     repeat' (first | refine W ?_|refine Zc cu ?_|refine Zc cv ?_|refine Zc gA ?_|refine Zc c1 ?_|refine Zc c2 ?_|(apply S.buildN;exact rfl;exact rfl;exact rfl)|(apply T.drawAll A0 (by decide +kernel))|(apply T.draw 7 A0 (by decide +kernel);simp only [td])|(refine T.nilU 8 rfl ?_;apply T.ret;change C7 _ _ _ _ _) | refine V ?_|(refine W2 ?_ ?_ <;> intro hc))
     all_goals exact D2 rfl rfl rfl
   ·rw [if_neg e3] at c1
    simp only [e1, e2, e3, if_true, if_false]
    skip
    refine Fn0.of Tryz.func55 Tryz.ntmps55 rfl rfl rfl ?_
    simp only [A2]
    repeat' (first | refine W ?_|refine Zc cu ?_|refine Zc cv ?_|refine Zc c1 ?_|(apply S.buildN;exact rfl;exact rfl;exact rfl)|(apply T.drawAll A0 (by decide +kernel))|(refine T.nilU 8 rfl ?_;apply T.ret;change C7 _ _ _ _ _) | refine V ?_|(refine W2 ?_ ?_ <;> intro hc))
    all_goals exact D2 rfl rfl rfl
  ·rw [if_neg e2] at cv
   simp only [e1, e2, if_true, if_false]
   generalize atE y 0 0 = e at *
   skip
   refine Fn0.of Tryz.func55 Tryz.ntmps55 rfl rfl rfl ?_
   simp only [A2]
   repeat' (first | refine W ?_|refine Zc cu ?_|refine Zc cv ?_|(apply S.buildN;exact rfl;exact rfl;exact rfl)|(apply T.drawAll A0 (by decide +kernel))|(refine T.nilU 8 rfl ?_;apply T.ret;change C7 _ _ _ _ _) | refine V ?_|(refine W2 ?_ ?_ <;> intro hc))
   all_goals exact D2 rfl rfl rfl
 ·rw [if_neg e1] at cu
  simp only [e1, if_false]
  generalize atE x 0 0 = e at *
  skip
  refine Fn0.of Tryz.func55 Tryz.ntmps55 rfl rfl rfl ?_
  simp only [A2]
  repeat' (first | refine W ?_|refine Zc cu ?_|(apply S.buildN;exact rfl;exact rfl;exact rfl)|(apply T.drawAll A0 (by decide +kernel))|(refine T.nilU 8 rfl ?_;apply T.ret;change C7 _ _ _ _ _) | refine V ?_|(refine W2 ?_ ?_ <;> intro hc))
  all_goals exact D2 rfl rfl rfl
set_option maxHeartbeats 16000000 in
theorem A5k (a b : SetR) (x y : List PcQ) (h : Two a b x y) (te : Rat) (ht : Fits te) (h0 : 0 <= te) (h1 : te <= 1099511627776) :
  Fn0 Tryz.prog 25 [A1 a.row, A1 b.row, .sl (x.map PcQ.row), .sl (y.map PcQ.row), A1 (frR te)] (Ee a b x y te) := by
 have cg := A43 a b x y h te ht h0 h1
 have cn := N5 a b h.pa h.pb h.fa h.fb
 have gA := N4 a h.fa.2.1
 have gB := N4 b h.fb.2.1
 have cd := Xo a b x y h
 unfold Ee
 by_cases e1 : Da a b
 ·rw [decide_eq_true e1] at cn
  by_cases e2 : Bv a = 0 /\ Bv b = 0
  ·obtain ⟨e2, e3⟩ := e2
   have hc : ¬ (Da a b /\ ¬ (Bv a = 0 /\ Bv b = 0)) := fun k => k.2 ⟨e2, e3⟩
   rw [if_neg hc]
   rw [e2] at gA
   rw [e3] at gB
   refine Fn0.of Tryz.func25 Tryz.ntmps25 rfl rfl rfl ?_
   simp only [A2]
   repeat' (first | refine W ?_|refine Zc cg ?_|refine Zc cn ?_|refine Zc gA ?_|refine Zc gB ?_|(apply S.field (i := 0) (f := ⟨"Num", 3, 0, false, "", "", 0⟩) Tryz.underlying58 rfl Tryz.underlying3 rfl;exact rfl;exact rfl;exact rfl)|(apply S.buildN;exact rfl;exact rfl;exact rfl)|(apply T.drawAll A0 (by decide +kernel)) | refine V ?_|(refine W2 ?_ ?_ <;> intro hc))
   all_goals exact ⟨.inr rfl, [A1 [.i 0, .i 0], .i 12], .cons (Res.row [.i 0, .i 0] rfl rfl rfl rfl rfl) (.cons (.tmp rfl) .nil), .tup (.cons (.agg (A7 [.i 0, .i 0])) (.cons (.one (.lf _)) .nil))⟩
  ·have hc : Da a b /\ ¬ (Bv a = 0 /\ Bv b = 0) := ⟨e1, e2⟩
   rw [if_pos hc]
   by_cases e3 : dsE (Aw a) (Aw b) x y = 0
   ·rw [if_pos e3]
    rw [e3] at cd
    obtain ⟨d1, d2, d3, d4⟩ := Ad4 h.ox h.oy h.x0 h.y0 h.sx h.sy e3
    generalize dsL (Aw a) (Aw b) x y = l at *
    have cf := A3y l 0 te d1 d3 d4 Pa ht (Jj l d1 d2 (List.length_pos_iff.2 d3) d4) h0 ⟨by decide, by decide⟩ ⟨Rat.le_trans (by decide) h0, h1⟩
    rw [Oq] at cf
    obtain ⟨u1, u2, u3, hu⟩ := Vl l 0 te
    rw [hu] at cf ⊢
    by_cases e4 : Bv a = 0
    ·have e5 : ¬ Bv b = 0 := fun k => e2 ⟨e4, k⟩
     refine Fn0.of Tryz.func25 Tryz.ntmps25 rfl rfl rfl ?_
     simp only [A2]
     repeat' (first | refine W ?_|refine Zc cg ?_|refine Zc cn ?_|refine Zc gA ?_|refine Zc gB ?_|refine Zc cd ?_|refine Zc cf ?_|(apply S.field (i := 0) (f := ⟨"Num", 3, 0, false, "", "", 0⟩) Tryz.underlying58 rfl Tryz.underlying3 rfl;exact rfl;exact rfl;exact rfl)|(apply S.buildN;exact rfl;exact rfl;exact rfl)|(apply T.drawAll A0 (by decide +kernel)) | refine V ?_|(refine W2 ?_ ?_ <;> intro hc))
     all_goals exact ⟨.inr rfl, [A1 [.i u1, .i u2], .i u3], .cons (Res.row [.i u1, .i u2] rfl rfl rfl rfl rfl) (.cons (.tmp rfl) .nil), .tup (.cons (.agg (A7 [.i u1, .i u2])) (.cons (.one (.lf _)) .nil))⟩
    ·skip
     refine Fn0.of Tryz.func25 Tryz.ntmps25 rfl rfl rfl ?_
     simp only [A2]
     repeat' (first | refine W ?_|refine Zc cg ?_|refine Zc cn ?_|refine Zc gA ?_|refine Zc gB ?_|refine Zc cd ?_|refine Zc cf ?_|(apply S.field (i := 0) (f := ⟨"Num", 3, 0, false, "", "", 0⟩) Tryz.underlying58 rfl Tryz.underlying3 rfl;exact rfl;exact rfl;exact rfl)|(apply S.buildN;exact rfl;exact rfl;exact rfl)|(apply T.drawAll A0 (by decide +kernel)) | refine V ?_|(refine W2 ?_ ?_ <;> intro hc))
     all_goals exact ⟨.inr rfl, [A1 [.i u1, .i u2], .i u3], .cons (Res.row [.i u1, .i u2] rfl rfl rfl rfl rfl) (.cons (.tmp rfl) .nil), .tup (.cons (.agg (A7 [.i u1, .i u2])) (.cons (.one (.lf _)) .nil))⟩
   ·rw [if_neg e3]
    generalize dsL (Aw a) (Aw b) x y = l at *
    generalize dsE (Aw a) (Aw b) x y = e at *
    by_cases e4 : Bv a = 0
    ·have e5 : ¬ Bv b = 0 := fun k => e2 ⟨e4, k⟩
     refine Fn0.of Tryz.func25 Tryz.ntmps25 rfl rfl rfl ?_
     simp only [A2]
     repeat' (first | refine W ?_|refine Zc cg ?_|refine Zc cn ?_|refine Zc gA ?_|refine Zc gB ?_|refine Zc cd ?_|(apply S.field (i := 0) (f := ⟨"Num", 3, 0, false, "", "", 0⟩) Tryz.underlying58 rfl Tryz.underlying3 rfl;exact rfl;exact rfl;exact rfl)|(apply S.buildN;exact rfl;exact rfl;exact rfl)|(apply T.drawAll A0 (by decide +kernel)) | refine V ?_|(refine W2 ?_ ?_ <;> intro hc))
     all_goals exact ⟨.inr rfl, [A1 [.i 0, .i 0], .i e], .cons (Res.row [.i 0, .i 0] rfl rfl rfl rfl rfl) (.cons (.tmp rfl) .nil), .tup (.cons (.agg (A7 [.i 0, .i 0])) (.cons (.one (.lf _)) .nil))⟩
    ·skip
     refine Fn0.of Tryz.func25 Tryz.ntmps25 rfl rfl rfl ?_
     simp only [A2]
     repeat' (first | refine W ?_|refine Zc cg ?_|refine Zc cn ?_|refine Zc gA ?_|refine Zc gB ?_|refine Zc cd ?_|(apply S.field (i := 0) (f := ⟨"Num", 3, 0, false, "", "", 0⟩) Tryz.underlying58 rfl Tryz.underlying3 rfl;exact rfl;exact rfl;exact rfl)|(apply S.buildN;exact rfl;exact rfl;exact rfl)|(apply T.drawAll A0 (by decide +kernel)) | refine V ?_|(refine W2 ?_ ?_ <;> intro hc))
     all_goals exact ⟨.inr rfl, [A1 [.i 0, .i 0], .i e], .cons (Res.row [.i 0, .i 0] rfl rfl rfl rfl rfl) (.cons (.tmp rfl) .nil), .tup (.cons (.agg (A7 [.i 0, .i 0])) (.cons (.one (.lf _)) .nil))⟩
 ·have hc : ¬ (Da a b /\ ¬ (Bv a = 0 /\ Bv b = 0)) := fun k => e1 k.1
  rw [if_neg hc]
  rw [decide_eq_false e1] at cn
  refine Fn0.of Tryz.func25 Tryz.ntmps25 rfl rfl rfl ?_
  simp only [A2]
  repeat' (first | refine W ?_|refine Zc cg ?_|refine Zc cn ?_|refine Zc gA ?_|refine Zc gB ?_|(apply S.field (i := 0) (f := ⟨"Num", 3, 0, false, "", "", 0⟩) Tryz.underlying58 rfl Tryz.underlying3 rfl;exact rfl;exact rfl;exact rfl)|(apply S.buildN;exact rfl;exact rfl;exact rfl)|(apply T.drawAll A0 (by decide +kernel)) | refine V ?_|(refine W2 ?_ ?_ <;> intro hc))
  all_goals exact ⟨.inr rfl, [A1 [.i 0, .i 0], .i 12], .cons (Res.row [.i 0, .i 0] rfl rfl rfl rfl rfl) (.cons (.tmp rfl) .nil), .tup (.cons (.agg (A7 [.i 0, .i 0])) (.cons (.one (.lf _)) .nil))⟩
theorem Zv (a b : List PcQ) : (Af a b).length <= a.length + b.length := by
 have h := A4o ((a ++ b).map (·.f)) []
 rw [List.length_map, List.length_append, List.length_nil] at h
 rw [Af, J5]
 omega
theorem A9l {op : Rat -> Rat -> Rat} {a b : List PcQ} (h : a.length + b.length <= 200) : Eg op a b = 0 \/ Eg op a b = 5 := by
 have h2 := Zv a b
 unfold Eg
 rw [if_neg (by omega)]
 exact A5j _ _ _ _
theorem A4n {x y : List PcQ} {by_ : Rat} (h : x.length + y.length <= 200) : lwE x y by_ = 0 \/ lwE x y by_ = 5 := by
 unfold lwE
 split
 ·split
  ·exact .inl rfl
  ·exact .inr rfl
 ·rename_i hj
  exact .inr ((A9l h).resolve_left hj)
theorem Ach {ha hb : Rat} {x y : List PcQ} (h : x.length + y.length <= 200) : dsE ha hb x y = 0 \/ dsE ha hb x y = 5 := by
 unfold dsE
 split
 ·split
  ·split
   ·split
    ·split
     ·exact A4n h
     ·exact A4n (by omega)
    ·exact .inr rfl
   ·exact .inr rfl
  ·exact Ti _ _
 ·exact Ti _ _
theorem mem_innN {l : List SetR} {k : Nat} {a : SetR} {x : ByteArray × ByteArray} : ∀ {m : Nat}, x ∈ Ao l k a m ↔ ∃ j, j < m /\ ∃ b, l[k + 1 + j]? = some b /\ Da a b /\ x = (a.name, b.name)
 | 0 => by simp [Ao]
 | m + 1 => by
  rw [Ao, List.mem_append, mem_innN]
  constructor
  ·rintro (⟨j, h1, h2⟩ | h)
   ·exact ⟨j, by omega, h2⟩
   ·split at h
    ·rename_i b hb
     split at h
     ·rename_i hn
      exact ⟨m, by omega, b, hb, hn, List.mem_singleton.1 h⟩
     ·cases h
    ·cases h
  ·rintro ⟨j, h1, b, hb, hn, hx⟩
   by_cases e : j = m
   ·subst e
    refine .inr ?_
    rw [hb]
    simp only [hn, if_true]
    exact List.mem_singleton.2 hx
   ·exact .inl ⟨j, by omega, b, hb, hn, hx⟩
theorem mem_prsK {l : List SetR} {x : ByteArray × ByteArray} : ∀ {n : Nat}, x ∈ Cu l n ↔ ∃ k, k < n /\ ∃ a, l[k]? = some a /\ x ∈ Ao l k a (l.length - (k + 1))
 | 0 => by simp [Cu]
 | n + 1 => by
  rw [Cu, List.mem_append, mem_prsK]
  constructor
  ·rintro (⟨k, h1, h2⟩ | h)
   ·exact ⟨k, by omega, h2⟩
   ·split at h
    ·rename_i a ha
     exact ⟨n, by omega, a, ha, h⟩
    ·cases h
  ·rintro ⟨k, h1, a, ha, hx⟩
   by_cases e : k = n
   ·subst e
    refine .inr ?_
    rw [ha]
    exact hx
   ·exact .inl ⟨k, by omega, a, ha, hx⟩
theorem Aaa {l : List SetR} (hn : (l.map SetR.name).Nodup) {i j : Nat} {x y : SetR} (hx : l[i]? = some x) (hy : l[j]? = some y) (e : x.name = y.name) : i = j := by
 rcases Nat.lt_trichotomy i j with h | h | h
 ·exact absurd e (Xq hn hx hy h)
 ·exact h
 ·exact absurd e.symm (Xq hn hy hx h)
end Go.Proofs.YtcbfnkgodiaiiaaGreat
