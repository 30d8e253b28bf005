/- Contracts: package ratio's operations on any fractions;the methods of sums: keep, add, sub, mul, result, value, slope. No conditions but those of each statement. -/
import Derived.Test.YtcbfnkgodiaiiaaGreatMp
import Derived.Test.YtcbfnkgodiaiiaaGreatNe
set_option linter.unusedSimpArgs false
set_option linter.unusedVariables false
namespace Go.Proofs.YtcbfnkgodiaiiaaGreat
open Go.RowKit
theorem Fits.zero : Fits 0 := by decide
theorem I1 (p q : Rat) (hp : Fits p) (hq : Fits q) : Fn0 Tryz.prog 179 [A1 (frR p), A1 (frR q)] (Dt (p + q)) := Yx p q hp hq
theorem Gc (p q : Rat) (hp : Fits p) (hq : Fits q) : Fn0 Tryz.prog 98 [A1 (frR p), A1 (frR q)] (Dt (p - q)) := A61 p q hp hq
theorem S7 (p q : Rat) (hp : Fits p) (hq : Fits q) : Fn0 Tryz.prog 112 [A1 (frR p), A1 (frR q)] (Dt (p * q)) := A7k p q hp hq
theorem Gr (n d : Int) : Fn0 Tryz.prog 73 [A1 [.i n, .i d]] (.b (El n d)) := Yy n d

/-! ### Operations that keep the first error -/
def kQ (r : Rat) : Rat := if Fits r then r else 0
def kE (r : Rat) (e : Int) : Int := if Fits r then e else if e = 0 then 5 else e
theorem Cp (r : Rat) : Fits (kQ r) := by
 unfold kQ
 split
 ·assumption
 ·exact Fits.zero
theorem Mm : Fn0 Tryz.prog 102 [] (A1 (frR 0)) := by
 refine Fn0.of Tryz.func102 Tryz.ntmps102 rfl rfl rfl ?_
 simp only [A2]
 repeat' (first | refine W ?_ | refine V ?_|(refine W2 ?_ ?_ <;> intro hc))
 exact ⟨.inr rfl, [A1 (frR 0)], .cons (Res.row (frR 0) rfl rfl rfl rfl rfl) .nil, .one (.agg (A7 (frR 0)))⟩
theorem Pb (n d e : Int) : FnW Tryz.prog 151 [.i e] [A1 [.i n, .i d], .i 0] [.i e] (A1 [.i n, .i d]) := by
 refine FnW.of Tryz.func151 Tryz.ntmps151 rfl rfl rfl ?_
 intro k o
 simp only [A2]
 repeat' (first | refine W ?_|(apply S.fieldH;exact rfl;exact rfl;exact rfl)|(apply S.nilCheckH;exact rfl;exact rfl;exact rfl)|(apply S.loadH;(iterate 5 exact rfl))|(apply S.storeH;(iterate 5 exact rfl))|(apply T.ret;change Ev _ _ _ _ _ _ _ _) | refine V ?_|(refine W2 ?_ ?_ <;> intro hc))
 exact Gb [A1 ([.i n, .i d])] (.inr rfl) (.cons (Res.row ([.i n, .i d]) rfl rfl rfl rfl rfl) .nil) rfl rfl rfl
theorem O3 (e : Int) : FnW Tryz.prog 151 [.i e] [A1 [.i 0, .i 0], .i 5] [.i (if e = 0 then 5 else e)] (A1 (frR 0)) := by
 by_cases he : e = 0
 ·rw [if_pos he]
  refine FnW.of Tryz.func151 Tryz.ntmps151 rfl rfl rfl ?_
  intro k o
  simp only [A2]
  repeat' (first | refine W ?_|(apply S.fieldH;exact rfl;exact rfl;exact rfl)|(apply S.nilCheckH;exact rfl;exact rfl;exact rfl)|(apply S.loadH;(iterate 5 exact rfl))|(apply S.storeH;(iterate 5 exact rfl))|(apply T.ret;change Ev _ _ _ _ _ _ _ _)|refine Zc Mm ?_ | refine V ?_|(refine W2 ?_ ?_ <;> intro hc))
  exact Gb [A1 (frR 0)] (.inr rfl) (.cons (Res.row (frR 0) rfl rfl rfl rfl rfl) .nil) rfl rfl rfl
 ·rw [if_neg he]
  refine FnW.of Tryz.func151 Tryz.ntmps151 rfl rfl rfl ?_
  intro k o
  simp only [A2]
  repeat' (first | refine W ?_|(apply S.fieldH;exact rfl;exact rfl;exact rfl)|(apply S.nilCheckH;exact rfl;exact rfl;exact rfl)|(apply S.loadH;(iterate 5 exact rfl))|(apply S.storeH;(iterate 5 exact rfl))|(apply T.ret;change Ev _ _ _ _ _ _ _ _)|refine Zc Mm ?_ | refine V ?_|(refine W2 ?_ ?_ <;> intro hc))
  exact Gb [A1 (frR 0)] (.inr rfl) (.cons (Res.row (frR 0) rfl rfl rfl rfl rfl) .nil) rfl rfl rfl
theorem Ua (p q : Rat) (e : Int) (hp : Fits p) (hq : Fits q) : FnW Tryz.prog 217 [.i e] [A1 (frR p), A1 (frR q)] [.i (kE (p + q) e)] (A1 (frR (kQ (p + q)))) := by
 have c := I1 p q hp hq
 unfold Dt at c
 unfold kE kQ
 by_cases hf : Fits (p + q)
 ·rw [if_pos hf] at c ⊢
  rw [if_pos hf]
  have k1 := Pb (p + q).num (p + q).den e
  refine FnW.of Tryz.func217 Tryz.ntmps217 rfl rfl rfl ?_
  intro k o
  simp only [A2]
  repeat' (first | refine W ?_|(apply S.fieldH;exact rfl;exact rfl;exact rfl)|(apply S.nilCheckH;exact rfl;exact rfl;exact rfl)|(apply S.loadH;(iterate 5 exact rfl))|(apply S.storeH;(iterate 5 exact rfl))|(apply T.ret;change Ev _ _ _ _ _ _ _ _)|refine Zc c ?_|(apply S.callW;(iterate 5 exact rfl);exact k1;exact rfl)|(apply S.callWD;(iterate 6 exact rfl);exact k1;exact rfl)|(apply T.draw 6 A0 (by decide +kernel);simp only [td])|(apply T.drawR 6 A0 (by decide +kernel);simp only [td]) | refine V ?_|(refine W2 ?_ ?_ <;> intro hc))
  exact Gb [A1 (frR (p + q))] (.inr rfl) (.cons (Res.row (frR (p + q)) rfl rfl rfl rfl rfl) .nil) rfl rfl rfl
 ·rw [if_neg hf] at c ⊢
  rw [if_neg hf]
  have k1 := O3 e
  refine FnW.of Tryz.func217 Tryz.ntmps217 rfl rfl rfl ?_
  intro k o
  simp only [A2]
  repeat' (first | refine W ?_|(apply S.fieldH;exact rfl;exact rfl;exact rfl)|(apply S.nilCheckH;exact rfl;exact rfl;exact rfl)|(apply S.loadH;(iterate 5 exact rfl))|(apply S.storeH;(iterate 5 exact rfl))|(apply T.ret;change Ev _ _ _ _ _ _ _ _)|refine Zc c ?_|(apply S.callW;(iterate 5 exact rfl);exact k1;exact rfl)|(apply S.callWD;(iterate 6 exact rfl);exact k1;exact rfl)|(apply T.draw 6 A0 (by decide +kernel);simp only [td])|(apply T.drawR 6 A0 (by decide +kernel);simp only [td]) | refine V ?_|(refine W2 ?_ ?_ <;> intro hc))
  exact Gb [A1 (frR 0)] (.inr rfl) (.cons (Res.row (frR 0) rfl rfl rfl rfl rfl) .nil) rfl rfl rfl
theorem Pm (p q : Rat) (e : Int) (hp : Fits p) (hq : Fits q) : FnW Tryz.prog 150 [.i e] [A1 (frR p), A1 (frR q)] [.i (kE (p - q) e)] (A1 (frR (kQ (p - q)))) := by
 have c := Gc p q hp hq
 unfold Dt at c
 unfold kE kQ
 by_cases hf : Fits (p - q)
 ·rw [if_pos hf] at c ⊢
  rw [if_pos hf]
  have k1 := Pb (p - q).num (p - q).den e
  refine FnW.of Tryz.func150 Tryz.ntmps150 rfl rfl rfl ?_
  intro k o
  simp only [A2]
  repeat' (first | refine W ?_|(apply S.fieldH;exact rfl;exact rfl;exact rfl)|(apply S.nilCheckH;exact rfl;exact rfl;exact rfl)|(apply S.loadH;(iterate 5 exact rfl))|(apply S.storeH;(iterate 5 exact rfl))|(apply T.ret;change Ev _ _ _ _ _ _ _ _)|refine Zc c ?_|(apply S.callW;(iterate 5 exact rfl);exact k1;exact rfl)|(apply S.callWD;(iterate 6 exact rfl);exact k1;exact rfl)|(apply T.draw 6 A0 (by decide +kernel);simp only [td])|(apply T.drawR 6 A0 (by decide +kernel);simp only [td]) | refine V ?_|(refine W2 ?_ ?_ <;> intro hc))
  exact Gb [A1 (frR (p - q))] (.inr rfl) (.cons (Res.row (frR (p - q)) rfl rfl rfl rfl rfl) .nil) rfl rfl rfl
 ·rw [if_neg hf] at c ⊢
  rw [if_neg hf]
  have k1 := O3 e
  refine FnW.of Tryz.func150 Tryz.ntmps150 rfl rfl rfl ?_
  intro k o
  simp only [A2]
  repeat' (first | refine W ?_|(apply S.fieldH;exact rfl;exact rfl;exact rfl)|(apply S.nilCheckH;exact rfl;exact rfl;exact rfl)|(apply S.loadH;(iterate 5 exact rfl))|(apply S.storeH;(iterate 5 exact rfl))|(apply T.ret;change Ev _ _ _ _ _ _ _ _)|refine Zc c ?_|(apply S.callW;(iterate 5 exact rfl);exact k1;exact rfl)|(apply S.callWD;(iterate 6 exact rfl);exact k1;exact rfl)|(apply T.draw 6 A0 (by decide +kernel);simp only [td])|(apply T.drawR 6 A0 (by decide +kernel);simp only [td]) | refine V ?_|(refine W2 ?_ ?_ <;> intro hc))
  exact Gb [A1 (frR 0)] (.inr rfl) (.cons (Res.row (frR 0) rfl rfl rfl rfl rfl) .nil) rfl rfl rfl
theorem Pk (p q : Rat) (e : Int) (hp : Fits p) (hq : Fits q) : FnW Tryz.prog 153 [.i e] [A1 (frR p), A1 (frR q)] [.i (kE (p * q) e)] (A1 (frR (kQ (p * q)))) := by
 have c := S7 p q hp hq
 unfold Dt at c
 unfold kE kQ
 by_cases hf : Fits (p * q)
 ·rw [if_pos hf] at c ⊢
  rw [if_pos hf]
  have k1 := Pb (p * q).num (p * q).den e
  refine FnW.of Tryz.func153 Tryz.ntmps153 rfl rfl rfl ?_
  intro k o
  simp only [A2]
  repeat' (first | refine W ?_|(apply S.fieldH;exact rfl;exact rfl;exact rfl)|(apply S.nilCheckH;exact rfl;exact rfl;exact rfl)|(apply S.loadH;(iterate 5 exact rfl))|(apply S.storeH;(iterate 5 exact rfl))|(apply T.ret;change Ev _ _ _ _ _ _ _ _)|refine Zc c ?_|(apply S.callW;(iterate 5 exact rfl);exact k1;exact rfl)|(apply S.callWD;(iterate 6 exact rfl);exact k1;exact rfl)|(apply T.draw 6 A0 (by decide +kernel);simp only [td])|(apply T.drawR 6 A0 (by decide +kernel);simp only [td]) | refine V ?_|(refine W2 ?_ ?_ <;> intro hc))
  exact Gb [A1 (frR (p * q))] (.inr rfl) (.cons (Res.row (frR (p * q)) rfl rfl rfl rfl rfl) .nil) rfl rfl rfl
 ·rw [if_neg hf] at c ⊢
  rw [if_neg hf]
  have k1 := O3 e
  refine FnW.of Tryz.func153 Tryz.ntmps153 rfl rfl rfl ?_
  intro k o
  simp only [A2]
  repeat' (first | refine W ?_|(apply S.fieldH;exact rfl;exact rfl;exact rfl)|(apply S.nilCheckH;exact rfl;exact rfl;exact rfl)|(apply S.loadH;(iterate 5 exact rfl))|(apply S.storeH;(iterate 5 exact rfl))|(apply T.ret;change Ev _ _ _ _ _ _ _ _)|refine Zc c ?_|(apply S.callW;(iterate 5 exact rfl);exact k1;exact rfl)|(apply S.callWD;(iterate 6 exact rfl);exact k1;exact rfl)|(apply T.draw 6 A0 (by decide +kernel);simp only [td])|(apply T.drawR 6 A0 (by decide +kernel);simp only [td]) | refine V ?_|(refine W2 ?_ ?_ <;> intro hc))
  exact Gb [A1 (frR 0)] (.inr rfl) (.cons (Res.row (frR 0) rfl rfl rfl rfl rfl) .nil) rfl rfl rfl
theorem A2p (n d e : Int) : Fn0 Tryz.prog 154 [.rop [.i e], A1 [.i n, .i d]] (if e = 0 then .tup [A1 [.i n, .i d], .i 0] else .tup [A1 [.i 0, .i 0], .i e]) := by
 by_cases he : e = 0
 ·rw [if_pos he]
  refine Fn0.of Tryz.func154 Tryz.ntmps154 rfl rfl rfl ?_
  simp only [A2]
  repeat' (first | refine W ?_ | refine V ?_|(refine W2 ?_ ?_ <;> intro hc))
  exact ⟨.inr rfl, [A1 [.i n, .i d], .i 0], .cons (Res.row [.i n, .i d] rfl rfl rfl rfl rfl) (.cons (.tmp rfl) .nil), .tup (.cons (.agg (A7 [.i n, .i d])) (.cons (.one (.lf _)) .nil))⟩
 ·rw [if_neg he]
  refine Fn0.of Tryz.func154 Tryz.ntmps154 rfl rfl rfl ?_
  simp only [A2]
  repeat' (first | refine W ?_|(apply T.orders A0)|(apply Ords.nil;decide +kernel)|(apply Ords.one (i := 0);decide +kernel;exact rfl)|(apply Ords.one (i := 1);decide +kernel;exact rfl)|(apply Ords.one (i := 2);decide +kernel;exact rfl)|(apply Ords.one (i := 3);decide +kernel;exact rfl)|(apply Ords.one (i := 4);decide +kernel;exact rfl)|(apply Ords.one (i := 5);decide +kernel;exact rfl)|(apply Ords.one (i := 6);decide +kernel;exact rfl)|(apply Ords.one (i := 7);decide +kernel;exact rfl)|(apply Ords.one (i := 8);decide +kernel;exact rfl)|(apply Ords.one (i := 9);decide +kernel;exact rfl)|(apply Ords.two (i := 0) (j := 1);decide +kernel;exact rfl;exact rfl)|(apply Ords.two (i := 0) (j := 2);decide +kernel;exact rfl;exact rfl)|(apply Ords.two (i := 0) (j := 3);decide +kernel;exact rfl;exact rfl)|(apply Ords.two (i := 0) (j := 4);decide +kernel;exact rfl;exact rfl)|(apply Ords.two (i := 1) (j := 5);decide +kernel;exact rfl;exact rfl)|(apply Ords.two (i := 2) (j := 5);decide +kernel;exact rfl;exact rfl)|(apply Ords.two (i := 3) (j := 5);decide +kernel;exact rfl;exact rfl)|(apply Ords.two (i := 4) (j := 5);decide +kernel;exact rfl;exact rfl)|(apply Ords.two (i := 5) (j := 6);decide +kernel;exact rfl;exact rfl)|(apply Ords.two (i := 4) (j := 6);decide +kernel;exact rfl;exact rfl)|(apply Ords.two (i := 6) (j := 7);decide +kernel;exact rfl;exact rfl)|(apply Ords.two (i := 5) (j := 7);decide +kernel;exact rfl;exact rfl) | refine V ?_|(refine W2 ?_ ?_ <;> intro hc))
  all_goals exact ⟨.inr rfl, [A1 [.i 0, .i 0], .i e], .cons (Res.row [.i 0, .i 0] rfl rfl rfl rfl rfl) (.cons (.tmp rfl) .nil), .tup (.cons (.agg (A7 [.i 0, .i 0])) (.cons (.one (.lf _)) .nil))⟩
def Ud (q : Rat) (e : Int) : AV := if e = 0 then frE q 0 else .tup [A1 [.i 0, .i 0], .i e]
theorem A3t (q : Rat) (e : Int) : (Ud q e).plain = true := by unfold Ud;split <;> rfl
theorem A0b (q : Rat) (e : Int) : FnW Tryz.prog 154 [.i e] [A1 (frR q)] [.i e] (Ud q e) := FnW.ofFn0 (A2p q.num q.den e) (A3t q e)
structure PcQ where
 f : Rat
 a : Rat
 b : Rat
 c : Rat
 deriving DecidableEq, Inhabited
def PcQ.row (p : PcQ) : List Lf := [.i p.f.num, .i p.f.den, .i p.a.num, .i p.a.den, .i p.b.num, .i p.b.den, .i p.c.num, .i p.c.den]
structure PcQ.ok (p : PcQ) : Prop where
 f : Fits p.f
 a : Fits p.a
 b : Fits p.b
 c : Fits p.c
def Ec (p : PcQ) (u : Rat) : Rat := p.c * u
def Mt (p : PcQ) (u : Rat) : Rat := p.b + kQ (Ec p u)
def Oc (p : PcQ) (u : Rat) : Rat := kQ (Mt p u) * u
def Ts (p : PcQ) (u : Rat) : Rat := p.a + kQ (Oc p u)
def Fk (p : PcQ) (u : Rat) : Rat := kQ (Ts p u)
def Hr (p : PcQ) (u : Rat) (e : Int) : Int := kE (Ts p u) (kE (Oc p u) (kE (Mt p u) (kE (Ec p u) e)))
def Nb (p : PcQ) (u : Rat) : Rat := 2 * kQ (Ec p u)
def Xu (p : PcQ) (u : Rat) : Rat := p.b + kQ (Nb p u)
def I6 (p : PcQ) (u : Rat) : Rat := kQ (Xu p u)
def Km (p : PcQ) (u : Rat) (e : Int) : Int := kE (Xu p u) (kE (Nb p u) (kE (Ec p u) e))
set_option maxHeartbeats 4000000 in
theorem Vz (p : PcQ) (u : Rat) (e : Int) (hp : p.ok) (hu : Fits u) : FnW Tryz.prog 149 [.i e] [A1 p.row, A1 (frR u)] [.i (Hr p u e)] (A1 (frR (Fk p u))) := by
 have c1 := Pk p.c u e hp.c hu
 have c2 := Ua p.b (kQ (Ec p u)) (kE (Ec p u) e) hp.b (Cp _)
 have c3 := Pk (kQ (Mt p u)) u (kE (Mt p u) (kE (Ec p u) e)) (Cp _) hu
 have c4 := Ua p.a (kQ (Oc p u)) (kE (Oc p u) (kE (Mt p u) (kE (Ec p u) e))) hp.a (Cp _)
 refine FnW.of Tryz.func149 Tryz.ntmps149 rfl rfl rfl ?_
 intro k o
 simp only [A2]
 repeat' (first | refine W ?_|(apply S.fieldH;exact rfl;exact rfl;exact rfl)|(apply S.nilCheckH;exact rfl;exact rfl;exact rfl)|(apply S.loadH;(iterate 5 exact rfl))|(apply S.storeH;(iterate 5 exact rfl))|(apply T.ret;change Ev _ _ _ _ _ _ _ _)|(apply S.callW;(iterate 5 exact rfl);exact c1;exact rfl)|(apply S.callWD;(iterate 6 exact rfl);exact c1;exact rfl)|(apply S.callW;(iterate 5 exact rfl);exact c2;exact rfl)|(apply S.callWD;(iterate 6 exact rfl);exact c2;exact rfl)|(apply S.callW;(iterate 5 exact rfl);exact c3;exact rfl)|(apply S.callWD;(iterate 6 exact rfl);exact c3;exact rfl)|(apply S.callW;(iterate 5 exact rfl);exact c4;exact rfl)|(apply S.callWD;(iterate 6 exact rfl);exact c4;exact rfl)|(apply T.draw 16 A0 (by decide +kernel);simp only [td])|(apply T.drawR 16 A0 (by decide +kernel);simp only [td]) | refine V ?_|(refine W2 ?_ ?_ <;> intro hc))
 exact Gb [A1 (frR (Fk p u))] (.inr rfl) (.cons (Res.row (frR (Fk p u)) rfl rfl rfl rfl rfl) .nil) rfl rfl rfl
set_option maxHeartbeats 4000000 in
theorem A4l (p : PcQ) (u : Rat) (e : Int) (hp : p.ok) (hu : Fits u) : FnW Tryz.prog 301 [.i e] [A1 p.row, A1 (frR u)] [.i (Km p u e)] (A1 (frR (I6 p u))) := by
 have c1 := Pk p.c u e hp.c hu
 have c2 : FnW Tryz.prog 153 [.i (kE (Ec p u) e)] [A1 [.i 2, .i 1], A1 (frR (kQ (Ec p u)))] [.i (kE (Nb p u) (kE (Ec p u) e))] (A1 (frR (kQ (Nb p u)))) := Pk 2 (kQ (Ec p u)) (kE (Ec p u) e) (by decide) (Cp _)
 have c3 := Ua p.b (kQ (Nb p u)) (kE (Nb p u) (kE (Ec p u) e)) hp.b (Cp _)
 refine FnW.of Tryz.func301 Tryz.ntmps301 rfl rfl rfl ?_
 intro k o
 simp only [A2]
 repeat' (first | refine W ?_|(apply S.fieldH;exact rfl;exact rfl;exact rfl)|(apply S.nilCheckH;exact rfl;exact rfl;exact rfl)|(apply S.loadH;(iterate 5 exact rfl))|(apply S.storeH;(iterate 5 exact rfl))|(apply T.ret;change Ev _ _ _ _ _ _ _ _)|(apply S.callW;(iterate 5 exact rfl);exact c1;exact rfl)|(apply S.callWD;(iterate 6 exact rfl);exact c1;exact rfl)|(apply S.callW;(iterate 5 exact rfl);exact c2;exact rfl)|(apply S.callWD;(iterate 6 exact rfl);exact c2;exact rfl)|(apply S.callW;(iterate 5 exact rfl);exact c3;exact rfl)|(apply S.callWD;(iterate 6 exact rfl);exact c3;exact rfl)|(apply T.draw 12 A0 (by decide +kernel);simp only [td])|(apply T.drawR 12 A0 (by decide +kernel);simp only [td]) | refine V ?_|(refine W2 ?_ ?_ <;> intro hc))
 exact Gb [A1 (frR (I6 p u))] (.inr rfl) (.cons (Res.row (frR (I6 p u)) rfl rfl rfl rfl rfl) .nil) rfl rfl rfl
theorem Px (p q : Rat) : C2 p q <= 0 ↔ p <= q := by
 unfold C2
 by_cases h1 : p < q
 ·rw [if_pos h1];simp [Rat.le_of_lt h1]
 ·rw [if_neg h1]
  by_cases h2 : q < p
  ·rw [if_pos h2];simp [Rat.not_le.2 h2]
  ·rw [if_neg h2];simp [Rat.not_lt.1 h2]
theorem Hg (p q : Rat) : C2 p q < 0 ↔ p < q := by
 unfold C2
 by_cases h1 : p < q
 ·rw [if_pos h1];simp [h1]
 ·rw [if_neg h1]
  by_cases h2 : q < p
  ·rw [if_pos h2];simp [h1]
  ·rw [if_neg h2];simp [h1]
theorem C0 (p q : Rat) (hp : Fits p) (hq : Fits q) : Fn0 Tryz.prog 100 [A1 (frR p), A1 (frR q)] (.i (C2 p q)) := by
 have c := P3 p q hp hq
 refine Fn0.of Tryz.func100 Tryz.ntmps100 rfl rfl rfl ?_
 simp only [A2]
 repeat' (first | refine W ?_|refine Zc c ?_ | refine V ?_|(refine W2 ?_ ?_ <;> intro hc))
 exact A5 (by simp) Tryz.results100 rfl rfl
def A6 (l : List PcQ) (k : Nat) : PcQ := l.getD k default
theorem Bb {l : List PcQ} {k : Nat} {x : PcQ} (h : l[k]? = some x) : A6 l k = x := by
 unfold A6
 rw [List.getD_eq_getElem?_getD, h];rfl
def pcK (l : List PcQ) (t : Rat) : Nat -> Int
 | 0 => -1
 | k + 1 => if (A6 l k).f <= t then (k : Int) else pcK l t k
def pcI (l : List PcQ) (t : Rat) : Int := pcK l t l.length
theorem Hc (l : List PcQ) (t : Rat) : ∀ k : Nat, -1 <= pcK l t k /\ pcK l t k < k
 | 0 => by simp [pcK]
 | k + 1 => by
  have := Hc l t k
  simp only [pcK]
  split <;> omega
def okC (l : List PcQ) : Prop := ∀ p ∈ l, p.ok
theorem A11 (l : List PcQ) : ∀ r ∈ l.map PcQ.row, r.length = 8 := by
 intro r hr
 obtain ⟨p, _, rfl⟩ := List.mem_map.1 hr
 rfl
set_option maxHeartbeats 4000000 in
theorem Vb (l : List PcQ) (t : Rat) (hl : okC l) (hn : l.length <= 1000) (ht : Fits t) : Fn0 Tryz.prog 178 [.sl (l.map PcQ.row), A1 (frR t)] (.i (pcI l t)) := by
 have hle : (l.map PcQ.row).length = l.length := List.length_map _
 refine Fn0.of Tryz.func178 Tryz.ntmps178 rfl rfl rfl ?_
 simp only [A2]
 repeat' (first | refine W ?_ | refine V ?_|(refine W2 ?_ ?_ <;> intro hc))
 refine T.loopS (fun k => k <= l.length) (fun k => l.length - k) (fun k => [(10, .i (k : Int)), (9, .i ((l.map PcQ.row).length : Nat)), (8, .sl (l.map PcQ.row)), (5, .i (pcK l t k)), (3, .ptr 0 0)]) (fun k => [.live ((frR t).map .lf)]) 0 (Nat.zero_le _) CV (.live rfl .nil) ?_
 intro k hk
 by_cases hlt : k < l.length
 ·have h1 : (k : Int) < ((l.map PcQ.row).length : Nat) := by omega
  obtain ⟨x, hx⟩ := A9 hlt
  have hb := Ac (R := PcQ.row) hx
  have hok := hl x (List.mem_of_getElem? hx)
  have c := C0 x.f t hok.f ht
  have hs : pcK l t (k + 1) = if x.f <= t then (k : Int) else pcK l t k := by simp only [pcK, Bb hx]
  by_cases hc : x.f <= t
  ·have hc' : C2 x.f t <= 0 := (Px _ _).2 hc
   repeat' (first | refine W ?_|refine Za ?_|refine Zc c ?_|refine Zi hb ?_|(apply S.loadRW;(iterate 4 exact rfl)) | refine V ?_|(refine W2 ?_ ?_ <;> intro hc))
   change Next _ _ _ _ _ _
   exact Next.go (k + 1) (by omega) (by omega) (.cons rfl rfl (.cons rfl rfl (.cons rfl rfl (.cons (by rw [hs, if_pos hc];rfl) rfl (.cons rfl rfl .nil))))) (.live rfl .nil)
  ·have hc' : ¬ C2 x.f t <= 0 := fun e => hc ((Px _ _).1 e)
   repeat' (first | refine W ?_|refine Za ?_|refine Zc c ?_|refine Zi hb ?_|(apply S.loadRW;(iterate 4 exact rfl)) | refine V ?_|(refine W2 ?_ ?_ <;> intro hc))
   change Next _ _ _ _ _ _
   exact Next.go (k + 1) (by omega) (by omega) (.cons rfl rfl (.cons rfl rfl (.cons rfl rfl (.cons (by rw [hs, if_neg hc];rfl) rfl (.cons rfl rfl .nil))))) (.live rfl .nil)
 ·have h1 : ¬ (k : Int) < ((l.map PcQ.row).length : Nat) := by omega
  obtain rfl : k = l.length := by omega
  repeat' (first | refine W ?_ | refine V ?_|(refine W2 ?_ ?_ <;> intro hc))
  exact A5 (by simp) Tryz.results178 rfl rfl
def atQ (l : List PcQ) (t : Rat) : Rat := if pcI l t < 0 then (A6 l 0).a else Fk (A6 l (pcI l t).toNat) (kQ (t - (A6 l (pcI l t).toNat).f))
def atE (l : List PcQ) (t : Rat) (e : Int) : Int := if pcI l t < 0 then e else Hr (A6 l (pcI l t).toNat) (kQ (t - (A6 l (pcI l t).toNat).f)) (kE (t - (A6 l (pcI l t).toNat).f) e)
theorem Xg {l : List PcQ} {t : Rat} (h : ¬ pcI l t < 0) : l[(pcI l t).toNat]? = some (A6 l (pcI l t).toNat) := by
 have := (Hc l t l.length).2
 have h2 : (pcI l t).toNat < l.length := by unfold pcI at *;omega
 rw [List.getElem?_eq_getElem h2]
 unfold A6
 rw [List.getD_eq_getElem?_getD, List.getElem?_eq_getElem h2];rfl
def vF (n d : Int) : Prop := El n d = true
instance (n d : Int) : Decidable (vF n d) := by unfold vF;exact inferInstance
theorem Jn (n d : Int) : Fn0 Tryz.prog 73 [A1 [.i n, .i d]] (.b (decide (vF n d))) := by
 have := Gr n d
 rwa [show El n d = decide (vF n d) by unfold vF;exact Bool.decide_eq_true.symm] at this
structure pieceP (p : PieceR) : Prop where
 f : vF p.f1 p.f2
 a : vF p.a1 p.a2
 b : vF p.b1 p.b2
 c : vF p.c1 p.c2
instance (p : PieceR) : Decidable (pieceP p) := decidable_of_iff (vF p.f1 p.f2 /\ vF p.a1 p.a2 /\ vF p.b1 p.b2 /\ vF p.c1 p.c2) ⟨fun ⟨a, b, c, d⟩ => ⟨a, b, c, d⟩, fun ⟨a, b, c, d⟩ => ⟨a, b, c, d⟩⟩
def toQ (p : PieceR) : PcQ := ⟨A8 p.f1 p.f2, A8 p.a1 p.a2, A8 p.b1 p.b2, A8 p.c1 p.c2⟩
theorem Ju {n d : Int} (h : vF n d) : Fits (A8 n d) /\ (A8 n d).num = n /\ ((A8 n d).den : Int) = d := by
 obtain ⟨e1, e2⟩ := Sm h
 obtain ⟨a1, a2, a3, a4, _⟩ := validB_spec.1 h
 exact ⟨⟨by rw [e1];omega, by omega⟩, e1, e2⟩
theorem pieceP.ok {p : PieceR} (h : pieceP p) : (toQ p).ok /\ (toQ p).row = p.row := by
 obtain ⟨h1, h2, h3⟩ := Ju h.f
 obtain ⟨i1, i2, i3⟩ := Ju h.a
 obtain ⟨j1, j2, j3⟩ := Ju h.b
 obtain ⟨k1, k2, k3⟩ := Ju h.c
 exact ⟨⟨h1, i1, j1, k1⟩, by simp only [PcQ.row, PieceR.row, toQ, h2, h3, i2, i3, j2, j3, k2, k3]⟩
instance : Inhabited PieceR := ⟨⟨0, 0, 0, 0, 0, 0, 0, 0⟩⟩
def Mk (l : List PieceR) (k : Nat) : Rat := (toQ (l.getD k default)).f
theorem H3 {l : List PieceR} {k : Nat} {x : PieceR} (h : l[k]? = some x) : Mk l k = (toQ x).f := by
 unfold Mk
 rw [List.getD_eq_getElem?_getD, h];rfl
def P7 (l : List PieceR) : Prop := (1 <= l.length /\ l.length <= 200) /\ (∀ p ∈ l, pieceP p) /\ ∀ i, i < l.length - 1 -> Mk l i < Mk l (i + 1)
instance (l : List PieceR) : Decidable (P7 l) := by unfold P7;exact inferInstance
theorem A9k {l : List PieceR} {k : Nat} (h : k + 1 < l.length) : ∃ y, l[k]? = some y := ⟨l[k]'(by omega), List.getElem?_eq_getElem (by omega)⟩
set_option maxHeartbeats 16000000 in
theorem Vn (l : List PieceR) (hn : l.length <= 1000000) : Fn0 Tryz.prog 95 [.sl (l.map PieceR.row)] (.b (decide (P7 l))) := by
 have hle : (l.map PieceR.row).length = l.length := List.length_map _
 by_cases h1 : (((l.map PieceR.row).length : Nat) : Int) < 1
 ·skip
  refine Fn0.of Tryz.func95 Tryz.ntmps95 rfl rfl rfl ?_
  simp only [A2]
  repeat' (first | refine W ?_ | refine V ?_|(refine W2 ?_ ?_ <;> intro hc))
  exact A5 (by simp) Tryz.results95 rfl (congrArg Value.bool (decide_eq_false fun h => by have := h.1.1;omega).symm)
 by_cases h2 : 200 < (((l.map PieceR.row).length : Nat) : Int)
 ·skip
  refine Fn0.of Tryz.func95 Tryz.ntmps95 rfl rfl rfl ?_
  simp only [A2]
  repeat' (first | refine W ?_ | refine V ?_|(refine W2 ?_ ?_ <;> intro hc))
  exact A5 (by simp) Tryz.results95 rfl (congrArg Value.bool (decide_eq_false fun h => by have := h.1.2;omega).symm)
 refine Fn0.of Tryz.func95 Tryz.ntmps95 rfl rfl rfl ?_
 simp only [A2]
 repeat' (first | refine W ?_ | refine V ?_|(refine W2 ?_ ?_ <;> intro hc))
 refine T.loopS (fun k => k <= l.length /\ (∀ p ∈ l.take k, pieceP p) /\ ∀ i, i + 1 < k -> Mk l i < Mk l (i + 1)) (fun k => l.length - k) (fun k => [(15, .i (k : Int)), (14, .i ((l.map PieceR.row).length : Nat)), (13, .sl (l.map PieceR.row)), (0, .sl (l.map PieceR.row))]) (fun k => []) 0 ⟨Nat.zero_le _, by simp, fun i hi => by omega⟩ CV .nil ?_
 rintro k ⟨hk, hp, hs⟩
 by_cases hlt : k < l.length
 ·have h3 : (k : Int) < ((l.map PieceR.row).length : Nat) := by omega
  obtain ⟨x, hx⟩ := A9 hlt
  have hb := Ac (R := PieceR.row) hx
  have hmem := List.mem_of_getElem? hx
  have v1 := Jn x.f1 x.f2
  have v2 := Jn x.a1 x.a2
  have v3 := Jn x.b1 x.b2
  have v4 := Jn x.c1 x.c2
  by_cases w1 : vF x.f1 x.f2 /\ vF x.a1 x.a2 /\ vF x.b1 x.b2 /\ vF x.c1 x.c2
  ·obtain ⟨w1, w2, w3, w4⟩ := w1
   have hpx : pieceP x := ⟨w1, w2, w3, w4⟩
   have hp' : ∀ p ∈ l.take (k + 1), pieceP p := by
    intro p hm
    rw [List.take_add_one, hx] at hm
    rcases List.mem_append.1 hm with hm | hm
    ·exact hp p hm
    ·obtain rfl : p = x := by simpa using hm
     exact hpx
   have n1 : ¬ ¬ vF x.f1 x.f2 := fun h => h w1
   have n2 : ¬ ¬ vF x.a1 x.a2 := fun h => h w2
   have n3 : ¬ ¬ vF x.b1 x.b2 := fun h => h w3
   have n4 : ¬ ¬ vF x.c1 x.c2 := fun h => h w4
   cases k with
   | zero =>
    have h5 : ¬ (0 : Int) < ((0 : Nat) : Int) := by omega
    repeat' (first | refine W ?_|refine Za ?_|refine Zc v1 ?_|refine Zc v2 ?_|refine Zc v3 ?_|refine Zc v4 ?_|refine Zi hb ?_|(apply S.loadRW;(iterate 4 exact rfl))|(apply T.drawAll A0 (by decide +kernel)) | refine V ?_|(refine W2 ?_ ?_ <;> intro hc))
    change Next _ _ _ _ _ _
    exact Next.go 1 ⟨by omega, hp', fun i hi => by omega⟩ (by omega) CV .nil
   | succ k =>
    have h5 : (0 : Int) < ((k + 1 : Nat) : Int) := by omega
    obtain ⟨y, hy⟩ := A9k hlt
    have hpy : pieceP y := hp y (List.mem_of_getElem? (by rw [List.getElem?_take_of_lt (Nat.lt_succ_self k)];exact hy))
    have hby : (l.map PieceR.row)[(((k + 1 : Nat) : Int) - 1).toNat]? = some y.row := by rw [show (((k + 1 : Nat) : Int) - 1).toNat = k by omega, List.getElem?_map, hy];rfl
    have hcmp : Fn0 Tryz.prog 100 [A1 [.i y.f1, .i y.f2], A1 [.i x.f1, .i x.f2]] (.i (C2 (toQ y).f (toQ x).f)) := by
     have := C0 (toQ y).f (toQ x).f hpy.ok.1.f hpx.ok.1.f
     obtain ⟨_, e1, e2⟩ := Ju hpy.f
     obtain ⟨_, e3, e4⟩ := Ju hpx.f
     simp only [toQ, frR, e1, e2, e3, e4] at this ⊢
     exact this
    by_cases hc : (toQ y).f < (toQ x).f
    ·have hc' : ¬ 0 <= C2 (toQ y).f (toQ x).f := fun e => by have := (Hg _ _).2 hc;omega
     repeat' (first | refine W ?_|refine Za ?_|refine Zc v1 ?_|refine Zc v2 ?_|refine Zc v3 ?_|refine Zc v4 ?_|refine Zc hcmp ?_|refine Zi hb ?_|refine Zi hby ?_|(apply S.loadRW;(iterate 4 exact rfl))|(apply T.drawAll A0 (by decide +kernel)) | refine V ?_|(refine W2 ?_ ?_ <;> intro hc))
     change Next _ _ _ _ _ _
     refine Next.go (k + 2) ⟨by omega, hp', fun i hi => ?_⟩ (by omega) CV .nil
     by_cases hik : i = k
     ·subst hik
      rw [H3 hy, H3 hx];exact hc
     ·exact hs i (by omega)
    ·have hc' : 0 <= C2 (toQ y).f (toQ x).f := by
      rcases Int.lt_or_le (C2 (toQ y).f (toQ x).f) 0 with h | h
      ·exact absurd ((Hg _ _).1 h) hc
      ·exact h
     repeat' (first | refine W ?_|refine Za ?_|refine Zc v1 ?_|refine Zc v2 ?_|refine Zc v3 ?_|refine Zc v4 ?_|refine Zc hcmp ?_|refine Zi hb ?_|refine Zi hby ?_|(apply S.loadRW;(iterate 4 exact rfl))|(apply T.drawAll A0 (by decide +kernel)) | refine V ?_|(refine W2 ?_ ?_ <;> intro hc))
     exact A5 (by simp) Tryz.results95 rfl (congrArg Value.bool (decide_eq_false fun h => hc (by have := h.2.2 k (by omega);rwa [H3 hy, H3 hx] at this)).symm)
  ·repeat' (first | refine W ?_|refine Za ?_|refine Zc v1 ?_|refine Zc v2 ?_|refine Zc v3 ?_|refine Zc v4 ?_|refine Zi hb ?_|(apply S.loadRW;(iterate 4 exact rfl))|(apply T.drawAll A0 (by decide +kernel)) | refine V ?_|(refine W2 ?_ ?_ <;> intro hc))
   all_goals first
    | exact A5 (by simp) Tryz.results95 rfl (congrArg Value.bool (decide_eq_false fun h => w1 (by have := h.2.1 x hmem;exact ⟨this.f, this.a, this.b, this.c⟩)).symm)
    | (exfalso;simp_all;done)
 ·have h3 : ¬ (k : Int) < ((l.map PieceR.row).length : Nat) := by omega
  repeat' (first | refine W ?_ | refine V ?_|(refine W2 ?_ ?_ <;> intro hc))
  exact A5 (by simp) Tryz.results95 rfl (congrArg Value.bool (decide_eq_true ⟨⟨by omega, by omega⟩, by rw [List.take_of_length_le (by omega)] at hp;exact hp, fun i hi => hs i (by omega)⟩).symm)
set_option maxHeartbeats 8000000 in
theorem A5m (l : List PcQ) (t : Rat) (hl : okC l) (h0 : l ≠ []) (hn : l.length <= 1000) (ht : Fits t) (hv : Fn0 Tryz.prog 95 [.sl (l.map PcQ.row)] (.b true)) : Fn0 Tryz.prog 97 [.sl (l.map PcQ.row), A1 (frR t)] (Ud (atQ l t) (atE l t 0)) := by
 have c := Vb l t hl hn ht
 have v1 : Fn0 Tryz.prog 73 [A1 (frR t)] (.b true) := by
  have := Gr t.num t.den
  rwa [ht.valid] at this
 unfold atQ atE
 by_cases h : pcI l t < 0
 ·rw [if_pos h, if_pos h]
  obtain ⟨x, hx⟩ : ∃ x, l[0]? = some x := ⟨l[0]'(List.length_pos_iff.2 h0), List.getElem?_eq_getElem _⟩
  have hb : (l.map PcQ.row)[(0 : Int).toNat]? = some x.row := by rw [show (0 : Int).toNat = 0 from rfl, List.getElem?_map, hx];rfl
  rw [Bb hx]
  refine Fn0.of Tryz.func97 Tryz.ntmps97 rfl rfl rfl ?_
  simp only [A2]
  repeat' (first | refine W ?_|refine Zc c ?_|refine Zc hv ?_|refine Zc v1 ?_|refine Zi hb ?_|(apply T.draw 4 A0 (by decide +kernel);simp only [td])|(apply T.drawR 4 A0 (by decide +kernel);simp only [td]) | refine V ?_|(refine W2 ?_ ?_ <;> intro hc))
  exact ⟨.inr rfl, [A1 (frR x.a), .i 0], .cons (Res.row (frR x.a) rfl rfl rfl rfl rfl) (.cons (.tmp rfl) .nil), .tup (.cons (.agg (A7 (frR x.a))) (.cons (.one (.lf _)) .nil))⟩
 ·rw [if_neg h, if_neg h]
  have hx := Xg h
  generalize hxe : A6 l (pcI l t).toNat = x at hx
  have hb : (l.map PcQ.row)[(pcI l t).toNat]? = some x.row := by rw [List.getElem?_map, hx];rfl
  have hok := hl x (List.mem_of_getElem? hx)
  have c1 := Pm t x.f 0 ht hok.f
  have c2 := Vz x (kQ (t - x.f)) (kE (t - x.f) 0) hok (Cp _)
  have c3 := A0b (Fk x (kQ (t - x.f))) (Hr x (kQ (t - x.f)) (kE (t - x.f) 0))
  generalize hw : Hr x (kQ (t - x.f)) (kE (t - x.f) 0) = e at c2 c3
  generalize hq : Fk x (kQ (t - x.f)) = q at c2 c3
  unfold Ud at c3 ⊢
  by_cases he : e = 0
  ·subst he
   rw [if_pos rfl] at c3 ⊢
   refine Fn0.of Tryz.func97 Tryz.ntmps97 rfl rfl rfl ?_
   simp only [A2]
   repeat' (first | refine W ?_|(refine T.heat 2 [.i 0] rfl rfl ?_;intro k o)|refine Zc c ?_|refine Zc hv ?_|refine Zc v1 ?_|(apply S.fieldH;exact rfl;exact rfl;exact rfl)|(apply S.nilCheckH;exact rfl;exact rfl;exact rfl)|(apply S.loadH;(iterate 5 exact rfl))|(apply S.storeH;(iterate 5 exact rfl))|(apply S.callW;(iterate 5 exact rfl);exact c1;exact rfl)|(apply S.callWD;(iterate 6 exact rfl);exact c1;exact rfl)|(apply S.callW;(iterate 5 exact rfl);exact c2;exact rfl)|(apply S.callWD;(iterate 6 exact rfl);exact c2;exact rfl)|(apply S.callW;(iterate 5 exact rfl);exact c3;exact rfl)|(apply S.callWD;(iterate 6 exact rfl);exact c3;exact rfl)|refine Zi hb ?_|(apply S.loadRW;(iterate 4 exact rfl))|(apply T.draw 18 A0 (by decide +kernel);simp only [td])|(apply T.drawR 18 A0 (by decide +kernel);simp only [td]) | refine V ?_|(refine W2 ?_ ?_ <;> intro hc))
   exact ⟨.inr rfl, [A1 (frR q), .i 0], .cons (Res.row (frR q) rfl rfl rfl rfl rfl) (.cons (.tmp rfl) .nil), .tup (.cons (.agg (A7 (frR q))) (.cons (.one (.lf _)) .nil))⟩
  ·rw [if_neg he] at c3 ⊢
   refine Fn0.of Tryz.func97 Tryz.ntmps97 rfl rfl rfl ?_
   simp only [A2]
   repeat' (first | refine W ?_|(refine T.heat 2 [.i 0] rfl rfl ?_;intro k o)|refine Zc c ?_|refine Zc hv ?_|refine Zc v1 ?_|(apply S.fieldH;exact rfl;exact rfl;exact rfl)|(apply S.nilCheckH;exact rfl;exact rfl;exact rfl)|(apply S.loadH;(iterate 5 exact rfl))|(apply S.storeH;(iterate 5 exact rfl))|(apply S.callW;(iterate 5 exact rfl);exact c1;exact rfl)|(apply S.callWD;(iterate 6 exact rfl);exact c1;exact rfl)|(apply S.callW;(iterate 5 exact rfl);exact c2;exact rfl)|(apply S.callWD;(iterate 6 exact rfl);exact c2;exact rfl)|(apply S.callW;(iterate 5 exact rfl);exact c3;exact rfl)|(apply S.callWD;(iterate 6 exact rfl);exact c3;exact rfl)|refine Zi hb ?_|(apply S.loadRW;(iterate 4 exact rfl))|(apply T.draw 18 A0 (by decide +kernel);simp only [td])|(apply T.drawR 18 A0 (by decide +kernel);simp only [td]) | refine V ?_|(refine W2 ?_ ?_ <;> intro hc))
   exact ⟨.inr rfl, [A1 [.i 0, .i 0], .i e], .cons (Res.row [.i 0, .i 0] rfl rfl rfl rfl rfl) (.cons (.tmp rfl) .nil), .tup (.cons (.agg (A7 [.i 0, .i 0])) (.cons (.one (.lf _)) .nil))⟩
end Go.Proofs.YtcbfnkgodiaiiaaGreat
