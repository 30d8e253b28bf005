/- Lemmas of the proof. -/
import Derived.Test.YtlapbaiejnaeiaaGreatDoorMp
import Derived.Test.YtlapbaiejnaeiaaGreatDoorNe
set_option linter.all false
set_option maxHeartbeats 64000000
namespace Go.Proofs.YtlapbaiejnaeiaaGreatDoor
open Go.RowKit
def a0j := @List.getD_eq_getElem?_getD
def a1j := @List.length_pos_iff
def a2l := @Rat.not_lt
def a2m := @Rat.not_le
def a2p := @Rat.le_of_lt
def a7f := @Tryz.results124
def a9p := @Int.lt_or_le
def b0y := @Tryz.ntmps124
def b0z := @Tryz.ntmps183
def b1p := @Tryz.func124
def b1q := @Tryz.func183
def b1x := @Tryz.ntmps81
def b2y := @Tryz.func81
theorem Fits.zero : Fits 0 := by decide
theorem I0 (p q : Rat) (hp : Fits p) (hq : Fits q) : Fn0 Tryz.prog 134 [A2 (frR p), A2 (frR q)] (Dm (p + q)) := Yv p q hp hq
theorem E4 (p q : Rat) (hp : Fits p) (hq : Fits q) : Fn0 Tryz.prog 85 [A2 (frR p), A2 (frR q)] (Dm (p - q)) := A7r p q hp hq
theorem A3z (p q : Rat) (hp : Fits p) (hq : Fits q) : Fn0 Tryz.prog 115 [A2 (frR p), A2 (frR q)] (Dm (p * q)) := Yw p q hp hq
theorem Ea (n d : Int) : Fn0 Tryz.prog 84 [A2 [.i n, .i d]] (.b (El n d)) := Yx n d

/-! ### Operations that keep the first error -/
def kQ (r : Rat) : Rat := if Fits r then r else 0
def kE (r : Rat) (e : Int) : Int := if Fits r then e else if e = 0 then 5 else e
theorem Cp (r : Rat) : Fits (kQ r) := by
 unfold kQ
 split
 ·assumption
 ·exact Fits.zero
theorem Mz : Fn0 Tryz.prog 140 [] (A2 (frR 0)) := by
 refine Fn0.of Tryz.func140 Tryz.ntmps140 rfl rfl rfl ?_
 simp only [A1]
 repeat' (first|refine W ?_|refine V ?_|(refine W2 ?_ ?_<;>intro hc))
 exact ⟨.inr rfl, [A2 (frR 0)], .cons (Res.row (frR 0) rfl rfl rfl rfl rfl) .nil, .one (.agg (A6 (frR 0)))⟩
theorem P1 (n d e : Int) : FnW Tryz.prog 183 [.i e] [A2 [.i n, .i d], .i 0] [.i e] (A2 [.i n, .i d]) := by
 refine FnW.of b1q b0z rfl rfl rfl ?_
 intro k o
 simp only [A1]
 repeat' (first|refine W ?_|(apply p0s;(iterate 3 exact rfl))|(apply p0l;(iterate 3 exact rfl))|(apply p1b;(iterate 5 exact rfl))|(apply p0t;(iterate 5 exact rfl))|(apply T.ret;change Eo _ _ _ _ _ _ _ _)|refine V ?_|(refine W2 ?_ ?_<;>intro hc))
 exact G4 [A2 ([.i n, .i d])] (.inr rfl) (.cons (Res.row ([.i n, .i d]) rfl rfl rfl rfl rfl) .nil) rfl rfl rfl
theorem P2 (e : Int) : FnW Tryz.prog 183 [.i e] [A2 [.i 0, .i 0], .i 5] [.i (if e = 0 then 5 else e)] (A2 (frR 0)) := by
 by_cases he : e = 0
 ·rw [if_pos he]
  refine FnW.of b1q b0z rfl rfl rfl ?_
  intro k o
  simp only [A1]
  repeat' (first|refine W ?_|(apply p0s;(iterate 3 exact rfl))|(apply p0l;(iterate 3 exact rfl))|(apply p1b;(iterate 5 exact rfl))|(apply p0t;(iterate 5 exact rfl))|(apply T.ret;change Eo _ _ _ _ _ _ _ _)|refine Zc Mz ?_|refine V ?_|(refine W2 ?_ ?_<;>intro hc))
  exact G4 [A2 (frR 0)] (.inr rfl) (.cons (Res.row (frR 0) rfl rfl rfl rfl rfl) .nil) rfl rfl rfl
 ·rw [if_neg he]
  refine FnW.of b1q b0z rfl rfl rfl ?_
  intro k o
  simp only [A1]
  repeat' (first|refine W ?_|(apply p0s;(iterate 3 exact rfl))|(apply p0l;(iterate 3 exact rfl))|(apply p1b;(iterate 5 exact rfl))|(apply p0t;(iterate 5 exact rfl))|(apply T.ret;change Eo _ _ _ _ _ _ _ _)|refine Zc Mz ?_|refine V ?_|(refine W2 ?_ ?_<;>intro hc))
  exact G4 [A2 (frR 0)] (.inr rfl) (.cons (Res.row (frR 0) rfl rfl rfl rfl rfl) .nil) rfl rfl rfl
theorem Uq (p q : Rat) (e : Int) (hp : Fits p) (hq : Fits q) : FnW Tryz.prog 181 [.i e] [A2 (frR p), A2 (frR q)] [.i (kE (p + q) e)] (A2 (frR (kQ (p + q)))) := by
 have c := I0 p q hp hq
 unfold Dm at c
 unfold kE kQ
 by_cases hf : Fits (p + q)
 ·rw [if_pos hf] at c ⊢
  rw [if_pos hf]
  have k1 := P1 (p + q).num (p + q).den e
  refine FnW.of Tryz.func181 Tryz.ntmps181 rfl rfl rfl ?_
  intro k o
  simp only [A1]
  repeat' (first|refine W ?_|(apply p0s;(iterate 3 exact rfl))|(apply p0l;(iterate 3 exact rfl))|(apply p1b;(iterate 5 exact rfl))|(apply p0t;(iterate 5 exact rfl))|(apply T.ret;change Eo _ _ _ _ _ _ _ _)|refine Zc c ?_|(apply p0m;(iterate 5 exact rfl);exact k1;exact rfl)|(apply p0i;(iterate 6 exact rfl);exact k1;exact rfl)|(apply p0e 6 A0 (by decide +kernel);simp only [td])|(apply p0f 6 A0 (by decide +kernel);simp only [td])|refine V ?_|(refine W2 ?_ ?_<;>intro hc))
  exact G4 [A2 (frR (p + q))] (.inr rfl) (.cons (Res.row (frR (p + q)) rfl rfl rfl rfl rfl) .nil) rfl rfl rfl
 ·rw [if_neg hf] at c ⊢
  rw [if_neg hf]
  have k1 := P2 e
  refine FnW.of Tryz.func181 Tryz.ntmps181 rfl rfl rfl ?_
  intro k o
  simp only [A1]
  repeat' (first|refine W ?_|(apply p0s;(iterate 3 exact rfl))|(apply p0l;(iterate 3 exact rfl))|(apply p1b;(iterate 5 exact rfl))|(apply p0t;(iterate 5 exact rfl))|(apply T.ret;change Eo _ _ _ _ _ _ _ _)|refine Zc c ?_|(apply p0m;(iterate 5 exact rfl);exact k1;exact rfl)|(apply p0i;(iterate 6 exact rfl);exact k1;exact rfl)|(apply p0e 6 A0 (by decide +kernel);simp only [td])|(apply p0f 6 A0 (by decide +kernel);simp only [td])|refine V ?_|(refine W2 ?_ ?_<;>intro hc))
  exact G4 [A2 (frR 0)] (.inr rfl) (.cons (Res.row (frR 0) rfl rfl rfl rfl rfl) .nil) rfl rfl rfl
theorem Q9 (p q : Rat) (e : Int) (hp : Fits p) (hq : Fits q) : FnW Tryz.prog 128 [.i e] [A2 (frR p), A2 (frR q)] [.i (kE (p - q) e)] (A2 (frR (kQ (p - q)))) := by
 have c := E4 p q hp hq
 unfold Dm at c
 unfold kE kQ
 by_cases hf : Fits (p - q)
 ·rw [if_pos hf] at c ⊢
  rw [if_pos hf]
  have k1 := P1 (p - q).num (p - q).den e
  refine FnW.of Tryz.func128 Tryz.ntmps128 rfl rfl rfl ?_
  intro k o
  simp only [A1]
  repeat' (first|refine W ?_|(apply p0s;(iterate 3 exact rfl))|(apply p0l;(iterate 3 exact rfl))|(apply p1b;(iterate 5 exact rfl))|(apply p0t;(iterate 5 exact rfl))|(apply T.ret;change Eo _ _ _ _ _ _ _ _)|refine Zc c ?_|(apply p0m;(iterate 5 exact rfl);exact k1;exact rfl)|(apply p0i;(iterate 6 exact rfl);exact k1;exact rfl)|(apply p0e 6 A0 (by decide +kernel);simp only [td])|(apply p0f 6 A0 (by decide +kernel);simp only [td])|refine V ?_|(refine W2 ?_ ?_<;>intro hc))
  exact G4 [A2 (frR (p - q))] (.inr rfl) (.cons (Res.row (frR (p - q)) rfl rfl rfl rfl rfl) .nil) rfl rfl rfl
 ·rw [if_neg hf] at c ⊢
  rw [if_neg hf]
  have k1 := P2 e
  refine FnW.of Tryz.func128 Tryz.ntmps128 rfl rfl rfl ?_
  intro k o
  simp only [A1]
  repeat' (first|refine W ?_|(apply p0s;(iterate 3 exact rfl))|(apply p0l;(iterate 3 exact rfl))|(apply p1b;(iterate 5 exact rfl))|(apply p0t;(iterate 5 exact rfl))|(apply T.ret;change Eo _ _ _ _ _ _ _ _)|refine Zc c ?_|(apply p0m;(iterate 5 exact rfl);exact k1;exact rfl)|(apply p0i;(iterate 6 exact rfl);exact k1;exact rfl)|(apply p0e 6 A0 (by decide +kernel);simp only [td])|(apply p0f 6 A0 (by decide +kernel);simp only [td])|refine V ?_|(refine W2 ?_ ?_<;>intro hc))
  exact G4 [A2 (frR 0)] (.inr rfl) (.cons (Res.row (frR 0) rfl rfl rfl rfl rfl) .nil) rfl rfl rfl
theorem Q8 (p q : Rat) (e : Int) (hp : Fits p) (hq : Fits q) : FnW Tryz.prog 182 [.i e] [A2 (frR p), A2 (frR q)] [.i (kE (p * q) e)] (A2 (frR (kQ (p * q)))) := by
 have c := A3z p q hp hq
 unfold Dm at c
 unfold kE kQ
 by_cases hf : Fits (p * q)
 ·rw [if_pos hf] at c ⊢
  rw [if_pos hf]
  have k1 := P1 (p * q).num (p * q).den e
  refine FnW.of Tryz.func182 Tryz.ntmps182 rfl rfl rfl ?_
  intro k o
  simp only [A1]
  repeat' (first|refine W ?_|(apply p0s;(iterate 3 exact rfl))|(apply p0l;(iterate 3 exact rfl))|(apply p1b;(iterate 5 exact rfl))|(apply p0t;(iterate 5 exact rfl))|(apply T.ret;change Eo _ _ _ _ _ _ _ _)|refine Zc c ?_|(apply p0m;(iterate 5 exact rfl);exact k1;exact rfl)|(apply p0i;(iterate 6 exact rfl);exact k1;exact rfl)|(apply p0e 6 A0 (by decide +kernel);simp only [td])|(apply p0f 6 A0 (by decide +kernel);simp only [td])|refine V ?_|(refine W2 ?_ ?_<;>intro hc))
  exact G4 [A2 (frR (p * q))] (.inr rfl) (.cons (Res.row (frR (p * q)) rfl rfl rfl rfl rfl) .nil) rfl rfl rfl
 ·rw [if_neg hf] at c ⊢
  rw [if_neg hf]
  have k1 := P2 e
  refine FnW.of Tryz.func182 Tryz.ntmps182 rfl rfl rfl ?_
  intro k o
  simp only [A1]
  repeat' (first|refine W ?_|(apply p0s;(iterate 3 exact rfl))|(apply p0l;(iterate 3 exact rfl))|(apply p1b;(iterate 5 exact rfl))|(apply p0t;(iterate 5 exact rfl))|(apply T.ret;change Eo _ _ _ _ _ _ _ _)|refine Zc c ?_|(apply p0m;(iterate 5 exact rfl);exact k1;exact rfl)|(apply p0i;(iterate 6 exact rfl);exact k1;exact rfl)|(apply p0e 6 A0 (by decide +kernel);simp only [td])|(apply p0f 6 A0 (by decide +kernel);simp only [td])|refine V ?_|(refine W2 ?_ ?_<;>intro hc))
  exact G4 [A2 (frR 0)] (.inr rfl) (.cons (Res.row (frR 0) rfl rfl rfl rfl rfl) .nil) rfl rfl rfl
theorem A4b (n d e : Int) : Fn0 Tryz.prog 126 [.rop [.i e], A2 [.i n, .i d]] (if e = 0 then .tup [A2 [.i n, .i d], .i 0] else .tup [A2 [.i 0, .i 0], .i e]) := by
 by_cases he : e = 0
 ·rw [if_pos he]
  refine Fn0.of Tryz.func126 Tryz.ntmps126 rfl rfl rfl ?_
  simp only [A1]
  repeat' (first|refine W ?_|refine V ?_|(refine W2 ?_ ?_<;>intro hc))
  exact ⟨.inr rfl, [A2 [.i n, .i d], .i 0], .cons (Res.row [.i n, .i d] rfl rfl rfl rfl rfl) (.cons (.tmp rfl) .nil), .tup (.cons (.agg (A6 [.i n, .i d])) (.cons (.one (.lf _)) .nil))⟩
 ·rw [if_neg he]
  refine Fn0.of Tryz.func126 Tryz.ntmps126 rfl rfl rfl ?_
  simp only [A1]
  repeat' (first|refine W ?_|(apply p1k A0)|(apply Ords.nil;decide +kernel)|(apply Ords.one (i := 0);decide +kernel;exact rfl)|(apply Ords.one (i := 1);decide +kernel;exact rfl)|(apply Ords.one (i := 2);decide +kernel;exact rfl)|(apply Ords.one (i := 3);decide +kernel;exact rfl)|(apply Ords.one (i := 4);decide +kernel;exact rfl)|(apply Ords.one (i := 5);decide +kernel;exact rfl)|(apply Ords.one (i := 6);decide +kernel;exact rfl)|(apply Ords.one (i := 7);decide +kernel;exact rfl)|(apply Ords.one (i := 8);decide +kernel;exact rfl)|(apply Ords.one (i := 9);decide +kernel;exact rfl)|(apply Ords.two (i := 0) (j := 1);decide +kernel;exact rfl;exact rfl)|(apply Ords.two (i := 0) (j := 2);decide +kernel;exact rfl;exact rfl)|(apply Ords.two (i := 0) (j := 3);decide +kernel;exact rfl;exact rfl)|(apply Ords.two (i := 0) (j := 4);decide +kernel;exact rfl;exact rfl)|(apply Ords.two (i := 1) (j := 5);decide +kernel;exact rfl;exact rfl)|(apply Ords.two (i := 2) (j := 5);decide +kernel;exact rfl;exact rfl)|(apply Ords.two (i := 3) (j := 5);decide +kernel;exact rfl;exact rfl)|(apply Ords.two (i := 4) (j := 5);decide +kernel;exact rfl;exact rfl)|(apply Ords.two (i := 5) (j := 6);decide +kernel;exact rfl;exact rfl)|(apply Ords.two (i := 4) (j := 6);decide +kernel;exact rfl;exact rfl)|(apply Ords.two (i := 6) (j := 7);decide +kernel;exact rfl;exact rfl)|(apply Ords.two (i := 5) (j := 7);decide +kernel;exact rfl;exact rfl)|refine V ?_|(refine W2 ?_ ?_<;>intro hc))
  all_goals exact ⟨.inr rfl, [A2 [.i 0, .i 0], .i e], .cons (Res.row [.i 0, .i 0] rfl rfl rfl rfl rfl) (.cons (.tmp rfl) .nil), .tup (.cons (.agg (A6 [.i 0, .i 0])) (.cons (.one (.lf _)) .nil))⟩
def N2 (q : Rat) (e : Int) : AV := if e = 0 then frE q 0 else .tup [A2 [.i 0, .i 0], .i e]
theorem A40 (q : Rat) (e : Int) : (N2 q e).plain = true := by unfold N2;split <;> rfl
theorem A0r (q : Rat) (e : Int) : FnW Tryz.prog 126 [.i e] [A2 (frR q)] [.i e] (N2 q e) := p3s (A4b q.num q.den e) (A40 q e)
structure PcQ where
 f : Rat
 a : Rat
 b : Rat
 c : Rat
 deriving DecidableEq, Inhabited
def PcQ.row (p : PcQ) : List Lf := [.i p.f.num, .i p.f.den, .i p.a.num, .i p.a.den, .i p.b.num, .i p.b.den, .i p.c.num, .i p.c.den]
structure PcQ.ok (p : PcQ) : Prop where
 f : Fits p.f
 a : Fits p.a
 b : Fits p.b
 c : Fits p.c
def Fi (p : PcQ) (u : Rat) : Rat := p.c * u
def S6 (p : PcQ) (u : Rat) : Rat := p.b + kQ (Fi p u)
def Us (p : PcQ) (u : Rat) : Rat := kQ (S6 p u) * u
def A4i (p : PcQ) (u : Rat) : Rat := p.a + kQ (Us p u)
def La (p : PcQ) (u : Rat) : Rat := kQ (A4i p u)
def I2 (p : PcQ) (u : Rat) (e : Int) : Int := kE (A4i p u) (kE (Us p u) (kE (S6 p u) (kE (Fi p u) e)))
def Ox (p : PcQ) (u : Rat) : Rat := 2 * kQ (Fi p u)
def A4a (p : PcQ) (u : Rat) : Rat := p.b + kQ (Ox p u)
def Oy (p : PcQ) (u : Rat) : Rat := kQ (A4a p u)
def Kb (p : PcQ) (u : Rat) (e : Int) : Int := kE (A4a p u) (kE (Ox p u) (kE (Fi p u) e))
theorem W5 (p : PcQ) (u : Rat) (e : Int) (hp : p.ok) (hu : Fits u) : FnW Tryz.prog 127 [.i e] [A2 p.row, A2 (frR u)] [.i (I2 p u e)] (A2 (frR (La p u))) := by
 have c1 := Q8 p.c u e hp.c hu
 have c2 := Uq p.b (kQ (Fi p u)) (kE (Fi p u) e) hp.b (Cp _)
 have c3 := Q8 (kQ (S6 p u)) u (kE (S6 p u) (kE (Fi p u) e)) (Cp _) hu
 have c4 := Uq p.a (kQ (Us p u)) (kE (Us p u) (kE (S6 p u) (kE (Fi p u) e))) hp.a (Cp _)
 refine FnW.of Tryz.func127 Tryz.ntmps127 rfl rfl rfl ?_
 intro k o
 simp only [A1]
 repeat' (first|refine W ?_|(apply p0s;(iterate 3 exact rfl))|(apply p0l;(iterate 3 exact rfl))|(apply p1b;(iterate 5 exact rfl))|(apply p0t;(iterate 5 exact rfl))|(apply T.ret;change Eo _ _ _ _ _ _ _ _)|(apply p0m;(iterate 5 exact rfl);exact c1;exact rfl)|(apply p0i;(iterate 6 exact rfl);exact c1;exact rfl)|(apply p0m;(iterate 5 exact rfl);exact c2;exact rfl)|(apply p0i;(iterate 6 exact rfl);exact c2;exact rfl)|(apply p0m;(iterate 5 exact rfl);exact c3;exact rfl)|(apply p0i;(iterate 6 exact rfl);exact c3;exact rfl)|(apply p0m;(iterate 5 exact rfl);exact c4;exact rfl)|(apply p0i;(iterate 6 exact rfl);exact c4;exact rfl)|(apply p0e 16 A0 (by decide +kernel);simp only [td])|(apply p0f 16 A0 (by decide +kernel);simp only [td])|refine V ?_|(refine W2 ?_ ?_<;>intro hc))
 exact G4 [A2 (frR (La p u))] (.inr rfl) (.cons (Res.row (frR (La p u)) rfl rfl rfl rfl rfl) .nil) rfl rfl rfl
theorem A89 (p : PcQ) (u : Rat) (e : Int) (hp : p.ok) (hu : Fits u) : FnW Tryz.prog 261 [.i e] [A2 p.row, A2 (frR u)] [.i (Kb p u e)] (A2 (frR (Oy p u))) := by
 have c1 := Q8 p.c u e hp.c hu
 have c2 : FnW Tryz.prog 182 [.i (kE (Fi p u) e)] [A2 [.i 2, .i 1], A2 (frR (kQ (Fi p u)))] [.i (kE (Ox p u) (kE (Fi p u) e))] (A2 (frR (kQ (Ox p u)))) := Q8 2 (kQ (Fi p u)) (kE (Fi p u) e) (by decide) (Cp _)
 have c3 := Uq p.b (kQ (Ox p u)) (kE (Ox p u) (kE (Fi p u) e)) hp.b (Cp _)
 refine FnW.of Tryz.func261 Tryz.ntmps261 rfl rfl rfl ?_
 intro k o
 simp only [A1]
 repeat' (first|refine W ?_|(apply p0s;(iterate 3 exact rfl))|(apply p0l;(iterate 3 exact rfl))|(apply p1b;(iterate 5 exact rfl))|(apply p0t;(iterate 5 exact rfl))|(apply T.ret;change Eo _ _ _ _ _ _ _ _)|(apply p0m;(iterate 5 exact rfl);exact c1;exact rfl)|(apply p0i;(iterate 6 exact rfl);exact c1;exact rfl)|(apply p0m;(iterate 5 exact rfl);exact c2;exact rfl)|(apply p0i;(iterate 6 exact rfl);exact c2;exact rfl)|(apply p0m;(iterate 5 exact rfl);exact c3;exact rfl)|(apply p0i;(iterate 6 exact rfl);exact c3;exact rfl)|(apply p0e 12 A0 (by decide +kernel);simp only [td])|(apply p0f 12 A0 (by decide +kernel);simp only [td])|refine V ?_|(refine W2 ?_ ?_<;>intro hc))
 exact G4 [A2 (frR (Oy p u))] (.inr rfl) (.cons (Res.row (frR (Oy p u)) rfl rfl rfl rfl rfl) .nil) rfl rfl rfl
theorem Pi (p q : Rat) : Bq p q <= 0 ↔ p <= q := by
 unfold Bq
 by_cases h1 : p < q
 ·rw [if_pos h1];simp [a2p h1]
 ·rw [if_neg h1]
  by_cases h2 : q < p
  ·rw [if_pos h2];simp [a2m.2 h2]
  ·rw [if_neg h2];simp [a2l.1 h2]
theorem F6 (p q : Rat) : Bq p q < 0 ↔ p < q := by
 unfold Bq
 by_cases h1 : p < q
 ·rw [if_pos h1];simp [h1]
 ·rw [if_neg h1]
  by_cases h2 : q < p
  ·rw [if_pos h2];simp [h1]
  ·rw [if_neg h2];simp [h1]
theorem C1 (p q : Rat) (hp : Fits p) (hq : Fits q) : Fn0 Tryz.prog 138 [A2 (frR p), A2 (frR q)] (.i (Bq p q)) := by
 have c := J0 p q hp hq
 refine Fn0.of Tryz.func138 Tryz.ntmps138 rfl rfl rfl ?_
 simp only [A1]
 repeat' (first|refine W ?_|refine Zc c ?_|refine V ?_|(refine W2 ?_ ?_<;>intro hc))
 exact A4 (by simp) Tryz.results138 rfl rfl
def Ad (l : List PcQ) (k : Nat) : PcQ := l.getD k default
theorem C9 {l : List PcQ} {k : Nat} {x : PcQ} (h : l[k]? = some x) : Ad l k = x := by
 unfold Ad
 rw [a0j, h];rfl
def pcK (l : List PcQ) (t : Rat) : Nat -> Int
 | 0 => -1
 | k + 1 => if (Ad l k).f <= t then (k : Int) else pcK l t k
def pcI (l : List PcQ) (t : Rat) : Int := pcK l t l.length
theorem Ks (l : List PcQ) (t : Rat) : ∀ k : Nat, -1 <= pcK l t k /\ pcK l t k < k
 | 0 => by simp [pcK]
 | k + 1 => by
  have := Ks l t k
  simp only [pcK]
  split <;> omega
def okC (l : List PcQ) : Prop := ∀ p ∈ l, p.ok
theorem A23 (l : List PcQ) : ∀ r ∈ l.map PcQ.row, r.length = 8 := by
 intro r hr
 obtain ⟨p, _, rfl⟩ := a1a.1 hr
 rfl
theorem Vs (l : List PcQ) (t : Rat) (hl : okC l) (hn : l.length <= 1000) (ht : Fits t) : Fn0 Tryz.prog 125 [.sl (l.map PcQ.row), A2 (frR t)] (.i (pcI l t)) := by
 have hle : (l.map PcQ.row).length = l.length := a0a _
 refine Fn0.of Tryz.func125 Tryz.ntmps125 rfl rfl rfl ?_
 simp only [A1]
 repeat' (first|refine W ?_|refine V ?_|(refine W2 ?_ ?_<;>intro hc))
 refine p0d (fun k => k <= l.length) (fun k => l.length - k) (fun k => [(10, .i (k : Int)), (9, .i ((l.map PcQ.row).length : Nat)), (8, .sl (l.map PcQ.row)), (5, .i (pcK l t k)), (3, .ptr 0 0)]) (fun k => [.live ((frR t).map .lf)]) 0 (a0n _) CV (.live rfl .nil) ?_
 intro k hk
 by_cases hlt : k < l.length
 ·have h1 : (k : Int) < ((l.map PcQ.row).length : Nat) := by omega
  obtain ⟨x, hx⟩ := Ac hlt
  have hb := Af (R := PcQ.row) hx
  have hok := hl x (a0b hx)
  have c := C1 x.f t hok.f ht
  have hs : pcK l t (k + 1) = if x.f <= t then (k : Int) else pcK l t k := by simp only [pcK, C9 hx]
  by_cases hc : x.f <= t
  ·have hc' : Bq x.f t <= 0 := (Pi _ _).2 hc
   repeat' (first|refine W ?_|refine Za ?_|refine Zc c ?_|(apply S.indexR;(iterate 3 exact rfl);exact hb;omega;exact rfl)|(apply p0k;(iterate 4 exact rfl))|refine V ?_|(refine W2 ?_ ?_<;>intro hc))
   change Next _ _ _ _ _ _
   exact Next.go (k + 1) (by omega) (by omega) (.cons rfl rfl (.cons rfl rfl (.cons rfl rfl (.cons (by rw [hs, if_pos hc];rfl) rfl (.cons rfl rfl .nil))))) (.live rfl .nil)
  ·have hc' : ¬ Bq x.f t <= 0 := fun e => hc ((Pi _ _).1 e)
   repeat' (first|refine W ?_|refine Za ?_|refine Zc c ?_|(apply S.indexR;(iterate 3 exact rfl);exact hb;omega;exact rfl)|(apply p0k;(iterate 4 exact rfl))|refine V ?_|(refine W2 ?_ ?_<;>intro hc))
   change Next _ _ _ _ _ _
   exact Next.go (k + 1) (by omega) (by omega) (.cons rfl rfl (.cons rfl rfl (.cons rfl rfl (.cons (by rw [hs, if_neg hc];rfl) rfl (.cons rfl rfl .nil))))) (.live rfl .nil)
 ·have h1 : ¬ (k : Int) < ((l.map PcQ.row).length : Nat) := by omega
  obtain rfl : k = l.length := by omega
  repeat' (first|refine W ?_|refine V ?_|(refine W2 ?_ ?_<;>intro hc))
  exact A4 (by simp) Tryz.results125 rfl rfl
def atQ (l : List PcQ) (t : Rat) : Rat := if pcI l t < 0 then (Ad l 0).a else La (Ad l (pcI l t).toNat) (kQ (t - (Ad l (pcI l t).toNat).f))
def atE (l : List PcQ) (t : Rat) (e : Int) : Int := if pcI l t < 0 then e else I2 (Ad l (pcI l t).toNat) (kQ (t - (Ad l (pcI l t).toNat).f)) (kE (t - (Ad l (pcI l t).toNat).f) e)
theorem Ym {l : List PcQ} {t : Rat} (h : ¬ pcI l t < 0) : l[(pcI l t).toNat]? = some (Ad l (pcI l t).toNat) := by
 have := (Ks l t l.length).2
 have h2 : (pcI l t).toNat < l.length := by unfold pcI at *;omega
 rw [a0c h2]
 unfold Ad
 rw [a0j, a0c h2];rfl
def vF (n d : Int) : Prop := El n d = true
instance (n d : Int) : Decidable (vF n d) := by unfold vF;exact inferInstance
theorem Ji (n d : Int) : Fn0 Tryz.prog 84 [A2 [.i n, .i d]] (.b (decide (vF n d))) := by
 have := Ea n d
 rwa [show El n d = decide (vF n d) by unfold vF;exact Bool.decide_eq_true.symm] at this
structure pieceP (p : PieceR) : Prop where
 f : vF p.f1 p.f2
 a : vF p.a1 p.a2
 b : vF p.b1 p.b2
 c : vF p.c1 p.c2
instance (p : PieceR) : Decidable (pieceP p) := decidable_of_iff (vF p.f1 p.f2 /\ vF p.a1 p.a2 /\ vF p.b1 p.b2 /\ vF p.c1 p.c2) ⟨fun ⟨a, b, c, d⟩ => ⟨a, b, c, d⟩, fun ⟨a, b, c, d⟩ => ⟨a, b, c, d⟩⟩
def toQ (p : PieceR) : PcQ := ⟨A9 p.f1 p.f2, A9 p.a1 p.a2, A9 p.b1 p.b2, A9 p.c1 p.c2⟩
theorem Jq {n d : Int} (h : vF n d) : Fits (A9 n d) /\ (A9 n d).num = n /\ ((A9 n d).den : Int) = d := by
 obtain ⟨e1, e2⟩ := Te h
 obtain ⟨a1, a2, a3, a4, _⟩ := validB_spec.1 h
 exact ⟨⟨by rw [e1];omega, by omega⟩, e1, e2⟩
theorem pieceP.ok {p : PieceR} (h : pieceP p) : (toQ p).ok /\ (toQ p).row = p.row := by
 obtain ⟨h1, h2, h3⟩ := Jq h.f
 obtain ⟨i1, i2, i3⟩ := Jq h.a
 obtain ⟨j1, j2, j3⟩ := Jq h.b
 obtain ⟨k1, k2, k3⟩ := Jq h.c
 exact ⟨⟨h1, i1, j1, k1⟩, by simp only [PcQ.row, PieceR.row, toQ, h2, h3, i2, i3, j2, j3, k2, k3]⟩
instance : Inhabited PieceR := ⟨⟨0, 0, 0, 0, 0, 0, 0, 0⟩⟩
def Ml (l : List PieceR) (k : Nat) : Rat := (toQ (l.getD k default)).f
theorem H2 {l : List PieceR} {k : Nat} {x : PieceR} (h : l[k]? = some x) : Ml l k = (toQ x).f := by
 unfold Ml
 rw [a0j, h];rfl
def O1 (l : List PieceR) : Prop := (1 <= l.length /\ l.length <= 200) /\ (∀ p ∈ l, pieceP p) /\ ∀ i, i < l.length - 1 -> Ml l i < Ml l (i + 1)
instance (l : List PieceR) : Decidable (O1 l) := by unfold O1;exact inferInstance
theorem A9o {l : List PieceR} {k : Nat} (h : k + 1 < l.length) : ∃ y, l[k]? = some y := ⟨l[k]'(by omega), a0c (by omega)⟩
theorem Vt (l : List PieceR) (hn : l.length <= 1000000) : Fn0 Tryz.prog 124 [.sl (l.map PieceR.row)] (.b (decide (O1 l))) := by
 have hle : (l.map PieceR.row).length = l.length := a0a _
 by_cases h1 : (((l.map PieceR.row).length : Nat) : Int) < 1
 ·skip
  refine Fn0.of b1p b0y rfl rfl rfl ?_
  simp only [A1]
  repeat' (first|refine W ?_|refine V ?_|(refine W2 ?_ ?_<;>intro hc))
  exact A4 (by simp) a7f rfl (congrArg Value.bool (decide_eq_false fun h => by have := h.1.1;omega).symm)
 by_cases h2 : 200 < (((l.map PieceR.row).length : Nat) : Int)
 ·skip
  refine Fn0.of b1p b0y rfl rfl rfl ?_
  simp only [A1]
  repeat' (first|refine W ?_|refine V ?_|(refine W2 ?_ ?_<;>intro hc))
  exact A4 (by simp) a7f rfl (congrArg Value.bool (decide_eq_false fun h => by have := h.1.2;omega).symm)
 refine Fn0.of b1p b0y rfl rfl rfl ?_
 simp only [A1]
 repeat' (first|refine W ?_|refine V ?_|(refine W2 ?_ ?_<;>intro hc))
 refine p0d (fun k => k <= l.length /\ (∀ p ∈ l.take k, pieceP p) /\ ∀ i, i + 1 < k -> Ml l i < Ml l (i + 1)) (fun k => l.length - k) (fun k => [(15, .i (k : Int)), (14, .i ((l.map PieceR.row).length : Nat)), (13, .sl (l.map PieceR.row)), (0, .sl (l.map PieceR.row))]) (fun k => []) 0 ⟨a0n _, by simp, fun i hi => by omega⟩ CV .nil ?_
 rintro k ⟨hk, hp, hs⟩
 by_cases hlt : k < l.length
 ·have h3 : (k : Int) < ((l.map PieceR.row).length : Nat) := by omega
  obtain ⟨x, hx⟩ := Ac hlt
  have hb := Af (R := PieceR.row) hx
  have hmem := a0b hx
  have v1 := Ji x.f1 x.f2
  have v2 := Ji x.a1 x.a2
  have v3 := Ji x.b1 x.b2
  have v4 := Ji x.c1 x.c2
  by_cases w1 : vF x.f1 x.f2 /\ vF x.a1 x.a2 /\ vF x.b1 x.b2 /\ vF x.c1 x.c2
  ·obtain ⟨w1, w2, w3, w4⟩ := w1
   have hpx : pieceP x := ⟨w1, w2, w3, w4⟩
   have hp' : ∀ p ∈ l.take (k + 1), pieceP p := by
    intro p hm
    rw [a0w, hx] at hm
    rcases a0t.1 hm with hm | hm
    ·exact hp p hm
    ·obtain rfl : p = x := by simpa using hm
     exact hpx
   have n1 : ¬ ¬ vF x.f1 x.f2 := fun h => h w1
   have n2 : ¬ ¬ vF x.a1 x.a2 := fun h => h w2
   have n3 : ¬ ¬ vF x.b1 x.b2 := fun h => h w3
   have n4 : ¬ ¬ vF x.c1 x.c2 := fun h => h w4
   cases k with
   | zero =>
    have h5 : ¬ (0 : Int) < ((0 : Nat) : Int) := by omega
    repeat' (first|refine W ?_|refine Za ?_|refine Zc v1 ?_|refine Zc v2 ?_|refine Zc v3 ?_|refine Zc v4 ?_|(apply S.indexR;(iterate 3 exact rfl);exact hb;omega;exact rfl)|(apply p0k;(iterate 4 exact rfl))|(apply p0a A0 (by decide +kernel))|refine V ?_|(refine W2 ?_ ?_<;>intro hc))
    change Next _ _ _ _ _ _
    exact Next.go 1 ⟨by omega, hp', fun i hi => by omega⟩ (by omega) CV .nil
   | succ k =>
    have h5 : (0 : Int) < ((k + 1 : Nat) : Int) := by omega
    obtain ⟨y, hy⟩ := A9o hlt
    have hpy : pieceP y := hp y (a0b (by rw [a1t (a4b k)];exact hy))
    have hby : (l.map PieceR.row)[(((k + 1 : Nat) : Int) - 1).toNat]? = some y.row := by rw [show (((k + 1 : Nat) : Int) - 1).toNat = k by omega, a0e, hy];rfl
    have hcmp : Fn0 Tryz.prog 138 [A2 [.i y.f1, .i y.f2], A2 [.i x.f1, .i x.f2]] (.i (Bq (toQ y).f (toQ x).f)) := by
     have := C1 (toQ y).f (toQ x).f hpy.ok.1.f hpx.ok.1.f
     obtain ⟨_, e1, e2⟩ := Jq hpy.f
     obtain ⟨_, e3, e4⟩ := Jq hpx.f
     simp only [toQ, frR, e1, e2, e3, e4] at this ⊢
     exact this
    by_cases hc : (toQ y).f < (toQ x).f
    ·have hc' : ¬ 0 <= Bq (toQ y).f (toQ x).f := fun e => by have := (F6 _ _).2 hc;omega
     repeat' (first|refine W ?_|refine Za ?_|refine Zc v1 ?_|refine Zc v2 ?_|refine Zc v3 ?_|refine Zc v4 ?_|refine Zc hcmp ?_|(apply S.indexR;(iterate 3 exact rfl);exact hb;omega;exact rfl)|(apply S.indexR;(iterate 3 exact rfl);exact hby;omega;exact rfl)|(apply p0k;(iterate 4 exact rfl))|(apply p0a A0 (by decide +kernel))|refine V ?_|(refine W2 ?_ ?_<;>intro hc))
     change Next _ _ _ _ _ _
     refine Next.go (k + 2) ⟨by omega, hp', fun i hi => ?_⟩ (by omega) CV .nil
     by_cases hik : i = k
     ·subst hik
      rw [H2 hy, H2 hx];exact hc
     ·exact hs i (by omega)
    ·have hc' : 0 <= Bq (toQ y).f (toQ x).f := by
      rcases a9p (Bq (toQ y).f (toQ x).f) 0 with h | h
      ·exact absurd ((F6 _ _).1 h) hc
      ·exact h
     repeat' (first|refine W ?_|refine Za ?_|refine Zc v1 ?_|refine Zc v2 ?_|refine Zc v3 ?_|refine Zc v4 ?_|refine Zc hcmp ?_|(apply S.indexR;(iterate 3 exact rfl);exact hb;omega;exact rfl)|(apply S.indexR;(iterate 3 exact rfl);exact hby;omega;exact rfl)|(apply p0k;(iterate 4 exact rfl))|(apply p0a A0 (by decide +kernel))|refine V ?_|(refine W2 ?_ ?_<;>intro hc))
     exact A4 (by simp) a7f rfl (congrArg Value.bool (decide_eq_false fun h => hc (by have := h.2.2 k (by omega);rwa [H2 hy, H2 hx] at this)).symm)
  ·repeat' (first|refine W ?_|refine Za ?_|refine Zc v1 ?_|refine Zc v2 ?_|refine Zc v3 ?_|refine Zc v4 ?_|(apply S.indexR;(iterate 3 exact rfl);exact hb;omega;exact rfl)|(apply p0k;(iterate 4 exact rfl))|(apply p0a A0 (by decide +kernel))|refine V ?_|(refine W2 ?_ ?_<;>intro hc))
   all_goals first
    | exact A4 (by simp) a7f rfl (congrArg Value.bool (decide_eq_false fun h => w1 (by have := h.2.1 x hmem;exact ⟨this.f, this.a, this.b, this.c⟩)).symm)
    | (exfalso;simp_all;done)
 ·have h3 : ¬ (k : Int) < ((l.map PieceR.row).length : Nat) := by omega
  repeat' (first|refine W ?_|refine V ?_|(refine W2 ?_ ?_<;>intro hc))
  exact A4 (by simp) a7f rfl (congrArg Value.bool (decide_eq_true ⟨⟨by omega, by omega⟩, by rw [a0h (by omega)] at hp;exact hp, fun i hi => hs i (by omega)⟩).symm)
theorem Ys (l : List PcQ) (t : Rat) (hl : okC l) (h0 : l ≠ []) (hn : l.length <= 1000) (ht : Fits t) (hv : Fn0 Tryz.prog 124 [.sl (l.map PcQ.row)] (.b true)) : Fn0 Tryz.prog 81 [.sl (l.map PcQ.row), A2 (frR t)] (N2 (atQ l t) (atE l t 0)) := by
 have c := Vs l t hl hn ht
 have v1 : Fn0 Tryz.prog 84 [A2 (frR t)] (.b true) := by
  have := Ea t.num t.den
  rwa [ht.valid] at this
 unfold atQ atE
 by_cases h : pcI l t < 0
 ·rw [if_pos h, if_pos h]
  obtain ⟨x, hx⟩ : ∃ x, l[0]? = some x := ⟨l[0]'(a1j.2 h0), a0c _⟩
  have hb : (l.map PcQ.row)[(0 : Int).toNat]? = some x.row := by rw [show (0 : Int).toNat = 0 from rfl, a0e, hx];rfl
  rw [C9 hx]
  refine Fn0.of b2y b1x rfl rfl rfl ?_
  simp only [A1]
  repeat' (first|refine W ?_|refine Zc c ?_|refine Zc hv ?_|refine Zc v1 ?_|(apply S.indexR;(iterate 3 exact rfl);exact hb;omega;exact rfl)|(apply p0e 4 A0 (by decide +kernel);simp only [td])|(apply p0f 4 A0 (by decide +kernel);simp only [td])|refine V ?_|(refine W2 ?_ ?_<;>intro hc))
  exact ⟨.inr rfl, [A2 (frR x.a), .i 0], .cons (Res.row (frR x.a) rfl rfl rfl rfl rfl) (.cons (.tmp rfl) .nil), .tup (.cons (.agg (A6 (frR x.a))) (.cons (.one (.lf _)) .nil))⟩
 ·rw [if_neg h, if_neg h]
  have hx := Ym h
  generalize hxe : Ad l (pcI l t).toNat = x at hx
  have hb : (l.map PcQ.row)[(pcI l t).toNat]? = some x.row := by rw [a0e, hx];rfl
  have hok := hl x (a0b hx)
  have c1 := Q9 t x.f 0 ht hok.f
  have c2 := W5 x (kQ (t - x.f)) (kE (t - x.f) 0) hok (Cp _)
  have c3 := A0r (La x (kQ (t - x.f))) (I2 x (kQ (t - x.f)) (kE (t - x.f) 0))
  generalize hw : I2 x (kQ (t - x.f)) (kE (t - x.f) 0) = e at c2 c3
  generalize hq : La x (kQ (t - x.f)) = q at c2 c3
  unfold N2 at c3 ⊢
  by_cases he : e = 0
  ·subst he
   rw [if_pos rfl] at c3 ⊢
   refine Fn0.of b2y b1x rfl rfl rfl ?_
   simp only [A1]
   repeat' (first|refine W ?_|(refine T.heat 2 [.i 0] rfl rfl ?_;intro k o)|refine Zc c ?_|refine Zc hv ?_|refine Zc v1 ?_|(apply p0s;(iterate 3 exact rfl))|(apply p0l;(iterate 3 exact rfl))|(apply p1b;(iterate 5 exact rfl))|(apply p0t;(iterate 5 exact rfl))|(apply p0m;(iterate 5 exact rfl);exact c1;exact rfl)|(apply p0i;(iterate 6 exact rfl);exact c1;exact rfl)|(apply p0m;(iterate 5 exact rfl);exact c2;exact rfl)|(apply p0i;(iterate 6 exact rfl);exact c2;exact rfl)|(apply p0m;(iterate 5 exact rfl);exact c3;exact rfl)|(apply p0i;(iterate 6 exact rfl);exact c3;exact rfl)|(apply S.indexR;(iterate 3 exact rfl);exact hb;omega;exact rfl)|(apply p0k;(iterate 4 exact rfl))|(apply p0e 18 A0 (by decide +kernel);simp only [td])|(apply p0f 18 A0 (by decide +kernel);simp only [td])|refine V ?_|(refine W2 ?_ ?_<;>intro hc))
   exact ⟨.inr rfl, [A2 (frR q), .i 0], .cons (Res.row (frR q) rfl rfl rfl rfl rfl) (.cons (.tmp rfl) .nil), .tup (.cons (.agg (A6 (frR q))) (.cons (.one (.lf _)) .nil))⟩
  ·rw [if_neg he] at c3 ⊢
   refine Fn0.of b2y b1x rfl rfl rfl ?_
   simp only [A1]
   repeat' (first|refine W ?_|(refine T.heat 2 [.i 0] rfl rfl ?_;intro k o)|refine Zc c ?_|refine Zc hv ?_|refine Zc v1 ?_|(apply p0s;(iterate 3 exact rfl))|(apply p0l;(iterate 3 exact rfl))|(apply p1b;(iterate 5 exact rfl))|(apply p0t;(iterate 5 exact rfl))|(apply p0m;(iterate 5 exact rfl);exact c1;exact rfl)|(apply p0i;(iterate 6 exact rfl);exact c1;exact rfl)|(apply p0m;(iterate 5 exact rfl);exact c2;exact rfl)|(apply p0i;(iterate 6 exact rfl);exact c2;exact rfl)|(apply p0m;(iterate 5 exact rfl);exact c3;exact rfl)|(apply p0i;(iterate 6 exact rfl);exact c3;exact rfl)|(apply S.indexR;(iterate 3 exact rfl);exact hb;omega;exact rfl)|(apply p0k;(iterate 4 exact rfl))|(apply p0e 18 A0 (by decide +kernel);simp only [td])|(apply p0f 18 A0 (by decide +kernel);simp only [td])|refine V ?_|(refine W2 ?_ ?_<;>intro hc))
   exact ⟨.inr rfl, [A2 [.i 0, .i 0], .i e], .cons (Res.row [.i 0, .i 0] rfl rfl rfl rfl rfl) (.cons (.tmp rfl) .nil), .tup (.cons (.agg (A6 [.i 0, .i 0])) (.cons (.one (.lf _)) .nil))⟩
end Go.Proofs.YtlapbaiejnaeiaaGreatDoor
