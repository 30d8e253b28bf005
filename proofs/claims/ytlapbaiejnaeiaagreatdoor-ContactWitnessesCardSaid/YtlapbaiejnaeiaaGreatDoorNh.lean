/- Lemmas of the proof. -/
import Derived.Test.YtlapbaiejnaeiaaGreatDoorMp
import Derived.Test.YtlapbaiejnaeiaaGreatDoorNe
set_option linter.all false
set_option maxHeartbeats 64000000
namespace Go.Proofs.YtlapbaiejnaeiaaGreatDoor
open Go.RowKit
def a0p := @List.getD_eq_getElem?_getD
def a1n := @List.length_pos_iff
def a2c := @Rat.le_of_lt
def a2f := @Rat.not_le
def a2m := @Rat.not_lt
def a7d := @Tryz.results124
def a9r := @Int.lt_or_le
def b1b := @Tryz.ntmps124
def b1c := @Tryz.ntmps183
def b1q := @Tryz.func124
def b1r := @Tryz.func183
def b1y := @Tryz.ntmps81
def b2x := @Tryz.func81
theorem Fits.zero : Fits 0 := by decide
theorem Hl (p q : Rat) (hp : Fits p) (hq : Fits q) : Fn0 Tryz.prog 134 [A1 (frR p), A1 (frR q)] (Dn (p + q)) := Yq p q hp hq
theorem Fx (p q : Rat) (hp : Fits p) (hq : Fits q) : Fn0 Tryz.prog 85 [A1 (frR p), A1 (frR q)] (Dn (p - q)) := A6v p q hp hq
theorem A3f (p q : Rat) (hp : Fits p) (hq : Fits q) : Fn0 Tryz.prog 115 [A1 (frR p), A1 (frR q)] (Dn (p * q)) := Yr p q hp hq
theorem G9 (n d : Int) : Fn0 Tryz.prog 84 [A1 [.i n, .i d]] (.b (Ee n d)) := Ys n d

/-! ### Operations that keep the first error -/
def kQ (r : Rat) : Rat := if Fits r then r else 0
def kE (r : Rat) (e : Int) : Int := if Fits r then e else if e = 0 then 5 else e
theorem Cj (r : Rat) : Fits (kQ r) := by
 unfold kQ
 split
 ·assumption
 ·exact Fits.zero
theorem Mg : Fn0 Tryz.prog 140 [] (A1 (frR 0)) := by
 refine Fn0.of Tryz.func140 Tryz.ntmps140 rfl rfl rfl ?_
 simp only [A2]
 repeat' (first|refine W ?_|refine V ?_|(refine W2 ?_ ?_<;>intro hc))
 exact ⟨.inr rfl, [A1 (frR 0)], .cons (Res.row (frR 0) rfl rfl rfl rfl rfl) .nil, .one (.agg (A6 (frR 0)))⟩
theorem Od (n d e : Int) : FnW Tryz.prog 183 [.i e] [A1 [.i n, .i d], .i 0] [.i e] (A1 [.i n, .i d]) := by
 refine FnW.of b1r b1c rfl rfl rfl ?_
 intro k o
 simp only [A2]
 repeat' (first|refine W ?_|(apply p0r;(iterate 3 exact rfl))|(apply p0l;(iterate 3 exact rfl))|(apply p1b;(iterate 5 exact rfl))|(apply p0s;(iterate 5 exact rfl))|(apply T.ret;change Eh _ _ _ _ _ _ _ _)|refine V ?_|(refine W2 ?_ ?_<;>intro hc))
 exact Fm [A1 ([.i n, .i d])] (.inr rfl) (.cons (Res.row ([.i n, .i d]) rfl rfl rfl rfl rfl) .nil) rfl rfl rfl
theorem Oe (e : Int) : FnW Tryz.prog 183 [.i e] [A1 [.i 0, .i 0], .i 5] [.i (if e = 0 then 5 else e)] (A1 (frR 0)) := by
 by_cases he : e = 0
 ·rw [if_pos he]
  refine FnW.of b1r b1c rfl rfl rfl ?_
  intro k o
  simp only [A2]
  repeat' (first|refine W ?_|(apply p0r;(iterate 3 exact rfl))|(apply p0l;(iterate 3 exact rfl))|(apply p1b;(iterate 5 exact rfl))|(apply p0s;(iterate 5 exact rfl))|(apply T.ret;change Eh _ _ _ _ _ _ _ _)|refine Zc Mg ?_|refine V ?_|(refine W2 ?_ ?_<;>intro hc))
  exact Fm [A1 (frR 0)] (.inr rfl) (.cons (Res.row (frR 0) rfl rfl rfl rfl rfl) .nil) rfl rfl rfl
 ·rw [if_neg he]
  refine FnW.of b1r b1c rfl rfl rfl ?_
  intro k o
  simp only [A2]
  repeat' (first|refine W ?_|(apply p0r;(iterate 3 exact rfl))|(apply p0l;(iterate 3 exact rfl))|(apply p1b;(iterate 5 exact rfl))|(apply p0s;(iterate 5 exact rfl))|(apply T.ret;change Eh _ _ _ _ _ _ _ _)|refine Zc Mg ?_|refine V ?_|(refine W2 ?_ ?_<;>intro hc))
  exact Fm [A1 (frR 0)] (.inr rfl) (.cons (Res.row (frR 0) rfl rfl rfl rfl rfl) .nil) rfl rfl rfl
theorem Uj (p q : Rat) (e : Int) (hp : Fits p) (hq : Fits q) : FnW Tryz.prog 181 [.i e] [A1 (frR p), A1 (frR q)] [.i (kE (p + q) e)] (A1 (frR (kQ (p + q)))) := by
 have c := Hl p q hp hq
 unfold Dn at c
 unfold kE kQ
 by_cases hf : Fits (p + q)
 ·rw [if_pos hf] at c ⊢
  rw [if_pos hf]
  have k1 := Od (p + q).num (p + q).den e
  refine FnW.of Tryz.func181 Tryz.ntmps181 rfl rfl rfl ?_
  intro k o
  simp only [A2]
  repeat' (first|refine W ?_|(apply p0r;(iterate 3 exact rfl))|(apply p0l;(iterate 3 exact rfl))|(apply p1b;(iterate 5 exact rfl))|(apply p0s;(iterate 5 exact rfl))|(apply T.ret;change Eh _ _ _ _ _ _ _ _)|refine Zc c ?_|(apply p0m;(iterate 5 exact rfl);exact k1;exact rfl)|(apply p0i;(iterate 6 exact rfl);exact k1;exact rfl)|(apply p0e 6 A0 (by decide +kernel);simp only [td])|(apply p0f 6 A0 (by decide +kernel);simp only [td])|refine V ?_|(refine W2 ?_ ?_<;>intro hc))
  exact Fm [A1 (frR (p + q))] (.inr rfl) (.cons (Res.row (frR (p + q)) rfl rfl rfl rfl rfl) .nil) rfl rfl rfl
 ·rw [if_neg hf] at c ⊢
  rw [if_neg hf]
  have k1 := Oe e
  refine FnW.of Tryz.func181 Tryz.ntmps181 rfl rfl rfl ?_
  intro k o
  simp only [A2]
  repeat' (first|refine W ?_|(apply p0r;(iterate 3 exact rfl))|(apply p0l;(iterate 3 exact rfl))|(apply p1b;(iterate 5 exact rfl))|(apply p0s;(iterate 5 exact rfl))|(apply T.ret;change Eh _ _ _ _ _ _ _ _)|refine Zc c ?_|(apply p0m;(iterate 5 exact rfl);exact k1;exact rfl)|(apply p0i;(iterate 6 exact rfl);exact k1;exact rfl)|(apply p0e 6 A0 (by decide +kernel);simp only [td])|(apply p0f 6 A0 (by decide +kernel);simp only [td])|refine V ?_|(refine W2 ?_ ?_<;>intro hc))
  exact Fm [A1 (frR 0)] (.inr rfl) (.cons (Res.row (frR 0) rfl rfl rfl rfl rfl) .nil) rfl rfl rfl
theorem Pi (p q : Rat) (e : Int) (hp : Fits p) (hq : Fits q) : FnW Tryz.prog 128 [.i e] [A1 (frR p), A1 (frR q)] [.i (kE (p - q) e)] (A1 (frR (kQ (p - q)))) := by
 have c := Fx p q hp hq
 unfold Dn at c
 unfold kE kQ
 by_cases hf : Fits (p - q)
 ·rw [if_pos hf] at c ⊢
  rw [if_pos hf]
  have k1 := Od (p - q).num (p - q).den e
  refine FnW.of Tryz.func128 Tryz.ntmps128 rfl rfl rfl ?_
  intro k o
  simp only [A2]
  repeat' (first|refine W ?_|(apply p0r;(iterate 3 exact rfl))|(apply p0l;(iterate 3 exact rfl))|(apply p1b;(iterate 5 exact rfl))|(apply p0s;(iterate 5 exact rfl))|(apply T.ret;change Eh _ _ _ _ _ _ _ _)|refine Zc c ?_|(apply p0m;(iterate 5 exact rfl);exact k1;exact rfl)|(apply p0i;(iterate 6 exact rfl);exact k1;exact rfl)|(apply p0e 6 A0 (by decide +kernel);simp only [td])|(apply p0f 6 A0 (by decide +kernel);simp only [td])|refine V ?_|(refine W2 ?_ ?_<;>intro hc))
  exact Fm [A1 (frR (p - q))] (.inr rfl) (.cons (Res.row (frR (p - q)) rfl rfl rfl rfl rfl) .nil) rfl rfl rfl
 ·rw [if_neg hf] at c ⊢
  rw [if_neg hf]
  have k1 := Oe e
  refine FnW.of Tryz.func128 Tryz.ntmps128 rfl rfl rfl ?_
  intro k o
  simp only [A2]
  repeat' (first|refine W ?_|(apply p0r;(iterate 3 exact rfl))|(apply p0l;(iterate 3 exact rfl))|(apply p1b;(iterate 5 exact rfl))|(apply p0s;(iterate 5 exact rfl))|(apply T.ret;change Eh _ _ _ _ _ _ _ _)|refine Zc c ?_|(apply p0m;(iterate 5 exact rfl);exact k1;exact rfl)|(apply p0i;(iterate 6 exact rfl);exact k1;exact rfl)|(apply p0e 6 A0 (by decide +kernel);simp only [td])|(apply p0f 6 A0 (by decide +kernel);simp only [td])|refine V ?_|(refine W2 ?_ ?_<;>intro hc))
  exact Fm [A1 (frR 0)] (.inr rfl) (.cons (Res.row (frR 0) rfl rfl rfl rfl rfl) .nil) rfl rfl rfl
theorem Ph (p q : Rat) (e : Int) (hp : Fits p) (hq : Fits q) : FnW Tryz.prog 182 [.i e] [A1 (frR p), A1 (frR q)] [.i (kE (p * q) e)] (A1 (frR (kQ (p * q)))) := by
 have c := A3f p q hp hq
 unfold Dn at c
 unfold kE kQ
 by_cases hf : Fits (p * q)
 ·rw [if_pos hf] at c ⊢
  rw [if_pos hf]
  have k1 := Od (p * q).num (p * q).den e
  refine FnW.of Tryz.func182 Tryz.ntmps182 rfl rfl rfl ?_
  intro k o
  simp only [A2]
  repeat' (first|refine W ?_|(apply p0r;(iterate 3 exact rfl))|(apply p0l;(iterate 3 exact rfl))|(apply p1b;(iterate 5 exact rfl))|(apply p0s;(iterate 5 exact rfl))|(apply T.ret;change Eh _ _ _ _ _ _ _ _)|refine Zc c ?_|(apply p0m;(iterate 5 exact rfl);exact k1;exact rfl)|(apply p0i;(iterate 6 exact rfl);exact k1;exact rfl)|(apply p0e 6 A0 (by decide +kernel);simp only [td])|(apply p0f 6 A0 (by decide +kernel);simp only [td])|refine V ?_|(refine W2 ?_ ?_<;>intro hc))
  exact Fm [A1 (frR (p * q))] (.inr rfl) (.cons (Res.row (frR (p * q)) rfl rfl rfl rfl rfl) .nil) rfl rfl rfl
 ·rw [if_neg hf] at c ⊢
  rw [if_neg hf]
  have k1 := Oe e
  refine FnW.of Tryz.func182 Tryz.ntmps182 rfl rfl rfl ?_
  intro k o
  simp only [A2]
  repeat' (first|refine W ?_|(apply p0r;(iterate 3 exact rfl))|(apply p0l;(iterate 3 exact rfl))|(apply p1b;(iterate 5 exact rfl))|(apply p0s;(iterate 5 exact rfl))|(apply T.ret;change Eh _ _ _ _ _ _ _ _)|refine Zc c ?_|(apply p0m;(iterate 5 exact rfl);exact k1;exact rfl)|(apply p0i;(iterate 6 exact rfl);exact k1;exact rfl)|(apply p0e 6 A0 (by decide +kernel);simp only [td])|(apply p0f 6 A0 (by decide +kernel);simp only [td])|refine V ?_|(refine W2 ?_ ?_<;>intro hc))
  exact Fm [A1 (frR 0)] (.inr rfl) (.cons (Res.row (frR 0) rfl rfl rfl rfl rfl) .nil) rfl rfl rfl
theorem A3s (n d e : Int) : Fn0 Tryz.prog 126 [.rop [.i e], A1 [.i n, .i d]] (if e = 0 then .tup [A1 [.i n, .i d], .i 0] else .tup [A1 [.i 0, .i 0], .i e]) := by
 by_cases he : e = 0
 ·rw [if_pos he]
  refine Fn0.of Tryz.func126 Tryz.ntmps126 rfl rfl rfl ?_
  simp only [A2]
  repeat' (first|refine W ?_|refine V ?_|(refine W2 ?_ ?_<;>intro hc))
  exact ⟨.inr rfl, [A1 [.i n, .i d], .i 0], .cons (Res.row [.i n, .i d] rfl rfl rfl rfl rfl) (.cons (.tmp rfl) .nil), .tup (.cons (.agg (A6 [.i n, .i d])) (.cons (.one (.lf _)) .nil))⟩
 ·rw [if_neg he]
  refine Fn0.of Tryz.func126 Tryz.ntmps126 rfl rfl rfl ?_
  simp only [A2]
  repeat' (first|refine W ?_|(apply p1i A0)|(apply Ords.nil;decide +kernel)|(apply Ords.one (i := 0);decide +kernel;exact rfl)|(apply Ords.one (i := 1);decide +kernel;exact rfl)|(apply Ords.one (i := 2);decide +kernel;exact rfl)|(apply Ords.one (i := 3);decide +kernel;exact rfl)|(apply Ords.one (i := 4);decide +kernel;exact rfl)|(apply Ords.one (i := 5);decide +kernel;exact rfl)|(apply Ords.one (i := 6);decide +kernel;exact rfl)|(apply Ords.one (i := 7);decide +kernel;exact rfl)|(apply Ords.one (i := 8);decide +kernel;exact rfl)|(apply Ords.one (i := 9);decide +kernel;exact rfl)|(apply Ords.two (i := 0) (j := 1);decide +kernel;exact rfl;exact rfl)|(apply Ords.two (i := 0) (j := 2);decide +kernel;exact rfl;exact rfl)|(apply Ords.two (i := 0) (j := 3);decide +kernel;exact rfl;exact rfl)|(apply Ords.two (i := 0) (j := 4);decide +kernel;exact rfl;exact rfl)|(apply Ords.two (i := 1) (j := 5);decide +kernel;exact rfl;exact rfl)|(apply Ords.two (i := 2) (j := 5);decide +kernel;exact rfl;exact rfl)|(apply Ords.two (i := 3) (j := 5);decide +kernel;exact rfl;exact rfl)|(apply Ords.two (i := 4) (j := 5);decide +kernel;exact rfl;exact rfl)|(apply Ords.two (i := 5) (j := 6);decide +kernel;exact rfl;exact rfl)|(apply Ords.two (i := 4) (j := 6);decide +kernel;exact rfl;exact rfl)|(apply Ords.two (i := 6) (j := 7);decide +kernel;exact rfl;exact rfl)|(apply Ords.two (i := 5) (j := 7);decide +kernel;exact rfl;exact rfl)|refine V ?_|(refine W2 ?_ ?_<;>intro hc))
  all_goals exact ⟨.inr rfl, [A1 [.i 0, .i 0], .i e], .cons (Res.row [.i 0, .i 0] rfl rfl rfl rfl rfl) (.cons (.tmp rfl) .nil), .tup (.cons (.agg (A6 [.i 0, .i 0])) (.cons (.one (.lf _)) .nil))⟩
def Uc (q : Rat) (e : Int) : AV := if e = 0 then frE q 0 else .tup [A1 [.i 0, .i 0], .i e]
theorem A3g (q : Rat) (e : Int) : (Uc q e).plain = true := by unfold Uc;split <;> rfl
theorem A0i (q : Rat) (e : Int) : FnW Tryz.prog 126 [.i e] [A1 (frR q)] [.i e] (Uc q e) := p3t (A3s q.num q.den e) (A3g q e)
structure PcQ where
 f : Rat
 a : Rat
 b : Rat
 c : Rat
 deriving DecidableEq, Inhabited
def PcQ.row (p : PcQ) : List Lf := [.i p.f.num, .i p.f.den, .i p.a.num, .i p.a.den, .i p.b.num, .i p.b.den, .i p.c.num, .i p.c.den]
structure PcQ.ok (p : PcQ) : Prop where
 f : Fits p.f
 a : Fits p.a
 b : Fits p.b
 c : Fits p.c
def F4 (p : PcQ) (u : Rat) : Rat := p.c * u
def Rl (p : PcQ) (u : Rat) : Rat := p.b + kQ (F4 p u)
def Uk (p : PcQ) (u : Rat) : Rat := kQ (Rl p u) * u
def A3z (p : PcQ) (u : Rat) : Rat := p.a + kQ (Uk p u)
def Kv (p : PcQ) (u : Rat) : Rat := kQ (A3z p u)
def Ho (p : PcQ) (u : Rat) (e : Int) : Int := kE (A3z p u) (kE (Uk p u) (kE (Rl p u) (kE (F4 p u) e)))
def O9 (p : PcQ) (u : Rat) : Rat := 2 * kQ (F4 p u)
def A3q (p : PcQ) (u : Rat) : Rat := p.b + kQ (O9 p u)
def Oa (p : PcQ) (u : Rat) : Rat := kQ (A3q p u)
def Jy (p : PcQ) (u : Rat) (e : Int) : Int := kE (A3q p u) (kE (O9 p u) (kE (F4 p u) e))
theorem Vv (p : PcQ) (u : Rat) (e : Int) (hp : p.ok) (hu : Fits u) : FnW Tryz.prog 127 [.i e] [A1 p.row, A1 (frR u)] [.i (Ho p u e)] (A1 (frR (Kv p u))) := by
 have c1 := Ph p.c u e hp.c hu
 have c2 := Uj p.b (kQ (F4 p u)) (kE (F4 p u) e) hp.b (Cj _)
 have c3 := Ph (kQ (Rl p u)) u (kE (Rl p u) (kE (F4 p u) e)) (Cj _) hu
 have c4 := Uj p.a (kQ (Uk p u)) (kE (Uk p u) (kE (Rl p u) (kE (F4 p u) e))) hp.a (Cj _)
 refine FnW.of Tryz.func127 Tryz.ntmps127 rfl rfl rfl ?_
 intro k o
 simp only [A2]
 repeat' (first|refine W ?_|(apply p0r;(iterate 3 exact rfl))|(apply p0l;(iterate 3 exact rfl))|(apply p1b;(iterate 5 exact rfl))|(apply p0s;(iterate 5 exact rfl))|(apply T.ret;change Eh _ _ _ _ _ _ _ _)|(apply p0m;(iterate 5 exact rfl);exact c1;exact rfl)|(apply p0i;(iterate 6 exact rfl);exact c1;exact rfl)|(apply p0m;(iterate 5 exact rfl);exact c2;exact rfl)|(apply p0i;(iterate 6 exact rfl);exact c2;exact rfl)|(apply p0m;(iterate 5 exact rfl);exact c3;exact rfl)|(apply p0i;(iterate 6 exact rfl);exact c3;exact rfl)|(apply p0m;(iterate 5 exact rfl);exact c4;exact rfl)|(apply p0i;(iterate 6 exact rfl);exact c4;exact rfl)|(apply p0e 16 A0 (by decide +kernel);simp only [td])|(apply p0f 16 A0 (by decide +kernel);simp only [td])|refine V ?_|(refine W2 ?_ ?_<;>intro hc))
 exact Fm [A1 (frR (Kv p u))] (.inr rfl) (.cons (Res.row (frR (Kv p u)) rfl rfl rfl rfl rfl) .nil) rfl rfl rfl
theorem A7a (p : PcQ) (u : Rat) (e : Int) (hp : p.ok) (hu : Fits u) : FnW Tryz.prog 261 [.i e] [A1 p.row, A1 (frR u)] [.i (Jy p u e)] (A1 (frR (Oa p u))) := by
 have c1 := Ph p.c u e hp.c hu
 have c2 : FnW Tryz.prog 182 [.i (kE (F4 p u) e)] [A1 [.i 2, .i 1], A1 (frR (kQ (F4 p u)))] [.i (kE (O9 p u) (kE (F4 p u) e))] (A1 (frR (kQ (O9 p u)))) := Ph 2 (kQ (F4 p u)) (kE (F4 p u) e) (by decide) (Cj _)
 have c3 := Uj p.b (kQ (O9 p u)) (kE (O9 p u) (kE (F4 p u) e)) hp.b (Cj _)
 refine FnW.of Tryz.func261 Tryz.ntmps261 rfl rfl rfl ?_
 intro k o
 simp only [A2]
 repeat' (first|refine W ?_|(apply p0r;(iterate 3 exact rfl))|(apply p0l;(iterate 3 exact rfl))|(apply p1b;(iterate 5 exact rfl))|(apply p0s;(iterate 5 exact rfl))|(apply T.ret;change Eh _ _ _ _ _ _ _ _)|(apply p0m;(iterate 5 exact rfl);exact c1;exact rfl)|(apply p0i;(iterate 6 exact rfl);exact c1;exact rfl)|(apply p0m;(iterate 5 exact rfl);exact c2;exact rfl)|(apply p0i;(iterate 6 exact rfl);exact c2;exact rfl)|(apply p0m;(iterate 5 exact rfl);exact c3;exact rfl)|(apply p0i;(iterate 6 exact rfl);exact c3;exact rfl)|(apply p0e 12 A0 (by decide +kernel);simp only [td])|(apply p0f 12 A0 (by decide +kernel);simp only [td])|refine V ?_|(refine W2 ?_ ?_<;>intro hc))
 exact Fm [A1 (frR (Oa p u))] (.inr rfl) (.cons (Res.row (frR (Oa p u)) rfl rfl rfl rfl rfl) .nil) rfl rfl rfl
theorem Ow (p q : Rat) : C4 p q <= 0 ↔ p <= q := by
 unfold C4
 by_cases h1 : p < q
 ·rw [if_pos h1];simp [a2c h1]
 ·rw [if_neg h1]
  by_cases h2 : q < p
  ·rw [if_pos h2];simp [a2f.2 h2]
  ·rw [if_neg h2];simp [a2m.1 h2]
theorem Gt (p q : Rat) : C4 p q < 0 ↔ p < q := by
 unfold C4
 by_cases h1 : p < q
 ·rw [if_pos h1];simp [h1]
 ·rw [if_neg h1]
  by_cases h2 : q < p
  ·rw [if_pos h2];simp [h1]
  ·rw [if_neg h2];simp [h1]
theorem Bw (p q : Rat) (hp : Fits p) (hq : Fits q) : Fn0 Tryz.prog 138 [A1 (frR p), A1 (frR q)] (.i (C4 p q)) := by
 have c := O5 p q hp hq
 refine Fn0.of Tryz.func138 Tryz.ntmps138 rfl rfl rfl ?_
 simp only [A2]
 repeat' (first|refine W ?_|refine Zc c ?_|refine V ?_|(refine W2 ?_ ?_<;>intro hc))
 exact A4 (by simp) Tryz.results138 rfl rfl
def A8 (l : List PcQ) (k : Nat) : PcQ := l.getD k default
theorem Ck {l : List PcQ} {k : Nat} {x : PcQ} (h : l[k]? = some x) : A8 l k = x := by
 unfold A8
 rw [a0p, h];rfl
def pcK (l : List PcQ) (t : Rat) : Nat -> Int
 | 0 => -1
 | k + 1 => if (A8 l k).f <= t then (k : Int) else pcK l t k
def pcI (l : List PcQ) (t : Rat) : Int := pcK l t l.length
theorem Kd (l : List PcQ) (t : Rat) : ∀ k : Nat, -1 <= pcK l t k /\ pcK l t k < k
 | 0 => by simp [pcK]
 | k + 1 => by
  have := Kd l t k
  simp only [pcK]
  split <;> omega
def okC (l : List PcQ) : Prop := ∀ p ∈ l, p.ok
theorem A1l (l : List PcQ) : ∀ r ∈ l.map PcQ.row, r.length = 8 := by
 intro r hr
 obtain ⟨p, _, rfl⟩ := a1b.1 hr
 rfl
theorem Vl (l : List PcQ) (t : Rat) (hl : okC l) (hn : l.length <= 1000) (ht : Fits t) : Fn0 Tryz.prog 125 [.sl (l.map PcQ.row), A1 (frR t)] (.i (pcI l t)) := by
 have hle : (l.map PcQ.row).length = l.length := a0a _
 refine Fn0.of Tryz.func125 Tryz.ntmps125 rfl rfl rfl ?_
 simp only [A2]
 repeat' (first|refine W ?_|refine V ?_|(refine W2 ?_ ?_<;>intro hc))
 refine p0d (fun k => k <= l.length) (fun k => l.length - k) (fun k => [(10, .i (k : Int)), (9, .i ((l.map PcQ.row).length : Nat)), (8, .sl (l.map PcQ.row)), (5, .i (pcK l t k)), (3, .ptr 0 0)]) (fun k => [.live ((frR t).map .lf)]) 0 (a0o _) CV (.live rfl .nil) ?_
 intro k hk
 by_cases hlt : k < l.length
 ·have h1 : (k : Int) < ((l.map PcQ.row).length : Nat) := by omega
  obtain ⟨x, hx⟩ := Aa hlt
  have hb := Ab (R := PcQ.row) hx
  have hok := hl x (a0c hx)
  have c := Bw x.f t hok.f ht
  have hs : pcK l t (k + 1) = if x.f <= t then (k : Int) else pcK l t k := by simp only [pcK, Ck hx]
  by_cases hc : x.f <= t
  ·have hc' : C4 x.f t <= 0 := (Ow _ _).2 hc
   repeat' (first|refine W ?_|refine Za ?_|refine Zc c ?_|(apply S.indexR;(iterate 3 exact rfl);exact hb;omega;exact rfl)|(apply p0k;(iterate 4 exact rfl))|refine V ?_|(refine W2 ?_ ?_<;>intro hc))
   change Next _ _ _ _ _ _
   exact Next.go (k + 1) (by omega) (by omega) (.cons rfl rfl (.cons rfl rfl (.cons rfl rfl (.cons (by rw [hs, if_pos hc];rfl) rfl (.cons rfl rfl .nil))))) (.live rfl .nil)
  ·have hc' : ¬ C4 x.f t <= 0 := fun e => hc ((Ow _ _).1 e)
   repeat' (first|refine W ?_|refine Za ?_|refine Zc c ?_|(apply S.indexR;(iterate 3 exact rfl);exact hb;omega;exact rfl)|(apply p0k;(iterate 4 exact rfl))|refine V ?_|(refine W2 ?_ ?_<;>intro hc))
   change Next _ _ _ _ _ _
   exact Next.go (k + 1) (by omega) (by omega) (.cons rfl rfl (.cons rfl rfl (.cons rfl rfl (.cons (by rw [hs, if_neg hc];rfl) rfl (.cons rfl rfl .nil))))) (.live rfl .nil)
 ·have h1 : ¬ (k : Int) < ((l.map PcQ.row).length : Nat) := by omega
  obtain rfl : k = l.length := by omega
  repeat' (first|refine W ?_|refine V ?_|(refine W2 ?_ ?_<;>intro hc))
  exact A4 (by simp) Tryz.results125 rfl rfl
def atQ (l : List PcQ) (t : Rat) : Rat := if pcI l t < 0 then (A8 l 0).a else Kv (A8 l (pcI l t).toNat) (kQ (t - (A8 l (pcI l t).toNat).f))
def atE (l : List PcQ) (t : Rat) (e : Int) : Int := if pcI l t < 0 then e else Ho (A8 l (pcI l t).toNat) (kQ (t - (A8 l (pcI l t).toNat).f)) (kE (t - (A8 l (pcI l t).toNat).f) e)
theorem Yi {l : List PcQ} {t : Rat} (h : ¬ pcI l t < 0) : l[(pcI l t).toNat]? = some (A8 l (pcI l t).toNat) := by
 have := (Kd l t l.length).2
 have h2 : (pcI l t).toNat < l.length := by unfold pcI at *;omega
 rw [a0b h2]
 unfold A8
 rw [a0p, a0b h2];rfl
def vF (n d : Int) : Prop := Ee n d = true
instance (n d : Int) : Decidable (vF n d) := by unfold vF;exact inferInstance
theorem Iz (n d : Int) : Fn0 Tryz.prog 84 [A1 [.i n, .i d]] (.b (decide (vF n d))) := by
 have := G9 n d
 rwa [show Ee n d = decide (vF n d) by unfold vF;exact Bool.decide_eq_true.symm] at this
structure pieceP (p : PieceR) : Prop where
 f : vF p.f1 p.f2
 a : vF p.a1 p.a2
 b : vF p.b1 p.b2
 c : vF p.c1 p.c2
instance (p : PieceR) : Decidable (pieceP p) := decidable_of_iff (vF p.f1 p.f2 /\ vF p.a1 p.a2 /\ vF p.b1 p.b2 /\ vF p.c1 p.c2) ⟨fun ⟨a, b, c, d⟩ => ⟨a, b, c, d⟩, fun ⟨a, b, c, d⟩ => ⟨a, b, c, d⟩⟩
def toQ (p : PieceR) : PcQ := ⟨A9 p.f1 p.f2, A9 p.a1 p.a2, A9 p.b1 p.b2, A9 p.c1 p.c2⟩
theorem Ja {n d : Int} (h : vF n d) : Fits (A9 n d) /\ (A9 n d).num = n /\ ((A9 n d).den : Int) = d := by
 obtain ⟨e1, e2⟩ := T0 h
 obtain ⟨a1, a2, a3, a4, _⟩ := validB_spec.1 h
 exact ⟨⟨by rw [e1];omega, by omega⟩, e1, e2⟩
theorem pieceP.ok {p : PieceR} (h : pieceP p) : (toQ p).ok /\ (toQ p).row = p.row := by
 obtain ⟨h1, h2, h3⟩ := Ja h.f
 obtain ⟨i1, i2, i3⟩ := Ja h.a
 obtain ⟨j1, j2, j3⟩ := Ja h.b
 obtain ⟨k1, k2, k3⟩ := Ja h.c
 exact ⟨⟨h1, i1, j1, k1⟩, by simp only [PcQ.row, PieceR.row, toQ, h2, h3, i2, i3, j2, j3, k2, k3]⟩
instance : Inhabited PieceR := ⟨⟨0, 0, 0, 0, 0, 0, 0, 0⟩⟩
def M2 (l : List PieceR) (k : Nat) : Rat := (toQ (l.getD k default)).f
theorem Gm {l : List PieceR} {k : Nat} {x : PieceR} (h : l[k]? = some x) : M2 l k = (toQ x).f := by
 unfold M2
 rw [a0p, h];rfl
def Nj (l : List PieceR) : Prop := (1 <= l.length /\ l.length <= 200) /\ (∀ p ∈ l, pieceP p) /\ ∀ i, i < l.length - 1 -> M2 l i < M2 l (i + 1)
instance (l : List PieceR) : Decidable (Nj l) := by unfold Nj;exact inferInstance
theorem A8o {l : List PieceR} {k : Nat} (h : k + 1 < l.length) : ∃ y, l[k]? = some y := ⟨l[k]'(by omega), a0b (by omega)⟩
theorem Vm (l : List PieceR) (hn : l.length <= 1000000) : Fn0 Tryz.prog 124 [.sl (l.map PieceR.row)] (.b (decide (Nj l))) := by
 have hle : (l.map PieceR.row).length = l.length := a0a _
 by_cases h1 : (((l.map PieceR.row).length : Nat) : Int) < 1
 ·skip
  refine Fn0.of b1q b1b rfl rfl rfl ?_
  simp only [A2]
  repeat' (first|refine W ?_|refine V ?_|(refine W2 ?_ ?_<;>intro hc))
  exact A4 (by simp) a7d rfl (congrArg Value.bool (decide_eq_false fun h => by have := h.1.1;omega).symm)
 by_cases h2 : 200 < (((l.map PieceR.row).length : Nat) : Int)
 ·skip
  refine Fn0.of b1q b1b rfl rfl rfl ?_
  simp only [A2]
  repeat' (first|refine W ?_|refine V ?_|(refine W2 ?_ ?_<;>intro hc))
  exact A4 (by simp) a7d rfl (congrArg Value.bool (decide_eq_false fun h => by have := h.1.2;omega).symm)
 refine Fn0.of b1q b1b rfl rfl rfl ?_
 simp only [A2]
 repeat' (first|refine W ?_|refine V ?_|(refine W2 ?_ ?_<;>intro hc))
 refine p0d (fun k => k <= l.length /\ (∀ p ∈ l.take k, pieceP p) /\ ∀ i, i + 1 < k -> M2 l i < M2 l (i + 1)) (fun k => l.length - k) (fun k => [(15, .i (k : Int)), (14, .i ((l.map PieceR.row).length : Nat)), (13, .sl (l.map PieceR.row)), (0, .sl (l.map PieceR.row))]) (fun k => []) 0 ⟨a0o _, by simp, fun i hi => by omega⟩ CV .nil ?_
 rintro k ⟨hk, hp, hs⟩
 by_cases hlt : k < l.length
 ·have h3 : (k : Int) < ((l.map PieceR.row).length : Nat) := by omega
  obtain ⟨x, hx⟩ := Aa hlt
  have hb := Ab (R := PieceR.row) hx
  have hmem := a0c hx
  have v1 := Iz x.f1 x.f2
  have v2 := Iz x.a1 x.a2
  have v3 := Iz x.b1 x.b2
  have v4 := Iz x.c1 x.c2
  by_cases w1 : vF x.f1 x.f2 /\ vF x.a1 x.a2 /\ vF x.b1 x.b2 /\ vF x.c1 x.c2
  ·obtain ⟨w1, w2, w3, w4⟩ := w1
   have hpx : pieceP x := ⟨w1, w2, w3, w4⟩
   have hp' : ∀ p ∈ l.take (k + 1), pieceP p := by
    intro p hm
    rw [a0x, hx] at hm
    rcases a0u.1 hm with hm | hm
    ·exact hp p hm
    ·obtain rfl : p = x := by simpa using hm
     exact hpx
   have n1 : ¬ ¬ vF x.f1 x.f2 := fun h => h w1
   have n2 : ¬ ¬ vF x.a1 x.a2 := fun h => h w2
   have n3 : ¬ ¬ vF x.b1 x.b2 := fun h => h w3
   have n4 : ¬ ¬ vF x.c1 x.c2 := fun h => h w4
   cases k with
   | zero =>
    have h5 : ¬ (0 : Int) < ((0 : Nat) : Int) := by omega
    repeat' (first|refine W ?_|refine Za ?_|refine Zc v1 ?_|refine Zc v2 ?_|refine Zc v3 ?_|refine Zc v4 ?_|(apply S.indexR;(iterate 3 exact rfl);exact hb;omega;exact rfl)|(apply p0k;(iterate 4 exact rfl))|(apply p0b A0 (by decide +kernel))|refine V ?_|(refine W2 ?_ ?_<;>intro hc))
    change Next _ _ _ _ _ _
    exact Next.go 1 ⟨by omega, hp', fun i hi => by omega⟩ (by omega) CV .nil
   | succ k =>
    have h5 : (0 : Int) < ((k + 1 : Nat) : Int) := by omega
    obtain ⟨y, hy⟩ := A8o hlt
    have hpy : pieceP y := hp y (a0c (by rw [a1k (a3u k)];exact hy))
    have hby : (l.map PieceR.row)[(((k + 1 : Nat) : Int) - 1).toNat]? = some y.row := by rw [show (((k + 1 : Nat) : Int) - 1).toNat = k by omega, a0e, hy];rfl
    have hcmp : Fn0 Tryz.prog 138 [A1 [.i y.f1, .i y.f2], A1 [.i x.f1, .i x.f2]] (.i (C4 (toQ y).f (toQ x).f)) := by
     have := Bw (toQ y).f (toQ x).f hpy.ok.1.f hpx.ok.1.f
     obtain ⟨_, e1, e2⟩ := Ja hpy.f
     obtain ⟨_, e3, e4⟩ := Ja hpx.f
     simp only [toQ, frR, e1, e2, e3, e4] at this ⊢
     exact this
    by_cases hc : (toQ y).f < (toQ x).f
    ·have hc' : ¬ 0 <= C4 (toQ y).f (toQ x).f := fun e => by have := (Gt _ _).2 hc;omega
     repeat' (first|refine W ?_|refine Za ?_|refine Zc v1 ?_|refine Zc v2 ?_|refine Zc v3 ?_|refine Zc v4 ?_|refine Zc hcmp ?_|(apply S.indexR;(iterate 3 exact rfl);exact hb;omega;exact rfl)|(apply S.indexR;(iterate 3 exact rfl);exact hby;omega;exact rfl)|(apply p0k;(iterate 4 exact rfl))|(apply p0b A0 (by decide +kernel))|refine V ?_|(refine W2 ?_ ?_<;>intro hc))
     change Next _ _ _ _ _ _
     refine Next.go (k + 2) ⟨by omega, hp', fun i hi => ?_⟩ (by omega) CV .nil
     by_cases hik : i = k
     ·subst hik
      rw [Gm hy, Gm hx];exact hc
     ·exact hs i (by omega)
    ·have hc' : 0 <= C4 (toQ y).f (toQ x).f := by
      rcases a9r (C4 (toQ y).f (toQ x).f) 0 with h | h
      ·exact absurd ((Gt _ _).1 h) hc
      ·exact h
     repeat' (first|refine W ?_|refine Za ?_|refine Zc v1 ?_|refine Zc v2 ?_|refine Zc v3 ?_|refine Zc v4 ?_|refine Zc hcmp ?_|(apply S.indexR;(iterate 3 exact rfl);exact hb;omega;exact rfl)|(apply S.indexR;(iterate 3 exact rfl);exact hby;omega;exact rfl)|(apply p0k;(iterate 4 exact rfl))|(apply p0b A0 (by decide +kernel))|refine V ?_|(refine W2 ?_ ?_<;>intro hc))
     exact A4 (by simp) a7d rfl (congrArg Value.bool (decide_eq_false fun h => hc (by have := h.2.2 k (by omega);rwa [Gm hy, Gm hx] at this)).symm)
  ·repeat' (first|refine W ?_|refine Za ?_|refine Zc v1 ?_|refine Zc v2 ?_|refine Zc v3 ?_|refine Zc v4 ?_|(apply S.indexR;(iterate 3 exact rfl);exact hb;omega;exact rfl)|(apply p0k;(iterate 4 exact rfl))|(apply p0b A0 (by decide +kernel))|refine V ?_|(refine W2 ?_ ?_<;>intro hc))
   all_goals first
    | exact A4 (by simp) a7d rfl (congrArg Value.bool (decide_eq_false fun h => w1 (by have := h.2.1 x hmem;exact ⟨this.f, this.a, this.b, this.c⟩)).symm)
    | (exfalso;simp_all;done)
 ·have h3 : ¬ (k : Int) < ((l.map PieceR.row).length : Nat) := by omega
  repeat' (first|refine W ?_|refine V ?_|(refine W2 ?_ ?_<;>intro hc))
  exact A4 (by simp) a7d rfl (congrArg Value.bool (decide_eq_true ⟨⟨by omega, by omega⟩, by rw [a0h (by omega)] at hp;exact hp, fun i hi => hs i (by omega)⟩).symm)
theorem A6j (l : List PcQ) (t : Rat) (hl : okC l) (h0 : l ≠ []) (hn : l.length <= 1000) (ht : Fits t) (hv : Fn0 Tryz.prog 124 [.sl (l.map PcQ.row)] (.b true)) : Fn0 Tryz.prog 81 [.sl (l.map PcQ.row), A1 (frR t)] (Uc (atQ l t) (atE l t 0)) := by
 have c := Vl l t hl hn ht
 have v1 : Fn0 Tryz.prog 84 [A1 (frR t)] (.b true) := by
  have := G9 t.num t.den
  rwa [ht.valid] at this
 unfold atQ atE
 by_cases h : pcI l t < 0
 ·rw [if_pos h, if_pos h]
  obtain ⟨x, hx⟩ : ∃ x, l[0]? = some x := ⟨l[0]'(a1n.2 h0), a0b _⟩
  have hb : (l.map PcQ.row)[(0 : Int).toNat]? = some x.row := by rw [show (0 : Int).toNat = 0 from rfl, a0e, hx];rfl
  rw [Ck hx]
  refine Fn0.of b2x b1y rfl rfl rfl ?_
  simp only [A2]
  repeat' (first|refine W ?_|refine Zc c ?_|refine Zc hv ?_|refine Zc v1 ?_|(apply S.indexR;(iterate 3 exact rfl);exact hb;omega;exact rfl)|(apply p0e 4 A0 (by decide +kernel);simp only [td])|(apply p0f 4 A0 (by decide +kernel);simp only [td])|refine V ?_|(refine W2 ?_ ?_<;>intro hc))
  exact ⟨.inr rfl, [A1 (frR x.a), .i 0], .cons (Res.row (frR x.a) rfl rfl rfl rfl rfl) (.cons (.tmp rfl) .nil), .tup (.cons (.agg (A6 (frR x.a))) (.cons (.one (.lf _)) .nil))⟩
 ·rw [if_neg h, if_neg h]
  have hx := Yi h
  generalize hxe : A8 l (pcI l t).toNat = x at hx
  have hb : (l.map PcQ.row)[(pcI l t).toNat]? = some x.row := by rw [a0e, hx];rfl
  have hok := hl x (a0c hx)
  have c1 := Pi t x.f 0 ht hok.f
  have c2 := Vv x (kQ (t - x.f)) (kE (t - x.f) 0) hok (Cj _)
  have c3 := A0i (Kv x (kQ (t - x.f))) (Ho x (kQ (t - x.f)) (kE (t - x.f) 0))
  generalize hw : Ho x (kQ (t - x.f)) (kE (t - x.f) 0) = e at c2 c3
  generalize hq : Kv x (kQ (t - x.f)) = q at c2 c3
  unfold Uc at c3 ⊢
  by_cases he : e = 0
  ·subst he
   rw [if_pos rfl] at c3 ⊢
   refine Fn0.of b2x b1y rfl rfl rfl ?_
   simp only [A2]
   repeat' (first|refine W ?_|(refine T.heat 2 [.i 0] rfl rfl ?_;intro k o)|refine Zc c ?_|refine Zc hv ?_|refine Zc v1 ?_|(apply p0r;(iterate 3 exact rfl))|(apply p0l;(iterate 3 exact rfl))|(apply p1b;(iterate 5 exact rfl))|(apply p0s;(iterate 5 exact rfl))|(apply p0m;(iterate 5 exact rfl);exact c1;exact rfl)|(apply p0i;(iterate 6 exact rfl);exact c1;exact rfl)|(apply p0m;(iterate 5 exact rfl);exact c2;exact rfl)|(apply p0i;(iterate 6 exact rfl);exact c2;exact rfl)|(apply p0m;(iterate 5 exact rfl);exact c3;exact rfl)|(apply p0i;(iterate 6 exact rfl);exact c3;exact rfl)|(apply S.indexR;(iterate 3 exact rfl);exact hb;omega;exact rfl)|(apply p0k;(iterate 4 exact rfl))|(apply p0e 18 A0 (by decide +kernel);simp only [td])|(apply p0f 18 A0 (by decide +kernel);simp only [td])|refine V ?_|(refine W2 ?_ ?_<;>intro hc))
   exact ⟨.inr rfl, [A1 (frR q), .i 0], .cons (Res.row (frR q) rfl rfl rfl rfl rfl) (.cons (.tmp rfl) .nil), .tup (.cons (.agg (A6 (frR q))) (.cons (.one (.lf _)) .nil))⟩
  ·rw [if_neg he] at c3 ⊢
   refine Fn0.of b2x b1y rfl rfl rfl ?_
   simp only [A2]
   repeat' (first|refine W ?_|(refine T.heat 2 [.i 0] rfl rfl ?_;intro k o)|refine Zc c ?_|refine Zc hv ?_|refine Zc v1 ?_|(apply p0r;(iterate 3 exact rfl))|(apply p0l;(iterate 3 exact rfl))|(apply p1b;(iterate 5 exact rfl))|(apply p0s;(iterate 5 exact rfl))|(apply p0m;(iterate 5 exact rfl);exact c1;exact rfl)|(apply p0i;(iterate 6 exact rfl);exact c1;exact rfl)|(apply p0m;(iterate 5 exact rfl);exact c2;exact rfl)|(apply p0i;(iterate 6 exact rfl);exact c2;exact rfl)|(apply p0m;(iterate 5 exact rfl);exact c3;exact rfl)|(apply p0i;(iterate 6 exact rfl);exact c3;exact rfl)|(apply S.indexR;(iterate 3 exact rfl);exact hb;omega;exact rfl)|(apply p0k;(iterate 4 exact rfl))|(apply p0e 18 A0 (by decide +kernel);simp only [td])|(apply p0f 18 A0 (by decide +kernel);simp only [td])|refine V ?_|(refine W2 ?_ ?_<;>intro hc))
   exact ⟨.inr rfl, [A1 [.i 0, .i 0], .i e], .cons (Res.row [.i 0, .i 0] rfl rfl rfl rfl rfl) (.cons (.tmp rfl) .nil), .tup (.cons (.agg (A6 [.i 0, .i 0])) (.cons (.one (.lf _)) .nil))⟩
end Go.Proofs.YtlapbaiejnaeiaaGreatDoor
