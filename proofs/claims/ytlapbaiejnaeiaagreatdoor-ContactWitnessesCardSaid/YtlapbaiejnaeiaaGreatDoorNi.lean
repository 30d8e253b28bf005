/- Lemmas of the proof. -/
import Derived.Test.YtlapbaiejnaeiaaGreatDoorNh
import Derived.Test.YtlapbaiejnaeiaaGreatDoorNn
import Derived.Test.YtlapbaiejnaeiaaGreatDoorNg
set_option linter.all false
set_option maxHeartbeats 64000000
namespace Go.Proofs.YtlapbaiejnaeiaaGreatDoor
open Go.RowKit
def a0r := @Rat.le_trans
def a3h := @Rat.intCast_le_intCast
def a8h := @Int.pow_succ
def a8z := @Rat.num_nonneg
def a9h := @Rat.lt_of_le_of_ne
def b1d := @Int.add_mul_ediv_right
def b1k := @Int.ediv_lt_of_lt_mul
def b3m := @Rat.lt_iff_sub_pos
def atS (l : List PcQ) (t : Rat) : Rat := if pcI l t < 0 then 0 else Oa (A8 l (pcI l t).toNat) (kQ (t - (A8 l (pcI l t).toNat).f))
def Nb (l : List PcQ) (t : Rat) (e : Int) : Int := if pcI l t < 0 then e else Jy (A8 l (pcI l t).toNat) (kQ (t - (A8 l (pcI l t).toNat).f)) (kE (t - (A8 l (pcI l t).toNat).f) e)
def atP (l : List PcQ) (t : Rat) : PcQ := if pcI l t < 0 then ⟨t, (A8 l 0).a, 0, 0⟩ else ⟨t, atQ l t, atS l t, (A8 l (pcI l t).toNat).c⟩
def F2 (l : List PcQ) (t : Rat) (e : Int) : Int := if pcI l t < 0 then e else
 Jy (A8 l (pcI l t).toNat) (kQ (t - (A8 l (pcI l t).toNat).f)) (Ho (A8 l (pcI l t).toNat) (kQ (t - (A8 l (pcI l t).toNat).f)) (kE (t - (A8 l (pcI l t).toNat).f) e))
theorem Tc (l : List PcQ) (t : Rat) (e : Int) (hl : okC l) (h0 : l ≠ []) (hn : l.length <= 1000) (ht : Fits t) : FnW Tryz.prog 252 [.i e] [.sl (l.map PcQ.row), A1 (frR t)] [.i (F2 l t e)] (A1 (atP l t).row) := by
 have c := Vl l t hl hn ht
 have z := Mg
 unfold atP F2
 by_cases h : pcI l t < 0
 ·rw [if_pos h, if_pos h]
  obtain ⟨x, hx⟩ : ∃ x, l[0]? = some x := ⟨l[0]'(a1n.2 h0), a0b _⟩
  have hb : (l.map PcQ.row)[(0 : Int).toNat]? = some x.row := by rw [show (0 : Int).toNat = 0 from rfl, a0e, hx];rfl
  rw [Ck hx]
  refine FnW.of Tryz.func252 Tryz.ntmps252 rfl rfl rfl ?_
  intro k o
  simp only [A2]
  repeat' (first|refine W ?_|(apply p0r;(iterate 3 exact rfl))|(apply p0l;(iterate 3 exact rfl))|(apply p1b;(iterate 5 exact rfl))|(apply p0s;(iterate 5 exact rfl))|(apply T.ret;change Eh _ _ _ _ _ _ _ _)|refine Zc c ?_|refine Zc z ?_|(apply S.indexR;(iterate 3 exact rfl);exact hb;omega;exact rfl)|(apply p0e 8 A0 (by decide +kernel);simp only [td])|(apply p0f 8 A0 (by decide +kernel);simp only [td])|refine V ?_|(refine W2 ?_ ?_<;>intro hc))
  exact Fm [A1 (PcQ.row ⟨t, x.a, 0, 0⟩)] (.inr rfl) (.cons (Res.row (PcQ.row ⟨t, x.a, 0, 0⟩) rfl rfl rfl rfl rfl) .nil) rfl rfl rfl
 ·unfold atQ atS
  rw [if_neg h, if_neg h, if_neg h, if_neg h]
  have hx := Yi h
  generalize hxe : A8 l (pcI l t).toNat = x at hx
  have hb : (l.map PcQ.row)[(pcI l t).toNat]? = some x.row := by rw [a0e, hx];rfl
  have hok := hl x (a0c hx)
  have c1 := Pi t x.f e ht hok.f
  have c2 := Vv x (kQ (t - x.f)) (kE (t - x.f) e) hok (Cj _)
  have c3 := A7a x (kQ (t - x.f)) (Ho x (kQ (t - x.f)) (kE (t - x.f) e)) hok (Cj _)
  refine FnW.of Tryz.func252 Tryz.ntmps252 rfl rfl rfl ?_
  intro k o
  simp only [A2]
  repeat' (first|refine W ?_|(apply p0r;(iterate 3 exact rfl))|(apply p0l;(iterate 3 exact rfl))|(apply p1b;(iterate 5 exact rfl))|(apply p0s;(iterate 5 exact rfl))|(apply T.ret;change Eh _ _ _ _ _ _ _ _)|refine Zc c ?_|(apply p0m;(iterate 5 exact rfl);exact c1;exact rfl)|(apply p0i;(iterate 6 exact rfl);exact c1;exact rfl)|(apply p0m;(iterate 5 exact rfl);exact c2;exact rfl)|(apply p0i;(iterate 6 exact rfl);exact c2;exact rfl)|(apply p0m;(iterate 5 exact rfl);exact c3;exact rfl)|(apply p0i;(iterate 6 exact rfl);exact c3;exact rfl)|(apply S.indexR;(iterate 3 exact rfl);exact hb;omega;exact rfl)|(apply p0k;(iterate 4 exact rfl))|(apply p0e 21 A0 (by decide +kernel);simp only [td])|(apply p0f 21 A0 (by decide +kernel);simp only [td])|(apply p0b A0 (by decide +kernel))|refine V ?_|(refine W2 ?_ ?_<;>intro hc))
  exact Fm [A1 (PcQ.row ⟨t, Kv x (kQ (t - x.f)), Oa x (kQ (t - x.f)), x.c⟩)] (.inr rfl) (.cons (Res.row (PcQ.row ⟨t, Kv x (kQ (t - x.f)), Oa x (kQ (t - x.f)), x.c⟩) rfl rfl rfl rfl rfl) .nil) rfl rfl rfl
theorem A0e (q : Rat) (hq : Fits q) : Fn0 Tryz.prog 238 [A1 (frR q)] (.tup [.i (q.num / q.den), .i 0]) := Aa1 q hq
def Ah (q : Rat) : Int := 1000 * q.num / q.den
def Jo (q : Rat) : Prop := 1000 * q.num % q.den = 0
instance (q : Rat) : Decidable (Jo q) := by unfold Jo;exact inferInstance
structure Mid (q : Rat) : Prop where
 fits : Fits q
 lo : -1099511627776 <= q.num / q.den
 hi : q.num / q.den <= 1099511627776
theorem Mid.mil {q : Rat} (h : Mid q) : -1099511627776000 <= Ah q /\ Ah q <= 1099511627776999 := by
 obtain ⟨_, h1, h2⟩ := h
 have hd := q.den_pos
 obtain ⟨d, hd'⟩ : ∃ d : Int, (q.den : Int) = d := ⟨_, rfl⟩
 have hdp : 0 < d := by omega
 unfold Ah
 rw [hd'] at h1 h2 ⊢
 have e1 := a8g q.num d
 have e2 := a5g q.num (show d ≠ 0 by omega)
 have e3 := a5c q.num hdp
 have key : 1000 * q.num / d = 1000 * (q.num / d) + 1000 * (q.num % d) / d := by
  have : 1000 * q.num = 1000 * (q.num % d) + (1000 * (q.num / d)) * d := by grind
  rw [this, b1d _ _ (by omega)];omega
 have h3 : 0 <= 1000 * (q.num % d) / d := a2q (by omega) (by omega)
 have h4 : 1000 * (q.num % d) / d < 1000 := b1k hdp (by omega)
 omega
theorem O3 (q : Rat) (h : Mid q) : Fn0 Tryz.prog 203 [A1 (frR q)] (.tup [.i (Ah q), .b (decide (Jo q))]) := by
 have hm := h.mil
 obtain ⟨hf, h1, h2⟩ := h
 have c1 := A0e q hf
 have hd := q.den_pos
 obtain ⟨d, hd'⟩ : ∃ d : Int, (q.den : Int) = d := ⟨_, rfl⟩
 have hdp : 0 < d := by omega
 have hdm : d <= 1152921504606846976 := by have := hf.2;omega
 have hn := hf.1
 have e1 := a8g q.num d
 have e2 := a5g q.num (show d ≠ 0 by omega)
 have e3 := a5c q.num hdp
 obtain ⟨r, hr⟩ : ∃ r : Nat, (r : Int) = q.num % d := ⟨(q.num % d).toNat, by omega⟩
 obtain ⟨f, hfl⟩ : ∃ f : Int, q.num / d = f := ⟨_, rfl⟩
 have hfd : f * d = q.num - r := by rw [<- hfl, a5h];omega
 have c2 := Wx r 1000 (by omega) (by decide)
 have p1 : ((r * 1000 / 18446744073709551616 : Nat) : Int) < d := by omega
 have c3 := Ww ((r * 1000 / 18446744073709551616 : Nat) : Int) ((r * 1000 % 18446744073709551616 : Nat) : Int) d (by omega) p1 (by omega) (by omega) (by omega)
 rw [show ((r * 1000 / 18446744073709551616 : Nat) : Int) * 18446744073709551616 + ((r * 1000 % 18446744073709551616 : Nat) : Int) = 1000 * r by omega] at c3
 have g1 : IntKind.u64.wrap (q.num - f * d) = (r : Int) := by rw [hfd, Cr];omega
 have g2 : IntKind.u64.wrap d = d := by rw [Cr];omega
 have h3 : 0 <= 1000 * (r : Int) / d := a2q (by omega) (by omega)
 have h4 : 1000 * (r : Int) / d < 1000 := b1k hdp (by omega)
 have g3 : IntKind.i64.wrap (1000 * (r : Int) / d) = 1000 * (r : Int) / d := wrap_i64 _ (by omega)
 have h5 : 1000 * q.num = 1000 * (r : Int) + (1000 * f) * d := by rw [a3x, hfd];omega
 have key : Ah q = 1000 * f + 1000 * (r : Int) / d := by
  unfold Ah
  rw [hd', h5, b1d _ _ (by omega)];omega
 have keyX : Jo q ↔ 1000 * (r : Int) % d = 0 := by
  unfold Jo
  rw [hd', h5, Int.add_mul_emod_self_right]
 rw [hd'] at h1 h2
 rw [hfl] at h1 h2
 simp only [frR] at c1 ⊢
 rw [hd', hfl] at c1
 rw [hd']
 refine Fn0.of Tryz.func203 Tryz.ntmps203 rfl rfl rfl ?_
 simp only [A2]
 repeat' (first|refine W ?_|(apply S.arith;(iterate 4 exact rfl);first|omega|(rw [hfd];omega))|refine Zc c1 ?_|refine Zc c2 ?_|refine Zc c3 ?_|(apply p0h;exact rfl;exact g1;exact rfl)|(apply p0h;exact rfl;exact g2;exact rfl)|(apply p0h;exact rfl;exact g3;exact rfl)|refine V ?_|(refine W2 ?_ ?_<;>intro hc))
 exact ⟨.inr rfl, [.i (Ah q), .b (decide (Jo q))], .cons (.tmp (by rw [key];rfl)) (.cons (.tmp (congrArg (fun b => some (AV.b b)) (decide_eq_decide.2 keyX.symm))) .nil), .tup (.cons (.one (.lf _)) (.cons (.one (.lf _)) .nil))⟩
def enQ (q : Rat) : List Lf := if Jo q then [.i (Ah q), .i (Ah q)] else [.i (Ah q), .i (Ah q + 1)]
theorem Hk (q : Rat) (h : Mid q) : Fn0 Tryz.prog 145 [A1 (frR q)] (A1 (enQ q)) := by
 have hm := h.mil
 have c := O3 q h
 unfold enQ
 by_cases hx : Jo q
 ·rw [if_pos hx]
  refine Fn0.of Tryz.func145 Tryz.ntmps145 rfl rfl rfl ?_
  simp only [A2]
  repeat' (first|refine W ?_|refine Za ?_|refine Zc c ?_|refine V ?_|(refine W2 ?_ ?_<;>intro hc))
  exact ⟨.inr rfl, [A1 [.i (Ah q), .i (Ah q)]], .cons (Res.row [.i (Ah q), .i (Ah q)] rfl rfl rfl rfl rfl) .nil, .one (.agg (A6 [.i (Ah q), .i (Ah q)]))⟩
 ·rw [if_neg hx]
  refine Fn0.of Tryz.func145 Tryz.ntmps145 rfl rfl rfl ?_
  simp only [A2]
  repeat' (first|refine W ?_|refine Za ?_|refine Zc c ?_|refine V ?_|(refine W2 ?_ ?_<;>intro hc))
  exact ⟨.inr rfl, [A1 [.i (Ah q), .i (Ah q + 1)]], .cons (Res.row [.i (Ah q), .i (Ah q + 1)] rfl rfl rfl rfl rfl) .nil, .one (.agg (A6 [.i (Ah q), .i (Ah q + 1)]))⟩
def Ba (q : Rat) : Prop := -1099511627776 <= q /\ q <= 1099511627776
instance (q : Rat) : Decidable (Ba q) := by unfold Ba;exact inferInstance
theorem Sz (q : Rat) (h : Fits q) : Fn0 Tryz.prog 139 [A1 (frR q)] (.b (decide (Ba q))) := by
 have c1 : Fn0 Tryz.prog 138 [A1 (frR q), A1 [.i (-1099511627776), .i 1]] (.i (C4 q (-1099511627776))) := Bw q (-1099511627776) h (by decide)
 have c2 : Fn0 Tryz.prog 138 [A1 (frR q), A1 [.i 1099511627776, .i 1]] (.i (C4 q 1099511627776)) := Bw q 1099511627776 h (by decide)
 have k1 : 0 <= C4 q (-1099511627776) ↔ -1099511627776 <= q := by
  have := Gt q (-1099511627776)
  rw [<- a2m, <- this];omega
 have k2 := Ow q 1099511627776
 refine Fn0.of Tryz.func139 Tryz.ntmps139 rfl rfl rfl ?_
 simp only [A2]
 repeat' (first|refine W ?_|refine Zc c1 ?_|refine Zc c2 ?_|refine V ?_|(refine W2 ?_ ?_<;>intro hc))
 all_goals first
  | exact A4 (by simp) Tryz.results139 rfl (congrArg Value.bool (by symm;apply decide_eq_false;unfold Ba;rw [<- k1, <- k2];omega))
  | exact A4 (by simp) Tryz.results139 rfl (congrArg Value.bool (decide_eq_decide.2 (by unfold Ba;rw [<- k1, <- k2];omega)))
theorem Fg {q : Rat} (hf : Fits q) (h : Ba q) : Mid q := by
 obtain ⟨h1, h2⟩ := h
 refine ⟨hf, ?_, ?_⟩
 ·rw [<- Rat.floor_def, Rat.le_floor_iff]
  exact h1
 ·rw [<- Rat.floor_def]
  have h3 : ((q.floor : Int) : Rat) <= q := Rat.le_floor_iff.1 (a4m _)
  have h4 : ((q.floor : Int) : Rat) <= ((1099511627776 : Int) : Rat) := a0r h3 h2
  exact a3h.1 h4
/-! ### Parts over rational numbers -/
def vR (p : PcQ) (t : Rat) : Rat := p.a + (p.b + p.c * (t - p.f)) * (t - p.f)
def sR (p : PcQ) (t : Rat) : Rat := p.b + p.c * (t - p.f) + p.c * (t - p.f)
def B5 (p : PcQ) (a b : Rat) : Prop := a < b /\ ((vR p a < 0 \/ vR p b < 0) \/ (0 < p.c /\ sR p a < 0 /\ 0 < sR p b /\ 4 * p.a * p.c - p.b * p.b < 0))
instance (p : PcQ) (a b : Rat) : Decidable (B5 p a b) := by unfold B5;exact inferInstance
theorem G0 {r : Rat} : sgQ r < 0 ↔ r < 0 := by
 unfold sgQ
 rw [Int.sign_neg_iff, <- Int.not_le, a8z, a2f]
theorem Rf {r : Rat} : sgQ r = 0 ↔ r = 0 := by
 unfold sgQ
 rw [Int.sign_eq_zero_iff_zero, b0f]
theorem Pg {r : Rat} : 0 < sgQ r ↔ 0 < r := by
 have h1 := @G0 r
 have h2 := @Rf r
 have h3 : -1 <= sgQ r /\ sgQ r <= 1 := by
  unfold sgQ
  rcases Int.lt_trichotomy r.num 0 with h | h | h
  ·rw [a5o h];decide
  ·rw [h];decide
  ·rw [a4d h];decide
 constructor
 ·intro h
  have n1 : ¬ r < 0 := fun e => by have := h1.2 e;omega
  have n2 : r ≠ 0 := fun e => by have := h2.2 e;omega
  exact a9h (a2m.1 n1) (b1a n2)
 ·intro h
  have n1 : ¬ sgQ r < 0 := fun e => a2m.2 (a2c h) (h1.1 e)
  have n2 : sgQ r ≠ 0 := fun e => by rw [h2.1 e] at h;exact Rat.lt_irrefl h
  omega
abbrev PcQ.pt (p : PcQ) : Pt := Pt.ofQ p.f p.a p.b p.c
theorem PcQ.ok.pt {p : PcQ} (h : p.ok) : p.pt.ok := ⟨Bn h.f, Bn h.a, Bn h.b, Bn h.c⟩
theorem Pb {p : PcQ} {t : Ex} (ht : 0 < t.d) : (p.pt.value t).val = vR p t.val := by
 unfold Pt.value vR
 have d1 : 0 < (t.less p.pt.f).d := a4o ht p.f.den_pos
 have d2 : 0 < (p.pt.c.times (t.less p.pt.f)).d := a4o p.c.den_pos d1
 have d3 : 0 < (p.pt.b.plus (p.pt.c.times (t.less p.pt.f))).d := a4o p.b.den_pos d2
 have d4 : 0 < ((p.pt.b.plus (p.pt.c.times (t.less p.pt.f))).times (t.less p.pt.f)).d := a4o d3 d1
 rw [p1q p.a.den_pos d4, p1k, p1q p.b.den_pos d2, p1k, p1m ht p.f.den_pos]
 simp only [Pt.ofQ, p0n]
theorem O1 {p : PcQ} {t : Ex} (ht : 0 < t.d) : (p.pt.slope t).val = sR p t.val := by
 unfold Pt.slope sR
 have d1 : 0 < (t.less p.pt.f).d := a4o ht p.f.den_pos
 have d2 : 0 < (p.pt.c.times (t.less p.pt.f)).d := a4o p.c.den_pos d1
 have d3 : 0 < (p.pt.b.plus (p.pt.c.times (t.less p.pt.f))).d := a4o p.b.den_pos d2
 rw [p1q d3 d2, p1q p.b.den_pos d2, p1k, p1m ht p.f.den_pos]
 simp only [Pt.ofQ, p0n]
theorem A8k : four.val = 4 := by rw [p2w];rfl
theorem A9v (p : PcQ) : p.pt.disc.val = 4 * p.a * p.c - p.b * p.b := by
 unfold Pt.disc
 have d1 : 0 < (four.times p.pt.a).d := a4o (by decide) p.a.den_pos
 have d2 : 0 < ((four.times p.pt.a).times p.pt.c).d := a4o d1 p.c.den_pos
 have d3 : 0 < (p.pt.b.times p.pt.b).d := a4o p.b.den_pos p.b.den_pos
 rw [p1m d2 d3, p1k, p1k, p1k, A8k]
 simp only [Pt.ofQ, p0n]
theorem Dr {p : PcQ} {a b : Ex} (ha : 0 < a.d) (hb : 0 < b.d) : p.pt.belowS a b ↔ B5 p a.val b.val := by
 unfold Pt.belowS B5
 rw [p1m hb ha, Pb ha, Pb hb, O1 ha, O1 hb, A9v, Pg, G0, G0, Pg, G0, Pg, G0, show p.pt.c.val = p.c from p0n _]
 rw [show (0 < b.val - a.val ↔ a.val < b.val) from (b3m _ _).symm]
def bis (B : Int -> Prop) [DecidablePred B] : Nat -> Int -> Int -> Int
 | 0, lo, _ => lo
 | n + 1, lo, hi => if 1 < hi - lo then (if B (lo + (hi - lo) / 2) then bis B n lo (lo + (hi - lo) / 2) else bis B n (lo + (hi - lo) / 2) hi) else lo
def mil (m : Int) : Rat := mkRat m 1000
theorem L7 (m : Int) : (p0v m 1000).val = mil m := p2w m 1000
def C5 (b t : Rat) : Rat := if b < t then b else t
abbrev C0 (p : PcQ) (a b : Rat) (m : Int) : Prop := B5 p a (C5 b (mil m))
def C7 (p : PcQ) (a b : Rat) : Int := bis (C0 p a b) 64 (Ah a) (Ah b + 2)
def Ty (p : PcQ) (a : Rat) (m : Int) : Prop := a <= mil m /\ vR p (mil m) = 0 /\ (sR p (mil m) < 0 \/ sR p (mil m) = 0 /\ p.c < 0)
instance (p : PcQ) (a : Rat) (m : Int) : Decidable (Ty p a m) := by unfold Ty;exact inferInstance
def H9 (p : PcQ) (a b : Rat) : List Lf := if Ty p a (C7 p a b) then [.i (C7 p a b), .i (C7 p a b)] else [.i (C7 p a b), .i (C7 p a b + 1)]
structure BisS where
 n : Nat
 lo : Int
 hi : Int
theorem Ad2 {B : Int -> Prop} [DecidablePred B] {n : Nat} {lo hi : Int} (h : ¬ 1 < hi - lo) : bis B n lo hi = lo := by
 cases n with
 | zero => rfl
 | succ n => rw [bis, if_neg h]
theorem A4g {n : Int} (h0 : -9223372036854775808 <= n) (h1 : n <= 9223372036854775807) : (p0v n 1000).bd 2 := by
 have : (4294967296 : Nat) ^ 2 = 18446744073709551616 := by decide
 refine ⟨?_, by show (1000 : Nat) < _;omega, by show 0 < (1000 : Nat);omega⟩
 show n.natAbs < _
 omega
theorem Md (p : PcQ) (a b : Rat) (hp : p.ok) (ha : Mid a) (hb : Mid b) (hab : a <= b) : Fn0 Tryz.prog 147 [A1 (ptR p.pt), A1 (frR a), A1 (frR b)] (A1 (H9 p a b)) := by
 have hpt := hp.pt
 have m1 := ha.mil
 have m2 := hb.mil
 have c1 := O3 a ha
 have c2 := O3 b hb
 have oa := H7 a ha.fits
 have ob := H7 b hb.fits
 have ba := Bn ha.fits
 have bb := Bn hb.fits
 refine Fn0.of Tryz.func147 Tryz.ntmps147 rfl rfl rfl ?_
 simp only [A2]
 repeat' (first|refine W ?_|refine Za ?_|refine Zc c1 ?_|refine Zc c2 ?_|refine V ?_|(refine W2 ?_ ?_<;>intro hc))
 refine p0d (fun (s : BisS) => bis (C0 p a b) s.n s.lo s.hi = C7 p a b /\ s.n <= 64 /\ s.hi - s.lo <= 2 ^ s.n /\ -1099511627776000 <= s.lo /\ s.lo <= 1099511627777002 /\ -1099511627776000 <= s.hi /\ s.hi <= 1099511627777002) (fun s => s.n) (fun s => [(7, .i s.lo), (9, .i s.hi), (3, .ptr 0 0), (4, .ptr 1 0), (5, .ptr 2 0), (6, .ptr 3 0)])
  (fun s => [.live ((ptR p.pt).map .lf), .live ((frR a).map .lf), .live ((frR b).map .lf), .live [.i 0, .i 0]]) ⟨64, Ah a, Ah b + 2⟩ ⟨rfl, Nat.le_refl _, (by dsimp only;rw [show (2 : Int) ^ 64 = 18446744073709551616 from by decide];omega), (by dsimp only;omega), (by dsimp only;omega), (by dsimp only;omega), (by dsimp only;omega)⟩ CV CH ?_
 rintro ⟨n, lo, hi⟩ ⟨hR, hn, hw, g1, g2, g3, g4⟩
 dsimp only at hR hn hw g1 g2 g3 g4 ⊢
 by_cases hlt : 1 < hi - lo
 ·cases n with
  | zero => exfalso;simp only [Int.pow_zero] at hw;omega
  | succ n =>
  have bm : (p0v (lo + (hi - lo) / 2) 1000).bd 2 := A4g (by omega) (by omega)
  have th := N1 (lo + (hi - lo) / 2) (by omega) (by omega)
  have cl := J4 bm bb (by omega) (by omega)
  have cs : Fn0 Tryz.prog 144 [A1 (exR ((p0v (lo + (hi - lo) / 2) 1000).less (Ex.ofQ b)))] (.i (sgQ ((p0v (lo + (hi - lo) / 2) 1000).less (Ex.ofQ b)).val)) := Dc (p1j bm bb)
  have hcv : 0 < sgQ ((p0v (lo + (hi - lo) / 2) 1000).less (Ex.ofQ b)).val ↔ b < mil (lo + (hi - lo) / 2) := by
   rw [Pg, p1m bm.2.2 bb.2.2, p0n, L7]
   exact (b3m _ _).symm
  by_cases hc : b < mil (lo + (hi - lo) / 2)
  ·have hc' := hcv.2 hc
   have cb := I1 p.pt (Ex.ofQ a) (Ex.ofQ b) hpt ba bb
   by_cases hB : p.pt.belowS (Ex.ofQ a) (Ex.ofQ b)
   ·have hB' : C0 p a b (lo + (hi - lo) / 2) := by
     have := (Dr ba.2.2 (bb).2.2).1 hB
     rw [p0n, p0n] at this
     rw [C0, C5, if_pos hc]
     exact this
    repeat' (first|refine W ?_|refine Za ?_|(apply S.quo;(iterate 3 exact rfl);omega)|refine Zc th ?_|refine Zc ob ?_|refine Zc oa ?_|refine Zc cl ?_|refine Zc cs ?_|refine Zc cb ?_|(apply p0e 5 A0 (by decide +kernel);simp only [td])|(apply p0f 5 A0 (by decide +kernel);simp only [td])|(apply p0b A0 (by decide +kernel))|refine V ?_|(refine W2 ?_ ?_<;>intro hc))
    change Next _ _ _ _ _ _
    exact Next.go ⟨n, lo, lo + (hi - lo) / 2⟩ ⟨by rw [<- hR, bis, if_pos hlt, if_pos hB'], by dsimp only;omega, by dsimp only;rw [Int.pow_succ] at hw;omega, by dsimp only;omega, by dsimp only;omega, by dsimp only;omega, by dsimp only;omega⟩ (Nat.lt_succ_self n) CV CH
   ·have hB' : ¬ C0 p a b (lo + (hi - lo) / 2) := by
     have := mt (Dr ba.2.2 (bb).2.2).2 hB
     rw [p0n, p0n] at this
     rw [C0, C5, if_pos hc]
     exact this
    repeat' (first|refine W ?_|refine Za ?_|(apply S.quo;(iterate 3 exact rfl);omega)|refine Zc th ?_|refine Zc ob ?_|refine Zc oa ?_|refine Zc cl ?_|refine Zc cs ?_|refine Zc cb ?_|(apply p0e 5 A0 (by decide +kernel);simp only [td])|(apply p0f 5 A0 (by decide +kernel);simp only [td])|(apply p0b A0 (by decide +kernel))|refine V ?_|(refine W2 ?_ ?_<;>intro hc))
    change Next _ _ _ _ _ _
    exact Next.go ⟨n, lo + (hi - lo) / 2, hi⟩ ⟨by rw [<- hR, bis, if_pos hlt, if_neg hB'], by dsimp only;omega, by dsimp only;rw [Int.pow_succ] at hw;omega, by dsimp only;omega, by dsimp only;omega, by dsimp only;omega, by dsimp only;omega⟩ (Nat.lt_succ_self n) CV CH
  ·have hc' : ¬ 0 < sgQ ((p0v (lo + (hi - lo) / 2) 1000).less (Ex.ofQ b)).val := fun h => hc (hcv.1 h)
   have cb := I1 p.pt (Ex.ofQ a) (p0v (lo + (hi - lo) / 2) 1000) hpt ba bm
   by_cases hB : p.pt.belowS (Ex.ofQ a) (p0v (lo + (hi - lo) / 2) 1000)
   ·have hB' : C0 p a b (lo + (hi - lo) / 2) := by
     have := (Dr ba.2.2 (bm).2.2).1 hB
     rw [p0n, L7] at this
     rw [C0, C5, if_neg hc]
     exact this
    repeat' (first|refine W ?_|refine Za ?_|(apply S.quo;(iterate 3 exact rfl);omega)|refine Zc th ?_|refine Zc ob ?_|refine Zc oa ?_|refine Zc cl ?_|refine Zc cs ?_|refine Zc cb ?_|(apply p0e 5 A0 (by decide +kernel);simp only [td])|(apply p0f 5 A0 (by decide +kernel);simp only [td])|(apply p0b A0 (by decide +kernel))|refine V ?_|(refine W2 ?_ ?_<;>intro hc))
    change Next _ _ _ _ _ _
    exact Next.go ⟨n, lo, lo + (hi - lo) / 2⟩ ⟨by rw [<- hR, bis, if_pos hlt, if_pos hB'], by dsimp only;omega, by dsimp only;rw [Int.pow_succ] at hw;omega, by dsimp only;omega, by dsimp only;omega, by dsimp only;omega, by dsimp only;omega⟩ (Nat.lt_succ_self n) CV CH
   ·have hB' : ¬ C0 p a b (lo + (hi - lo) / 2) := by
     have := mt (Dr ba.2.2 (bm).2.2).2 hB
     rw [p0n, L7] at this
     rw [C0, C5, if_neg hc]
     exact this
    repeat' (first|refine W ?_|refine Za ?_|(apply S.quo;(iterate 3 exact rfl);omega)|refine Zc th ?_|refine Zc ob ?_|refine Zc oa ?_|refine Zc cl ?_|refine Zc cs ?_|refine Zc cb ?_|(apply p0e 5 A0 (by decide +kernel);simp only [td])|(apply p0f 5 A0 (by decide +kernel);simp only [td])|(apply p0b A0 (by decide +kernel))|refine V ?_|(refine W2 ?_ ?_<;>intro hc))
    change Next _ _ _ _ _ _
    exact Next.go ⟨n, lo + (hi - lo) / 2, hi⟩ ⟨by rw [<- hR, bis, if_pos hlt, if_neg hB'], by dsimp only;omega, by dsimp only;rw [Int.pow_succ] at hw;omega, by dsimp only;omega, by dsimp only;omega, by dsimp only;omega, by dsimp only;omega⟩ (Nat.lt_succ_self n) CV CH
 ·have hlo : C7 p a b = lo := by rw [<- hR];exact Ad2 hlt
  unfold H9
  rw [hlo]
  clear hR hlo
  have bm : (p0v lo 1000).bd 2 := A4g (by omega) (by omega)
  have th := N1 lo (by omega) (by omega)
  have cl := J4 bm ba (by omega) (by omega)
  have cs : Fn0 Tryz.prog 144 [A1 (exR ((p0v lo 1000).less (Ex.ofQ a)))] (.i (sgQ ((p0v lo 1000).less (Ex.ofQ a)).val)) := Dc (p1j bm ba)
  have v1 := Me p.pt (p0v lo 1000) hpt bm
  have v2 : Fn0 Tryz.prog 144 [A1 (exR (p.pt.value (p0v lo 1000)))] (.i (sgQ (p.pt.value (p0v lo 1000)).val)) := Dc (Ln hpt bm)
  have l1 := Ra p.pt (p0v lo 1000) hpt bm
  have l2 : Fn0 Tryz.prog 144 [A1 (exR (p.pt.slope (p0v lo 1000)))] (.i (sgQ (p.pt.slope (p0v lo 1000)).val)) := Dc (Qn hpt bm)
  have s4 : Fn0 Tryz.prog 144 [A1 (exR p.pt.c)] (.i (sgQ p.pt.c.val)) := Dc hpt.c
  have hP : Ty p a lo ↔ 0 <= sgQ ((p0v lo 1000).less (Ex.ofQ a)).val /\ sgQ (p.pt.value (p0v lo 1000)).val = 0 /\ (sgQ (p.pt.slope (p0v lo 1000)).val < 0 \/ sgQ (p.pt.slope (p0v lo 1000)).val = 0 /\ sgQ p.pt.c.val < 0) := by
   unfold Ty
   rw [Pb bm.2.2, O1 bm.2.2, L7, Rf, G0, Rf, G0, show p.pt.c.val = p.c from p0n _, p1m bm.2.2 ba.2.2, p0n, L7]
   rw [show (0 <= sgQ (mil lo - a) ↔ a <= mil lo) from by
    have := @G0 (mil lo - a)
    rw [<- Int.not_lt, this, a2m, <- Rat.le_iff_sub_nonneg]]
  generalize sgQ ((p0v lo 1000).less (Ex.ofQ a)).val = S1 at cs hP
  generalize sgQ (p.pt.value (p0v lo 1000)).val = S2 at v2 hP
  generalize sgQ (p.pt.slope (p0v lo 1000)).val = S3 at l2 hP
  generalize sgQ p.pt.c.val = S4 at s4 hP
  repeat' (first|refine W ?_|refine Za ?_|refine Zc th ?_|refine Zc oa ?_|refine Zc cl ?_|refine Zc cs ?_|refine Zc v1 ?_|refine Zc v2 ?_|refine Zc l1 ?_|refine Zc l2 ?_|refine Zc s4 ?_|(apply p0b A0 (by decide +kernel))|(apply p0f 13 A0 (by decide +kernel);simp only [td])|refine V ?_|(refine W2 ?_ ?_<;>intro hc))
  all_goals first
   | (rw [if_pos (hP.2 (by omega))]
      exact ⟨.inr rfl, [A1 [.i lo, .i lo]], .cons (Res.row [.i lo, .i lo] rfl rfl rfl rfl rfl) .nil, .one (.agg (A6 [.i lo, .i lo]))⟩)
   | (rw [if_neg (fun h => by have := hP.1 h;omega)]
      exact ⟨.inr rfl, [A1 [.i lo, .i (lo + 1)]], .cons (Res.row [.i lo, .i (lo + 1)] rfl rfl rfl rfl rfl) .nil, .one (.agg (A6 [.i lo, .i (lo + 1)]))⟩)
abbrev spE (e : Int) : AV := .tup [A1 [.i 0, .i 0], .i e]
theorem Ov (p q : Rat) : 0 < C4 p q ↔ q < p := by
 have := Ow p q
 rw [<- a2f, <- this];omega
theorem A0v (p q : Rat) : 0 <= C4 p q ↔ q <= p := by
 have := Gt p q
 rw [<- a2m, <- this];omega
end Go.Proofs.YtlapbaiejnaeiaaGreatDoor
