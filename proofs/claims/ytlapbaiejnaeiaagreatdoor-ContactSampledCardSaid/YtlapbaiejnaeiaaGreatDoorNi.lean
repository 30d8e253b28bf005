/- Lemmas of the proof. -/
import Derived.Test.YtlapbaiejnaeiaaGreatDoorNh
import Derived.Test.YtlapbaiejnaeiaaGreatDoorMq
import Derived.Test.YtlapbaiejnaeiaaGreatDoorNg
set_option linter.all false
set_option maxHeartbeats 64000000
namespace Go.Proofs.YtlapbaiejnaeiaaGreatDoor
open Go.RowKit
def a2u := @Rat.intCast_le_intCast
def a6g := @Rat.lt_of_le_of_ne
def a8k := @Int.pow_succ
def a8y := @Rat.num_nonneg
def b1a := @Int.add_mul_ediv_right
def b1h := @Int.ediv_lt_of_lt_mul
def b3n := @Rat.lt_iff_sub_pos
def atS (l : List PcQ) (t : Rat) : Rat := if pcI l t < 0 then 0 else Oy (Ad l (pcI l t).toNat) (kQ (t - (Ad l (pcI l t).toNat).f))
def Nu (l : List PcQ) (t : Rat) (e : Int) : Int := if pcI l t < 0 then e else Kb (Ad l (pcI l t).toNat) (kQ (t - (Ad l (pcI l t).toNat).f)) (kE (t - (Ad l (pcI l t).toNat).f) e)
def atP (l : List PcQ) (t : Rat) : PcQ := if pcI l t < 0 then ⟨t, (Ad l 0).a, 0, 0⟩ else ⟨t, atQ l t, atS l t, (Ad l (pcI l t).toNat).c⟩
def Fe (l : List PcQ) (t : Rat) (e : Int) : Int := if pcI l t < 0 then e else
 Kb (Ad l (pcI l t).toNat) (kQ (t - (Ad l (pcI l t).toNat).f)) (I2 (Ad l (pcI l t).toNat) (kQ (t - (Ad l (pcI l t).toNat).f)) (kE (t - (Ad l (pcI l t).toNat).f) e))
theorem Tt (l : List PcQ) (t : Rat) (e : Int) (hl : okC l) (h0 : l ≠ []) (hn : l.length <= 1000) (ht : Fits t) : FnW Tryz.prog 252 [.i e] [.sl (l.map PcQ.row), A2 (frR t)] [.i (Fe l t e)] (A2 (atP l t).row) := by
 have c := Vs l t hl hn ht
 have z := Mz
 unfold atP Fe
 by_cases h : pcI l t < 0
 ·rw [if_pos h, if_pos h]
  obtain ⟨x, hx⟩ : ∃ x, l[0]? = some x := ⟨l[0]'(a1j.2 h0), a0c _⟩
  have hb : (l.map PcQ.row)[(0 : Int).toNat]? = some x.row := by rw [show (0 : Int).toNat = 0 from rfl, a0e, hx];rfl
  rw [C9 hx]
  refine FnW.of Tryz.func252 Tryz.ntmps252 rfl rfl rfl ?_
  intro k o
  simp only [A1]
  repeat' (first|refine W ?_|(apply p0s;(iterate 3 exact rfl))|(apply p0l;(iterate 3 exact rfl))|(apply p1b;(iterate 5 exact rfl))|(apply p0t;(iterate 5 exact rfl))|(apply T.ret;change Eo _ _ _ _ _ _ _ _)|refine Zc c ?_|refine Zc z ?_|(apply S.indexR;(iterate 3 exact rfl);exact hb;omega;exact rfl)|(apply p0e 8 A0 (by decide +kernel);simp only [td])|(apply p0f 8 A0 (by decide +kernel);simp only [td])|refine V ?_|(refine W2 ?_ ?_<;>intro hc))
  exact G4 [A2 (PcQ.row ⟨t, x.a, 0, 0⟩)] (.inr rfl) (.cons (Res.row (PcQ.row ⟨t, x.a, 0, 0⟩) rfl rfl rfl rfl rfl) .nil) rfl rfl rfl
 ·unfold atQ atS
  rw [if_neg h, if_neg h, if_neg h, if_neg h]
  have hx := Ym h
  generalize hxe : Ad l (pcI l t).toNat = x at hx
  have hb : (l.map PcQ.row)[(pcI l t).toNat]? = some x.row := by rw [a0e, hx];rfl
  have hok := hl x (a0b hx)
  have c1 := Q9 t x.f e ht hok.f
  have c2 := W5 x (kQ (t - x.f)) (kE (t - x.f) e) hok (Cp _)
  have c3 := A89 x (kQ (t - x.f)) (I2 x (kQ (t - x.f)) (kE (t - x.f) e)) hok (Cp _)
  refine FnW.of Tryz.func252 Tryz.ntmps252 rfl rfl rfl ?_
  intro k o
  simp only [A1]
  repeat' (first|refine W ?_|(apply p0s;(iterate 3 exact rfl))|(apply p0l;(iterate 3 exact rfl))|(apply p1b;(iterate 5 exact rfl))|(apply p0t;(iterate 5 exact rfl))|(apply T.ret;change Eo _ _ _ _ _ _ _ _)|refine Zc c ?_|(apply p0m;(iterate 5 exact rfl);exact c1;exact rfl)|(apply p0i;(iterate 6 exact rfl);exact c1;exact rfl)|(apply p0m;(iterate 5 exact rfl);exact c2;exact rfl)|(apply p0i;(iterate 6 exact rfl);exact c2;exact rfl)|(apply p0m;(iterate 5 exact rfl);exact c3;exact rfl)|(apply p0i;(iterate 6 exact rfl);exact c3;exact rfl)|(apply S.indexR;(iterate 3 exact rfl);exact hb;omega;exact rfl)|(apply p0k;(iterate 4 exact rfl))|(apply p0e 21 A0 (by decide +kernel);simp only [td])|(apply p0f 21 A0 (by decide +kernel);simp only [td])|(apply p0a A0 (by decide +kernel))|refine V ?_|(refine W2 ?_ ?_<;>intro hc))
  exact G4 [A2 (PcQ.row ⟨t, La x (kQ (t - x.f)), Oy x (kQ (t - x.f)), x.c⟩)] (.inr rfl) (.cons (Res.row (PcQ.row ⟨t, La x (kQ (t - x.f)), Oy x (kQ (t - x.f)), x.c⟩) rfl rfl rfl rfl rfl) .nil) rfl rfl rfl
theorem A0k (q : Rat) (hq : Fits q) : Fn0 Tryz.prog 238 [A2 (frR q)] (.tup [.i (q.num / q.den), .i 0]) := Ab5 q hq
def Aq (q : Rat) : Int := 1000 * q.num / q.den
def L3 (q : Rat) : Prop := 1000 * q.num % q.den = 0
instance (q : Rat) : Decidable (L3 q) := by unfold L3;exact inferInstance
structure Mid (q : Rat) : Prop where
 fits : Fits q
 lo : -1099511627776 <= q.num / q.den
 hi : q.num / q.den <= 1099511627776
theorem Mid.mil {q : Rat} (h : Mid q) : -1099511627776000 <= Aq q /\ Aq q <= 1099511627776999 := by
 obtain ⟨_, h1, h2⟩ := h
 have hd := q.den_pos
 obtain ⟨d, hd'⟩ : ∃ d : Int, (q.den : Int) = d := ⟨_, rfl⟩
 have hdp : 0 < d := by omega
 unfold Aq
 rw [hd'] at h1 h2 ⊢
 have e1 := a8j q.num d
 have e2 := a6a q.num (show d ≠ 0 by omega)
 have e3 := a5z q.num hdp
 have key : 1000 * q.num / d = 1000 * (q.num / d) + 1000 * (q.num % d) / d := by
  have : 1000 * q.num = 1000 * (q.num % d) + (1000 * (q.num / d)) * d := by grind
  rw [this, b1a _ _ (by omega)];omega
 have h3 : 0 <= 1000 * (q.num % d) / d := a2q (by omega) (by omega)
 have h4 : 1000 * (q.num % d) / d < 1000 := b1h hdp (by omega)
 omega
theorem On (q : Rat) (h : Mid q) : Fn0 Tryz.prog 203 [A2 (frR q)] (.tup [.i (Aq q), .b (decide (L3 q))]) := by
 have hm := h.mil
 obtain ⟨hf, h1, h2⟩ := h
 have c1 := A0k q hf
 have hd := q.den_pos
 obtain ⟨d, hd'⟩ : ∃ d : Int, (q.den : Int) = d := ⟨_, rfl⟩
 have hdp : 0 < d := by omega
 have hdm : d <= 1152921504606846976 := by have := hf.2;omega
 have hn := hf.1
 have e1 := a8j q.num d
 have e2 := a6a q.num (show d ≠ 0 by omega)
 have e3 := a5z q.num hdp
 obtain ⟨r, hr⟩ : ∃ r : Nat, (r : Int) = q.num % d := ⟨(q.num % d).toNat, by omega⟩
 obtain ⟨f, hfl⟩ : ∃ f : Int, q.num / d = f := ⟨_, rfl⟩
 have hfd : f * d = q.num - r := by rw [<- hfl, a5d];omega
 have c2 := X1 r 1000 (by omega) (by decide)
 have p1 : ((r * 1000 / 18446744073709551616 : Nat) : Int) < d := by omega
 have c3 := X0 ((r * 1000 / 18446744073709551616 : Nat) : Int) ((r * 1000 % 18446744073709551616 : Nat) : Int) d (by omega) p1 (by omega) (by omega) (by omega)
 rw [show ((r * 1000 / 18446744073709551616 : Nat) : Int) * 18446744073709551616 + ((r * 1000 % 18446744073709551616 : Nat) : Int) = 1000 * r by omega] at c3
 have g1 : IntKind.u64.wrap (q.num - f * d) = (r : Int) := by rw [hfd, Cv];omega
 have g2 : IntKind.u64.wrap d = d := by rw [Cv];omega
 have h3 : 0 <= 1000 * (r : Int) / d := a2q (by omega) (by omega)
 have h4 : 1000 * (r : Int) / d < 1000 := b1h hdp (by omega)
 have g3 : IntKind.i64.wrap (1000 * (r : Int) / d) = 1000 * (r : Int) / d := Hc _ (by omega)
 have h5 : 1000 * q.num = 1000 * (r : Int) + (1000 * f) * d := by rw [a3t, hfd];omega
 have key : Aq q = 1000 * f + 1000 * (r : Int) / d := by
  unfold Aq
  rw [hd', h5, b1a _ _ (by omega)];omega
 have keyX : L3 q ↔ 1000 * (r : Int) % d = 0 := by
  unfold L3
  rw [hd', h5, Int.add_mul_emod_self_right]
 rw [hd'] at h1 h2
 rw [hfl] at h1 h2
 simp only [frR] at c1 ⊢
 rw [hd', hfl] at c1
 rw [hd']
 refine Fn0.of Tryz.func203 Tryz.ntmps203 rfl rfl rfl ?_
 simp only [A1]
 repeat' (first|refine W ?_|(apply S.arith;(iterate 4 exact rfl);first|omega|(rw [hfd];omega))|refine Zc c1 ?_|refine Zc c2 ?_|refine Zc c3 ?_|(apply p0h;exact rfl;exact g1;exact rfl)|(apply p0h;exact rfl;exact g2;exact rfl)|(apply p0h;exact rfl;exact g3;exact rfl)|refine V ?_|(refine W2 ?_ ?_<;>intro hc))
 exact ⟨.inr rfl, [.i (Aq q), .b (decide (L3 q))], .cons (.tmp (by rw [key];rfl)) (.cons (.tmp (congrArg (fun b => some (AV.b b)) (decide_eq_decide.2 keyX.symm))) .nil), .tup (.cons (.one (.lf _)) (.cons (.one (.lf _)) .nil))⟩
def enQ (q : Rat) : List Lf := if L3 q then [.i (Aq q), .i (Aq q)] else [.i (Aq q), .i (Aq q + 1)]
theorem Hy (q : Rat) (h : Mid q) : Fn0 Tryz.prog 145 [A2 (frR q)] (A2 (enQ q)) := by
 have hm := h.mil
 have c := On q h
 unfold enQ
 by_cases hx : L3 q
 ·rw [if_pos hx]
  refine Fn0.of Tryz.func145 Tryz.ntmps145 rfl rfl rfl ?_
  simp only [A1]
  repeat' (first|refine W ?_|refine Za ?_|refine Zc c ?_|refine V ?_|(refine W2 ?_ ?_<;>intro hc))
  exact ⟨.inr rfl, [A2 [.i (Aq q), .i (Aq q)]], .cons (Res.row [.i (Aq q), .i (Aq q)] rfl rfl rfl rfl rfl) .nil, .one (.agg (A6 [.i (Aq q), .i (Aq q)]))⟩
 ·rw [if_neg hx]
  refine Fn0.of Tryz.func145 Tryz.ntmps145 rfl rfl rfl ?_
  simp only [A1]
  repeat' (first|refine W ?_|refine Za ?_|refine Zc c ?_|refine V ?_|(refine W2 ?_ ?_<;>intro hc))
  exact ⟨.inr rfl, [A2 [.i (Aq q), .i (Aq q + 1)]], .cons (Res.row [.i (Aq q), .i (Aq q + 1)] rfl rfl rfl rfl rfl) .nil, .one (.agg (A6 [.i (Aq q), .i (Aq q + 1)]))⟩
def Cc (q : Rat) : Prop := -1099511627776 <= q /\ q <= 1099511627776
instance (q : Rat) : Decidable (Cc q) := by unfold Cc;exact inferInstance
theorem Td (q : Rat) (h : Fits q) : Fn0 Tryz.prog 139 [A2 (frR q)] (.b (decide (Cc q))) := by
 have c1 : Fn0 Tryz.prog 138 [A2 (frR q), A2 [.i (-1099511627776), .i 1]] (.i (Bq q (-1099511627776))) := C1 q (-1099511627776) h (by decide)
 have c2 : Fn0 Tryz.prog 138 [A2 (frR q), A2 [.i 1099511627776, .i 1]] (.i (Bq q 1099511627776)) := C1 q 1099511627776 h (by decide)
 have k1 : 0 <= Bq q (-1099511627776) ↔ -1099511627776 <= q := by
  have := F6 q (-1099511627776)
  rw [<- a2l, <- this];omega
 have k2 := Pi q 1099511627776
 refine Fn0.of Tryz.func139 Tryz.ntmps139 rfl rfl rfl ?_
 simp only [A1]
 repeat' (first|refine W ?_|refine Zc c1 ?_|refine Zc c2 ?_|refine V ?_|(refine W2 ?_ ?_<;>intro hc))
 all_goals first
  | exact A4 (by simp) Tryz.results139 rfl (congrArg Value.bool (by symm;apply decide_eq_false;unfold Cc;rw [<- k1, <- k2];omega))
  | exact A4 (by simp) Tryz.results139 rfl (congrArg Value.bool (decide_eq_decide.2 (by unfold Cc;rw [<- k1, <- k2];omega)))
theorem Fx {q : Rat} (hf : Fits q) (h : Cc q) : Mid q := by
 obtain ⟨h1, h2⟩ := h
 refine ⟨hf, ?_, ?_⟩
 ·rw [<- Rat.floor_def, Rat.le_floor_iff]
  exact h1
 ·rw [<- Rat.floor_def]
  have h3 : ((q.floor : Int) : Rat) <= q := Rat.le_floor_iff.1 (a5p _)
  have h4 : ((q.floor : Int) : Rat) <= ((1099511627776 : Int) : Rat) := a0v h3 h2
  exact a2u.1 h4
/-! ### Parts over rational numbers -/
def vR (p : PcQ) (t : Rat) : Rat := p.a + (p.b + p.c * (t - p.f)) * (t - p.f)
def sR (p : PcQ) (t : Rat) : Rat := p.b + p.c * (t - p.f) + p.c * (t - p.f)
def Ca (p : PcQ) (a b : Rat) : Prop := a < b /\ ((vR p a < 0 \/ vR p b < 0) \/ (0 < p.c /\ sR p a < 0 /\ 0 < sR p b /\ 4 * p.a * p.c - p.b * p.b < 0))
instance (p : PcQ) (a b : Rat) : Decidable (Ca p a b) := by unfold Ca;exact inferInstance
theorem Ge {r : Rat} : sgQ r < 0 ↔ r < 0 := by
 unfold sgQ
 rw [Int.sign_neg_iff, <- Int.not_le, a8y, a2m]
theorem Rx {r : Rat} : sgQ r = 0 ↔ r = 0 := by
 unfold sgQ
 rw [Int.sign_eq_zero_iff_zero, a7c]
theorem Q7 {r : Rat} : 0 < sgQ r ↔ 0 < r := by
 have h1 := @Ge r
 have h2 := @Rx r
 have h3 : -1 <= sgQ r /\ sgQ r <= 1 := by
  unfold sgQ
  rcases Int.lt_trichotomy r.num 0 with h | h | h
  ·rw [a5l h];decide
  ·rw [h];decide
  ·rw [a3z h];decide
 constructor
 ·intro h
  have n1 : ¬ r < 0 := fun e => by have := h1.2 e;omega
  have n2 : r ≠ 0 := fun e => by have := h2.2 e;omega
  exact a6g (a2l.1 n1) (b0x n2)
 ·intro h
  have n1 : ¬ sgQ r < 0 := fun e => a2l.2 (a2p h) (h1.1 e)
  have n2 : sgQ r ≠ 0 := fun e => by rw [h2.1 e] at h;exact Rat.lt_irrefl h
  omega
abbrev PcQ.pt (p : PcQ) : Pt := Pt.ofQ p.f p.a p.b p.c
theorem PcQ.ok.pt {p : PcQ} (h : p.ok) : p.pt.ok := ⟨Bp h.f, Bp h.a, Bp h.b, Bp h.c⟩
theorem Pz {p : PcQ} {t : Ex} (ht : 0 < t.d) : (p.pt.value t).val = vR p t.val := by
 unfold Pt.value vR
 have d1 : 0 < (t.less p.pt.f).d := a4i ht p.f.den_pos
 have d2 : 0 < (p.pt.c.times (t.less p.pt.f)).d := a4i p.c.den_pos d1
 have d3 : 0 < (p.pt.b.plus (p.pt.c.times (t.less p.pt.f))).d := a4i p.b.den_pos d2
 have d4 : 0 < ((p.pt.b.plus (p.pt.c.times (t.less p.pt.f))).times (t.less p.pt.f)).d := a4i d3 d1
 rw [p1q p.a.den_pos d4, p1j, p1q p.b.den_pos d2, p1j, p1m ht p.f.den_pos]
 simp only [Pt.ofQ, p0o]
theorem Ok {p : PcQ} {t : Ex} (ht : 0 < t.d) : (p.pt.slope t).val = sR p t.val := by
 unfold Pt.slope sR
 have d1 : 0 < (t.less p.pt.f).d := a4i ht p.f.den_pos
 have d2 : 0 < (p.pt.c.times (t.less p.pt.f)).d := a4i p.c.den_pos d1
 have d3 : 0 < (p.pt.b.plus (p.pt.c.times (t.less p.pt.f))).d := a4i p.b.den_pos d2
 rw [p1q d3 d2, p1q p.b.den_pos d2, p1j, p1m ht p.f.den_pos]
 simp only [Pt.ofQ, p0o]
theorem A9k : four.val = 4 := by rw [p2v];rfl
theorem Aaz (p : PcQ) : p.pt.disc.val = 4 * p.a * p.c - p.b * p.b := by
 unfold Pt.disc
 have d1 : 0 < (four.times p.pt.a).d := a4i (by decide) p.a.den_pos
 have d2 : 0 < ((four.times p.pt.a).times p.pt.c).d := a4i d1 p.c.den_pos
 have d3 : 0 < (p.pt.b.times p.pt.b).d := a4i p.b.den_pos p.b.den_pos
 rw [p1m d2 d3, p1j, p1j, p1j, A9k]
 simp only [Pt.ofQ, p0o]
theorem Dy {p : PcQ} {a b : Ex} (ha : 0 < a.d) (hb : 0 < b.d) : p.pt.belowS a b ↔ Ca p a.val b.val := by
 unfold Pt.belowS Ca
 rw [p1m hb ha, Pz ha, Pz hb, Ok ha, Ok hb, Aaz, Q7, Ge, Ge, Q7, Ge, Q7, Ge, show p.pt.c.val = p.c from p0o _]
 rw [show (0 < b.val - a.val ↔ a.val < b.val) from (b3n _ _).symm]
def bis (B : Int -> Prop) [DecidablePred B] : Nat -> Int -> Int -> Int
 | 0, lo, _ => lo
 | n + 1, lo, hi => if 1 < hi - lo then (if B (lo + (hi - lo) / 2) then bis B n lo (lo + (hi - lo) / 2) else bis B n (lo + (hi - lo) / 2) hi) else lo
def mil (m : Int) : Rat := mkRat m 1000
theorem Lq (m : Int) : (p0w m 1000).val = mil m := p2v m 1000
def Fm (b t : Rat) : Rat := if b < t then b else t
abbrev Fo (p : PcQ) (a b : Rat) (m : Int) : Prop := Ca p a (Fm b (mil m))
def Ec (p : PcQ) (a b : Rat) : Int := bis (Fo p a b) 64 (Aq a) (Aq b + 2)
def Xl (p : PcQ) (a : Rat) (m : Int) : Prop := a <= mil m /\ vR p (mil m) = 0 /\ (sR p (mil m) < 0 \/ sR p (mil m) = 0 /\ p.c < 0)
instance (p : PcQ) (a : Rat) (m : Int) : Decidable (Xl p a m) := by unfold Xl;exact inferInstance
def H1 (p : PcQ) (a b : Rat) : List Lf := if Xl p a (Ec p a b) then [.i (Ec p a b), .i (Ec p a b)] else [.i (Ec p a b), .i (Ec p a b + 1)]
structure BisS where
 n : Nat
 lo : Int
 hi : Int
theorem Aea {B : Int -> Prop} [DecidablePred B] {n : Nat} {lo hi : Int} (h : ¬ 1 < hi - lo) : bis B n lo hi = lo := by
 cases n with
 | zero => rfl
 | succ n => rw [bis, if_neg h]
theorem A50 {n : Int} (h0 : -9223372036854775808 <= n) (h1 : n <= 9223372036854775807) : (p0w n 1000).bd 2 := by
 have : (4294967296 : Nat) ^ 2 = 18446744073709551616 := by decide
 refine ⟨?_, by show (1000 : Nat) < _;omega, by show 0 < (1000 : Nat);omega⟩
 show n.natAbs < _
 omega
theorem Mw (p : PcQ) (a b : Rat) (hp : p.ok) (ha : Mid a) (hb : Mid b) (hab : a <= b) : Fn0 Tryz.prog 147 [A2 (ptR p.pt), A2 (frR a), A2 (frR b)] (A2 (H1 p a b)) := by
 have hpt := hp.pt
 have m1 := ha.mil
 have m2 := hb.mil
 have c1 := On a ha
 have c2 := On b hb
 have oa := Hr a ha.fits
 have ob := Hr b hb.fits
 have ba := Bp ha.fits
 have bb := Bp hb.fits
 refine Fn0.of Tryz.func147 Tryz.ntmps147 rfl rfl rfl ?_
 simp only [A1]
 repeat' (first|refine W ?_|refine Za ?_|refine Zc c1 ?_|refine Zc c2 ?_|refine V ?_|(refine W2 ?_ ?_<;>intro hc))
 refine p0d (fun (s : BisS) => bis (Fo p a b) s.n s.lo s.hi = Ec p a b /\ s.n <= 64 /\ s.hi - s.lo <= 2 ^ s.n /\ -1099511627776000 <= s.lo /\ s.lo <= 1099511627777002 /\ -1099511627776000 <= s.hi /\ s.hi <= 1099511627777002) (fun s => s.n) (fun s => [(7, .i s.lo), (9, .i s.hi), (3, .ptr 0 0), (4, .ptr 1 0), (5, .ptr 2 0), (6, .ptr 3 0)])
  (fun s => [.live ((ptR p.pt).map .lf), .live ((frR a).map .lf), .live ((frR b).map .lf), .live [.i 0, .i 0]]) ⟨64, Aq a, Aq b + 2⟩ ⟨rfl, Nat.le_refl _, (by dsimp only;rw [show (2 : Int) ^ 64 = 18446744073709551616 from by decide];omega), (by dsimp only;omega), (by dsimp only;omega), (by dsimp only;omega), (by dsimp only;omega)⟩ CV CH ?_
 rintro ⟨n, lo, hi⟩ ⟨hR, hn, hw, g1, g2, g3, g4⟩
 dsimp only at hR hn hw g1 g2 g3 g4 ⊢
 by_cases hlt : 1 < hi - lo
 ·cases n with
  | zero => exfalso;simp only [Int.pow_zero] at hw;omega
  | succ n =>
  have bm : (p0w (lo + (hi - lo) / 2) 1000).bd 2 := A50 (by omega) (by omega)
  have th := Nk (lo + (hi - lo) / 2) (by omega) (by omega)
  have cl := Jl bm bb (by omega) (by omega)
  have cs : Fn0 Tryz.prog 144 [A2 (exR ((p0w (lo + (hi - lo) / 2) 1000).less (Ex.ofQ b)))] (.i (sgQ ((p0w (lo + (hi - lo) / 2) 1000).less (Ex.ofQ b)).val)) := Df (p1i bm bb)
  have hcv : 0 < sgQ ((p0w (lo + (hi - lo) / 2) 1000).less (Ex.ofQ b)).val ↔ b < mil (lo + (hi - lo) / 2) := by
   rw [Q7, p1m bm.2.2 bb.2.2, p0o, Lq]
   exact (b3n _ _).symm
  by_cases hc : b < mil (lo + (hi - lo) / 2)
  ·have hc' := hcv.2 hc
   have cb := Ii p.pt (Ex.ofQ a) (Ex.ofQ b) hpt ba bb
   by_cases hB : p.pt.belowS (Ex.ofQ a) (Ex.ofQ b)
   ·have hB' : Fo p a b (lo + (hi - lo) / 2) := by
     have := (Dy ba.2.2 (bb).2.2).1 hB
     rw [p0o, p0o] at this
     rw [Fo, Fm, if_pos hc]
     exact this
    repeat' (first|refine W ?_|refine Za ?_|(apply S.quo;(iterate 3 exact rfl);omega)|refine Zc th ?_|refine Zc ob ?_|refine Zc oa ?_|refine Zc cl ?_|refine Zc cs ?_|refine Zc cb ?_|(apply p0e 5 A0 (by decide +kernel);simp only [td])|(apply p0f 5 A0 (by decide +kernel);simp only [td])|(apply p0a A0 (by decide +kernel))|refine V ?_|(refine W2 ?_ ?_<;>intro hc))
    change Next _ _ _ _ _ _
    exact Next.go ⟨n, lo, lo + (hi - lo) / 2⟩ ⟨by rw [<- hR, bis, if_pos hlt, if_pos hB'], by dsimp only;omega, by dsimp only;rw [Int.pow_succ] at hw;omega, by dsimp only;omega, by dsimp only;omega, by dsimp only;omega, by dsimp only;omega⟩ (Nat.lt_succ_self n) CV CH
   ·have hB' : ¬ Fo p a b (lo + (hi - lo) / 2) := by
     have := mt (Dy ba.2.2 (bb).2.2).2 hB
     rw [p0o, p0o] at this
     rw [Fo, Fm, if_pos hc]
     exact this
    repeat' (first|refine W ?_|refine Za ?_|(apply S.quo;(iterate 3 exact rfl);omega)|refine Zc th ?_|refine Zc ob ?_|refine Zc oa ?_|refine Zc cl ?_|refine Zc cs ?_|refine Zc cb ?_|(apply p0e 5 A0 (by decide +kernel);simp only [td])|(apply p0f 5 A0 (by decide +kernel);simp only [td])|(apply p0a A0 (by decide +kernel))|refine V ?_|(refine W2 ?_ ?_<;>intro hc))
    change Next _ _ _ _ _ _
    exact Next.go ⟨n, lo + (hi - lo) / 2, hi⟩ ⟨by rw [<- hR, bis, if_pos hlt, if_neg hB'], by dsimp only;omega, by dsimp only;rw [Int.pow_succ] at hw;omega, by dsimp only;omega, by dsimp only;omega, by dsimp only;omega, by dsimp only;omega⟩ (Nat.lt_succ_self n) CV CH
  ·have hc' : ¬ 0 < sgQ ((p0w (lo + (hi - lo) / 2) 1000).less (Ex.ofQ b)).val := fun h => hc (hcv.1 h)
   have cb := Ii p.pt (Ex.ofQ a) (p0w (lo + (hi - lo) / 2) 1000) hpt ba bm
   by_cases hB : p.pt.belowS (Ex.ofQ a) (p0w (lo + (hi - lo) / 2) 1000)
   ·have hB' : Fo p a b (lo + (hi - lo) / 2) := by
     have := (Dy ba.2.2 (bm).2.2).1 hB
     rw [p0o, Lq] at this
     rw [Fo, Fm, if_neg hc]
     exact this
    repeat' (first|refine W ?_|refine Za ?_|(apply S.quo;(iterate 3 exact rfl);omega)|refine Zc th ?_|refine Zc ob ?_|refine Zc oa ?_|refine Zc cl ?_|refine Zc cs ?_|refine Zc cb ?_|(apply p0e 5 A0 (by decide +kernel);simp only [td])|(apply p0f 5 A0 (by decide +kernel);simp only [td])|(apply p0a A0 (by decide +kernel))|refine V ?_|(refine W2 ?_ ?_<;>intro hc))
    change Next _ _ _ _ _ _
    exact Next.go ⟨n, lo, lo + (hi - lo) / 2⟩ ⟨by rw [<- hR, bis, if_pos hlt, if_pos hB'], by dsimp only;omega, by dsimp only;rw [Int.pow_succ] at hw;omega, by dsimp only;omega, by dsimp only;omega, by dsimp only;omega, by dsimp only;omega⟩ (Nat.lt_succ_self n) CV CH
   ·have hB' : ¬ Fo p a b (lo + (hi - lo) / 2) := by
     have := mt (Dy ba.2.2 (bm).2.2).2 hB
     rw [p0o, Lq] at this
     rw [Fo, Fm, if_neg hc]
     exact this
    repeat' (first|refine W ?_|refine Za ?_|(apply S.quo;(iterate 3 exact rfl);omega)|refine Zc th ?_|refine Zc ob ?_|refine Zc oa ?_|refine Zc cl ?_|refine Zc cs ?_|refine Zc cb ?_|(apply p0e 5 A0 (by decide +kernel);simp only [td])|(apply p0f 5 A0 (by decide +kernel);simp only [td])|(apply p0a A0 (by decide +kernel))|refine V ?_|(refine W2 ?_ ?_<;>intro hc))
    change Next _ _ _ _ _ _
    exact Next.go ⟨n, lo + (hi - lo) / 2, hi⟩ ⟨by rw [<- hR, bis, if_pos hlt, if_neg hB'], by dsimp only;omega, by dsimp only;rw [Int.pow_succ] at hw;omega, by dsimp only;omega, by dsimp only;omega, by dsimp only;omega, by dsimp only;omega⟩ (Nat.lt_succ_self n) CV CH
 ·have hlo : Ec p a b = lo := by rw [<- hR];exact Aea hlt
  unfold H1
  rw [hlo]
  clear hR hlo
  have bm : (p0w lo 1000).bd 2 := A50 (by omega) (by omega)
  have th := Nk lo (by omega) (by omega)
  have cl := Jl bm ba (by omega) (by omega)
  have cs : Fn0 Tryz.prog 144 [A2 (exR ((p0w lo 1000).less (Ex.ofQ a)))] (.i (sgQ ((p0w lo 1000).less (Ex.ofQ a)).val)) := Df (p1i bm ba)
  have v1 := Mx p.pt (p0w lo 1000) hpt bm
  have v2 : Fn0 Tryz.prog 144 [A2 (exR (p.pt.value (p0w lo 1000)))] (.i (sgQ (p.pt.value (p0w lo 1000)).val)) := Df (M4 hpt bm)
  have l1 := Rr p.pt (p0w lo 1000) hpt bm
  have l2 : Fn0 Tryz.prog 144 [A2 (exR (p.pt.slope (p0w lo 1000)))] (.i (sgQ (p.pt.slope (p0w lo 1000)).val)) := Df (Ra hpt bm)
  have s4 : Fn0 Tryz.prog 144 [A2 (exR p.pt.c)] (.i (sgQ p.pt.c.val)) := Df hpt.c
  have hP : Xl p a lo ↔ 0 <= sgQ ((p0w lo 1000).less (Ex.ofQ a)).val /\ sgQ (p.pt.value (p0w lo 1000)).val = 0 /\ (sgQ (p.pt.slope (p0w lo 1000)).val < 0 \/ sgQ (p.pt.slope (p0w lo 1000)).val = 0 /\ sgQ p.pt.c.val < 0) := by
   unfold Xl
   rw [Pz bm.2.2, Ok bm.2.2, Lq, Rx, Ge, Rx, Ge, show p.pt.c.val = p.c from p0o _, p1m bm.2.2 ba.2.2, p0o, Lq]
   rw [show (0 <= sgQ (mil lo - a) ↔ a <= mil lo) from by
    have := @Ge (mil lo - a)
    rw [<- Int.not_lt, this, a2l, <- Rat.le_iff_sub_nonneg]]
  generalize sgQ ((p0w lo 1000).less (Ex.ofQ a)).val = S1 at cs hP
  generalize sgQ (p.pt.value (p0w lo 1000)).val = S2 at v2 hP
  generalize sgQ (p.pt.slope (p0w lo 1000)).val = S3 at l2 hP
  generalize sgQ p.pt.c.val = S4 at s4 hP
  repeat' (first|refine W ?_|refine Za ?_|refine Zc th ?_|refine Zc oa ?_|refine Zc cl ?_|refine Zc cs ?_|refine Zc v1 ?_|refine Zc v2 ?_|refine Zc l1 ?_|refine Zc l2 ?_|refine Zc s4 ?_|(apply p0a A0 (by decide +kernel))|(apply p0f 13 A0 (by decide +kernel);simp only [td])|refine V ?_|(refine W2 ?_ ?_<;>intro hc))
  all_goals first
   | (rw [if_pos (hP.2 (by omega))]
      exact ⟨.inr rfl, [A2 [.i lo, .i lo]], .cons (Res.row [.i lo, .i lo] rfl rfl rfl rfl rfl) .nil, .one (.agg (A6 [.i lo, .i lo]))⟩)
   | (rw [if_neg (fun h => by have := hP.1 h;omega)]
      exact ⟨.inr rfl, [A2 [.i lo, .i (lo + 1)]], .cons (Res.row [.i lo, .i (lo + 1)] rfl rfl rfl rfl rfl) .nil, .one (.agg (A6 [.i lo, .i (lo + 1)]))⟩)
abbrev spE (e : Int) : AV := .tup [A2 [.i 0, .i 0], .i e]
theorem Ph (p q : Rat) : 0 < Bq p q ↔ q < p := by
 have := Pi p q
 rw [<- a2m, <- this];omega
theorem A18 (p q : Rat) : 0 <= Bq p q ↔ q <= p := by
 have := F6 p q
 rw [<- a2l, <- this];omega
end Go.Proofs.YtlapbaiejnaeiaaGreatDoor
