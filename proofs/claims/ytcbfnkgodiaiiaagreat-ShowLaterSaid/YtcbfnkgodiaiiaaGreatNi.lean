/- Contracts: package quadratic's At, Slope of what is not valid, Slope;the piece that a curve has from a time on. No conditions but those of each statement. -/
import Derived.Test.YtcbfnkgodiaiiaaGreatNh
import Derived.Test.YtcbfnkgodiaiiaaGreatNn
import Derived.Test.YtcbfnkgodiaiiaaGreatNg
set_option linter.unusedSimpArgs false
set_option linter.unusedVariables false
namespace Go.Proofs.YtcbfnkgodiaiiaaGreat
open Go.RowKit
def atS (l : List PcQ) (t : Rat) : Rat := if pcI l t < 0 then 0 else I6 (A6 l (pcI l t).toNat) (kQ (t - (A6 l (pcI l t).toNat).f))
def P6 (l : List PcQ) (t : Rat) (e : Int) : Int := if pcI l t < 0 then e else Km (A6 l (pcI l t).toNat) (kQ (t - (A6 l (pcI l t).toNat).f)) (kE (t - (A6 l (pcI l t).toNat).f) e)
def atP (l : List PcQ) (t : Rat) : PcQ := if pcI l t < 0 then ⟨t, (A6 l 0).a, 0, 0⟩ else ⟨t, atQ l t, atS l t, (A6 l (pcI l t).toNat).c⟩
def Fj (l : List PcQ) (t : Rat) (e : Int) : Int := if pcI l t < 0 then e else
 Km (A6 l (pcI l t).toNat) (kQ (t - (A6 l (pcI l t).toNat).f)) (Hr (A6 l (pcI l t).toNat) (kQ (t - (A6 l (pcI l t).toNat).f)) (kE (t - (A6 l (pcI l t).toNat).f) e))
set_option maxHeartbeats 8000000 in
theorem T9 (l : List PcQ) (t : Rat) (e : Int) (hl : okC l) (h0 : l ≠ []) (hn : l.length <= 1000) (ht : Fits t) : FnW Tryz.prog 287 [.i e] [.sl (l.map PcQ.row), A1 (frR t)] [.i (Fj l t e)] (A1 (atP l t).row) := by
 have c := Vb l t hl hn ht
 have z := Mm
 unfold atP Fj
 by_cases h : pcI l t < 0
 ·rw [if_pos h, if_pos h]
  obtain ⟨x, hx⟩ : ∃ x, l[0]? = some x := ⟨l[0]'(List.length_pos_iff.2 h0), List.getElem?_eq_getElem _⟩
  have hb : (l.map PcQ.row)[(0 : Int).toNat]? = some x.row := by rw [show (0 : Int).toNat = 0 from rfl, List.getElem?_map, hx];rfl
  rw [Bb hx]
  refine FnW.of Tryz.func287 Tryz.ntmps287 rfl rfl rfl ?_
  intro k o
  simp only [A2]
  repeat' (first | refine W ?_|(apply S.fieldH;exact rfl;exact rfl;exact rfl)|(apply S.nilCheckH;exact rfl;exact rfl;exact rfl)|(apply S.loadH;(iterate 5 exact rfl))|(apply S.storeH;(iterate 5 exact rfl))|(apply T.ret;change Ev _ _ _ _ _ _ _ _)|refine Zc c ?_|refine Zc z ?_|refine Zi hb ?_|(apply T.draw 8 A0 (by decide +kernel);simp only [td])|(apply T.drawR 8 A0 (by decide +kernel);simp only [td]) | refine V ?_|(refine W2 ?_ ?_ <;> intro hc))
  exact Gb [A1 (PcQ.row ⟨t, x.a, 0, 0⟩)] (.inr rfl) (.cons (Res.row (PcQ.row ⟨t, x.a, 0, 0⟩) rfl rfl rfl rfl rfl) .nil) rfl rfl rfl
 ·unfold atQ atS
  rw [if_neg h, if_neg h, if_neg h, if_neg h]
  have hx := Xg h
  generalize hxe : A6 l (pcI l t).toNat = x at hx
  have hb : (l.map PcQ.row)[(pcI l t).toNat]? = some x.row := by rw [List.getElem?_map, hx];rfl
  have hok := hl x (List.mem_of_getElem? hx)
  have c1 := Pm t x.f e ht hok.f
  have c2 := Vz x (kQ (t - x.f)) (kE (t - x.f) e) hok (Cp _)
  have c3 := A4l x (kQ (t - x.f)) (Hr x (kQ (t - x.f)) (kE (t - x.f) e)) hok (Cp _)
  refine FnW.of Tryz.func287 Tryz.ntmps287 rfl rfl rfl ?_
  intro k o
  simp only [A2]
  repeat' (first | refine W ?_|(apply S.fieldH;exact rfl;exact rfl;exact rfl)|(apply S.nilCheckH;exact rfl;exact rfl;exact rfl)|(apply S.loadH;(iterate 5 exact rfl))|(apply S.storeH;(iterate 5 exact rfl))|(apply T.ret;change Ev _ _ _ _ _ _ _ _)|refine Zc c ?_|(apply S.callW;(iterate 5 exact rfl);exact c1;exact rfl)|(apply S.callWD;(iterate 6 exact rfl);exact c1;exact rfl)|(apply S.callW;(iterate 5 exact rfl);exact c2;exact rfl)|(apply S.callWD;(iterate 6 exact rfl);exact c2;exact rfl)|(apply S.callW;(iterate 5 exact rfl);exact c3;exact rfl)|(apply S.callWD;(iterate 6 exact rfl);exact c3;exact rfl)|refine Zi hb ?_|(apply S.loadRW;(iterate 4 exact rfl))|(apply T.draw 21 A0 (by decide +kernel);simp only [td])|(apply T.drawR 21 A0 (by decide +kernel);simp only [td])|(apply T.drawAll A0 (by decide +kernel)) | refine V ?_|(refine W2 ?_ ?_ <;> intro hc))
  exact Gb [A1 (PcQ.row ⟨t, Fk x (kQ (t - x.f)), I6 x (kQ (t - x.f)), x.c⟩)] (.inr rfl) (.cons (Res.row (PcQ.row ⟨t, Fk x (kQ (t - x.f)), I6 x (kQ (t - x.f)), x.c⟩) rfl rfl rfl rfl rfl) .nil) rfl rfl rfl
theorem A0e (q : Rat) (hq : Fits q) : Fn0 Tryz.prog 253 [A1 (frR q)] (.tup [.i (q.num / q.den), .i 0]) := A87 q hq
def Aj (q : Rat) : Int := 1000 * q.num / q.den
def Gp (q : Rat) : Prop := 1000 * q.num % q.den = 0
instance (q : Rat) : Decidable (Gp q) := by unfold Gp;exact inferInstance
structure Mid (q : Rat) : Prop where
 fits : Fits q
 lo : -1099511627776 <= q.num / q.den
 hi : q.num / q.den <= 1099511627776
theorem Mid.mil {q : Rat} (h : Mid q) : -1099511627776000 <= Aj q /\ Aj q <= 1099511627776999 := by
 obtain ⟨_, h1, h2⟩ := h
 have hd := q.den_pos
 obtain ⟨d, hd'⟩ : ∃ d : Int, (q.den : Int) = d := ⟨_, rfl⟩
 have hdp : 0 < d := by omega
 unfold Aj
 rw [hd'] at h1 h2 ⊢
 have e1 := Int.mul_ediv_add_emod q.num d
 have e2 := Int.emod_nonneg q.num (show d ≠ 0 by omega)
 have e3 := Int.emod_lt_of_pos q.num hdp
 have key : 1000 * q.num / d = 1000 * (q.num / d) + 1000 * (q.num % d) / d := by
  have : 1000 * q.num = 1000 * (q.num % d) + (1000 * (q.num / d)) * d := by grind
  rw [this, Int.add_mul_ediv_right _ _ (by omega)];omega
 have h3 : 0 <= 1000 * (q.num % d) / d := Int.ediv_nonneg (by omega) (by omega)
 have h4 : 1000 * (q.num % d) / d < 1000 := Int.ediv_lt_of_lt_mul hdp (by omega)
 omega
set_option maxHeartbeats 4000000 in
theorem Ok (q : Rat) (h : Mid q) : Fn0 Tryz.prog 186 [A1 (frR q)] (.tup [.i (Aj q), .b (decide (Gp q))]) := by
 have hm := h.mil
 obtain ⟨hf, h1, h2⟩ := h
 have c1 := A0e q hf
 have hd := q.den_pos
 obtain ⟨d, hd'⟩ : ∃ d : Int, (q.den : Int) = d := ⟨_, rfl⟩
 have hdp : 0 < d := by omega
 have hdm : d <= 1152921504606846976 := by have := hf.2;omega
 have hn := hf.1
 have e1 := Int.mul_ediv_add_emod q.num d
 have e2 := Int.emod_nonneg q.num (show d ≠ 0 by omega)
 have e3 := Int.emod_lt_of_pos q.num hdp
 obtain ⟨r, hr⟩ : ∃ r : Nat, (r : Int) = q.num % d := ⟨(q.num % d).toNat, by omega⟩
 obtain ⟨f, hfl⟩ : ∃ f : Int, q.num / d = f := ⟨_, rfl⟩
 have hfd : f * d = q.num - r := by rw [<- hfl, Int.mul_comm];omega
 have c2 := Ya r 1000 (by omega) (by decide)
 have p1 : ((r * 1000 / 18446744073709551616 : Nat) : Int) < d := by omega
 have c3 := Xn ((r * 1000 / 18446744073709551616 : Nat) : Int) ((r * 1000 % 18446744073709551616 : Nat) : Int) d (by omega) p1 (by omega) (by omega) (by omega)
 rw [show ((r * 1000 / 18446744073709551616 : Nat) : Int) * 18446744073709551616 + ((r * 1000 % 18446744073709551616 : Nat) : Int) = 1000 * r by omega] at c3
 have g1 : IntKind.u64.wrap (q.num - f * d) = (r : Int) := by rw [hfd, Cv];omega
 have g2 : IntKind.u64.wrap d = d := by rw [Cv];omega
 have h3 : 0 <= 1000 * (r : Int) / d := Int.ediv_nonneg (by omega) (by omega)
 have h4 : 1000 * (r : Int) / d < 1000 := Int.ediv_lt_of_lt_mul hdp (by omega)
 have g3 : IntKind.i64.wrap (1000 * (r : Int) / d) = 1000 * (r : Int) / d := Fs _ (by omega)
 have h5 : 1000 * q.num = 1000 * (r : Int) + (1000 * f) * d := by rw [Int.mul_assoc, hfd];omega
 have key : Aj q = 1000 * f + 1000 * (r : Int) / d := by
  unfold Aj
  rw [hd', h5, Int.add_mul_ediv_right _ _ (by omega)];omega
 have keyX : Gp q ↔ 1000 * (r : Int) % d = 0 := by
  unfold Gp
  rw [hd', h5, Int.add_mul_emod_self_right]
 rw [hd'] at h1 h2
 rw [hfl] at h1 h2
 simp only [frR] at c1 ⊢
 rw [hd', hfl] at c1
 rw [hd']
 refine Fn0.of Tryz.func186 Tryz.ntmps186 rfl rfl rfl ?_
 simp only [A2]
 repeat' (first | refine W ?_|(apply S.arith;(iterate 4 exact rfl);first | omega|(rw [hfd];omega))|refine Zc c1 ?_|refine Zc c2 ?_|refine Zc c3 ?_|(apply S.convW;exact rfl;exact g1;exact rfl)|(apply S.convW;exact rfl;exact g2;exact rfl)|(apply S.convW;exact rfl;exact g3;exact rfl) | refine V ?_|(refine W2 ?_ ?_ <;> intro hc))
 exact ⟨.inr rfl, [.i (Aj q), .b (decide (Gp q))], .cons (.tmp (by rw [key];rfl)) (.cons (.tmp (congrArg (fun b => some (AV.b b)) (decide_eq_decide.2 keyX.symm))) .nil), .tup (.cons (.one (.lf _)) (.cons (.one (.lf _)) .nil))⟩
def enQ (q : Rat) : List Lf := if Gp q then [.i (Aj q), .i (Aj q)] else [.i (Aj q), .i (Aj q + 1)]
theorem I2 (q : Rat) (h : Mid q) : Fn0 Tryz.prog 107 [A1 (frR q)] (A1 (enQ q)) := by
 have hm := h.mil
 have c := Ok q h
 unfold enQ
 by_cases hx : Gp q
 ·rw [if_pos hx]
  refine Fn0.of Tryz.func107 Tryz.ntmps107 rfl rfl rfl ?_
  simp only [A2]
  repeat' (first | refine W ?_|refine Za ?_|refine Zc c ?_ | refine V ?_|(refine W2 ?_ ?_ <;> intro hc))
  exact ⟨.inr rfl, [A1 [.i (Aj q), .i (Aj q)]], .cons (Res.row [.i (Aj q), .i (Aj q)] rfl rfl rfl rfl rfl) .nil, .one (.agg (A7 [.i (Aj q), .i (Aj q)]))⟩
 ·rw [if_neg hx]
  refine Fn0.of Tryz.func107 Tryz.ntmps107 rfl rfl rfl ?_
  simp only [A2]
  repeat' (first | refine W ?_|refine Za ?_|refine Zc c ?_ | refine V ?_|(refine W2 ?_ ?_ <;> intro hc))
  exact ⟨.inr rfl, [A1 [.i (Aj q), .i (Aj q + 1)]], .cons (Res.row [.i (Aj q), .i (Aj q + 1)] rfl rfl rfl rfl rfl) .nil, .one (.agg (A7 [.i (Aj q), .i (Aj q + 1)]))⟩
def Cx (q : Rat) : Prop := -1099511627776 <= q /\ q <= 1099511627776
instance (q : Rat) : Decidable (Cx q) := by unfold Cx;exact inferInstance
theorem T4 (q : Rat) (h : Fits q) : Fn0 Tryz.prog 101 [A1 (frR q)] (.b (decide (Cx q))) := by
 have c1 : Fn0 Tryz.prog 100 [A1 (frR q), A1 [.i (-1099511627776), .i 1]] (.i (C2 q (-1099511627776))) := C0 q (-1099511627776) h (by decide)
 have c2 : Fn0 Tryz.prog 100 [A1 (frR q), A1 [.i 1099511627776, .i 1]] (.i (C2 q 1099511627776)) := C0 q 1099511627776 h (by decide)
 have k1 : 0 <= C2 q (-1099511627776) ↔ -1099511627776 <= q := by
  have := Hg q (-1099511627776)
  rw [<- Rat.not_lt, <- this];omega
 have k2 := Px q 1099511627776
 refine Fn0.of Tryz.func101 Tryz.ntmps101 rfl rfl rfl ?_
 simp only [A2]
 repeat' (first | refine W ?_|refine Zc c1 ?_|refine Zc c2 ?_ | refine V ?_|(refine W2 ?_ ?_ <;> intro hc))
 all_goals first
  | exact A5 (by simp) Tryz.results101 rfl (congrArg Value.bool (by symm;apply decide_eq_false;unfold Cx;rw [<- k1, <- k2];omega))
  | exact A5 (by simp) Tryz.results101 rfl (congrArg Value.bool (decide_eq_decide.2 (by unfold Cx;rw [<- k1, <- k2];omega)))
theorem Fy {q : Rat} (hf : Fits q) (h : Cx q) : Mid q := by
 obtain ⟨h1, h2⟩ := h
 refine ⟨hf, ?_, ?_⟩
 ·rw [<- Rat.floor_def, Rat.le_floor_iff]
  exact h1
 ·rw [<- Rat.floor_def]
  have h3 : ((q.floor : Int) : Rat) <= q := Rat.le_floor_iff.1 (Int.le_refl _)
  have h4 : ((q.floor : Int) : Rat) <= ((1099511627776 : Int) : Rat) := Rat.le_trans h3 h2
  exact Rat.intCast_le_intCast.1 h4
/-! ### Parts over rational numbers -/
def vR (p : PcQ) (t : Rat) : Rat := p.a + (p.b + p.c * (t - p.f)) * (t - p.f)
def sR (p : PcQ) (t : Rat) : Rat := p.b + p.c * (t - p.f) + p.c * (t - p.f)
def Cd (p : PcQ) (a b : Rat) : Prop := a < b /\ ((vR p a < 0 \/ vR p b < 0) \/ (0 < p.c /\ sR p a < 0 /\ 0 < sR p b /\ 4 * p.a * p.c - p.b * p.b < 0))
instance (p : PcQ) (a b : Rat) : Decidable (Cd p a b) := by unfold Cd;exact inferInstance
theorem G8 {r : Rat} : sgQ r < 0 ↔ r < 0 := by
 unfold sgQ
 rw [Int.sign_neg_iff, <- Int.not_le, Rat.num_nonneg, Rat.not_le]
theorem Rs {r : Rat} : sgQ r = 0 ↔ r = 0 := by
 unfold sgQ
 rw [Int.sign_eq_zero_iff_zero, Rat.num_eq_zero]
theorem Pq {r : Rat} : 0 < sgQ r ↔ 0 < r := by
 have h1 := @G8 r
 have h2 := @Rs r
 have h3 : -1 <= sgQ r /\ sgQ r <= 1 := by
  unfold sgQ
  rcases Int.lt_trichotomy r.num 0 with h | h | h
  ·rw [Int.sign_eq_neg_one_of_neg h];decide
  ·rw [h];decide
  ·rw [Int.sign_eq_one_of_pos h];decide
 constructor
 ·intro h
  have n1 : ¬ r < 0 := fun e => by have := h1.2 e;omega
  have n2 : r ≠ 0 := fun e => by have := h2.2 e;omega
  exact Rat.lt_of_le_of_ne (Rat.not_lt.1 n1) (Ne.symm n2)
 ·intro h
  have n1 : ¬ sgQ r < 0 := fun e => Rat.not_lt.2 (Rat.le_of_lt h) (h1.1 e)
  have n2 : sgQ r ≠ 0 := fun e => by rw [h2.1 e] at h;exact Rat.lt_irrefl h
  omega
abbrev PcQ.pt (p : PcQ) : Pt := Pt.ofQ p.f p.a p.b p.c
theorem PcQ.ok.pt {p : PcQ} (h : p.ok) : p.pt.ok := ⟨Bq h.f, Bq h.a, Bq h.b, Bq h.c⟩
theorem Qc {p : PcQ} {t : Ex} (ht : 0 < t.d) : (p.pt.value t).val = vR p t.val := by
 unfold Pt.value vR
 have d1 : 0 < (t.less p.pt.f).d := Nat.mul_pos ht p.f.den_pos
 have d2 : 0 < (p.pt.c.times (t.less p.pt.f)).d := Nat.mul_pos p.c.den_pos d1
 have d3 : 0 < (p.pt.b.plus (p.pt.c.times (t.less p.pt.f))).d := Nat.mul_pos p.b.den_pos d2
 have d4 : 0 < ((p.pt.b.plus (p.pt.c.times (t.less p.pt.f))).times (t.less p.pt.f)).d := Nat.mul_pos d3 d1
 rw [Ex.val_plus p.a.den_pos d4, Ex.val_times, Ex.val_plus p.b.den_pos d2, Ex.val_times, Ex.val_less ht p.f.den_pos]
 simp only [Pt.ofQ, Ex.val_ofQ]
theorem Pe {p : PcQ} {t : Ex} (ht : 0 < t.d) : (p.pt.slope t).val = sR p t.val := by
 unfold Pt.slope sR
 have d1 : 0 < (t.less p.pt.f).d := Nat.mul_pos ht p.f.den_pos
 have d2 : 0 < (p.pt.c.times (t.less p.pt.f)).d := Nat.mul_pos p.c.den_pos d1
 have d3 : 0 < (p.pt.b.plus (p.pt.c.times (t.less p.pt.f))).d := Nat.mul_pos p.b.den_pos d2
 rw [Ex.val_plus d3 d2, Ex.val_plus p.b.den_pos d2, Ex.val_times, Ex.val_less ht p.f.den_pos]
 simp only [Pt.ofQ, Ex.val_ofQ]
theorem A9s : four.val = 4 := by rw [Ex.val_ofI];rfl
theorem Aad (p : PcQ) : p.pt.disc.val = 4 * p.a * p.c - p.b * p.b := by
 unfold Pt.disc
 have d1 : 0 < (four.times p.pt.a).d := Nat.mul_pos (by decide) p.a.den_pos
 have d2 : 0 < ((four.times p.pt.a).times p.pt.c).d := Nat.mul_pos d1 p.c.den_pos
 have d3 : 0 < (p.pt.b.times p.pt.b).d := Nat.mul_pos p.b.den_pos p.b.den_pos
 rw [Ex.val_less d2 d3, Ex.val_times, Ex.val_times, Ex.val_times, A9s]
 simp only [Pt.ofQ, Ex.val_ofQ]
theorem E5 {p : PcQ} {a b : Ex} (ha : 0 < a.d) (hb : 0 < b.d) : p.pt.belowS a b ↔ Cd p a.val b.val := by
 unfold Pt.belowS Cd
 rw [Ex.val_less hb ha, Qc ha, Qc hb, Pe ha, Pe hb, Aad, Pq, G8, G8, Pq, G8, Pq, G8, show p.pt.c.val = p.c from Ex.val_ofQ _]
 rw [show (0 < b.val - a.val ↔ a.val < b.val) from (Rat.lt_iff_sub_pos _ _).symm]
def bis (B : Int -> Prop) [DecidablePred B] : Nat -> Int -> Int -> Int
 | 0, lo, _ => lo
 | n + 1, lo, hi => if 1 < hi - lo then (if B (lo + (hi - lo) / 2) then bis B n lo (lo + (hi - lo) / 2) else bis B n (lo + (hi - lo) / 2) hi) else lo
def mil (m : Int) : Rat := mkRat m 1000
theorem Ly (m : Int) : (Ex.ofI m 1000).val = mil m := Ex.val_ofI m 1000
def Em (b t : Rat) : Rat := if b < t then b else t
abbrev G0 (p : PcQ) (a b : Rat) (m : Int) : Prop := Cd p a (Em b (mil m))
def Cs (p : PcQ) (a b : Rat) : Int := bis (G0 p a b) 64 (Aj a) (Aj b + 2)
def N6 (p : PcQ) (a : Rat) (m : Int) : Prop := a <= mil m /\ vR p (mil m) = 0 /\ (sR p (mil m) < 0 \/ sR p (mil m) = 0 /\ p.c < 0)
instance (p : PcQ) (a : Rat) (m : Int) : Decidable (N6 p a m) := by unfold N6;exact inferInstance
def H6 (p : PcQ) (a b : Rat) : List Lf := if N6 p a (Cs p a b) then [.i (Cs p a b), .i (Cs p a b)] else [.i (Cs p a b), .i (Cs p a b + 1)]
structure BisS where
 n : Nat
 lo : Int
 hi : Int
theorem Acy {B : Int -> Prop} [DecidablePred B] {n : Nat} {lo hi : Int} (h : ¬ 1 < hi - lo) : bis B n lo hi = lo := by
 cases n with
 | zero => rfl
 | succ n => rw [bis, if_neg h]
theorem A41 {n : Int} (h0 : -9223372036854775808 <= n) (h1 : n <= 9223372036854775807) : (Ex.ofI n 1000).bd 2 := by
 have : (4294967296 : Nat) ^ 2 = 18446744073709551616 := by decide
 refine ⟨?_, by show (1000 : Nat) < _;omega, by show 0 < (1000 : Nat);omega⟩
 show n.natAbs < _
 omega
set_option maxHeartbeats 32000000 in
theorem Mx (p : PcQ) (a b : Rat) (hp : p.ok) (ha : Mid a) (hb : Mid b) (hab : a <= b) : Fn0 Tryz.prog 109 [A1 (ptR p.pt), A1 (frR a), A1 (frR b)] (A1 (H6 p a b)) := by
 have hpt := hp.pt
 have m1 := ha.mil
 have m2 := hb.mil
 have c1 := Ok a ha
 have c2 := Ok b hb
 have oa := Hy a ha.fits
 have ob := Hy b hb.fits
 have ba := Bq ha.fits
 have bb := Bq hb.fits
 refine Fn0.of Tryz.func109 Tryz.ntmps109 rfl rfl rfl ?_
 simp only [A2]
 repeat' (first | refine W ?_|refine Za ?_|refine Zc c1 ?_|refine Zc c2 ?_ | refine V ?_|(refine W2 ?_ ?_ <;> intro hc))
 refine T.loopS (fun (s : BisS) => bis (G0 p a b) s.n s.lo s.hi = Cs p a b /\ s.n <= 64 /\ s.hi - s.lo <= 2 ^ s.n /\ -1099511627776000 <= s.lo /\ s.lo <= 1099511627777002 /\ -1099511627776000 <= s.hi /\ s.hi <= 1099511627777002) (fun s => s.n) (fun s => [(7, .i s.lo), (9, .i s.hi), (3, .ptr 0 0), (4, .ptr 1 0), (5, .ptr 2 0), (6, .ptr 3 0)])
  (fun s => [.live ((ptR p.pt).map .lf), .live ((frR a).map .lf), .live ((frR b).map .lf), .live [.i 0, .i 0]]) ⟨64, Aj a, Aj b + 2⟩ ⟨rfl, Nat.le_refl _, (by dsimp only;rw [show (2 : Int) ^ 64 = 18446744073709551616 from by decide];omega), (by dsimp only;omega), (by dsimp only;omega), (by dsimp only;omega), (by dsimp only;omega)⟩ CV CH ?_
 rintro ⟨n, lo, hi⟩ ⟨hR, hn, hw, g1, g2, g3, g4⟩
 dsimp only at hR hn hw g1 g2 g3 g4 ⊢
 by_cases hlt : 1 < hi - lo
 ·cases n with
  | zero => exfalso;simp only [Int.pow_zero] at hw;omega
  | succ n =>
  have bm : (Ex.ofI (lo + (hi - lo) / 2) 1000).bd 2 := A41 (by omega) (by omega)
  have th := Ns (lo + (hi - lo) / 2) (by omega) (by omega)
  have cl := Jr bm bb (by omega) (by omega)
  have cs : Fn0 Tryz.prog 106 [A1 (exR ((Ex.ofI (lo + (hi - lo) / 2) 1000).less (Ex.ofQ b)))] (.i (sgQ ((Ex.ofI (lo + (hi - lo) / 2) 1000).less (Ex.ofQ b)).val)) := Di (Ex.bd_less bm bb)
  have hcv : 0 < sgQ ((Ex.ofI (lo + (hi - lo) / 2) 1000).less (Ex.ofQ b)).val ↔ b < mil (lo + (hi - lo) / 2) := by
   rw [Pq, Ex.val_less bm.2.2 bb.2.2, Ex.val_ofQ, Ly]
   exact (Rat.lt_iff_sub_pos _ _).symm
  by_cases hc : b < mil (lo + (hi - lo) / 2)
  ·have hc' := hcv.2 hc
   have cb := I7 p.pt (Ex.ofQ a) (Ex.ofQ b) hpt ba bb
   by_cases hB : p.pt.belowS (Ex.ofQ a) (Ex.ofQ b)
   ·have hB' : G0 p a b (lo + (hi - lo) / 2) := by
     have := (E5 ba.2.2 (bb).2.2).1 hB
     rw [Ex.val_ofQ, Ex.val_ofQ] at this
     rw [G0, Em, if_pos hc]
     exact this
    repeat' (first | refine W ?_|refine Za ?_|(apply S.quo;exact rfl;exact rfl;exact rfl;omega)|refine Zc th ?_|refine Zc ob ?_|refine Zc oa ?_|refine Zc cl ?_|refine Zc cs ?_|refine Zc cb ?_|(apply T.draw 5 A0 (by decide +kernel);simp only [td])|(apply T.drawR 5 A0 (by decide +kernel);simp only [td])|(apply T.drawAll A0 (by decide +kernel)) | refine V ?_|(refine W2 ?_ ?_ <;> intro hc))
    change Next _ _ _ _ _ _
    exact Next.go ⟨n, lo, lo + (hi - lo) / 2⟩ ⟨by rw [<- hR, bis, if_pos hlt, if_pos hB'], by dsimp only;omega, by dsimp only;rw [Int.pow_succ] at hw;omega, by dsimp only;omega, by dsimp only;omega, by dsimp only;omega, by dsimp only;omega⟩ (Nat.lt_succ_self n) CV CH
   ·have hB' : ¬ G0 p a b (lo + (hi - lo) / 2) := by
     have := mt (E5 ba.2.2 (bb).2.2).2 hB
     rw [Ex.val_ofQ, Ex.val_ofQ] at this
     rw [G0, Em, if_pos hc]
     exact this
    repeat' (first | refine W ?_|refine Za ?_|(apply S.quo;exact rfl;exact rfl;exact rfl;omega)|refine Zc th ?_|refine Zc ob ?_|refine Zc oa ?_|refine Zc cl ?_|refine Zc cs ?_|refine Zc cb ?_|(apply T.draw 5 A0 (by decide +kernel);simp only [td])|(apply T.drawR 5 A0 (by decide +kernel);simp only [td])|(apply T.drawAll A0 (by decide +kernel)) | refine V ?_|(refine W2 ?_ ?_ <;> intro hc))
    change Next _ _ _ _ _ _
    exact Next.go ⟨n, lo + (hi - lo) / 2, hi⟩ ⟨by rw [<- hR, bis, if_pos hlt, if_neg hB'], by dsimp only;omega, by dsimp only;rw [Int.pow_succ] at hw;omega, by dsimp only;omega, by dsimp only;omega, by dsimp only;omega, by dsimp only;omega⟩ (Nat.lt_succ_self n) CV CH
  ·have hc' : ¬ 0 < sgQ ((Ex.ofI (lo + (hi - lo) / 2) 1000).less (Ex.ofQ b)).val := fun h => hc (hcv.1 h)
   have cb := I7 p.pt (Ex.ofQ a) (Ex.ofI (lo + (hi - lo) / 2) 1000) hpt ba bm
   by_cases hB : p.pt.belowS (Ex.ofQ a) (Ex.ofI (lo + (hi - lo) / 2) 1000)
   ·have hB' : G0 p a b (lo + (hi - lo) / 2) := by
     have := (E5 ba.2.2 (bm).2.2).1 hB
     rw [Ex.val_ofQ, Ly] at this
     rw [G0, Em, if_neg hc]
     exact this
    repeat' (first | refine W ?_|refine Za ?_|(apply S.quo;exact rfl;exact rfl;exact rfl;omega)|refine Zc th ?_|refine Zc ob ?_|refine Zc oa ?_|refine Zc cl ?_|refine Zc cs ?_|refine Zc cb ?_|(apply T.draw 5 A0 (by decide +kernel);simp only [td])|(apply T.drawR 5 A0 (by decide +kernel);simp only [td])|(apply T.drawAll A0 (by decide +kernel)) | refine V ?_|(refine W2 ?_ ?_ <;> intro hc))
    change Next _ _ _ _ _ _
    exact Next.go ⟨n, lo, lo + (hi - lo) / 2⟩ ⟨by rw [<- hR, bis, if_pos hlt, if_pos hB'], by dsimp only;omega, by dsimp only;rw [Int.pow_succ] at hw;omega, by dsimp only;omega, by dsimp only;omega, by dsimp only;omega, by dsimp only;omega⟩ (Nat.lt_succ_self n) CV CH
   ·have hB' : ¬ G0 p a b (lo + (hi - lo) / 2) := by
     have := mt (E5 ba.2.2 (bm).2.2).2 hB
     rw [Ex.val_ofQ, Ly] at this
     rw [G0, Em, if_neg hc]
     exact this
    repeat' (first | refine W ?_|refine Za ?_|(apply S.quo;exact rfl;exact rfl;exact rfl;omega)|refine Zc th ?_|refine Zc ob ?_|refine Zc oa ?_|refine Zc cl ?_|refine Zc cs ?_|refine Zc cb ?_|(apply T.draw 5 A0 (by decide +kernel);simp only [td])|(apply T.drawR 5 A0 (by decide +kernel);simp only [td])|(apply T.drawAll A0 (by decide +kernel)) | refine V ?_|(refine W2 ?_ ?_ <;> intro hc))
    change Next _ _ _ _ _ _
    exact Next.go ⟨n, lo + (hi - lo) / 2, hi⟩ ⟨by rw [<- hR, bis, if_pos hlt, if_neg hB'], by dsimp only;omega, by dsimp only;rw [Int.pow_succ] at hw;omega, by dsimp only;omega, by dsimp only;omega, by dsimp only;omega, by dsimp only;omega⟩ (Nat.lt_succ_self n) CV CH
 ·have hlo : Cs p a b = lo := by rw [<- hR];exact Acy hlt
  unfold H6
  rw [hlo]
  clear hR hlo
  have bm : (Ex.ofI lo 1000).bd 2 := A41 (by omega) (by omega)
  have th := Ns lo (by omega) (by omega)
  have cl := Jr bm ba (by omega) (by omega)
  have cs : Fn0 Tryz.prog 106 [A1 (exR ((Ex.ofI lo 1000).less (Ex.ofQ a)))] (.i (sgQ ((Ex.ofI lo 1000).less (Ex.ofQ a)).val)) := Di (Ex.bd_less bm ba)
  have v1 := N1 p.pt (Ex.ofI lo 1000) hpt bm
  have v2 : Fn0 Tryz.prog 106 [A1 (exR (p.pt.value (Ex.ofI lo 1000)))] (.i (sgQ (p.pt.value (Ex.ofI lo 1000)).val)) := Di (Mg hpt bm)
  have l1 := Rf p.pt (Ex.ofI lo 1000) hpt bm
  have l2 : Fn0 Tryz.prog 106 [A1 (exR (p.pt.slope (Ex.ofI lo 1000)))] (.i (sgQ (p.pt.slope (Ex.ofI lo 1000)).val)) := Di (Rj hpt bm)
  have s4 : Fn0 Tryz.prog 106 [A1 (exR p.pt.c)] (.i (sgQ p.pt.c.val)) := Di hpt.c
  have hP : N6 p a lo ↔ 0 <= sgQ ((Ex.ofI lo 1000).less (Ex.ofQ a)).val /\ sgQ (p.pt.value (Ex.ofI lo 1000)).val = 0 /\ (sgQ (p.pt.slope (Ex.ofI lo 1000)).val < 0 \/ sgQ (p.pt.slope (Ex.ofI lo 1000)).val = 0 /\ sgQ p.pt.c.val < 0) := by
   unfold N6
   rw [Qc bm.2.2, Pe bm.2.2, Ly, Rs, G8, Rs, G8, show p.pt.c.val = p.c from Ex.val_ofQ _, Ex.val_less bm.2.2 ba.2.2, Ex.val_ofQ, Ly]
   rw [show (0 <= sgQ (mil lo - a) ↔ a <= mil lo) from by
    have := @G8 (mil lo - a)
    rw [<- Int.not_lt, this, Rat.not_lt, <- Rat.le_iff_sub_nonneg]]
  generalize sgQ ((Ex.ofI lo 1000).less (Ex.ofQ a)).val = S1 at cs hP
  generalize sgQ (p.pt.value (Ex.ofI lo 1000)).val = S2 at v2 hP
  generalize sgQ (p.pt.slope (Ex.ofI lo 1000)).val = S3 at l2 hP
  generalize sgQ p.pt.c.val = S4 at s4 hP
  repeat' (first | refine W ?_|refine Za ?_|refine Zc th ?_|refine Zc oa ?_|refine Zc cl ?_|refine Zc cs ?_|refine Zc v1 ?_|refine Zc v2 ?_|refine Zc l1 ?_|refine Zc l2 ?_|refine Zc s4 ?_|(apply T.drawAll A0 (by decide +kernel))|(apply T.drawR 13 A0 (by decide +kernel);simp only [td]) | refine V ?_|(refine W2 ?_ ?_ <;> intro hc))
  all_goals first
   | (rw [if_pos (hP.2 (by omega))]
      exact ⟨.inr rfl, [A1 [.i lo, .i lo]], .cons (Res.row [.i lo, .i lo] rfl rfl rfl rfl rfl) .nil, .one (.agg (A7 [.i lo, .i lo]))⟩)
   | (rw [if_neg (fun h => by have := hP.1 h;omega)]
      exact ⟨.inr rfl, [A1 [.i lo, .i (lo + 1)]], .cons (Res.row [.i lo, .i (lo + 1)] rfl rfl rfl rfl rfl) .nil, .one (.agg (A7 [.i lo, .i (lo + 1)]))⟩)
abbrev spE (e : Int) : AV := .tup [A1 [.i 0, .i 0], .i e]
theorem Ps (p q : Rat) : 0 < C2 p q ↔ q < p := by
 have := Px p q
 rw [<- Rat.not_le, <- this];omega
theorem A1s (p q : Rat) : 0 <= C2 p q ↔ q <= p := by
 have := Hg p q
 rw [<- Rat.not_lt, <- this];omega
end Go.Proofs.YtcbfnkgodiaiiaaGreat
