/- Contracts: package quadratic's At, Slope of what is not valid, Slope;the piece that a curve has from a time on. No conditions but those of each statement. | Contracts: package quadratic's Smooth. No conditions but those of each statement. | Contracts: package quadratic's milli, enclosed, ranged;parts of curves over rational numbers;the first time below zero of a part. No conditions but those of each statement. | Contracts: the first time below zero of a part;First. No conditions but those of each statement. -/
import Derived.Test.YtlncmkafjjomgaaGreatNh
import Derived.Test.YtlncmkafjjomgaaGreatNn
import Derived.Test.YtlncmkafjjomgaaGreatNg
set_option linter.unusedSimpArgs false
namespace Go.Proofs.YtlncmkafjjomgaaGreat
set_option linter.unusedVariables false
open Go.RowKit
def atS (l : List PcQ) (t : Rat) : Rat := if pcI l t < 0 then 0 else sloQ (pcAt l (pcI l t).toNat) (kQ (t - (pcAt l (pcI l t).toNat).f))
def atSE (l : List PcQ) (t : Rat) (e : Int) : Int := if pcI l t < 0 then e else sloE (pcAt l (pcI l t).toNat) (kQ (t - (pcAt l (pcI l t).toNat).f)) (kE (t - (pcAt l (pcI l t).toNat).f) e)
def atP (l : List PcQ) (t : Rat) : PcQ := if pcI l t < 0 then ⟨t, (pcAt l 0).a, 0, 0⟩ else ⟨t, atQ l t, atS l t, (pcAt l (pcI l t).toNat).c⟩
def atPE (l : List PcQ) (t : Rat) (e : Int) : Int := if pcI l t < 0 then e else
 sloE (pcAt l (pcI l t).toNat) (kQ (t - (pcAt l (pcI l t).toNat).f)) (valE (pcAt l (pcI l t).toNat) (kQ (t - (pcAt l (pcI l t).toNat).f)) (kE (t - (pcAt l (pcI l t).toNat).f) e))
set_option maxHeartbeats 8000000 in
theorem sum_at (l : List PcQ) (t : Rat) (e : Int) (hl : okC l) (h0 : l ≠ []) (hn : l.length ≤ 1000) (ht : Fits t) : FnW Tryz.prog 149 [.i e] [.sl (l.map PcQ.row), rowA (frR t)] [.i (atPE l t e)] (rowA (atP l t).row) := by
 have c := qua_piece l t hl hn ht
 have z := qua_zero
 unfold atP atPE
 by_cases h : pcI l t < 0
 ·rw [if_pos h, if_pos h]
  obtain ⟨x, hx⟩ : ∃ x, l[0]? = some x := ⟨l[0]'(List.length_pos_iff.2 h0), List.getElem?_eq_getElem _⟩
  have hb : (l.map PcQ.row)[(0 : Int).toNat]? = some x.row := by rw [show (0 : Int).toNat = 0 from rfl, List.getElem?_map, hx];rfl
  rw [pcAt_of hx]
  refine FnW.of Tryz.func149 Tryz.ntmps149 rfl rfl rfl ?_
  intro k o
  simp only [entryTm]
  repeat' (first|(apply S.move;exact rfl;exact rfl)|(apply S.assign;exact rfl;exact rfl)|(apply S.gC;exact rfl;exact rfl;exact rfl)|(apply S.gCN;(iterate 4 exact rfl))|(apply S.gU;exact rfl;exact rfl;exact rfl)|(apply S.gTT;exact rfl;exact rfl;assumption)|(apply S.gTF;exact rfl;exact rfl;assumption;exact rfl)|(apply S.gFF;exact rfl;exact rfl;assumption)|(apply S.gFT;exact rfl;exact rfl;assumption;exact rfl)|(apply S.gTFn;exact rfl;exact rfl;assumption;exact rfl)|(apply S.gFFn;exact rfl;exact rfl;assumption)|(apply S.fieldP;exact rfl;exact rfl;exact rfl)|(apply S.loadP;(iterate 4 exact rfl))|(apply S.fieldR;exact rfl;exact rfl)|(apply S.loadR;exact rfl;exact rfl;exact rfl)|(apply S.pC;exact rfl;exact rfl;exact rfl)|(apply S.pCN;exact rfl;exact rfl;exact rfl)|(apply S.pTp;exact rfl;assumption;exact rfl;exact rfl)|(apply S.pFp;exact rfl;assumption;exact rfl;exact rfl)|(apply S.pFn;exact rfl;assumption;exact rfl;exact rfl)|(apply S.fieldH;exact rfl;exact rfl;exact rfl)|(apply S.nilCheckH;exact rfl;exact rfl;exact rfl)|(apply S.loadH;(iterate 5 exact rfl))|(apply S.storeH;(iterate 5 exact rfl))|(apply T.ret;change DoneW _ _ _ _ _ _ _ _)|(apply S.call;exact rfl;exact rfl;exact c;exact rfl)|(apply S.call;exact rfl;exact rfl;exact z;exact rfl)|(apply S.indexR;exact rfl;exact rfl;exact rfl;exact hb;omega;exact rfl)|(apply T.draw 8 anyOrder (by decide +kernel);simp only [List.take_succ_cons, List.take_zero, List.drop_succ_cons, List.drop_zero])|(apply T.drawR 8 anyOrder (by decide +kernel);simp only [List.take_succ_cons, List.take_zero, List.drop_succ_cons, List.drop_zero])|(apply S.loadPA;(iterate 4 exact rfl))|(apply S.loadRA;(iterate 4 exact rfl))|(apply S.box;(iterate 6 exact rfl))|(apply S.alloc;(iterate 5 exact rfl))|(apply S.store;(iterate 7 exact rfl))|(apply S.storeD;(iterate 8 exact rfl))|(apply S.cmp;(iterate 4 exact rfl))|(apply S.strEq;exact rfl;exact rfl;exact rfl)|(apply S.strNe;exact rfl;exact rfl;exact rfl)|(apply S.notP;exact rfl;exact rfl)|(apply S.not;exact rfl;exact rfl;exact rfl)|(apply S.extract;exact rfl;exact rfl;exact rfl)|(apply S.lenR;exact rfl;exact rfl)|(apply S.lenS;exact rfl;exact rfl)|(apply S.makeFunc;exact rfl;exact rfl)|(apply S.build;exact rfl;exact rfl;exact rfl)|(apply S.nilCheckR;exact rfl;exact rfl)|(apply S.nilCheckP;exact rfl;exact rfl;exact rfl)|(apply S.gsTn;exact rfl;exact rfl;exact rfl;intro hc;rotate_left;intro hc;rotate_right)|(apply S.gsFn;exact rfl;exact rfl;exact rfl;intro hc;rotate_left;intro hc;rotate_right)|(apply S.gsT;exact rfl;exact rfl;exact rfl;intro hc;rotate_left;intro hc;rotate_right)|(apply S.gsF;exact rfl;exact rfl;exact rfl;intro hc;rotate_left;intro hc;rotate_right)|(apply S.pSn;(iterate 4 exact rfl);intro hc;rotate_left;intro hc;rotate_right)|(apply S.pSp;(iterate 4 exact rfl);intro hc;rotate_left;intro hc;rotate_right) | apply S.nil | apply T.regs | apply T.reg|(apply T.cC;exact rfl)|(apply T.cCN;exact rfl)|(apply T.cT;exact rfl;assumption)|(apply T.cF;exact rfl;assumption)|(apply T.cFn;exact rfl;assumption)|(apply T.cSn;exact rfl;intro hc;rotate_left;intro hc;rotate_right)|(apply T.cS;exact rfl;intro hc;rotate_left;intro hc;rotate_right) | apply T.seq|(apply T.skip;first | change T _ _ _ _ _ | change Done _ _ _ _ _ | change Next _ _ _ _ _ _ | skip)|(apply T.ret;change Done _ _ _ _ _)|(apply T.exit;first | change T _ _ _ _ _ | change Done _ _ _ _ _ | change Next _ _ _ _ _ _ | skip) | apply T.block)
  exact doneW [rowA (PcQ.row ⟨t, x.a, 0, 0⟩)] (.inr rfl) (.cons (Res.row (PcQ.row ⟨t, x.a, 0, 0⟩) rfl rfl rfl rfl rfl) .nil) rfl rfl rfl
 ·unfold atQ atS
  rw [if_neg h, if_neg h, if_neg h, if_neg h]
  have hx := pc_get h
  generalize hxe : pcAt l (pcI l t).toNat = x at hx
  have hb : (l.map PcQ.row)[(pcI l t).toNat]? = some x.row := by rw [List.getElem?_map, hx];rfl
  have hok := hl x (List.mem_of_getElem? hx)
  have c1 := sum_sub t x.f e ht hok.f
  have c2 := sum_value x (kQ (t - x.f)) (kE (t - x.f) e) hok (kQ_fits _)
  have c3 := sum_slope x (kQ (t - x.f)) (valE x (kQ (t - x.f)) (kE (t - x.f) e)) hok (kQ_fits _)
  refine FnW.of Tryz.func149 Tryz.ntmps149 rfl rfl rfl ?_
  intro k o
  simp only [entryTm]
  repeat' (first|(apply S.move;exact rfl;exact rfl)|(apply S.assign;exact rfl;exact rfl)|(apply S.gC;exact rfl;exact rfl;exact rfl)|(apply S.gCN;(iterate 4 exact rfl))|(apply S.gU;exact rfl;exact rfl;exact rfl)|(apply S.gTT;exact rfl;exact rfl;assumption)|(apply S.gTF;exact rfl;exact rfl;assumption;exact rfl)|(apply S.gFF;exact rfl;exact rfl;assumption)|(apply S.gFT;exact rfl;exact rfl;assumption;exact rfl)|(apply S.gTFn;exact rfl;exact rfl;assumption;exact rfl)|(apply S.gFFn;exact rfl;exact rfl;assumption)|(apply S.fieldP;exact rfl;exact rfl;exact rfl)|(apply S.loadP;(iterate 4 exact rfl))|(apply S.fieldR;exact rfl;exact rfl)|(apply S.loadR;exact rfl;exact rfl;exact rfl)|(apply S.pC;exact rfl;exact rfl;exact rfl)|(apply S.pCN;exact rfl;exact rfl;exact rfl)|(apply S.pTp;exact rfl;assumption;exact rfl;exact rfl)|(apply S.pFp;exact rfl;assumption;exact rfl;exact rfl)|(apply S.pFn;exact rfl;assumption;exact rfl;exact rfl)|(apply S.fieldH;exact rfl;exact rfl;exact rfl)|(apply S.nilCheckH;exact rfl;exact rfl;exact rfl)|(apply S.loadH;(iterate 5 exact rfl))|(apply S.storeH;(iterate 5 exact rfl))|(apply T.ret;change DoneW _ _ _ _ _ _ _ _)|(apply S.call;exact rfl;exact rfl;exact c;exact rfl)|(apply S.callW;(iterate 5 exact rfl);exact c1;exact rfl)|(apply S.callWD;(iterate 6 exact rfl);exact c1;exact rfl)|(apply S.callW;(iterate 5 exact rfl);exact c2;exact rfl)|(apply S.callWD;(iterate 6 exact rfl);exact c2;exact rfl)|(apply S.callW;(iterate 5 exact rfl);exact c3;exact rfl)|(apply S.callWD;(iterate 6 exact rfl);exact c3;exact rfl)|(apply S.indexR;exact rfl;exact rfl;exact rfl;exact hb;omega;exact rfl)|(apply S.loadRW;(iterate 4 exact rfl))|(apply T.draw 21 anyOrder (by decide +kernel);simp only [List.take_succ_cons, List.take_zero, List.drop_succ_cons, List.drop_zero])|(apply T.drawR 21 anyOrder (by decide +kernel);simp only [List.take_succ_cons, List.take_zero, List.drop_succ_cons, List.drop_zero])|(apply T.drawAll anyOrder (by decide +kernel))|(apply S.loadPA;(iterate 4 exact rfl))|(apply S.loadRA;(iterate 4 exact rfl))|(apply S.box;(iterate 6 exact rfl))|(apply S.alloc;(iterate 5 exact rfl))|(apply S.store;(iterate 7 exact rfl))|(apply S.storeD;(iterate 8 exact rfl))|(apply S.cmp;(iterate 4 exact rfl))|(apply S.strEq;exact rfl;exact rfl;exact rfl)|(apply S.strNe;exact rfl;exact rfl;exact rfl)|(apply S.notP;exact rfl;exact rfl)|(apply S.not;exact rfl;exact rfl;exact rfl)|(apply S.extract;exact rfl;exact rfl;exact rfl)|(apply S.lenR;exact rfl;exact rfl)|(apply S.lenS;exact rfl;exact rfl)|(apply S.makeFunc;exact rfl;exact rfl)|(apply S.build;exact rfl;exact rfl;exact rfl)|(apply S.nilCheckR;exact rfl;exact rfl)|(apply S.nilCheckP;exact rfl;exact rfl;exact rfl)|(apply S.gsTn;exact rfl;exact rfl;exact rfl;intro hc;rotate_left;intro hc;rotate_right)|(apply S.gsFn;exact rfl;exact rfl;exact rfl;intro hc;rotate_left;intro hc;rotate_right)|(apply S.gsT;exact rfl;exact rfl;exact rfl;intro hc;rotate_left;intro hc;rotate_right)|(apply S.gsF;exact rfl;exact rfl;exact rfl;intro hc;rotate_left;intro hc;rotate_right)|(apply S.pSn;(iterate 4 exact rfl);intro hc;rotate_left;intro hc;rotate_right)|(apply S.pSp;(iterate 4 exact rfl);intro hc;rotate_left;intro hc;rotate_right) | apply S.nil | apply T.regs | apply T.reg|(apply T.cC;exact rfl)|(apply T.cCN;exact rfl)|(apply T.cT;exact rfl;assumption)|(apply T.cF;exact rfl;assumption)|(apply T.cFn;exact rfl;assumption)|(apply T.cSn;exact rfl;intro hc;rotate_left;intro hc;rotate_right)|(apply T.cS;exact rfl;intro hc;rotate_left;intro hc;rotate_right) | apply T.seq|(apply T.skip;first | change T _ _ _ _ _ | change Done _ _ _ _ _ | change Next _ _ _ _ _ _ | skip)|(apply T.ret;change Done _ _ _ _ _)|(apply T.exit;first | change T _ _ _ _ _ | change Done _ _ _ _ _ | change Next _ _ _ _ _ _ | skip) | apply T.block)
  exact doneW [rowA (PcQ.row ⟨t, valQ x (kQ (t - x.f)), sloQ x (kQ (t - x.f)), x.c⟩)] (.inr rfl) (.cons (Res.row (PcQ.row ⟨t, valQ x (kQ (t - x.f)), sloQ x (kQ (t - x.f)), x.c⟩) rfl rfl rfl rfl rfl) .nil) rfl rfl rfl
end Go.Proofs.YtlncmkafjjomgaaGreat
set_option linter.unusedSimpArgs false
namespace Go.Proofs.YtlncmkafjjomgaaGreat
set_option linter.unusedVariables false
open Go.RowKit
end Go.Proofs.YtlncmkafjjomgaaGreat
set_option linter.unusedSimpArgs false
namespace Go.Proofs.YtlncmkafjjomgaaGreat
set_option linter.unusedVariables false
open Go.RowKit
theorem relV_u2 (w : World) (L : Nat → Prop) (ρ : Pl) (a c : Int) : RelV w L ρ (.tup [.val (.int .u64 a), .val (.int .u64 c)]) (.tuple #[.int .u64 a, .int .u64 c]) :=
 .tup _ [.int .u64 a, .int .u64 c] rfl (relV_list [.int .u64 a, .int .u64 c])
theorem bits_mul (a b : Nat) (ha : a < 18446744073709551616) (hb : b < 18446744073709551616) : Fn0 Tryz.prog 73 [.val (.int .u64 a), .val (.int .u64 b)] (.tup [.val (.int .u64 ((a * b / 18446744073709551616 : Nat) : Int)), .val (.int .u64 ((a * b % 18446744073709551616 : Nat) : Int))]) := by
 refine Fn0.of_calls (us := [.int .u64 a, .int .u64 b]) ⟨_, Tryz.func73, rfl, rfl⟩ rfl (fun w L => relV_u2 w L noPl _ _) fun w => ?_
 refine (Tryz.bits_Mul64 a b ha hb w).mono ?_
 rintro e w' ⟨rfl, rfl⟩
 exact ⟨rfl, Below.refl _ _⟩
theorem bits_div (hi lo y : Int) (h0 : 0 ≤ hi) (h0' : hi < y) (h1 : 0 ≤ lo) (h2 : lo < 18446744073709551616) (h4 : y < 18446744073709551616) : Fn0 Tryz.prog 140 [.val (.int .u64 hi), .val (.int .u64 lo), .val (.int .u64 y)] (.tup [.val (.int .u64 ((hi * 18446744073709551616 + lo) / y)), .val (.int .u64 ((hi * 18446744073709551616 + lo) % y))]) := by
 refine Fn0.of_calls (us := [.int .u64 hi, .int .u64 lo, .int .u64 y]) ⟨_, Tryz.func140, rfl, rfl⟩ rfl (fun w L => relV_u2 w L noPl _ _) fun w => ?_
 exact div64_any hi lo y w h0 h0' h1 h2 h4
theorem ratio_floor (q : Rat) (hq : Fits q) : Fn0 Tryz.prog 139 [rowA (frR q)] (.tup [.i (q.num / q.den), .i 0]) := by
 refine Fn0.of_calls (us := [.agg #[.int .i64 q.num, .int .i64 q.den]]) ⟨_, Tryz.func139, rfl, rfl⟩ rfl (fun w L => relV_intE w L noPl _ _) fun w => ?_
 have := Floor_any q.num q.den w
 rw [show floorS q.num q.den = (q.num / q.den, 0) by unfold floorS;rw [if_pos hq.valid]] at this
 exact this
def milQ (q : Rat) : Int := 1000 * q.num / q.den
def milX (q : Rat) : Prop := 1000 * q.num % q.den = 0
instance (q : Rat) : Decidable (milX q) := by unfold milX;exact inferInstance
structure Mid (q : Rat) : Prop where
 fits : Fits q
 lo : -1099511627776 ≤ q.num / q.den
 hi : q.num / q.den ≤ 1099511627776
theorem Mid.mil {q : Rat} (h : Mid q) : -1099511627776000 ≤ milQ q ∧ milQ q ≤ 1099511627776999 := by
 obtain ⟨_, h1, h2⟩ := h
 have hd := q.den_pos
 obtain ⟨d, hd'⟩ : ∃ d : Int, (q.den : Int) = d := ⟨_, rfl⟩
 have hdp : 0 < d := by omega
 unfold milQ
 rw [hd'] at h1 h2 ⊢
 have e1 := Int.mul_ediv_add_emod q.num d
 have e2 := Int.emod_nonneg q.num (show d ≠ 0 by omega)
 have e3 := Int.emod_lt_of_pos q.num hdp
 have key : 1000 * q.num / d = 1000 * (q.num / d) + 1000 * (q.num % d) / d := by
  have : 1000 * q.num = 1000 * (q.num % d) + (1000 * (q.num / d)) * d := by grind
  rw [this, Int.add_mul_ediv_right _ _ (by omega)];omega
 have h3 : 0 ≤ 1000 * (q.num % d) / d := Int.ediv_nonneg (by omega) (by omega)
 have h4 : 1000 * (q.num % d) / d < 1000 := Int.ediv_lt_of_lt_mul hdp (by omega)
 omega
set_option maxHeartbeats 4000000 in
theorem qua_milli (q : Rat) (h : Mid q) : Fn0 Tryz.prog 105 [rowA (frR q)] (.tup [.i (milQ q), .b (decide (milX q))]) := by
 have hm := h.mil
 obtain ⟨hf, h1, h2⟩ := h
 have c1 := ratio_floor q hf
 have hd := q.den_pos
 obtain ⟨d, hd'⟩ : ∃ d : Int, (q.den : Int) = d := ⟨_, rfl⟩
 have hdp : 0 < d := by omega
 have hdm : d ≤ 1152921504606846976 := by have := hf.2;omega
 have hn := hf.1
 have e1 := Int.mul_ediv_add_emod q.num d
 have e2 := Int.emod_nonneg q.num (show d ≠ 0 by omega)
 have e3 := Int.emod_lt_of_pos q.num hdp
 obtain ⟨r, hr⟩ : ∃ r : Nat, (r : Int) = q.num % d := ⟨(q.num % d).toNat, by omega⟩
 obtain ⟨f, hfl⟩ : ∃ f : Int, q.num / d = f := ⟨_, rfl⟩
 have hfd : f * d = q.num - r := by rw [← hfl, Int.mul_comm];omega
 have c2 := bits_mul r 1000 (by omega) (by decide)
 have p1 : ((r * 1000 / 18446744073709551616 : Nat) : Int) < d := by omega
 have c3 := bits_div ((r * 1000 / 18446744073709551616 : Nat) : Int) ((r * 1000 % 18446744073709551616 : Nat) : Int) d (by omega) p1 (by omega) (by omega) (by omega)
 rw [show ((r * 1000 / 18446744073709551616 : Nat) : Int) * 18446744073709551616 + ((r * 1000 % 18446744073709551616 : Nat) : Int) = 1000 * r by omega] at c3
 have g1 : IntKind.u64.wrap (q.num - f * d) = (r : Int) := by rw [hfd, wrap_u64];omega
 have g2 : IntKind.u64.wrap d = d := by rw [wrap_u64];omega
 have h3 : 0 ≤ 1000 * (r : Int) / d := Int.ediv_nonneg (by omega) (by omega)
 have h4 : 1000 * (r : Int) / d < 1000 := Int.ediv_lt_of_lt_mul hdp (by omega)
 have g3 : IntKind.i64.wrap (1000 * (r : Int) / d) = 1000 * (r : Int) / d := wrap_i64 _ (by omega)
 have h5 : 1000 * q.num = 1000 * (r : Int) + (1000 * f) * d := by rw [Int.mul_assoc, hfd];omega
 have key : milQ q = 1000 * f + 1000 * (r : Int) / d := by
  unfold milQ
  rw [hd', h5, Int.add_mul_ediv_right _ _ (by omega)];omega
 have keyX : milX q ↔ 1000 * (r : Int) % d = 0 := by
  unfold milX
  rw [hd', h5, Int.add_mul_emod_self_right]
 rw [hd'] at h1 h2
 rw [hfl] at h1 h2
 simp only [frR] at c1 ⊢
 rw [hd', hfl] at c1
 rw [hd']
 refine Fn0.of Tryz.func105 Tryz.ntmps105 rfl rfl rfl ?_
 simp only [entryTm]
 repeat' (first|(apply S.move;exact rfl;exact rfl)|(apply S.assign;exact rfl;exact rfl)|(apply S.fieldP;exact rfl;exact rfl;exact rfl)|(apply S.loadP;(iterate 4 exact rfl))|(apply S.arith;(iterate 4 exact rfl);first | omega|(rw [hfd];omega))|(apply S.call;exact rfl;exact rfl;exact c1;exact rfl)|(apply S.call;exact rfl;exact rfl;exact c2;exact rfl)|(apply S.call;exact rfl;exact rfl;exact c3;exact rfl)|(apply S.convW;exact rfl;exact g1;exact rfl)|(apply S.convW;exact rfl;exact g2;exact rfl)|(apply S.convW;exact rfl;exact g3;exact rfl)|(apply S.loadPA;(iterate 4 exact rfl))|(apply S.box;(iterate 6 exact rfl))|(apply S.cmp;(iterate 4 exact rfl))|(apply S.extract;exact rfl;exact rfl;exact rfl) | apply S.nil | apply T.regs|(apply T.ret;change Done _ _ _ _ _))
 exact ⟨.inr rfl, [.i (milQ q), .b (decide (milX q))], .cons (.tmp (by rw [key];rfl)) (.cons (.tmp (congrArg (fun b => some (AV.b b)) (decide_eq_decide.2 keyX.symm))) .nil), .tup (.cons (.one (.lf _)) (.cons (.one (.lf _)) .nil))⟩
def enQ (q : Rat) : List Lf := if milX q then [.i (milQ q), .i (milQ q)] else [.i (milQ q), .i (milQ q + 1)]
theorem qua_enclosed (q : Rat) (h : Mid q) : Fn0 Tryz.prog 70 [rowA (frR q)] (rowA (enQ q)) := by
 have hm := h.mil
 have c := qua_milli q h
 unfold enQ
 by_cases hx : milX q
 ·rw [if_pos hx]
  refine Fn0.of Tryz.func70 Tryz.ntmps70 rfl rfl rfl ?_
  simp only [entryTm]
  repeat' (first|(apply S.move;exact rfl;exact rfl)|(apply S.assign;exact rfl;exact rfl)|(apply S.call;exact rfl;exact rfl;exact c;exact rfl)|(apply S.loadPA;(iterate 4 exact rfl))|(apply S.box;(iterate 6 exact rfl))|(apply S.alloc;(iterate 5 exact rfl))|(apply S.store;(iterate 7 exact rfl))|(apply S.extract;exact rfl;exact rfl;exact rfl)|(apply S.build;exact rfl;exact rfl;exact rfl) | apply S.nil | apply T.regs|(apply T.cT;exact rfl;assumption) | apply T.seq|(apply T.ret;change Done _ _ _ _ _))
  exact ⟨.inr rfl, [rowA [.i (milQ q), .i (milQ q)]], .cons (Res.row [.i (milQ q), .i (milQ q)] rfl rfl rfl rfl rfl) .nil, .one (.agg (outL_refl [.i (milQ q), .i (milQ q)]))⟩
 ·rw [if_neg hx]
  refine Fn0.of Tryz.func70 Tryz.ntmps70 rfl rfl rfl ?_
  simp only [entryTm]
  repeat' (first|(apply S.move;exact rfl;exact rfl)|(apply S.assign;exact rfl;exact rfl)|(apply S.arith;(iterate 4 exact rfl);omega)|(apply S.call;exact rfl;exact rfl;exact c;exact rfl)|(apply S.loadPA;(iterate 4 exact rfl))|(apply S.box;(iterate 6 exact rfl))|(apply S.alloc;(iterate 5 exact rfl))|(apply S.store;(iterate 7 exact rfl))|(apply S.extract;exact rfl;exact rfl;exact rfl)|(apply S.build;exact rfl;exact rfl;exact rfl) | apply S.nil | apply T.regs|(apply T.cF;exact rfl;assumption) | apply T.seq|(apply T.skip;first | change T _ _ _ _ _ | change Done _ _ _ _ _ | change Next _ _ _ _ _ _ | skip)|(apply T.ret;change Done _ _ _ _ _))
  exact ⟨.inr rfl, [rowA [.i (milQ q), .i (milQ q + 1)]], .cons (Res.row [.i (milQ q), .i (milQ q + 1)] rfl rfl rfl rfl rfl) .nil, .one (.agg (outL_refl [.i (milQ q), .i (milQ q + 1)]))⟩
def rangP (q : Rat) : Prop := -1099511627776 ≤ q ∧ q ≤ 1099511627776
instance (q : Rat) : Decidable (rangP q) := by unfold rangP;exact inferInstance
theorem qua_ranged (q : Rat) (h : Fits q) : Fn0 Tryz.prog 64 [rowA (frR q)] (.b (decide (rangP q))) := by
 have c1 : Fn0 Tryz.prog 63 [rowA (frR q), rowA [.i (-1099511627776), .i 1]] (.i (cmpQ q (-1099511627776))) := qua_compare q (-1099511627776) h (by decide)
 have c2 : Fn0 Tryz.prog 63 [rowA (frR q), rowA [.i 1099511627776, .i 1]] (.i (cmpQ q 1099511627776)) := qua_compare q 1099511627776 h (by decide)
 have k1 : 0 ≤ cmpQ q (-1099511627776) ↔ -1099511627776 ≤ q := by
  have := cmpQ_lt q (-1099511627776)
  rw [← Rat.not_lt, ← this];omega
 have k2 := cmpQ_le q 1099511627776
 refine Fn0.of Tryz.func64 Tryz.ntmps64 rfl rfl rfl ?_
 simp only [entryTm]
 repeat' (first|(apply S.move;exact rfl;exact rfl)|(apply S.assign;exact rfl;exact rfl)|(apply S.gTT;exact rfl;exact rfl;assumption)|(apply S.gTF;exact rfl;exact rfl;assumption;exact rfl)|(apply S.pTp;exact rfl;assumption;exact rfl;exact rfl)|(apply S.pFp;exact rfl;assumption;exact rfl;exact rfl)|(apply S.call;exact rfl;exact rfl;exact c1;exact rfl)|(apply S.call;exact rfl;exact rfl;exact c2;exact rfl)|(apply S.loadPA;(iterate 4 exact rfl))|(apply S.box;(iterate 6 exact rfl))|(apply S.cmp;(iterate 4 exact rfl))|(apply S.build;exact rfl;exact rfl;exact rfl)|(apply S.gsT;exact rfl;exact rfl;exact rfl;intro hc;rotate_left;intro hc;rotate_right) | apply S.nil | apply T.regs|(apply T.ret;change Done _ _ _ _ _))
 all_goals first
  | exact doneV (by simp) Tryz.results64 rfl (congrArg Value.bool (by symm;apply decide_eq_false;unfold rangP;rw [← k1, ← k2];omega))
  | exact doneV (by simp) Tryz.results64 rfl (congrArg Value.bool (decide_eq_decide.2 (by unfold rangP;rw [← k1, ← k2];omega)))
theorem rang_mid {q : Rat} (hf : Fits q) (h : rangP q) : Mid q := by
 obtain ⟨h1, h2⟩ := h
 refine ⟨hf, ?_, ?_⟩
 ·rw [← Rat.floor_def, Rat.le_floor_iff]
  exact h1
 ·rw [← Rat.floor_def]
  have h3 : ((q.floor : Int) : Rat) ≤ q := Rat.le_floor_iff.1 (Int.le_refl _)
  have h4 : ((q.floor : Int) : Rat) ≤ ((1099511627776 : Int) : Rat) := Rat.le_trans h3 h2
  exact Rat.intCast_le_intCast.1 h4
/-! ### Parts over rational numbers -/
def vR (p : PcQ) (t : Rat) : Rat := p.a + (p.b + p.c * (t - p.f)) * (t - p.f)
def sR (p : PcQ) (t : Rat) : Rat := p.b + p.c * (t - p.f) + p.c * (t - p.f)
def belR (p : PcQ) (a b : Rat) : Prop := a < b ∧ ((vR p a < 0 ∨ vR p b < 0) ∨ (0 < p.c ∧ sR p a < 0 ∧ 0 < sR p b ∧ 4 * p.a * p.c - p.b * p.b < 0))
instance (p : PcQ) (a b : Rat) : Decidable (belR p a b) := by unfold belR;exact inferInstance
theorem sgQ_neg {r : Rat} : sgQ r < 0 ↔ r < 0 := by
 unfold sgQ
 rw [Int.sign_neg_iff, ← Int.not_le, Rat.num_nonneg, Rat.not_le]
theorem sgQ_zero {r : Rat} : sgQ r = 0 ↔ r = 0 := by
 unfold sgQ
 rw [Int.sign_eq_zero_iff_zero, Rat.num_eq_zero]
theorem sgQ_pos {r : Rat} : 0 < sgQ r ↔ 0 < r := by
 have h1 := @sgQ_neg r
 have h2 := @sgQ_zero r
 have h3 : -1 ≤ sgQ r ∧ sgQ r ≤ 1 := by
  unfold sgQ
  rcases Int.lt_trichotomy r.num 0 with h | h | h
  ·rw [Int.sign_eq_neg_one_of_neg h];decide
  ·rw [h];decide
  ·rw [Int.sign_eq_one_of_pos h];decide
 constructor
 ·intro h
  have n1 : ¬ r < 0 := fun e => by have := h1.2 e;omega
  have n2 : r ≠ 0 := fun e => by have := h2.2 e;omega
  exact Rat.lt_of_le_of_ne (Rat.not_lt.1 n1) (Ne.symm n2)
 ·intro h
  have n1 : ¬ sgQ r < 0 := fun e => Rat.not_lt.2 (Rat.le_of_lt h) (h1.1 e)
  have n2 : sgQ r ≠ 0 := fun e => by rw [h2.1 e] at h;exact Rat.lt_irrefl h
  omega
abbrev PcQ.pt (p : PcQ) : Pt := Pt.ofQ p.f p.a p.b p.c
theorem PcQ.ok.pt {p : PcQ} (h : p.ok) : p.pt.ok := ⟨bd_ofQ h.f, bd_ofQ h.a, bd_ofQ h.b, bd_ofQ h.c⟩
theorem pt_valV {p : PcQ} {t : Ex} (ht : 0 < t.d) : (p.pt.value t).val = vR p t.val := by
 unfold Pt.value vR
 have d1 : 0 < (t.less p.pt.f).d := Nat.mul_pos ht p.f.den_pos
 have d2 : 0 < (p.pt.c.times (t.less p.pt.f)).d := Nat.mul_pos p.c.den_pos d1
 have d3 : 0 < (p.pt.b.plus (p.pt.c.times (t.less p.pt.f))).d := Nat.mul_pos p.b.den_pos d2
 have d4 : 0 < ((p.pt.b.plus (p.pt.c.times (t.less p.pt.f))).times (t.less p.pt.f)).d := Nat.mul_pos d3 d1
 rw [Ex.val_plus p.a.den_pos d4, Ex.val_times, Ex.val_plus p.b.den_pos d2, Ex.val_times, Ex.val_less ht p.f.den_pos]
 simp only [Pt.ofQ, Ex.val_ofQ]
theorem pt_slopeV {p : PcQ} {t : Ex} (ht : 0 < t.d) : (p.pt.slope t).val = sR p t.val := by
 unfold Pt.slope sR
 have d1 : 0 < (t.less p.pt.f).d := Nat.mul_pos ht p.f.den_pos
 have d2 : 0 < (p.pt.c.times (t.less p.pt.f)).d := Nat.mul_pos p.c.den_pos d1
 have d3 : 0 < (p.pt.b.plus (p.pt.c.times (t.less p.pt.f))).d := Nat.mul_pos p.b.den_pos d2
 rw [Ex.val_plus d3 d2, Ex.val_plus p.b.den_pos d2, Ex.val_times, Ex.val_less ht p.f.den_pos]
 simp only [Pt.ofQ, Ex.val_ofQ]
theorem four_val : four.val = 4 := by rw [Ex.val_ofI];rfl
theorem pt_discV (p : PcQ) : p.pt.disc.val = 4 * p.a * p.c - p.b * p.b := by
 unfold Pt.disc
 have d1 : 0 < (four.times p.pt.a).d := Nat.mul_pos (by decide) p.a.den_pos
 have d2 : 0 < ((four.times p.pt.a).times p.pt.c).d := Nat.mul_pos d1 p.c.den_pos
 have d3 : 0 < (p.pt.b.times p.pt.b).d := Nat.mul_pos p.b.den_pos p.b.den_pos
 rw [Ex.val_less d2 d3, Ex.val_times, Ex.val_times, Ex.val_times, four_val]
 simp only [Pt.ofQ, Ex.val_ofQ]
theorem belowS_iff {p : PcQ} {a b : Ex} (ha : 0 < a.d) (hb : 0 < b.d) : p.pt.belowS a b ↔ belR p a.val b.val := by
 unfold Pt.belowS belR
 rw [Ex.val_less hb ha, pt_valV ha, pt_valV hb, pt_slopeV ha, pt_slopeV hb, pt_discV, sgQ_pos, sgQ_neg, sgQ_neg, sgQ_pos, sgQ_neg, sgQ_pos, sgQ_neg, show p.pt.c.val = p.c from Ex.val_ofQ _]
 rw [show (0 < b.val - a.val ↔ a.val < b.val) from (Rat.lt_iff_sub_pos _ _).symm]
end Go.Proofs.YtlncmkafjjomgaaGreat
set_option linter.unusedSimpArgs false
namespace Go.Proofs.YtlncmkafjjomgaaGreat
set_option linter.unusedVariables false
open Go.RowKit
def bis (B : Int → Prop) [DecidablePred B] : Nat → Int → Int → Int
 | 0, lo, _ => lo
 | n + 1, lo, hi => if 1 < hi - lo then (if B (lo + (hi - lo) / 2) then bis B n lo (lo + (hi - lo) / 2) else bis B n (lo + (hi - lo) / 2) hi) else lo
def mil (m : Int) : Rat := mkRat m 1000
theorem mil_val (m : Int) : (Ex.ofI m 1000).val = mil m := Ex.val_ofI m 1000
def cutR (b t : Rat) : Rat := if b < t then b else t
abbrev firB (p : PcQ) (a b : Rat) (m : Int) : Prop := belR p a (cutR b (mil m))
def firLo (p : PcQ) (a b : Rat) : Int := bis (firB p a b) 64 (milQ a) (milQ b + 2)
def firP (p : PcQ) (a : Rat) (m : Int) : Prop := a ≤ mil m ∧ vR p (mil m) = 0 ∧ (sR p (mil m) < 0 ∨ sR p (mil m) = 0 ∧ p.c < 0)
instance (p : PcQ) (a : Rat) (m : Int) : Decidable (firP p a m) := by unfold firP;exact inferInstance
def firR (p : PcQ) (a b : Rat) : List Lf := if firP p a (firLo p a b) then [.i (firLo p a b), .i (firLo p a b)] else [.i (firLo p a b), .i (firLo p a b + 1)]
structure BisS where
 n : Nat
 lo : Int
 hi : Int
theorem bis_lo {B : Int → Prop} [DecidablePred B] {n : Nat} {lo hi : Int} (h : ¬ 1 < hi - lo) : bis B n lo hi = lo := by
 cases n with
 | zero => rfl
 | succ n => rw [bis, if_neg h]
theorem bd_ofI {n : Int} (h0 : -9223372036854775808 ≤ n) (h1 : n ≤ 9223372036854775807) : (Ex.ofI n 1000).bd 2 := by
 have : (4294967296 : Nat) ^ 2 = 18446744073709551616 := by decide
 refine ⟨?_, by show (1000 : Nat) < _;omega, by show 0 < (1000 : Nat);omega⟩
 show n.natAbs < _
 omega
set_option maxHeartbeats 32000000 in
theorem pt_first (p : PcQ) (a b : Rat) (hp : p.ok) (ha : Mid a) (hb : Mid b) (hab : a ≤ b) : Fn0 Tryz.prog 72 [rowA (ptR p.pt), rowA (frR a), rowA (frR b)] (rowA (firR p a b)) := by
 have hpt := hp.pt
 have m1 := ha.mil
 have m2 := hb.mil
 have c1 := qua_milli a ha
 have c2 := qua_milli b hb
 have oa := ex_of a ha.fits
 have ob := ex_of b hb.fits
 have ba := bd_ofQ ha.fits
 have bb := bd_ofQ hb.fits
 refine Fn0.of Tryz.func72 Tryz.ntmps72 rfl rfl rfl ?_
 simp only [entryTm]
 repeat' (first|(apply S.move;exact rfl;exact rfl)|(apply S.assign;exact rfl;exact rfl)|(apply S.arith;(iterate 4 exact rfl);omega)|(apply S.call;exact rfl;exact rfl;exact c1;exact rfl)|(apply S.call;exact rfl;exact rfl;exact c2;exact rfl)|(apply S.loadPA;(iterate 4 exact rfl))|(apply S.box;(iterate 6 exact rfl))|(apply S.alloc;(iterate 5 exact rfl))|(apply S.extract;exact rfl;exact rfl;exact rfl) | apply S.nil | apply T.regs | apply T.seq | apply T.block)
 refine T.loopS (fun (s : BisS) => bis (firB p a b) s.n s.lo s.hi = firLo p a b ∧ s.n ≤ 64 ∧ s.hi - s.lo ≤ 2 ^ s.n ∧ -1099511627776000 ≤ s.lo ∧ s.lo ≤ 1099511627777002 ∧ -1099511627776000 ≤ s.hi ∧ s.hi ≤ 1099511627777002) (fun s => s.n) (fun s => [(7, .i s.lo), (9, .i s.hi), (3, .ptr 0 0), (4, .ptr 1 0), (5, .ptr 2 0), (6, .ptr 3 0)])
  (fun s => [.live ((ptR p.pt).map .lf), .live ((frR a).map .lf), .live ((frR b).map .lf), .live [.i 0, .i 0]]) ⟨64, milQ a, milQ b + 2⟩ ⟨rfl, Nat.le_refl _, (by dsimp only;rw [show (2 : Int) ^ 64 = 18446744073709551616 from by decide];omega), (by dsimp only;omega), (by dsimp only;omega), (by dsimp only;omega), (by dsimp only;omega)⟩ (.cons rfl rfl (.cons rfl rfl (.cons rfl rfl (.cons rfl rfl (.cons rfl rfl (.cons rfl rfl .nil)))))) (.live rfl (.live rfl (.live rfl (.live rfl .nil)))) ?_
 rintro ⟨n, lo, hi⟩ ⟨hR, hn, hw, g1, g2, g3, g4⟩
 dsimp only at hR hn hw g1 g2 g3 g4 ⊢
 by_cases hlt : 1 < hi - lo
 ·cases n with
  | zero => exfalso;simp only [Int.pow_zero] at hw;omega
  | succ n =>
  have bm : (Ex.ofI (lo + (hi - lo) / 2) 1000).bd 2 := bd_ofI (by omega) (by omega)
  have th := ex_thousandth (lo + (hi - lo) / 2) (by omega) (by omega)
  have cl := ex_less bm bb (by omega) (by omega)
  have cs : Fn0 Tryz.prog 69 [rowA (exR ((Ex.ofI (lo + (hi - lo) / 2) 1000).less (Ex.ofQ b)))] (.i (sgQ ((Ex.ofI (lo + (hi - lo) / 2) 1000).less (Ex.ofQ b)).val)) := ex_sign (Ex.bd_less bm bb)
  have hcv : 0 < sgQ ((Ex.ofI (lo + (hi - lo) / 2) 1000).less (Ex.ofQ b)).val ↔ b < mil (lo + (hi - lo) / 2) := by
   rw [sgQ_pos, Ex.val_less bm.2.2 bb.2.2, Ex.val_ofQ, mil_val]
   exact (Rat.lt_iff_sub_pos _ _).symm
  by_cases hc : b < mil (lo + (hi - lo) / 2)
  ·have hc' := hcv.2 hc
   have cb := pt_below p.pt (Ex.ofQ a) (Ex.ofQ b) hpt ba bb
   by_cases hB : p.pt.belowS (Ex.ofQ a) (Ex.ofQ b)
   ·have hB' : firB p a b (lo + (hi - lo) / 2) := by
     have := (belowS_iff ba.2.2 (bb).2.2).1 hB
     rw [Ex.val_ofQ, Ex.val_ofQ] at this
     rw [firB, cutR, if_pos hc]
     exact this
    repeat' (first|(apply S.move;exact rfl;exact rfl)|(apply S.assign;exact rfl;exact rfl)|(apply S.arith;(iterate 4 exact rfl);omega)|(apply S.quo;exact rfl;exact rfl;exact rfl;omega)|(apply S.call;exact rfl;exact rfl;exact th;exact rfl)|(apply S.call;exact rfl;exact rfl;exact ob;exact rfl)|(apply S.call;exact rfl;exact rfl;exact oa;exact rfl)|(apply S.call;exact rfl;exact rfl;exact cl;exact rfl)|(apply S.call;exact rfl;exact rfl;exact cs;exact rfl)|(apply S.call;exact rfl;exact rfl;exact cb;exact rfl)|(apply T.draw 5 anyOrder (by decide +kernel);simp only [List.take_succ_cons, List.take_zero, List.drop_succ_cons, List.drop_zero])|(apply S.loadPA;(iterate 4 exact rfl))|(apply S.alloc;(iterate 5 exact rfl))|(apply S.store;(iterate 7 exact rfl))|(apply S.cmp;(iterate 4 exact rfl)) | apply S.nil | apply T.regs | apply T.reg|(apply T.cT;exact rfl;assumption) | apply T.seq|(apply T.skip;first | change T _ _ _ _ _ | change Done _ _ _ _ _ | change Next _ _ _ _ _ _ | skip) | apply T.block)
    change Next _ _ _ _ _ _
    exact Next.go ⟨n, lo, lo + (hi - lo) / 2⟩ ⟨by rw [← hR, bis, if_pos hlt, if_pos hB'], by dsimp only;omega, by dsimp only;rw [Int.pow_succ] at hw;omega, by dsimp only;omega, by dsimp only;omega, by dsimp only;omega, by dsimp only;omega⟩ (Nat.lt_succ_self n) (.cons rfl rfl (.cons rfl rfl (.cons rfl rfl (.cons rfl rfl (.cons rfl rfl (.cons rfl rfl .nil)))))) (.live rfl (.live rfl (.live rfl (.live rfl .nil))))
   ·have hB' : ¬ firB p a b (lo + (hi - lo) / 2) := by
     have := mt (belowS_iff ba.2.2 (bb).2.2).2 hB
     rw [Ex.val_ofQ, Ex.val_ofQ] at this
     rw [firB, cutR, if_pos hc]
     exact this
    repeat' (first|(apply S.move;exact rfl;exact rfl)|(apply S.assign;exact rfl;exact rfl)|(apply S.arith;(iterate 4 exact rfl);omega)|(apply S.quo;exact rfl;exact rfl;exact rfl;omega)|(apply S.call;exact rfl;exact rfl;exact th;exact rfl)|(apply S.call;exact rfl;exact rfl;exact ob;exact rfl)|(apply S.call;exact rfl;exact rfl;exact oa;exact rfl)|(apply S.call;exact rfl;exact rfl;exact cl;exact rfl)|(apply S.call;exact rfl;exact rfl;exact cs;exact rfl)|(apply S.call;exact rfl;exact rfl;exact cb;exact rfl)|(apply T.draw 5 anyOrder (by decide +kernel);simp only [List.take_succ_cons, List.take_zero, List.drop_succ_cons, List.drop_zero])|(apply S.loadPA;(iterate 4 exact rfl))|(apply S.alloc;(iterate 5 exact rfl))|(apply S.store;(iterate 7 exact rfl))|(apply S.cmp;(iterate 4 exact rfl)) | apply S.nil | apply T.regs | apply T.reg|(apply T.cT;exact rfl;assumption)|(apply T.cF;exact rfl;assumption) | apply T.seq|(apply T.skip;first | change T _ _ _ _ _ | change Done _ _ _ _ _ | change Next _ _ _ _ _ _ | skip) | apply T.block)
    change Next _ _ _ _ _ _
    exact Next.go ⟨n, lo + (hi - lo) / 2, hi⟩ ⟨by rw [← hR, bis, if_pos hlt, if_neg hB'], by dsimp only;omega, by dsimp only;rw [Int.pow_succ] at hw;omega, by dsimp only;omega, by dsimp only;omega, by dsimp only;omega, by dsimp only;omega⟩ (Nat.lt_succ_self n) (.cons rfl rfl (.cons rfl rfl (.cons rfl rfl (.cons rfl rfl (.cons rfl rfl (.cons rfl rfl .nil)))))) (.live rfl (.live rfl (.live rfl (.live rfl .nil))))
  ·have hc' : ¬ 0 < sgQ ((Ex.ofI (lo + (hi - lo) / 2) 1000).less (Ex.ofQ b)).val := fun h => hc (hcv.1 h)
   have cb := pt_below p.pt (Ex.ofQ a) (Ex.ofI (lo + (hi - lo) / 2) 1000) hpt ba bm
   by_cases hB : p.pt.belowS (Ex.ofQ a) (Ex.ofI (lo + (hi - lo) / 2) 1000)
   ·have hB' : firB p a b (lo + (hi - lo) / 2) := by
     have := (belowS_iff ba.2.2 (bm).2.2).1 hB
     rw [Ex.val_ofQ, mil_val] at this
     rw [firB, cutR, if_neg hc]
     exact this
    repeat' (first|(apply S.move;exact rfl;exact rfl)|(apply S.assign;exact rfl;exact rfl)|(apply S.arith;(iterate 4 exact rfl);omega)|(apply S.quo;exact rfl;exact rfl;exact rfl;omega)|(apply S.call;exact rfl;exact rfl;exact th;exact rfl)|(apply S.call;exact rfl;exact rfl;exact ob;exact rfl)|(apply S.call;exact rfl;exact rfl;exact oa;exact rfl)|(apply S.call;exact rfl;exact rfl;exact cl;exact rfl)|(apply S.call;exact rfl;exact rfl;exact cs;exact rfl)|(apply S.call;exact rfl;exact rfl;exact cb;exact rfl)|(apply T.draw 5 anyOrder (by decide +kernel);simp only [List.take_succ_cons, List.take_zero, List.drop_succ_cons, List.drop_zero])|(apply S.loadPA;(iterate 4 exact rfl))|(apply S.alloc;(iterate 5 exact rfl))|(apply S.store;(iterate 7 exact rfl))|(apply S.cmp;(iterate 4 exact rfl)) | apply S.nil | apply T.regs | apply T.reg|(apply T.cT;exact rfl;assumption)|(apply T.cF;exact rfl;assumption) | apply T.seq|(apply T.skip;first | change T _ _ _ _ _ | change Done _ _ _ _ _ | change Next _ _ _ _ _ _ | skip) | apply T.block)
    change Next _ _ _ _ _ _
    exact Next.go ⟨n, lo, lo + (hi - lo) / 2⟩ ⟨by rw [← hR, bis, if_pos hlt, if_pos hB'], by dsimp only;omega, by dsimp only;rw [Int.pow_succ] at hw;omega, by dsimp only;omega, by dsimp only;omega, by dsimp only;omega, by dsimp only;omega⟩ (Nat.lt_succ_self n) (.cons rfl rfl (.cons rfl rfl (.cons rfl rfl (.cons rfl rfl (.cons rfl rfl (.cons rfl rfl .nil)))))) (.live rfl (.live rfl (.live rfl (.live rfl .nil))))
   ·have hB' : ¬ firB p a b (lo + (hi - lo) / 2) := by
     have := mt (belowS_iff ba.2.2 (bm).2.2).2 hB
     rw [Ex.val_ofQ, mil_val] at this
     rw [firB, cutR, if_neg hc]
     exact this
    repeat' (first|(apply S.move;exact rfl;exact rfl)|(apply S.assign;exact rfl;exact rfl)|(apply S.arith;(iterate 4 exact rfl);omega)|(apply S.quo;exact rfl;exact rfl;exact rfl;omega)|(apply S.call;exact rfl;exact rfl;exact th;exact rfl)|(apply S.call;exact rfl;exact rfl;exact ob;exact rfl)|(apply S.call;exact rfl;exact rfl;exact oa;exact rfl)|(apply S.call;exact rfl;exact rfl;exact cl;exact rfl)|(apply S.call;exact rfl;exact rfl;exact cs;exact rfl)|(apply S.call;exact rfl;exact rfl;exact cb;exact rfl)|(apply T.draw 5 anyOrder (by decide +kernel);simp only [List.take_succ_cons, List.take_zero, List.drop_succ_cons, List.drop_zero])|(apply S.loadPA;(iterate 4 exact rfl))|(apply S.alloc;(iterate 5 exact rfl))|(apply S.store;(iterate 7 exact rfl))|(apply S.cmp;(iterate 4 exact rfl)) | apply S.nil | apply T.regs | apply T.reg|(apply T.cT;exact rfl;assumption)|(apply T.cF;exact rfl;assumption) | apply T.seq|(apply T.skip;first | change T _ _ _ _ _ | change Done _ _ _ _ _ | change Next _ _ _ _ _ _ | skip) | apply T.block)
    change Next _ _ _ _ _ _
    exact Next.go ⟨n, lo + (hi - lo) / 2, hi⟩ ⟨by rw [← hR, bis, if_pos hlt, if_neg hB'], by dsimp only;omega, by dsimp only;rw [Int.pow_succ] at hw;omega, by dsimp only;omega, by dsimp only;omega, by dsimp only;omega, by dsimp only;omega⟩ (Nat.lt_succ_self n) (.cons rfl rfl (.cons rfl rfl (.cons rfl rfl (.cons rfl rfl (.cons rfl rfl (.cons rfl rfl .nil)))))) (.live rfl (.live rfl (.live rfl (.live rfl .nil))))
 ·have hlo : firLo p a b = lo := by rw [← hR];exact bis_lo hlt
  unfold firR
  rw [hlo]
  clear hR hlo
  have bm : (Ex.ofI lo 1000).bd 2 := bd_ofI (by omega) (by omega)
  have th := ex_thousandth lo (by omega) (by omega)
  have cl := ex_less bm ba (by omega) (by omega)
  have cs : Fn0 Tryz.prog 69 [rowA (exR ((Ex.ofI lo 1000).less (Ex.ofQ a)))] (.i (sgQ ((Ex.ofI lo 1000).less (Ex.ofQ a)).val)) := ex_sign (Ex.bd_less bm ba)
  have v1 := pt_value p.pt (Ex.ofI lo 1000) hpt bm
  have v2 : Fn0 Tryz.prog 69 [rowA (exR (p.pt.value (Ex.ofI lo 1000)))] (.i (sgQ (p.pt.value (Ex.ofI lo 1000)).val)) := ex_sign (bd_value hpt bm)
  have l1 := pt_slope p.pt (Ex.ofI lo 1000) hpt bm
  have l2 : Fn0 Tryz.prog 69 [rowA (exR (p.pt.slope (Ex.ofI lo 1000)))] (.i (sgQ (p.pt.slope (Ex.ofI lo 1000)).val)) := ex_sign (bd_slope hpt bm)
  have s4 : Fn0 Tryz.prog 69 [rowA (exR p.pt.c)] (.i (sgQ p.pt.c.val)) := ex_sign hpt.c
  have hP : firP p a lo ↔ 0 ≤ sgQ ((Ex.ofI lo 1000).less (Ex.ofQ a)).val ∧ sgQ (p.pt.value (Ex.ofI lo 1000)).val = 0 ∧ (sgQ (p.pt.slope (Ex.ofI lo 1000)).val < 0 ∨ sgQ (p.pt.slope (Ex.ofI lo 1000)).val = 0 ∧ sgQ p.pt.c.val < 0) := by
   unfold firP
   rw [pt_valV bm.2.2, pt_slopeV bm.2.2, mil_val, sgQ_zero, sgQ_neg, sgQ_zero, sgQ_neg, show p.pt.c.val = p.c from Ex.val_ofQ _, Ex.val_less bm.2.2 ba.2.2, Ex.val_ofQ, mil_val]
   rw [show (0 ≤ sgQ (mil lo - a) ↔ a ≤ mil lo) from by
    have := @sgQ_neg (mil lo - a)
    rw [← Int.not_lt, this, Rat.not_lt, ← Rat.le_iff_sub_nonneg]]
  generalize sgQ ((Ex.ofI lo 1000).less (Ex.ofQ a)).val = S1 at cs hP
  generalize sgQ (p.pt.value (Ex.ofI lo 1000)).val = S2 at v2 hP
  generalize sgQ (p.pt.slope (Ex.ofI lo 1000)).val = S3 at l2 hP
  generalize sgQ p.pt.c.val = S4 at s4 hP
  repeat' (first|(apply S.move;exact rfl;exact rfl)|(apply S.assign;exact rfl;exact rfl)|(apply S.gU;exact rfl;exact rfl;exact rfl)|(apply S.gTT;exact rfl;exact rfl;assumption)|(apply S.gTF;exact rfl;exact rfl;assumption;exact rfl)|(apply S.gFF;exact rfl;exact rfl;assumption)|(apply S.gFT;exact rfl;exact rfl;assumption;exact rfl)|(apply S.fieldP;exact rfl;exact rfl;exact rfl)|(apply S.pTp;exact rfl;assumption;exact rfl;exact rfl)|(apply S.pFp;exact rfl;assumption;exact rfl;exact rfl)|(apply S.arith;(iterate 4 exact rfl);omega)|(apply S.call;exact rfl;exact rfl;exact th;exact rfl)|(apply S.call;exact rfl;exact rfl;exact oa;exact rfl)|(apply S.call;exact rfl;exact rfl;exact cl;exact rfl)|(apply S.call;exact rfl;exact rfl;exact cs;exact rfl)|(apply S.call;exact rfl;exact rfl;exact v1;exact rfl)|(apply S.call;exact rfl;exact rfl;exact v2;exact rfl)|(apply S.call;exact rfl;exact rfl;exact l1;exact rfl)|(apply S.call;exact rfl;exact rfl;exact l2;exact rfl)|(apply S.call;exact rfl;exact rfl;exact s4;exact rfl)|(apply T.drawAll anyOrder (by decide +kernel))|(apply S.loadPA;(iterate 4 exact rfl))|(apply S.alloc;(iterate 5 exact rfl))|(apply S.store;(iterate 7 exact rfl))|(apply S.cmp;(iterate 4 exact rfl))|(apply S.build;exact rfl;exact rfl;exact rfl)|(apply S.gsT;exact rfl;exact rfl;exact rfl;intro hc;rotate_left;intro hc;rotate_right)|(apply S.gsF;exact rfl;exact rfl;exact rfl;intro hc;rotate_left;intro hc;rotate_right) | apply S.nil | apply T.regs|(apply T.cC;exact rfl)|(apply T.cCN;exact rfl)|(apply T.cF;exact rfl;assumption)|(apply T.cS;exact rfl;intro hc;rotate_left;intro hc;rotate_right) | apply T.seq|(apply T.skip;first | change T _ _ _ _ _ | change Done _ _ _ _ _ | change Next _ _ _ _ _ _ | skip)|(apply T.ret;change Done _ _ _ _ _)|(apply T.exit;first | change T _ _ _ _ _ | change Done _ _ _ _ _ | change Next _ _ _ _ _ _ | skip))
  all_goals first
   | (rw [if_pos (hP.2 (by omega))]
      exact ⟨.inr rfl, [rowA [.i lo, .i lo]], .cons (Res.row [.i lo, .i lo] rfl rfl rfl rfl rfl) .nil, .one (.agg (outL_refl [.i lo, .i lo]))⟩)
   | (rw [if_neg (fun h => by have := hP.1 h;omega)]
      exact ⟨.inr rfl, [rowA [.i lo, .i (lo + 1)]], .cons (Res.row [.i lo, .i (lo + 1)] rfl rfl rfl rfl rfl) .nil, .one (.agg (outL_refl [.i lo, .i (lo + 1)]))⟩)
end Go.Proofs.YtlncmkafjjomgaaGreat
