/- Contracts: package ratio's operations on any fractions;the methods of sums: keep, add, sub, mul, result, value, slope. No conditions but those of each statement. | Contracts: package quadratic's compare, lesser, piece, Valid;the value of a curve at a time. No conditions but those of each statement. | Contracts: package quadratic's Valid, At, Slope. No conditions but those of each statement. -/
import Derived.Test.YtlncmkafjjomgaaGreatMp
import Derived.Test.YtlncmkafjjomgaaGreatNe
set_option linter.unusedSimpArgs false
namespace Go.Proofs.YtlncmkafjjomgaaGreat
set_option linter.unusedVariables false
open Go.RowKit
instance (q : Rat) : Decidable (Fits q) := by unfold Fits;exact inferInstance
abbrev big : AV := .tup [rowA [.i 0, .i 0], .i 5]
theorem outQ_big {q : Rat} (h : ¬ Fits q) : outQ q = (0, 0, 5) := if_neg h
theorem Fits.zero : Fits 0 := by decide
def outA (q : Rat) : AV := if Fits q then frE q 0 else big
theorem ratio_addA (p q : Rat) (hp : Fits p) (hq : Fits q) : Fn0 Tryz.prog 82 [rowA (frR p), rowA (frR q)] (outA (p + q)) := by
 unfold outA
 by_cases hf : Fits (p + q)
 ·rw [if_pos hf];exact ratio_add p q hp hq hf
 ·rw [if_neg hf]
  refine Fn0.of_calls (us := [.agg #[.int .i64 p.num, .int .i64 p.den], .agg #[.int .i64 q.num, .int .i64 q.den]]) ⟨_, Tryz.func82, rfl, rfl⟩ rfl (fun w L => relV_fracE w L noPl 0 0 5) fun w => ?_
  have := add_any p.num p.den q.num q.den w
  rw [show addS p.num p.den q.num q.den = (0, 0, 5) by unfold addS;rw [if_pos ⟨hp.valid, hq.valid⟩, ratV_self, ratV_self, outQ_big hf]] at this
  exact this
theorem ratio_subA (p q : Rat) (hp : Fits p) (hq : Fits q) : Fn0 Tryz.prog 44 [rowA (frR p), rowA (frR q)] (outA (p - q)) := by
 unfold outA
 by_cases hf : Fits (p - q)
 ·rw [if_pos hf];exact ratio_sub p q hp hq hf
 ·rw [if_neg hf]
  refine Fn0.of_calls (us := [.agg #[.int .i64 p.num, .int .i64 p.den], .agg #[.int .i64 q.num, .int .i64 q.den]]) ⟨_, Tryz.func44, rfl, rfl⟩ rfl (fun w L => relV_fracE w L noPl 0 0 5) fun w => ?_
  have := sub_any p.num p.den q.num q.den w
  rw [show subS p.num p.den q.num q.den = (0, 0, 5) by unfold subS;rw [if_pos ⟨hp.valid, hq.valid⟩, ratV_self, ratV_self, outQ_big hf]] at this
  exact this
theorem ratio_mulA (p q : Rat) (hp : Fits p) (hq : Fits q) : Fn0 Tryz.prog 10 [rowA (frR p), rowA (frR q)] (outA (p * q)) := by
 unfold outA
 by_cases hf : Fits (p * q)
 ·rw [if_pos hf]
  refine Fn0.of_calls (us := [.agg #[.int .i64 p.num, .int .i64 p.den], .agg #[.int .i64 q.num, .int .i64 q.den]]) ⟨_, Tryz.func10, rfl, rfl⟩ rfl (fun w L => relV_fracE w L noPl _ _ _) fun w => ?_
  have := mul_any p.num p.den q.num q.den w
  rw [show mulS p.num p.den q.num q.den = ((p * q).num, ((p * q).den : Int), 0) by unfold mulS;rw [if_pos ⟨hp.valid, hq.valid⟩, ratV_self, ratV_self, hf.out]] at this
  exact this
 ·rw [if_neg hf]
  refine Fn0.of_calls (us := [.agg #[.int .i64 p.num, .int .i64 p.den], .agg #[.int .i64 q.num, .int .i64 q.den]]) ⟨_, Tryz.func10, rfl, rfl⟩ rfl (fun w L => relV_fracE w L noPl 0 0 5) fun w => ?_
  have := mul_any p.num p.den q.num q.den w
  rw [show mulS p.num p.den q.num q.den = (0, 0, 5) by unfold mulS;rw [if_pos ⟨hp.valid, hq.valid⟩, ratV_self, ratV_self, outQ_big hf]] at this
  exact this
theorem ratio_divA (p q : Rat) (hp : Fits p) (hq : Fits q) (h0 : q ≠ 0) : Fn0 Tryz.prog 95 [rowA (frR p), rowA (frR q)] (outA (p / q)) := by
 unfold outA
 by_cases hf : Fits (p / q)
 ·rw [if_pos hf];exact ratio_div p q hp hq h0 hf
 ·rw [if_neg hf]
  refine Fn0.of_calls (us := [.agg #[.int .i64 p.num, .int .i64 p.den], .agg #[.int .i64 q.num, .int .i64 q.den]]) ⟨_, Tryz.func95, rfl, rfl⟩ rfl (fun w L => relV_fracE w L noPl 0 0 5) fun w => ?_
  have h1 : q.num ≠ 0 := fun h => h0 (Rat.num_eq_zero.1 h)
  have := div_any p.num p.den q.num q.den w
  rw [show divS p.num p.den q.num q.den = (0, 0, 5) by unfold divS;simp only [hp.valid, hq.valid, h1, ratV_self, and_self, if_true, if_false, ← Rat.div_def, outQ_big hf]] at this
  exact this
theorem ratio_valid (n d : Int) : Fn0 Tryz.prog 36 [rowA [.i n, .i d]] (.b (validB n d)) := by
 refine Fn0.of_calls (us := [.agg #[.int .i64 n, .int .i64 d]]) ⟨_, Tryz.func36, rfl, rfl⟩ rfl (fun w L => relV_val _) fun w => ?_
 exact valid_any n d w

/-! ### Operations that keep the first error -/
def kQ (r : Rat) : Rat := if Fits r then r else 0
def kE (r : Rat) (e : Int) : Int := if Fits r then e else if e = 0 then 5 else e
theorem kQ_fits (r : Rat) : Fits (kQ r) := by
 unfold kQ
 split
 ·assumption
 ·exact Fits.zero
theorem qua_zero : Fn0 Tryz.prog 65 [] (rowA (frR 0)) := by
 refine Fn0.of Tryz.func65 Tryz.ntmps65 rfl rfl rfl ?_
 simp only [entryTm]
 repeat' (first|(apply S.alloc;(iterate 5 exact rfl))|(apply S.store;(iterate 7 exact rfl))|(apply S.build;exact rfl;exact rfl;exact rfl) | apply S.nil | apply T.regs|(apply T.ret;change Done _ _ _ _ _))
 exact ⟨.inr rfl, [rowA (frR 0)], .cons (Res.row (frR 0) rfl rfl rfl rfl rfl) .nil, .one (.agg (outL_refl (frR 0)))⟩
theorem sum_keep0 (n d e : Int) : FnW Tryz.prog 76 [.i e] [rowA [.i n, .i d], .i 0] [.i e] (rowA [.i n, .i d]) := by
 refine FnW.of Tryz.func76 Tryz.ntmps76 rfl rfl rfl ?_
 intro k o
 simp only [entryTm]
 repeat' (first|(apply S.move;exact rfl;exact rfl)|(apply T.ret;change DoneW _ _ _ _ _ _ _ _)|(apply S.loadPA;(iterate 4 exact rfl))|(apply S.box;(iterate 6 exact rfl))|(apply S.alloc;(iterate 5 exact rfl))|(apply S.store;(iterate 7 exact rfl))|(apply S.cmp;(iterate 4 exact rfl)) | apply S.nil | apply T.regs|(apply T.cCN;exact rfl) | apply T.seq|(apply T.skip;first | change T _ _ _ _ _ | change Done _ _ _ _ _ | change Next _ _ _ _ _ _ | skip))
 exact doneW [rowA ([.i n, .i d])] (.inr rfl) (.cons (Res.row ([.i n, .i d]) rfl rfl rfl rfl rfl) .nil) rfl rfl rfl
theorem sum_keep5 (e : Int) : FnW Tryz.prog 76 [.i e] [rowA [.i 0, .i 0], .i 5] [.i (if e = 0 then 5 else e)] (rowA (frR 0)) := by
 by_cases he : e = 0
 ·rw [if_pos he]
  refine FnW.of Tryz.func76 Tryz.ntmps76 rfl rfl rfl ?_
  intro k o
  simp only [entryTm]
  repeat' (first|(apply S.move;exact rfl;exact rfl)|(apply S.fieldH;exact rfl;exact rfl;exact rfl)|(apply S.nilCheckH;exact rfl;exact rfl;exact rfl)|(apply S.loadH;(iterate 5 exact rfl))|(apply S.storeH;(iterate 5 exact rfl))|(apply T.ret;change DoneW _ _ _ _ _ _ _ _)|(apply S.call;exact rfl;exact rfl;exact qua_zero;exact rfl)|(apply S.box;(iterate 6 exact rfl))|(apply S.alloc;(iterate 5 exact rfl))|(apply S.store;(iterate 7 exact rfl))|(apply S.cmp;(iterate 4 exact rfl)) | apply S.nil | apply T.regs | apply T.reg|(apply T.cC;exact rfl)|(apply T.cT;exact rfl;assumption) | apply T.seq)
  exact doneW [rowA (frR 0)] (.inr rfl) (.cons (Res.row (frR 0) rfl rfl rfl rfl rfl) .nil) rfl rfl rfl
 ·rw [if_neg he]
  refine FnW.of Tryz.func76 Tryz.ntmps76 rfl rfl rfl ?_
  intro k o
  simp only [entryTm]
  repeat' (first|(apply S.move;exact rfl;exact rfl)|(apply S.fieldH;exact rfl;exact rfl;exact rfl)|(apply S.nilCheckH;exact rfl;exact rfl;exact rfl)|(apply S.loadH;(iterate 5 exact rfl))|(apply T.ret;change DoneW _ _ _ _ _ _ _ _)|(apply S.call;exact rfl;exact rfl;exact qua_zero;exact rfl)|(apply S.box;(iterate 6 exact rfl))|(apply S.alloc;(iterate 5 exact rfl))|(apply S.store;(iterate 7 exact rfl))|(apply S.cmp;(iterate 4 exact rfl)) | apply S.nil | apply T.regs|(apply T.cC;exact rfl)|(apply T.cF;exact rfl;assumption) | apply T.seq|(apply T.skip;first | change T _ _ _ _ _ | change Done _ _ _ _ _ | change Next _ _ _ _ _ _ | skip))
  exact doneW [rowA (frR 0)] (.inr rfl) (.cons (Res.row (frR 0) rfl rfl rfl rfl rfl) .nil) rfl rfl rfl
theorem sum_add (p q : Rat) (e : Int) (hp : Fits p) (hq : Fits q) : FnW Tryz.prog 74 [.i e] [rowA (frR p), rowA (frR q)] [.i (kE (p + q) e)] (rowA (frR (kQ (p + q)))) := by
 have c := ratio_addA p q hp hq
 unfold outA at c
 unfold kE kQ
 by_cases hf : Fits (p + q)
 ·rw [if_pos hf] at c ⊢
  rw [if_pos hf]
  have k1 := sum_keep0 (p + q).num (p + q).den e
  refine FnW.of Tryz.func74 Tryz.ntmps74 rfl rfl rfl ?_
  intro k o
  simp only [entryTm]
  repeat' (first|(apply S.move;exact rfl;exact rfl)|(apply T.ret;change DoneW _ _ _ _ _ _ _ _)|(apply S.call;exact rfl;exact rfl;exact c;exact rfl)|(apply S.callW;(iterate 5 exact rfl);exact k1;exact rfl)|(apply S.loadPA;(iterate 4 exact rfl))|(apply S.box;(iterate 6 exact rfl))|(apply S.alloc;(iterate 5 exact rfl))|(apply S.store;(iterate 7 exact rfl))|(apply S.extract;exact rfl;exact rfl;exact rfl) | apply S.nil | apply T.regs)
  exact doneW [rowA (frR (p + q))] (.inr rfl) (.cons (Res.row (frR (p + q)) rfl rfl rfl rfl rfl) .nil) rfl rfl rfl
 ·rw [if_neg hf] at c ⊢
  rw [if_neg hf]
  have k1 := sum_keep5 e
  refine FnW.of Tryz.func74 Tryz.ntmps74 rfl rfl rfl ?_
  intro k o
  simp only [entryTm]
  repeat' (first|(apply S.move;exact rfl;exact rfl)|(apply T.ret;change DoneW _ _ _ _ _ _ _ _)|(apply S.call;exact rfl;exact rfl;exact c;exact rfl)|(apply S.callW;(iterate 5 exact rfl);exact k1;exact rfl)|(apply S.loadPA;(iterate 4 exact rfl))|(apply S.box;(iterate 6 exact rfl))|(apply S.alloc;(iterate 5 exact rfl))|(apply S.store;(iterate 7 exact rfl))|(apply S.extract;exact rfl;exact rfl;exact rfl) | apply S.nil | apply T.regs)
  exact doneW [rowA (frR 0)] (.inr rfl) (.cons (Res.row (frR 0) rfl rfl rfl rfl rfl) .nil) rfl rfl rfl
theorem sum_sub (p q : Rat) (e : Int) (hp : Fits p) (hq : Fits q) : FnW Tryz.prog 42 [.i e] [rowA (frR p), rowA (frR q)] [.i (kE (p - q) e)] (rowA (frR (kQ (p - q)))) := by
 have c := ratio_subA p q hp hq
 unfold outA at c
 unfold kE kQ
 by_cases hf : Fits (p - q)
 ·rw [if_pos hf] at c ⊢
  rw [if_pos hf]
  have k1 := sum_keep0 (p - q).num (p - q).den e
  refine FnW.of Tryz.func42 Tryz.ntmps42 rfl rfl rfl ?_
  intro k o
  simp only [entryTm]
  repeat' (first|(apply S.move;exact rfl;exact rfl)|(apply T.ret;change DoneW _ _ _ _ _ _ _ _)|(apply S.call;exact rfl;exact rfl;exact c;exact rfl)|(apply S.callW;(iterate 5 exact rfl);exact k1;exact rfl)|(apply S.loadPA;(iterate 4 exact rfl))|(apply S.box;(iterate 6 exact rfl))|(apply S.alloc;(iterate 5 exact rfl))|(apply S.store;(iterate 7 exact rfl))|(apply S.extract;exact rfl;exact rfl;exact rfl) | apply S.nil | apply T.regs)
  exact doneW [rowA (frR (p - q))] (.inr rfl) (.cons (Res.row (frR (p - q)) rfl rfl rfl rfl rfl) .nil) rfl rfl rfl
 ·rw [if_neg hf] at c ⊢
  rw [if_neg hf]
  have k1 := sum_keep5 e
  refine FnW.of Tryz.func42 Tryz.ntmps42 rfl rfl rfl ?_
  intro k o
  simp only [entryTm]
  repeat' (first|(apply S.move;exact rfl;exact rfl)|(apply T.ret;change DoneW _ _ _ _ _ _ _ _)|(apply S.call;exact rfl;exact rfl;exact c;exact rfl)|(apply S.callW;(iterate 5 exact rfl);exact k1;exact rfl)|(apply S.loadPA;(iterate 4 exact rfl))|(apply S.box;(iterate 6 exact rfl))|(apply S.alloc;(iterate 5 exact rfl))|(apply S.store;(iterate 7 exact rfl))|(apply S.extract;exact rfl;exact rfl;exact rfl) | apply S.nil | apply T.regs)
  exact doneW [rowA (frR 0)] (.inr rfl) (.cons (Res.row (frR 0) rfl rfl rfl rfl rfl) .nil) rfl rfl rfl
theorem sum_mul (p q : Rat) (e : Int) (hp : Fits p) (hq : Fits q) : FnW Tryz.prog 75 [.i e] [rowA (frR p), rowA (frR q)] [.i (kE (p * q) e)] (rowA (frR (kQ (p * q)))) := by
 have c := ratio_mulA p q hp hq
 unfold outA at c
 unfold kE kQ
 by_cases hf : Fits (p * q)
 ·rw [if_pos hf] at c ⊢
  rw [if_pos hf]
  have k1 := sum_keep0 (p * q).num (p * q).den e
  refine FnW.of Tryz.func75 Tryz.ntmps75 rfl rfl rfl ?_
  intro k o
  simp only [entryTm]
  repeat' (first|(apply S.move;exact rfl;exact rfl)|(apply T.ret;change DoneW _ _ _ _ _ _ _ _)|(apply S.call;exact rfl;exact rfl;exact c;exact rfl)|(apply S.callW;(iterate 5 exact rfl);exact k1;exact rfl)|(apply S.loadPA;(iterate 4 exact rfl))|(apply S.box;(iterate 6 exact rfl))|(apply S.alloc;(iterate 5 exact rfl))|(apply S.store;(iterate 7 exact rfl))|(apply S.extract;exact rfl;exact rfl;exact rfl) | apply S.nil | apply T.regs)
  exact doneW [rowA (frR (p * q))] (.inr rfl) (.cons (Res.row (frR (p * q)) rfl rfl rfl rfl rfl) .nil) rfl rfl rfl
 ·rw [if_neg hf] at c ⊢
  rw [if_neg hf]
  have k1 := sum_keep5 e
  refine FnW.of Tryz.func75 Tryz.ntmps75 rfl rfl rfl ?_
  intro k o
  simp only [entryTm]
  repeat' (first|(apply S.move;exact rfl;exact rfl)|(apply T.ret;change DoneW _ _ _ _ _ _ _ _)|(apply S.call;exact rfl;exact rfl;exact c;exact rfl)|(apply S.callW;(iterate 5 exact rfl);exact k1;exact rfl)|(apply S.loadPA;(iterate 4 exact rfl))|(apply S.box;(iterate 6 exact rfl))|(apply S.alloc;(iterate 5 exact rfl))|(apply S.store;(iterate 7 exact rfl))|(apply S.extract;exact rfl;exact rfl;exact rfl) | apply S.nil | apply T.regs)
  exact doneW [rowA (frR 0)] (.inr rfl) (.cons (Res.row (frR 0) rfl rfl rfl rfl rfl) .nil) rfl rfl rfl
theorem sum_result (n d e : Int) : Fn0 Tryz.prog 40 [.rop [.i e], rowA [.i n, .i d]] (if e = 0 then .tup [rowA [.i n, .i d], .i 0] else .tup [rowA [.i 0, .i 0], .i e]) := by
 by_cases he : e = 0
 ·rw [if_pos he]
  refine Fn0.of Tryz.func40 Tryz.ntmps40 rfl rfl rfl ?_
  simp only [entryTm]
  repeat' (first|(apply S.move;exact rfl;exact rfl)|(apply S.assign;exact rfl;exact rfl)|(apply S.fieldR;exact rfl;exact rfl)|(apply S.loadR;exact rfl;exact rfl;exact rfl)|(apply S.loadPA;(iterate 4 exact rfl))|(apply S.box;(iterate 6 exact rfl))|(apply S.alloc;(iterate 5 exact rfl))|(apply S.store;(iterate 7 exact rfl))|(apply S.cmp;(iterate 4 exact rfl))|(apply S.nilCheckR;exact rfl;exact rfl) | apply S.nil | apply T.regs|(apply T.cFn;exact rfl;assumption) | apply T.seq|(apply T.skip;first | change T _ _ _ _ _ | change Done _ _ _ _ _ | change Next _ _ _ _ _ _ | skip)|(apply T.ret;change Done _ _ _ _ _))
  exact ⟨.inr rfl, [rowA [.i n, .i d], .i 0], .cons (Res.row [.i n, .i d] rfl rfl rfl rfl rfl) (.cons (.tmp rfl) .nil), .tup (.cons (.agg (outL_refl [.i n, .i d])) (.cons (.one (.lf _)) .nil))⟩
 ·rw [if_neg he]
  refine Fn0.of Tryz.func40 Tryz.ntmps40 rfl rfl rfl ?_
  simp only [entryTm]
  repeat' (first|(apply S.move;exact rfl;exact rfl)|(apply S.assign;exact rfl;exact rfl)|(apply S.fieldR;exact rfl;exact rfl)|(apply S.loadR;exact rfl;exact rfl;exact rfl)|(apply T.orders anyOrder)|(apply Ords.nil;decide +kernel)|(apply Ords.one (i := 0);decide +kernel;exact rfl)|(apply Ords.one (i := 1);decide +kernel;exact rfl)|(apply Ords.one (i := 2);decide +kernel;exact rfl)|(apply Ords.one (i := 3);decide +kernel;exact rfl)|(apply Ords.one (i := 4);decide +kernel;exact rfl)|(apply Ords.one (i := 5);decide +kernel;exact rfl)|(apply Ords.one (i := 6);decide +kernel;exact rfl)|(apply Ords.two (i := 0) (j := 1);decide +kernel;exact rfl;exact rfl)|(apply Ords.two (i := 0) (j := 2);decide +kernel;exact rfl;exact rfl)|(apply Ords.two (i := 0) (j := 3);decide +kernel;exact rfl;exact rfl)|(apply Ords.two (i := 0) (j := 4);decide +kernel;exact rfl;exact rfl)|(apply Ords.two (i := 1) (j := 5);decide +kernel;exact rfl;exact rfl)|(apply Ords.two (i := 2) (j := 5);decide +kernel;exact rfl;exact rfl)|(apply Ords.two (i := 3) (j := 5);decide +kernel;exact rfl;exact rfl)|(apply Ords.two (i := 4) (j := 5);decide +kernel;exact rfl;exact rfl)|(apply S.box;(iterate 6 exact rfl))|(apply S.alloc;(iterate 5 exact rfl))|(apply S.store;(iterate 7 exact rfl))|(apply S.cmp;(iterate 4 exact rfl))|(apply S.build;exact rfl;exact rfl;exact rfl)|(apply S.nilCheckR;exact rfl;exact rfl) | apply S.nil | apply T.regs|(apply T.cT;exact rfl;assumption) | apply T.seq|(apply T.ret;change Done _ _ _ _ _))
  all_goals exact ⟨.inr rfl, [rowA [.i 0, .i 0], .i e], .cons (Res.row [.i 0, .i 0] rfl rfl rfl rfl rfl) (.cons (.tmp rfl) .nil), .tup (.cons (.agg (outL_refl [.i 0, .i 0])) (.cons (.one (.lf _)) .nil))⟩
def resA (q : Rat) (e : Int) : AV := if e = 0 then frE q 0 else .tup [rowA [.i 0, .i 0], .i e]
theorem resA_plain (q : Rat) (e : Int) : (resA q e).plain = true := by unfold resA;split <;> rfl
theorem sum_resultW (q : Rat) (e : Int) : FnW Tryz.prog 40 [.i e] [rowA (frR q)] [.i e] (resA q e) := FnW.ofFn0 (sum_result q.num q.den e) (resA_plain q e)
structure PcQ where
 f : Rat
 a : Rat
 b : Rat
 c : Rat
 deriving DecidableEq, Inhabited
def PcQ.row (p : PcQ) : List Lf := [.i p.f.num, .i p.f.den, .i p.a.num, .i p.a.den, .i p.b.num, .i p.b.den, .i p.c.num, .i p.c.den]
structure PcQ.ok (p : PcQ) : Prop where
 f : Fits p.f
 a : Fits p.a
 b : Fits p.b
 c : Fits p.c
def val1 (p : PcQ) (u : Rat) : Rat := p.c * u
def val2 (p : PcQ) (u : Rat) : Rat := p.b + kQ (val1 p u)
def val3 (p : PcQ) (u : Rat) : Rat := kQ (val2 p u) * u
def val4 (p : PcQ) (u : Rat) : Rat := p.a + kQ (val3 p u)
def valQ (p : PcQ) (u : Rat) : Rat := kQ (val4 p u)
def valE (p : PcQ) (u : Rat) (e : Int) : Int := kE (val4 p u) (kE (val3 p u) (kE (val2 p u) (kE (val1 p u) e)))
def slo2 (p : PcQ) (u : Rat) : Rat := 2 * kQ (val1 p u)
def slo3 (p : PcQ) (u : Rat) : Rat := p.b + kQ (slo2 p u)
def sloQ (p : PcQ) (u : Rat) : Rat := kQ (slo3 p u)
def sloE (p : PcQ) (u : Rat) (e : Int) : Int := kE (slo3 p u) (kE (slo2 p u) (kE (val1 p u) e))
set_option maxHeartbeats 4000000 in
theorem sum_value (p : PcQ) (u : Rat) (e : Int) (hp : p.ok) (hu : Fits u) : FnW Tryz.prog 41 [.i e] [rowA p.row, rowA (frR u)] [.i (valE p u e)] (rowA (frR (valQ p u))) := by
 have c1 := sum_mul p.c u e hp.c hu
 have c2 := sum_add p.b (kQ (val1 p u)) (kE (val1 p u) e) hp.b (kQ_fits _)
 have c3 := sum_mul (kQ (val2 p u)) u (kE (val2 p u) (kE (val1 p u) e)) (kQ_fits _) hu
 have c4 := sum_add p.a (kQ (val3 p u)) (kE (val3 p u) (kE (val2 p u) (kE (val1 p u) e))) hp.a (kQ_fits _)
 refine FnW.of Tryz.func41 Tryz.ntmps41 rfl rfl rfl ?_
 intro k o
 simp only [entryTm]
 repeat' (first|(apply S.move;exact rfl;exact rfl)|(apply S.fieldP;exact rfl;exact rfl;exact rfl)|(apply T.ret;change DoneW _ _ _ _ _ _ _ _)|(apply S.callWD;(iterate 6 exact rfl);exact c1;exact rfl)|(apply S.callWD;(iterate 6 exact rfl);exact c2;exact rfl)|(apply S.callWD;(iterate 6 exact rfl);exact c3;exact rfl)|(apply S.callWD;(iterate 6 exact rfl);exact c4;exact rfl)|(apply T.draw 16 anyOrder (by decide +kernel);simp only [List.take_succ_cons, List.take_zero, List.drop_succ_cons, List.drop_zero])|(apply S.loadPA;(iterate 4 exact rfl))|(apply S.box;(iterate 6 exact rfl))|(apply S.alloc;(iterate 5 exact rfl))|(apply S.store;(iterate 7 exact rfl)) | apply S.nil | apply T.regs)
 exact doneW [rowA (frR (valQ p u))] (.inr rfl) (.cons (Res.row (frR (valQ p u)) rfl rfl rfl rfl rfl) .nil) rfl rfl rfl
set_option maxHeartbeats 4000000 in
theorem sum_slope (p : PcQ) (u : Rat) (e : Int) (hp : p.ok) (hu : Fits u) : FnW Tryz.prog 158 [.i e] [rowA p.row, rowA (frR u)] [.i (sloE p u e)] (rowA (frR (sloQ p u))) := by
 have c1 := sum_mul p.c u e hp.c hu
 have c2 : FnW Tryz.prog 75 [.i (kE (val1 p u) e)] [rowA [.i 2, .i 1], rowA (frR (kQ (val1 p u)))] [.i (kE (slo2 p u) (kE (val1 p u) e))] (rowA (frR (kQ (slo2 p u)))) := sum_mul 2 (kQ (val1 p u)) (kE (val1 p u) e) (by decide) (kQ_fits _)
 have c3 := sum_add p.b (kQ (slo2 p u)) (kE (slo2 p u) (kE (val1 p u) e)) hp.b (kQ_fits _)
 refine FnW.of Tryz.func158 Tryz.ntmps158 rfl rfl rfl ?_
 intro k o
 simp only [entryTm]
 repeat' (first|(apply S.move;exact rfl;exact rfl)|(apply S.fieldP;exact rfl;exact rfl;exact rfl)|(apply T.ret;change DoneW _ _ _ _ _ _ _ _)|(apply S.callWD;(iterate 6 exact rfl);exact c1;exact rfl)|(apply S.callWD;(iterate 6 exact rfl);exact c2;exact rfl)|(apply S.callWD;(iterate 6 exact rfl);exact c3;exact rfl)|(apply T.draw 12 anyOrder (by decide +kernel);simp only [List.take_succ_cons, List.take_zero, List.drop_succ_cons, List.drop_zero])|(apply S.loadPA;(iterate 4 exact rfl))|(apply S.box;(iterate 6 exact rfl))|(apply S.alloc;(iterate 5 exact rfl))|(apply S.store;(iterate 7 exact rfl))|(apply S.build;exact rfl;exact rfl;exact rfl) | apply S.nil | apply T.regs)
 exact doneW [rowA (frR (sloQ p u))] (.inr rfl) (.cons (Res.row (frR (sloQ p u)) rfl rfl rfl rfl rfl) .nil) rfl rfl rfl
end Go.Proofs.YtlncmkafjjomgaaGreat
set_option linter.unusedSimpArgs false
namespace Go.Proofs.YtlncmkafjjomgaaGreat
set_option linter.unusedVariables false
open Go.RowKit
theorem cmpQ_le (p q : Rat) : cmpQ p q ≤ 0 ↔ p ≤ q := by
 unfold cmpQ
 by_cases h1 : p < q
 ·rw [if_pos h1];simp [Rat.le_of_lt h1]
 ·rw [if_neg h1]
  by_cases h2 : q < p
  ·rw [if_pos h2];simp [Rat.not_le.2 h2]
  ·rw [if_neg h2];simp [Rat.not_lt.1 h2]
theorem cmpQ_lt (p q : Rat) : cmpQ p q < 0 ↔ p < q := by
 unfold cmpQ
 by_cases h1 : p < q
 ·rw [if_pos h1];simp [h1]
 ·rw [if_neg h1]
  by_cases h2 : q < p
  ·rw [if_pos h2];simp [h1]
  ·rw [if_neg h2];simp [h1]
theorem qua_compare (p q : Rat) (hp : Fits p) (hq : Fits q) : Fn0 Tryz.prog 63 [rowA (frR p), rowA (frR q)] (.i (cmpQ p q)) := by
 have c := ratio_cmp p q hp hq
 refine Fn0.of Tryz.func63 Tryz.ntmps63 rfl rfl rfl ?_
 simp only [entryTm]
 repeat' (first|(apply S.move;exact rfl;exact rfl)|(apply S.assign;exact rfl;exact rfl)|(apply S.call;exact rfl;exact rfl;exact c;exact rfl)|(apply S.loadPA;(iterate 4 exact rfl))|(apply S.box;(iterate 6 exact rfl))|(apply S.extract;exact rfl;exact rfl;exact rfl) | apply S.nil | apply T.regs|(apply T.ret;change Done _ _ _ _ _))
 exact doneV (by simp) Tryz.results63 rfl rfl
def minQ (p q : Rat) : Rat := if q < p then q else p
theorem qua_lesser (p q : Rat) (hp : Fits p) (hq : Fits q) : Fn0 Tryz.prog 93 [rowA (frR p), rowA (frR q)] (rowA (frR (minQ p q))) := by
 have c := qua_compare q p hq hp
 unfold minQ
 by_cases h : q < p
 ·have h' : cmpQ q p < 0 := (cmpQ_lt q p).2 h
  rw [if_pos h]
  refine Fn0.of Tryz.func93 Tryz.ntmps93 rfl rfl rfl ?_
  simp only [entryTm]
  repeat' (first|(apply S.call;exact rfl;exact rfl;exact c;exact rfl)|(apply S.loadPA;(iterate 4 exact rfl))|(apply S.box;(iterate 6 exact rfl))|(apply S.alloc;(iterate 5 exact rfl))|(apply S.store;(iterate 7 exact rfl))|(apply S.cmp;(iterate 4 exact rfl)) | apply S.nil | apply T.regs|(apply T.cT;exact rfl;assumption) | apply T.seq|(apply T.ret;change Done _ _ _ _ _))
  exact ⟨.inr rfl, [rowA (frR q)], .cons (Res.row (frR q) rfl rfl rfl rfl rfl) .nil, .one (.agg (outL_refl (frR q)))⟩
 ·have h' : ¬ cmpQ q p < 0 := fun e => h ((cmpQ_lt q p).1 e)
  rw [if_neg h]
  refine Fn0.of Tryz.func93 Tryz.ntmps93 rfl rfl rfl ?_
  simp only [entryTm]
  repeat' (first|(apply S.call;exact rfl;exact rfl;exact c;exact rfl)|(apply S.loadPA;(iterate 4 exact rfl))|(apply S.box;(iterate 6 exact rfl))|(apply S.alloc;(iterate 5 exact rfl))|(apply S.store;(iterate 7 exact rfl))|(apply S.cmp;(iterate 4 exact rfl)) | apply S.nil | apply T.regs|(apply T.cF;exact rfl;assumption) | apply T.seq|(apply T.skip;first | change T _ _ _ _ _ | change Done _ _ _ _ _ | change Next _ _ _ _ _ _ | skip)|(apply T.ret;change Done _ _ _ _ _))
  exact ⟨.inr rfl, [rowA (frR p)], .cons (Res.row (frR p) rfl rfl rfl rfl rfl) .nil, .one (.agg (outL_refl (frR p)))⟩
def pcAt (l : List PcQ) (k : Nat) : PcQ := l.getD k default
theorem pcAt_of {l : List PcQ} {k : Nat} {x : PcQ} (h : l[k]? = some x) : pcAt l k = x := by
 unfold pcAt
 rw [List.getD_eq_getElem?_getD, h];rfl
def pcK (l : List PcQ) (t : Rat) : Nat → Int
 | 0 => -1
 | k + 1 => if (pcAt l k).f ≤ t then (k : Int) else pcK l t k
def pcI (l : List PcQ) (t : Rat) : Int := pcK l t l.length
theorem pcK_range (l : List PcQ) (t : Rat) : ∀ k : Nat, -1 ≤ pcK l t k ∧ pcK l t k < k
 | 0 => by simp [pcK]
 | k + 1 => by
  have := pcK_range l t k
  simp only [pcK]
  split <;> omega
def okC (l : List PcQ) : Prop := ∀ p ∈ l, p.ok
theorem pcq_len (l : List PcQ) : ∀ r ∈ l.map PcQ.row, r.length = 8 := by
 intro r hr
 obtain ⟨p, _, rfl⟩ := List.mem_map.1 hr
 rfl
set_option maxHeartbeats 4000000 in
theorem qua_piece (l : List PcQ) (t : Rat) (hl : okC l) (hn : l.length ≤ 1000) (ht : Fits t) : Fn0 Tryz.prog 39 [.sl (l.map PcQ.row), rowA (frR t)] (.i (pcI l t)) := by
 have hle : (l.map PcQ.row).length = l.length := List.length_map _
 refine Fn0.of Tryz.func39 Tryz.ntmps39 rfl rfl rfl ?_
 simp only [entryTm]
 repeat' (first|(apply S.move;exact rfl;exact rfl)|(apply S.assign;exact rfl;exact rfl)|(apply S.box;(iterate 6 exact rfl))|(apply S.lenR;exact rfl;exact rfl) | apply S.nil | apply T.regs | apply T.seq | apply T.block)
 refine T.loopS (fun k => k ≤ l.length) (fun k => l.length - k) (fun k => [(10, .i (k : Int)), (9, .i ((l.map PcQ.row).length : Nat)), (8, .sl (l.map PcQ.row)), (5, .i (pcK l t k)), (3, .ptr 0 0)]) (fun k => [.live ((frR t).map .lf)]) 0 (Nat.zero_le _) (.cons rfl rfl (.cons rfl rfl (.cons rfl rfl (.cons rfl rfl (.cons rfl rfl .nil))))) (.live rfl .nil) ?_
 intro k hk
 by_cases hlt : k < l.length
 ·have h1 : (k : Int) < ((l.map PcQ.row).length : Nat) := by omega
  obtain ⟨x, hx⟩ := get_at hlt
  have hb := row_at (R := PcQ.row) hx
  have hok := hl x (List.mem_of_getElem? hx)
  have c := qua_compare x.f t hok.f ht
  have hs : pcK l t (k + 1) = if x.f ≤ t then (k : Int) else pcK l t k := by simp only [pcK, pcAt_of hx]
  by_cases hc : x.f ≤ t
  ·have hc' : cmpQ x.f t ≤ 0 := (cmpQ_le _ _).2 hc
   repeat' (first|(apply S.move;exact rfl;exact rfl)|(apply S.assign;exact rfl;exact rfl)|(apply S.fieldP;exact rfl;exact rfl;exact rfl)|(apply S.arith;(iterate 4 exact rfl);omega)|(apply S.call;exact rfl;exact rfl;exact c;exact rfl)|(apply S.indexR;exact rfl;exact rfl;exact rfl;exact hb;omega;exact rfl)|(apply S.loadRW;(iterate 4 exact rfl))|(apply S.loadPA;(iterate 4 exact rfl))|(apply S.alloc;(iterate 5 exact rfl))|(apply S.store;(iterate 7 exact rfl))|(apply S.cmp;(iterate 4 exact rfl)) | apply S.nil | apply T.regs | apply T.reg|(apply T.cT;exact rfl;assumption) | apply T.seq|(apply T.skip;first | change T _ _ _ _ _ | change Done _ _ _ _ _ | change Next _ _ _ _ _ _ | skip) | apply T.block)
   change Next _ _ _ _ _ _
   exact Next.go (k + 1) (by omega) (by omega) (.cons rfl rfl (.cons rfl rfl (.cons rfl rfl (.cons (by rw [hs, if_pos hc];rfl) rfl (.cons rfl rfl .nil))))) (.live rfl .nil)
  ·have hc' : ¬ cmpQ x.f t ≤ 0 := fun e => hc ((cmpQ_le _ _).1 e)
   repeat' (first|(apply S.move;exact rfl;exact rfl)|(apply S.assign;exact rfl;exact rfl)|(apply S.fieldP;exact rfl;exact rfl;exact rfl)|(apply S.arith;(iterate 4 exact rfl);omega)|(apply S.call;exact rfl;exact rfl;exact c;exact rfl)|(apply S.indexR;exact rfl;exact rfl;exact rfl;exact hb;omega;exact rfl)|(apply S.loadRW;(iterate 4 exact rfl))|(apply S.loadPA;(iterate 4 exact rfl))|(apply S.alloc;(iterate 5 exact rfl))|(apply S.store;(iterate 7 exact rfl))|(apply S.cmp;(iterate 4 exact rfl)) | apply S.nil | apply T.regs | apply T.reg|(apply T.cT;exact rfl;assumption)|(apply T.cF;exact rfl;assumption) | apply T.seq|(apply T.skip;first | change T _ _ _ _ _ | change Done _ _ _ _ _ | change Next _ _ _ _ _ _ | skip) | apply T.block)
   change Next _ _ _ _ _ _
   exact Next.go (k + 1) (by omega) (by omega) (.cons rfl rfl (.cons rfl rfl (.cons rfl rfl (.cons (by rw [hs, if_neg hc];rfl) rfl (.cons rfl rfl .nil))))) (.live rfl .nil)
 ·have h1 : ¬ (k : Int) < ((l.map PcQ.row).length : Nat) := by omega
  obtain rfl : k = l.length := by omega
  repeat' (first|(apply S.move;exact rfl;exact rfl)|(apply S.assign;exact rfl;exact rfl)|(apply S.cmp;(iterate 4 exact rfl)) | apply S.nil | apply T.regs|(apply T.cF;exact rfl;assumption) | apply T.seq|(apply T.ret;change Done _ _ _ _ _)|(apply T.exit;first | change T _ _ _ _ _ | change Done _ _ _ _ _ | change Next _ _ _ _ _ _ | skip))
  exact doneV (by simp) Tryz.results39 rfl rfl
def atQ (l : List PcQ) (t : Rat) : Rat := if pcI l t < 0 then (pcAt l 0).a else valQ (pcAt l (pcI l t).toNat) (kQ (t - (pcAt l (pcI l t).toNat).f))
def atE (l : List PcQ) (t : Rat) (e : Int) : Int := if pcI l t < 0 then e else valE (pcAt l (pcI l t).toNat) (kQ (t - (pcAt l (pcI l t).toNat).f)) (kE (t - (pcAt l (pcI l t).toNat).f) e)
theorem pc_get {l : List PcQ} {t : Rat} (h : ¬ pcI l t < 0) : l[(pcI l t).toNat]? = some (pcAt l (pcI l t).toNat) := by
 have := (pcK_range l t l.length).2
 have h2 : (pcI l t).toNat < l.length := by unfold pcI at *;omega
 rw [List.getElem?_eq_getElem h2]
 unfold pcAt
 rw [List.getD_eq_getElem?_getD, List.getElem?_eq_getElem h2];rfl
set_option maxHeartbeats 4000000 in
theorem sum_at0 (l : List PcQ) (t : Rat) (e : Int) (hl : okC l) (h0 : l ≠ []) (hn : l.length ≤ 1000) (ht : Fits t) : FnW Tryz.prog 94 [.i e] [.sl (l.map PcQ.row), rowA (frR t)] [.i (atE l t e)] (rowA (frR (atQ l t))) := by
 have c := qua_piece l t hl hn ht
 unfold atQ atE
 by_cases h : pcI l t < 0
 ·rw [if_pos h, if_pos h]
  obtain ⟨x, hx⟩ : ∃ x, l[0]? = some x := ⟨l[0]'(List.length_pos_iff.2 h0), List.getElem?_eq_getElem _⟩
  have hb : (l.map PcQ.row)[(0 : Int).toNat]? = some x.row := by rw [show (0 : Int).toNat = 0 from rfl, List.getElem?_map, hx];rfl
  rw [pcAt_of hx]
  refine FnW.of Tryz.func94 Tryz.ntmps94 rfl rfl rfl ?_
  intro k o
  simp only [entryTm]
  repeat' (first|(apply S.move;exact rfl;exact rfl)|(apply S.assign;exact rfl;exact rfl)|(apply S.fieldR;exact rfl;exact rfl)|(apply T.ret;change DoneW _ _ _ _ _ _ _ _)|(apply S.call;exact rfl;exact rfl;exact c;exact rfl)|(apply S.indexR;exact rfl;exact rfl;exact rfl;exact hb;omega;exact rfl)|(apply S.loadPA;(iterate 4 exact rfl))|(apply S.loadRA;(iterate 4 exact rfl))|(apply S.box;(iterate 6 exact rfl))|(apply S.alloc;(iterate 5 exact rfl))|(apply S.store;(iterate 7 exact rfl))|(apply S.cmp;(iterate 4 exact rfl)) | apply S.nil | apply T.regs|(apply T.cT;exact rfl;assumption) | apply T.seq)
  exact doneW [rowA (frR x.a)] (.inr rfl) (.cons (Res.row (frR x.a) rfl rfl rfl rfl rfl) .nil) rfl rfl rfl
 ·rw [if_neg h, if_neg h]
  have hx := pc_get h
  generalize hxe : pcAt l (pcI l t).toNat = x at hx
  have hb : (l.map PcQ.row)[(pcI l t).toNat]? = some x.row := by rw [List.getElem?_map, hx];rfl
  have hok := hl x (List.mem_of_getElem? hx)
  have c1 := sum_sub t x.f e ht hok.f
  have c2 := sum_value x (kQ (t - x.f)) (kE (t - x.f) e) hok (kQ_fits _)
  refine FnW.of Tryz.func94 Tryz.ntmps94 rfl rfl rfl ?_
  intro k o
  simp only [entryTm]
  repeat' (first|(apply S.move;exact rfl;exact rfl)|(apply S.assign;exact rfl;exact rfl)|(apply S.fieldR;exact rfl;exact rfl)|(apply T.ret;change DoneW _ _ _ _ _ _ _ _)|(apply S.call;exact rfl;exact rfl;exact c;exact rfl)|(apply S.callWD;(iterate 6 exact rfl);exact c1;exact rfl)|(apply S.callWD;(iterate 6 exact rfl);exact c2;exact rfl)|(apply S.indexR;exact rfl;exact rfl;exact rfl;exact hb;omega;exact rfl)|(apply S.loadRW;(iterate 4 exact rfl))|(apply T.draw 14 anyOrder (by decide +kernel);simp only [List.take_succ_cons, List.take_zero, List.drop_succ_cons, List.drop_zero])|(apply S.loadPA;(iterate 4 exact rfl))|(apply S.loadRA;(iterate 4 exact rfl))|(apply S.box;(iterate 6 exact rfl))|(apply S.alloc;(iterate 5 exact rfl))|(apply S.store;(iterate 7 exact rfl))|(apply S.cmp;(iterate 4 exact rfl)) | apply S.nil | apply T.regs|(apply T.cF;exact rfl;assumption) | apply T.seq|(apply T.skip;first | change T _ _ _ _ _ | change Done _ _ _ _ _ | change Next _ _ _ _ _ _ | skip))
  exact doneW [rowA (frR (valQ x (kQ (t - x.f))))] (.inr rfl) (.cons (Res.row (frR (valQ x (kQ (t - x.f)))) rfl rfl rfl rfl rfl) .nil) rfl rfl rfl
end Go.Proofs.YtlncmkafjjomgaaGreat
set_option linter.unusedSimpArgs false
namespace Go.Proofs.YtlncmkafjjomgaaGreat
set_option linter.unusedVariables false
open Go.RowKit
def vF (n d : Int) : Prop := validB n d = true
instance (n d : Int) : Decidable (vF n d) := by unfold vF;exact inferInstance
theorem qua_valid1 (n d : Int) : Fn0 Tryz.prog 36 [rowA [.i n, .i d]] (.b (decide (vF n d))) := by
 have := ratio_valid n d
 rwa [show validB n d = decide (vF n d) by unfold vF;exact Bool.decide_eq_true.symm] at this
structure pieceP (p : PieceR) : Prop where
 f : vF p.f1 p.f2
 a : vF p.a1 p.a2
 b : vF p.b1 p.b2
 c : vF p.c1 p.c2
instance (p : PieceR) : Decidable (pieceP p) := decidable_of_iff (vF p.f1 p.f2 ∧ vF p.a1 p.a2 ∧ vF p.b1 p.b2 ∧ vF p.c1 p.c2) ⟨fun ⟨a, b, c, d⟩ => ⟨a, b, c, d⟩, fun ⟨a, b, c, d⟩ => ⟨a, b, c, d⟩⟩
def toQ (p : PieceR) : PcQ := ⟨ratV p.f1 p.f2, ratV p.a1 p.a2, ratV p.b1 p.b2, ratV p.c1 p.c2⟩
theorem vF_fits {n d : Int} (h : vF n d) : Fits (ratV n d) ∧ (ratV n d).num = n ∧ ((ratV n d).den : Int) = d := by
 obtain ⟨e1, e2⟩ := ratV_valid h
 obtain ⟨a1, a2, a3, a4, _⟩ := validB_spec.1 h
 exact ⟨⟨by rw [e1];omega, by omega⟩, e1, e2⟩
theorem pieceP.ok {p : PieceR} (h : pieceP p) : (toQ p).ok ∧ (toQ p).row = p.row := by
 obtain ⟨h1, h2, h3⟩ := vF_fits h.f
 obtain ⟨i1, i2, i3⟩ := vF_fits h.a
 obtain ⟨j1, j2, j3⟩ := vF_fits h.b
 obtain ⟨k1, k2, k3⟩ := vF_fits h.c
 exact ⟨⟨h1, i1, j1, k1⟩, by simp only [PcQ.row, PieceR.row, toQ, h2, h3, i2, i3, j2, j3, k2, k3]⟩
instance : Inhabited PieceR := ⟨⟨0, 0, 0, 0, 0, 0, 0, 0⟩⟩
def fromK (l : List PieceR) (k : Nat) : Rat := (toQ (l.getD k default)).f
theorem fromK_of {l : List PieceR} {k : Nat} {x : PieceR} (h : l[k]? = some x) : fromK l k = (toQ x).f := by
 unfold fromK
 rw [List.getD_eq_getElem?_getD, h];rfl
def curveP (l : List PieceR) : Prop := (1 ≤ l.length ∧ l.length ≤ 200) ∧ (∀ p ∈ l, pieceP p) ∧ ∀ i, i < l.length - 1 → fromK l i < fromK l (i + 1)
instance (l : List PieceR) : Decidable (curveP l) := by unfold curveP;exact inferInstance
theorem get_prev {l : List PieceR} {k : Nat} (h : k + 1 < l.length) : ∃ y, l[k]? = some y := ⟨l[k]'(by omega), List.getElem?_eq_getElem (by omega)⟩
set_option maxHeartbeats 16000000 in
theorem qua_valid (l : List PieceR) (hn : l.length ≤ 1000000) : Fn0 Tryz.prog 38 [.sl (l.map PieceR.row)] (.b (decide (curveP l))) := by
 have hle : (l.map PieceR.row).length = l.length := List.length_map _
 by_cases h1 : (((l.map PieceR.row).length : Nat) : Int) < 1
 ·skip
  refine Fn0.of Tryz.func38 Tryz.ntmps38 rfl rfl rfl ?_
  simp only [entryTm]
  repeat' (first|(apply S.move;exact rfl;exact rfl)|(apply S.assign;exact rfl;exact rfl)|(apply S.gFT;exact rfl;exact rfl;assumption;exact rfl)|(apply S.pTp;exact rfl;assumption;exact rfl;exact rfl)|(apply S.cmp;(iterate 4 exact rfl))|(apply S.lenR;exact rfl;exact rfl) | apply S.nil | apply T.regs|(apply T.cC;exact rfl) | apply T.seq|(apply T.ret;change Done _ _ _ _ _))
  exact doneV (by simp) Tryz.results38 rfl (congrArg Value.bool (decide_eq_false fun h => by have := h.1.1;omega).symm)
 by_cases h2 : 200 < (((l.map PieceR.row).length : Nat) : Int)
 ·skip
  refine Fn0.of Tryz.func38 Tryz.ntmps38 rfl rfl rfl ?_
  simp only [entryTm]
  repeat' (first|(apply S.move;exact rfl;exact rfl)|(apply S.assign;exact rfl;exact rfl)|(apply S.gFF;exact rfl;exact rfl;assumption)|(apply S.pFp;exact rfl;assumption;exact rfl;exact rfl)|(apply S.cmp;(iterate 4 exact rfl))|(apply S.lenR;exact rfl;exact rfl) | apply S.nil | apply T.regs|(apply T.cT;exact rfl;assumption) | apply T.seq|(apply T.ret;change Done _ _ _ _ _))
  exact doneV (by simp) Tryz.results38 rfl (congrArg Value.bool (decide_eq_false fun h => by have := h.1.2;omega).symm)
 refine Fn0.of Tryz.func38 Tryz.ntmps38 rfl rfl rfl ?_
 simp only [entryTm]
 repeat' (first|(apply S.move;exact rfl;exact rfl)|(apply S.assign;exact rfl;exact rfl)|(apply S.gFF;exact rfl;exact rfl;assumption)|(apply S.pFp;exact rfl;assumption;exact rfl;exact rfl)|(apply S.cmp;(iterate 4 exact rfl))|(apply S.lenR;exact rfl;exact rfl) | apply S.nil | apply T.regs|(apply T.cF;exact rfl;assumption) | apply T.seq|(apply T.skip;first | change T _ _ _ _ _ | change Done _ _ _ _ _ | change Next _ _ _ _ _ _ | skip) | apply T.block)
 refine T.loopS (fun k => k ≤ l.length ∧ (∀ p ∈ l.take k, pieceP p) ∧ ∀ i, i + 1 < k → fromK l i < fromK l (i + 1)) (fun k => l.length - k) (fun k => [(15, .i (k : Int)), (14, .i ((l.map PieceR.row).length : Nat)), (13, .sl (l.map PieceR.row)), (0, .sl (l.map PieceR.row))]) (fun k => []) 0 ⟨Nat.zero_le _, by simp, fun i hi => by omega⟩ (.cons rfl rfl (.cons rfl rfl (.cons rfl rfl (.cons rfl rfl .nil)))) .nil ?_
 rintro k ⟨hk, hp, hs⟩
 by_cases hlt : k < l.length
 ·have h3 : (k : Int) < ((l.map PieceR.row).length : Nat) := by omega
  obtain ⟨x, hx⟩ := get_at hlt
  have hb := row_at (R := PieceR.row) hx
  have hmem := List.mem_of_getElem? hx
  have v1 := qua_valid1 x.f1 x.f2
  have v2 := qua_valid1 x.a1 x.a2
  have v3 := qua_valid1 x.b1 x.b2
  have v4 := qua_valid1 x.c1 x.c2
  by_cases w1 : vF x.f1 x.f2 ∧ vF x.a1 x.a2 ∧ vF x.b1 x.b2 ∧ vF x.c1 x.c2
  ·obtain ⟨w1, w2, w3, w4⟩ := w1
   have hpx : pieceP x := ⟨w1, w2, w3, w4⟩
   have hp' : ∀ p ∈ l.take (k + 1), pieceP p := by
    intro p hm
    rw [List.take_add_one, hx] at hm
    rcases List.mem_append.1 hm with hm | hm
    ·exact hp p hm
    ·obtain rfl : p = x := by simpa using hm
     exact hpx
   have n1 : ¬ ¬ vF x.f1 x.f2 := fun h => h w1
   have n2 : ¬ ¬ vF x.a1 x.a2 := fun h => h w2
   have n3 : ¬ ¬ vF x.b1 x.b2 := fun h => h w3
   have n4 : ¬ ¬ vF x.c1 x.c2 := fun h => h w4
   cases k with
   | zero =>
    have h5 : ¬ (0 : Int) < ((0 : Nat) : Int) := by omega
    repeat' (first|(apply S.move;exact rfl;exact rfl)|(apply S.assign;exact rfl;exact rfl)|(apply S.gCN;(iterate 4 exact rfl))|(apply S.gFF;exact rfl;exact rfl;assumption)|(apply S.fieldP;exact rfl;exact rfl;exact rfl)|(apply S.pCN;exact rfl;exact rfl;exact rfl)|(apply S.pFp;exact rfl;assumption;exact rfl;exact rfl)|(apply S.arith;(iterate 4 exact rfl);omega)|(apply S.call;exact rfl;exact rfl;exact v1;exact rfl)|(apply S.call;exact rfl;exact rfl;exact v2;exact rfl)|(apply S.call;exact rfl;exact rfl;exact v3;exact rfl)|(apply S.call;exact rfl;exact rfl;exact v4;exact rfl)|(apply S.indexR;exact rfl;exact rfl;exact rfl;exact hb;omega;exact rfl)|(apply S.loadRW;(iterate 4 exact rfl))|(apply T.drawAll anyOrder (by decide +kernel))|(apply S.loadPA;(iterate 4 exact rfl))|(apply S.alloc;(iterate 5 exact rfl))|(apply S.store;(iterate 7 exact rfl))|(apply S.cmp;(iterate 4 exact rfl))|(apply S.notP;exact rfl;exact rfl) | apply S.nil | apply T.regs | apply T.reg|(apply T.cCN;exact rfl)|(apply T.cT;exact rfl;assumption)|(apply T.cF;exact rfl;assumption) | apply T.seq|(apply T.skip;first | change T _ _ _ _ _ | change Done _ _ _ _ _ | change Next _ _ _ _ _ _ | skip) | apply T.block)
    change Next _ _ _ _ _ _
    exact Next.go 1 ⟨by omega, hp', fun i hi => by omega⟩ (by omega) (.cons rfl rfl (.cons rfl rfl (.cons rfl rfl (.cons rfl rfl .nil)))) .nil
   | succ k =>
    have h5 : (0 : Int) < ((k + 1 : Nat) : Int) := by omega
    obtain ⟨y, hy⟩ := get_prev hlt
    have hpy : pieceP y := hp y (List.mem_of_getElem? (by rw [List.getElem?_take_of_lt (Nat.lt_succ_self k)];exact hy))
    have hby : (l.map PieceR.row)[(((k + 1 : Nat) : Int) - 1).toNat]? = some y.row := by rw [show (((k + 1 : Nat) : Int) - 1).toNat = k by omega, List.getElem?_map, hy];rfl
    have hcmp : Fn0 Tryz.prog 63 [rowA [.i y.f1, .i y.f2], rowA [.i x.f1, .i x.f2]] (.i (cmpQ (toQ y).f (toQ x).f)) := by
     have := qua_compare (toQ y).f (toQ x).f hpy.ok.1.f hpx.ok.1.f
     obtain ⟨_, e1, e2⟩ := vF_fits hpy.f
     obtain ⟨_, e3, e4⟩ := vF_fits hpx.f
     simp only [toQ, frR, e1, e2, e3, e4] at this ⊢
     exact this
    by_cases hc : (toQ y).f < (toQ x).f
    ·have hc' : ¬ 0 ≤ cmpQ (toQ y).f (toQ x).f := fun e => by have := (cmpQ_lt _ _).2 hc;omega
     repeat' (first|(apply S.move;exact rfl;exact rfl)|(apply S.assign;exact rfl;exact rfl)|(apply S.gTT;exact rfl;exact rfl;assumption)|(apply S.gFF;exact rfl;exact rfl;assumption)|(apply S.fieldP;exact rfl;exact rfl;exact rfl)|(apply S.fieldR;exact rfl;exact rfl)|(apply S.pTp;exact rfl;assumption;exact rfl;exact rfl)|(apply S.pFp;exact rfl;assumption;exact rfl;exact rfl)|(apply S.arith;(iterate 4 exact rfl);omega)|(apply S.call;exact rfl;exact rfl;exact v1;exact rfl)|(apply S.call;exact rfl;exact rfl;exact v2;exact rfl)|(apply S.call;exact rfl;exact rfl;exact v3;exact rfl)|(apply S.call;exact rfl;exact rfl;exact v4;exact rfl)|(apply S.call;exact rfl;exact rfl;exact hcmp;exact rfl)|(apply S.indexR;exact rfl;exact rfl;exact rfl;exact hb;omega;exact rfl)|(apply S.indexR;exact rfl;exact rfl;exact rfl;exact hby;omega;exact rfl)|(apply S.loadRW;(iterate 4 exact rfl))|(apply T.drawAll anyOrder (by decide +kernel))|(apply S.loadPA;(iterate 4 exact rfl))|(apply S.loadRA;(iterate 4 exact rfl))|(apply S.alloc;(iterate 5 exact rfl))|(apply S.store;(iterate 7 exact rfl))|(apply S.cmp;(iterate 4 exact rfl))|(apply S.notP;exact rfl;exact rfl) | apply S.nil | apply T.regs | apply T.reg|(apply T.cT;exact rfl;assumption)|(apply T.cF;exact rfl;assumption) | apply T.seq|(apply T.skip;first | change T _ _ _ _ _ | change Done _ _ _ _ _ | change Next _ _ _ _ _ _ | skip) | apply T.block)
     change Next _ _ _ _ _ _
     refine Next.go (k + 2) ⟨by omega, hp', fun i hi => ?_⟩ (by omega) (.cons rfl rfl (.cons rfl rfl (.cons rfl rfl (.cons rfl rfl .nil)))) .nil
     by_cases hik : i = k
     ·subst hik
      rw [fromK_of hy, fromK_of hx];exact hc
     ·exact hs i (by omega)
    ·have hc' : 0 ≤ cmpQ (toQ y).f (toQ x).f := by
      rcases Int.lt_or_le (cmpQ (toQ y).f (toQ x).f) 0 with h | h
      ·exact absurd ((cmpQ_lt _ _).1 h) hc
      ·exact h
     repeat' (first|(apply S.move;exact rfl;exact rfl)|(apply S.assign;exact rfl;exact rfl)|(apply S.gTT;exact rfl;exact rfl;assumption)|(apply S.gFF;exact rfl;exact rfl;assumption)|(apply S.fieldP;exact rfl;exact rfl;exact rfl)|(apply S.fieldR;exact rfl;exact rfl)|(apply S.pTp;exact rfl;assumption;exact rfl;exact rfl)|(apply S.pFp;exact rfl;assumption;exact rfl;exact rfl)|(apply S.arith;(iterate 4 exact rfl);omega)|(apply S.call;exact rfl;exact rfl;exact v1;exact rfl)|(apply S.call;exact rfl;exact rfl;exact v2;exact rfl)|(apply S.call;exact rfl;exact rfl;exact v3;exact rfl)|(apply S.call;exact rfl;exact rfl;exact v4;exact rfl)|(apply S.call;exact rfl;exact rfl;exact hcmp;exact rfl)|(apply S.indexR;exact rfl;exact rfl;exact rfl;exact hb;omega;exact rfl)|(apply S.indexR;exact rfl;exact rfl;exact rfl;exact hby;omega;exact rfl)|(apply S.loadRW;(iterate 4 exact rfl))|(apply T.drawAll anyOrder (by decide +kernel))|(apply S.loadPA;(iterate 4 exact rfl))|(apply S.loadRA;(iterate 4 exact rfl))|(apply S.alloc;(iterate 5 exact rfl))|(apply S.store;(iterate 7 exact rfl))|(apply S.cmp;(iterate 4 exact rfl))|(apply S.notP;exact rfl;exact rfl) | apply S.nil | apply T.regs|(apply T.cT;exact rfl;assumption)|(apply T.cF;exact rfl;assumption) | apply T.seq|(apply T.skip;first | change T _ _ _ _ _ | change Done _ _ _ _ _ | change Next _ _ _ _ _ _ | skip)|(apply T.ret;change Done _ _ _ _ _) | apply T.block)
     exact doneV (by simp) Tryz.results38 rfl (congrArg Value.bool (decide_eq_false fun h => hc (by have := h.2.2 k (by omega);rwa [fromK_of hy, fromK_of hx] at this)).symm)
  ·repeat' (first|(apply S.move;exact rfl;exact rfl)|(apply S.assign;exact rfl;exact rfl)|(apply S.gCN;(iterate 4 exact rfl))|(apply S.gTT;exact rfl;exact rfl;assumption)|(apply S.gTF;exact rfl;exact rfl;assumption;exact rfl)|(apply S.gFT;exact rfl;exact rfl;assumption;exact rfl)|(apply S.gFFn;exact rfl;exact rfl;assumption)|(apply S.fieldP;exact rfl;exact rfl;exact rfl)|(apply S.pC;exact rfl;exact rfl;exact rfl)|(apply S.pTp;exact rfl;assumption;exact rfl;exact rfl)|(apply S.pFp;exact rfl;assumption;exact rfl;exact rfl)|(apply S.pFn;exact rfl;assumption;exact rfl;exact rfl)|(apply S.arith;(iterate 4 exact rfl);omega)|(apply S.call;exact rfl;exact rfl;exact v1;exact rfl)|(apply S.call;exact rfl;exact rfl;exact v2;exact rfl)|(apply S.call;exact rfl;exact rfl;exact v3;exact rfl)|(apply S.call;exact rfl;exact rfl;exact v4;exact rfl)|(apply S.indexR;exact rfl;exact rfl;exact rfl;exact hb;omega;exact rfl)|(apply S.loadRW;(iterate 4 exact rfl))|(apply T.drawAll anyOrder (by decide +kernel))|(apply S.loadPA;(iterate 4 exact rfl))|(apply S.alloc;(iterate 5 exact rfl))|(apply S.store;(iterate 7 exact rfl))|(apply S.cmp;(iterate 4 exact rfl))|(apply S.notP;exact rfl;exact rfl)|(apply S.gsFn;exact rfl;exact rfl;exact rfl;intro hc;rotate_left;intro hc;rotate_right)|(apply S.gsT;exact rfl;exact rfl;exact rfl;intro hc;rotate_left;intro hc;rotate_right) | apply S.nil | apply T.regs | apply T.reg|(apply T.cC;exact rfl)|(apply T.cCN;exact rfl)|(apply T.cT;exact rfl;assumption)|(apply T.cSn;exact rfl;intro hc;rotate_left;intro hc;rotate_right) | apply T.seq|(apply T.skip;first | change T _ _ _ _ _ | change Done _ _ _ _ _ | change Next _ _ _ _ _ _ | skip)|(apply T.ret;change Done _ _ _ _ _) | apply T.block)
   all_goals first
    | exact doneV (by simp) Tryz.results38 rfl (congrArg Value.bool (decide_eq_false fun h => w1 (by have := h.2.1 x hmem;exact ⟨this.f, this.a, this.b, this.c⟩)).symm)
    | (exfalso;simp_all;done)
 ·have h3 : ¬ (k : Int) < ((l.map PieceR.row).length : Nat) := by omega
  repeat' (first|(apply S.assign;exact rfl;exact rfl)|(apply S.cmp;(iterate 4 exact rfl)) | apply S.nil | apply T.regs|(apply T.cF;exact rfl;assumption) | apply T.seq|(apply T.ret;change Done _ _ _ _ _)|(apply T.exit;first | change T _ _ _ _ _ | change Done _ _ _ _ _ | change Next _ _ _ _ _ _ | skip))
  exact doneV (by simp) Tryz.results38 rfl (congrArg Value.bool (decide_eq_true ⟨⟨by omega, by omega⟩, by rw [List.take_of_length_le (by omega)] at hp;exact hp, fun i hi => hs i (by omega)⟩).symm)
set_option maxHeartbeats 8000000 in
theorem qua_at (l : List PcQ) (t : Rat) (hl : okC l) (h0 : l ≠ []) (hn : l.length ≤ 1000) (ht : Fits t) (hv : Fn0 Tryz.prog 38 [.sl (l.map PcQ.row)] (.b true)) : Fn0 Tryz.prog 12 [.sl (l.map PcQ.row), rowA (frR t)] (resA (atQ l t) (atE l t 0)) := by
 have c := qua_piece l t hl hn ht
 have v1 : Fn0 Tryz.prog 36 [rowA (frR t)] (.b true) := by
  have := ratio_valid t.num t.den
  rwa [ht.valid] at this
 unfold atQ atE
 by_cases h : pcI l t < 0
 ·rw [if_pos h, if_pos h]
  obtain ⟨x, hx⟩ : ∃ x, l[0]? = some x := ⟨l[0]'(List.length_pos_iff.2 h0), List.getElem?_eq_getElem _⟩
  have hb : (l.map PcQ.row)[(0 : Int).toNat]? = some x.row := by rw [show (0 : Int).toNat = 0 from rfl, List.getElem?_map, hx];rfl
  rw [pcAt_of hx]
  refine Fn0.of Tryz.func12 Tryz.ntmps12 rfl rfl rfl ?_
  simp only [entryTm]
  repeat' (first|(apply S.move;exact rfl;exact rfl)|(apply S.assign;exact rfl;exact rfl)|(apply S.gC;exact rfl;exact rfl;exact rfl)|(apply S.fieldR;exact rfl;exact rfl)|(apply S.pCN;exact rfl;exact rfl;exact rfl)|(apply S.call;exact rfl;exact rfl;exact c;exact rfl)|(apply S.call;exact rfl;exact rfl;exact hv;exact rfl)|(apply S.call;exact rfl;exact rfl;exact v1;exact rfl)|(apply S.indexR;exact rfl;exact rfl;exact rfl;exact hb;omega;exact rfl)|(apply S.loadPA;(iterate 4 exact rfl))|(apply S.loadRA;(iterate 4 exact rfl))|(apply S.box;(iterate 6 exact rfl))|(apply S.alloc;(iterate 5 exact rfl))|(apply S.store;(iterate 7 exact rfl))|(apply S.cmp;(iterate 4 exact rfl))|(apply S.not;exact rfl;exact rfl;exact rfl)|(apply S.build;exact rfl;exact rfl;exact rfl) | apply S.nil | apply T.regs|(apply T.cCN;exact rfl)|(apply T.cT;exact rfl;assumption) | apply T.seq|(apply T.skip;first | change T _ _ _ _ _ | change Done _ _ _ _ _ | change Next _ _ _ _ _ _ | skip)|(apply T.ret;change Done _ _ _ _ _))
  exact ⟨.inr rfl, [rowA (frR x.a), .i 0], .cons (Res.row (frR x.a) rfl rfl rfl rfl rfl) (.cons (.tmp rfl) .nil), .tup (.cons (.agg (outL_refl (frR x.a))) (.cons (.one (.lf _)) .nil))⟩
 ·rw [if_neg h, if_neg h]
  have hx := pc_get h
  generalize hxe : pcAt l (pcI l t).toNat = x at hx
  have hb : (l.map PcQ.row)[(pcI l t).toNat]? = some x.row := by rw [List.getElem?_map, hx];rfl
  have hok := hl x (List.mem_of_getElem? hx)
  have c1 := sum_sub t x.f 0 ht hok.f
  have c2 := sum_value x (kQ (t - x.f)) (kE (t - x.f) 0) hok (kQ_fits _)
  have c3 := sum_resultW (valQ x (kQ (t - x.f))) (valE x (kQ (t - x.f)) (kE (t - x.f) 0))
  generalize hw : valE x (kQ (t - x.f)) (kE (t - x.f) 0) = e at c2 c3
  generalize hq : valQ x (kQ (t - x.f)) = q at c2 c3
  unfold resA at c3 ⊢
  by_cases he : e = 0
  ·subst he
   rw [if_pos rfl] at c3 ⊢
   refine Fn0.of Tryz.func12 Tryz.ntmps12 rfl rfl rfl ?_
   simp only [entryTm]
   repeat' (first|(apply S.move;exact rfl;exact rfl)|(apply S.assign;exact rfl;exact rfl)|(apply S.gC;exact rfl;exact rfl;exact rfl)|(apply S.fieldR;exact rfl;exact rfl)|(apply S.pCN;exact rfl;exact rfl;exact rfl)|(refine T.heat 2 [.i 0] rfl rfl ?_;intro k o)|(apply S.call;exact rfl;exact rfl;exact c;exact rfl)|(apply S.call;exact rfl;exact rfl;exact hv;exact rfl)|(apply S.call;exact rfl;exact rfl;exact v1;exact rfl)|(apply S.callWD;(iterate 6 exact rfl);exact c1;exact rfl)|(apply S.callWD;(iterate 6 exact rfl);exact c2;exact rfl)|(apply S.callWD;(iterate 6 exact rfl);exact c3;exact rfl)|(apply S.indexR;exact rfl;exact rfl;exact rfl;exact hb;omega;exact rfl)|(apply S.loadRW;(iterate 4 exact rfl))|(apply T.draw 18 anyOrder (by decide +kernel);simp only [List.take_succ_cons, List.take_zero, List.drop_succ_cons, List.drop_zero])|(apply S.loadPA;(iterate 4 exact rfl))|(apply S.loadRA;(iterate 4 exact rfl))|(apply S.box;(iterate 6 exact rfl))|(apply S.alloc;(iterate 5 exact rfl))|(apply S.store;(iterate 7 exact rfl))|(apply S.cmp;(iterate 4 exact rfl))|(apply S.not;exact rfl;exact rfl;exact rfl)|(apply S.extract;exact rfl;exact rfl;exact rfl)|(apply S.build;exact rfl;exact rfl;exact rfl) | apply S.nil | apply T.regs|(apply T.cCN;exact rfl)|(apply T.cF;exact rfl;assumption) | apply T.seq|(apply T.skip;first | change T _ _ _ _ _ | change Done _ _ _ _ _ | change Next _ _ _ _ _ _ | skip)|(apply T.ret;change Done _ _ _ _ _))
   exact ⟨.inr rfl, [rowA (frR q), .i 0], .cons (Res.row (frR q) rfl rfl rfl rfl rfl) (.cons (.tmp rfl) .nil), .tup (.cons (.agg (outL_refl (frR q))) (.cons (.one (.lf _)) .nil))⟩
  ·rw [if_neg he] at c3 ⊢
   refine Fn0.of Tryz.func12 Tryz.ntmps12 rfl rfl rfl ?_
   simp only [entryTm]
   repeat' (first|(apply S.move;exact rfl;exact rfl)|(apply S.assign;exact rfl;exact rfl)|(apply S.gC;exact rfl;exact rfl;exact rfl)|(apply S.fieldR;exact rfl;exact rfl)|(apply S.pCN;exact rfl;exact rfl;exact rfl)|(refine T.heat 2 [.i 0] rfl rfl ?_;intro k o)|(apply S.call;exact rfl;exact rfl;exact c;exact rfl)|(apply S.call;exact rfl;exact rfl;exact hv;exact rfl)|(apply S.call;exact rfl;exact rfl;exact v1;exact rfl)|(apply S.callWD;(iterate 6 exact rfl);exact c1;exact rfl)|(apply S.callWD;(iterate 6 exact rfl);exact c2;exact rfl)|(apply S.callWD;(iterate 6 exact rfl);exact c3;exact rfl)|(apply S.indexR;exact rfl;exact rfl;exact rfl;exact hb;omega;exact rfl)|(apply S.loadRW;(iterate 4 exact rfl))|(apply T.draw 18 anyOrder (by decide +kernel);simp only [List.take_succ_cons, List.take_zero, List.drop_succ_cons, List.drop_zero])|(apply S.loadPA;(iterate 4 exact rfl))|(apply S.loadRA;(iterate 4 exact rfl))|(apply S.box;(iterate 6 exact rfl))|(apply S.alloc;(iterate 5 exact rfl))|(apply S.store;(iterate 7 exact rfl))|(apply S.cmp;(iterate 4 exact rfl))|(apply S.not;exact rfl;exact rfl;exact rfl)|(apply S.extract;exact rfl;exact rfl;exact rfl)|(apply S.build;exact rfl;exact rfl;exact rfl) | apply S.nil | apply T.regs|(apply T.cCN;exact rfl)|(apply T.cF;exact rfl;assumption) | apply T.seq|(apply T.skip;first | change T _ _ _ _ _ | change Done _ _ _ _ _ | change Next _ _ _ _ _ _ | skip)|(apply T.ret;change Done _ _ _ _ _))
   exact ⟨.inr rfl, [rowA [.i 0, .i 0], .i e], .cons (Res.row [.i 0, .i 0] rfl rfl rfl rfl rfl) (.cons (.tmp rfl) .nil), .tup (.cons (.agg (outL_refl [.i 0, .i 0])) (.cons (.one (.lf _)) .nil))⟩
end Go.Proofs.YtlncmkafjjomgaaGreat
