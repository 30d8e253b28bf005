/- Contracts: numbers by their words: integer, plus, times. No conditions but those of each statement. | Contracts: fractions of numbers by their words: of, plus, less, times, sign;parts of curves: their values and slopes. No conditions but those of each statement. -/
import Derived.Test.YtlncmkafjjomgaaGreatNf
set_option linter.unusedSimpArgs false
namespace Go.Proofs.YtlncmkafjjomgaaGreat
set_option linter.unusedVariables false
open Go.RowKit
theorem two_val (u : Nat) : val [u % 4294967296, u / 4294967296] = u := by simp only [val];omega
theorem two_dig {u : Nat} (h : u < 18446744073709551616) : Dig [u % 4294967296, u / 4294967296] := by
 intro x hx
 simp only [List.mem_cons, List.not_mem_nil, or_false] at hx
 omega
set_option maxHeartbeats 4000000 in
theorem num_integer (n : Int) (h0 : -9223372036854775808 ≤ n) (h1 : n ≤ 9223372036854775807) : Fn0 Tryz.prog 103 [.i n] (rowA (numR (decide (n < 0)) n.natAbs)) := by
 obtain ⟨u, hu⟩ : ∃ u : Nat, u = n.natAbs := ⟨_, rfl⟩
 have hT := num_trimmed' [u % 4294967296, u / 4294967296] n.natAbs (two_dig (by omega)) (by simp) (by rw [two_val, hu])
 have c2 : IntKind.u32.wrap (u : Int) = ((u % 4294967296 : Nat) : Int) := wrap32 u
 have c3 : IntKind.u32.wrap ((u : Int) / 4294967296) = ((u / 4294967296 : Nat) : Int) := by rw [wrap_u32];omega
 by_cases hn : n < 0
 ·have c1 : IntKind.u64.wrap n = n + 18446744073709551616 := by rw [wrap_u64];omega
  have c4 : IntKind.u64.wrap (-(n + 18446744073709551616)) = (u : Int) := by rw [wrap_u64];omega
  refine Fn0.of Tryz.func103 Tryz.ntmps103 rfl rfl rfl ?_
  simp only [entryTm]
  repeat' (first|(apply S.move;exact rfl;exact rfl)|(apply S.assign;exact rfl;exact rfl)|(apply S.convW;exact rfl;exact c1;exact rfl)|(apply S.convW;exact rfl;exact c2;exact rfl)|(apply S.convW;exact rfl;exact c3;exact rfl)|(apply S.negU;exact rfl;exact c4;exact rfl)|(apply S.shr32;exact rfl;exact rfl;exact rfl)|(apply S.buildSliceF;(iterate 8 exact rfl))|(apply S.call;exact rfl;exact rfl;exact hT;exact rfl)|(apply S.alloc;(iterate 5 exact rfl))|(apply S.store;(iterate 7 exact rfl))|(apply S.cmp;(iterate 4 exact rfl))|(apply S.build;exact rfl;exact rfl;exact rfl) | apply S.nil | apply T.regs | apply T.reg|(apply T.cT;exact rfl;assumption) | apply T.seq|(apply T.ret;change Done _ _ _ _ _))
  exact ⟨.inr rfl, [rowA (numR (decide (n < 0)) n.natAbs)], .cons (Res.row (numR (decide (n < 0)) n.natAbs) rfl rfl rfl rfl rfl) .nil, .one (.agg (outL_refl (numR (decide (n < 0)) n.natAbs)))⟩
 ·have c1 : IntKind.u64.wrap n = (u : Int) := by rw [wrap_u64];omega
  refine Fn0.of Tryz.func103 Tryz.ntmps103 rfl rfl rfl ?_
  simp only [entryTm]
  repeat' (first|(apply S.move;exact rfl;exact rfl)|(apply S.assign;exact rfl;exact rfl)|(apply S.convW;exact rfl;exact c1;exact rfl)|(apply S.convW;exact rfl;exact c2;exact rfl)|(apply S.convW;exact rfl;exact c3;exact rfl)|(apply S.shr32;exact rfl;exact rfl;exact rfl)|(apply S.buildSliceF;(iterate 8 exact rfl))|(apply S.call;exact rfl;exact rfl;exact hT;exact rfl)|(apply S.alloc;(iterate 5 exact rfl))|(apply S.store;(iterate 7 exact rfl))|(apply S.cmp;(iterate 4 exact rfl))|(apply S.build;exact rfl;exact rfl;exact rfl) | apply S.nil | apply T.regs|(apply T.cF;exact rfl;assumption) | apply T.seq|(apply T.skip;first | change T _ _ _ _ _ | change Done _ _ _ _ _ | change Next _ _ _ _ _ _ | skip)|(apply T.ret;change Done _ _ _ _ _))
  exact ⟨.inr rfl, [rowA (numR (decide (n < 0)) n.natAbs)], .cons (Res.row (numR (decide (n < 0)) n.natAbs) rfl rfl rfl rfl rfl) .nil, .one (.agg (outL_refl (numR (decide (n < 0)) n.natAbs)))⟩
set_option maxHeartbeats 4000000 in
theorem num_plus (s : Bool) (a : Nat) (t : Bool) (b : Nat) (ha : (wds a).length ≤ 1000) (hb : (wds b).length ≤ 1000) : Fn0 Tryz.prog 137 [rowA (numR s a), rowA (numR t b)] (rowA (numR (plusN s a t b).1 (plusN s a t b).2)) := by
 have c1 := num_added a b ha hb
 have c2 := num_compared_l (wds a) (wds b) ha hb
 by_cases hab : a < b
 ·have c3 := num_taken b a hb (by omega)
  have hc : cmpL (wds a) (wds b) < 0 := (cmpL_neg a b).2 hab
  cases s <;> cases t <;>
  ·simp only [plusN, hab, if_true, if_false, Bool.false_eq_true, Bool.true_eq_false, reduceCtorEq]
   refine Fn0.of Tryz.func137 Tryz.ntmps137 rfl rfl rfl ?_
   simp only [entryTm]
   repeat' (first|(apply S.fieldP;exact rfl;exact rfl;exact rfl)|(apply S.loadP;(iterate 4 exact rfl))|(apply S.boolEqB;(iterate 4 exact rfl))|(apply S.call;exact rfl;exact rfl;exact c1;exact rfl)|(apply S.call;exact rfl;exact rfl;exact c2;exact rfl)|(apply S.call;exact rfl;exact rfl;exact c3;exact rfl)|(apply T.draw 8 anyOrder (by decide +kernel);simp only [List.take_succ_cons, List.take_zero, List.drop_succ_cons, List.drop_zero])|(apply S.box;(iterate 6 exact rfl))|(apply S.alloc;(iterate 5 exact rfl))|(apply S.store;(iterate 7 exact rfl))|(apply S.cmp;(iterate 4 exact rfl))|(apply S.build;exact rfl;exact rfl;exact rfl) | apply S.nil | apply T.regs|(apply T.cC;exact rfl)|(apply T.cCN;exact rfl)|(apply T.cT;exact rfl;assumption) | apply T.seq|(apply T.skip;first | change T _ _ _ _ _ | change Done _ _ _ _ _ | change Next _ _ _ _ _ _ | skip)|(apply T.ret;change Done _ _ _ _ _))
   exact ⟨.inr rfl, [rowA (numR _ _)], .cons (Res.row (numR _ _) rfl rfl rfl rfl rfl) .nil, .one (.agg (outL_refl (numR _ _)))⟩
 ·have c3 := num_taken a b ha (by omega)
  have hc : ¬ cmpL (wds a) (wds b) < 0 := fun h => hab ((cmpL_neg a b).1 h)
  cases s <;> cases t <;>
  ·simp only [plusN, hab, if_true, if_false, Bool.false_eq_true, Bool.true_eq_false, reduceCtorEq]
   refine Fn0.of Tryz.func137 Tryz.ntmps137 rfl rfl rfl ?_
   simp only [entryTm]
   repeat' (first|(apply S.fieldP;exact rfl;exact rfl;exact rfl)|(apply S.loadP;(iterate 4 exact rfl))|(apply S.boolEqB;(iterate 4 exact rfl))|(apply S.call;exact rfl;exact rfl;exact c1;exact rfl)|(apply S.call;exact rfl;exact rfl;exact c2;exact rfl)|(apply S.call;exact rfl;exact rfl;exact c3;exact rfl)|(apply T.draw 8 anyOrder (by decide +kernel);simp only [List.take_succ_cons, List.take_zero, List.drop_succ_cons, List.drop_zero])|(apply S.box;(iterate 6 exact rfl))|(apply S.alloc;(iterate 5 exact rfl))|(apply S.store;(iterate 7 exact rfl))|(apply S.cmp;(iterate 4 exact rfl))|(apply S.build;exact rfl;exact rfl;exact rfl) | apply S.nil | apply T.regs|(apply T.cC;exact rfl)|(apply T.cCN;exact rfl)|(apply T.cF;exact rfl;assumption) | apply T.seq|(apply T.skip;first | change T _ _ _ _ _ | change Done _ _ _ _ _ | change Next _ _ _ _ _ _ | skip)|(apply T.ret;change Done _ _ _ _ _))
   exact ⟨.inr rfl, [rowA (numR _ _)], .cons (Res.row (numR _ _) rfl rfl rfl rfl rfl) .nil, .one (.agg (outL_refl (numR _ _)))⟩
structure MulO where
 i : Nat
 m : List Nat
set_option maxHeartbeats 16000000 in
theorem num_times_l (s t : Bool) (na nb : Nat) (a b : List Nat) (hwa : wds na = a) (hwb : wds nb = b) (da : Dig a) (db : Dig b) (hla : a.length ≤ 1000) (hlb : b.length ≤ 1000) :
  Fn0 Tryz.prog 136 [rowA [.val (.bool s), .sl (wq a)], rowA [.val (.bool t), .sl (wq b)]] (rowA [.val (.bool (s != t)), .sl (wq (wds (val a * val b)))]) := by
 have e1 : (wq a).length = a.length := wsR_len _ _
 have e2 : (wq b).length = b.length := wsR_len _ _
 have h1 : (((wq a).length : Nat) : Int) + ((wq b).length : Nat) = ((a.length + b.length : Nat) : Int) := by omega
 refine Fn0.of Tryz.func136 Tryz.ntmps136 rfl rfl rfl ?_
 simp only [entryTm]
 repeat' (first|(apply S.move;exact rfl;exact rfl)|(apply S.assign;exact rfl;exact rfl)|(apply S.fieldP;exact rfl;exact rfl;exact rfl)|(apply S.loadP;(iterate 4 exact rfl))|(apply S.arith;(iterate 4 exact rfl);omega)|(apply S.makeU (n := a.length + b.length);exact rfl;rw [← h1];exact rfl;omega;exact rfl;exact rfl)|(apply S.box;(iterate 6 exact rfl))|(apply S.alloc;(iterate 5 exact rfl))|(apply S.lenR;exact rfl;exact rfl) | apply S.nil | apply T.regs | apply T.seq | apply T.block)
 refine T.loopS (fun (o : MulO) => o.i ≤ a.length ∧ MulInv a b o.m o.i) (fun o => a.length - o.i) (fun o => [(22, .i o.i), (21, .i ((wq a).length : Nat)), (20, .sl (wq a)), (5, .own 3 0 (a.length + b.length) 1), (2, .ptr 0 0), (3, .ptr 1 0), (4, .ptr 2 0)])
  (fun o => [.live [.val (.bool s), .sl (wq a)], .live [.val (.bool t), .sl (wq b)], .live [.val (.bool false), .val (.slice none 0 0)], .live (wsA .u32 o.m)]) ⟨0, List.replicate (a.length + b.length) 0⟩ ⟨Nat.zero_le _, mul_start a b⟩ (.cons rfl rfl (.cons rfl rfl (.cons rfl rfl (.cons rfl rfl (.cons rfl rfl (.cons rfl rfl (.cons rfl rfl .nil))))))) (.live rfl (.live rfl (.live rfl (.live (wsA_under _ _ _) .nil)))) ?_
 rintro ⟨i, m⟩ ⟨hi, hinv⟩
 dsimp only at hi hinv ⊢
 have hm := hinv.1
 by_cases hil : i < a.length
 ·have h3 : (i : Int) < ((wq a).length : Nat) := by omega
  obtain ⟨x, hx⟩ : ∃ x, a[i]? = some x := ⟨a[i], List.getElem?_eq_getElem hil⟩
  have hbx := wsR_ati (k := .u32) hx
  have hxl := da.get hx
  repeat' (first|(apply S.move;exact rfl;exact rfl)|(apply S.assign;exact rfl;exact rfl)|(apply S.fieldP;exact rfl;exact rfl;exact rfl)|(apply S.loadP;(iterate 4 exact rfl))|(apply S.loadR;exact rfl;exact rfl;exact rfl)|(apply S.indexR;exact rfl;exact rfl;exact rfl;exact hbx;omega;exact rfl)|(apply S.cmp;(iterate 4 exact rfl))|(apply S.lenR;exact rfl;exact rfl) | apply S.nil | apply T.regs|(apply T.cT;exact rfl;assumption) | apply T.seq|(apply T.skip;first | change T _ _ _ _ _ | change Done _ _ _ _ _ | change Next _ _ _ _ _ _ | skip) | apply T.block)
  refine T.loopS (fun (q : AddS) => q.i ≤ b.length ∧ MulIn a b q.m i x q.i q.c) (fun q => b.length - q.i) (fun q => [(30, .i q.i), (29, .i ((wq b).length : Nat)), (28, .sl (wq b)), (8, .val (.int .u64 (q.c : Int))), (7, .val (.int .u32 (x : Int))), (6, .i i), (22, .i i), (21, .i ((wq a).length : Nat)), (20, .sl (wq a)), (5, .own 3 0 (a.length + b.length) 1), (2, .ptr 0 0), (3, .ptr 1 0), (4, .ptr 2 0)])
   (fun q => [.live [.val (.bool s), .sl (wq a)], .live [.val (.bool t), .sl (wq b)], .live [.val (.bool false), .val (.slice none 0 0)], .live (wsA .u32 q.m)]) ⟨0, m, 0⟩ ⟨Nat.zero_le _, mul_in x hinv⟩ (.cons rfl rfl (.cons rfl rfl (.cons rfl rfl (.cons rfl rfl (.cons rfl rfl (.cons rfl rfl (.cons rfl rfl (.cons rfl rfl (.cons rfl rfl (.cons rfl rfl (.cons rfl rfl (.cons rfl rfl (.cons rfl rfl .nil))))))))))))) (.live rfl (.live rfl (.live rfl (.live (wsA_under _ _ _) .nil)))) ?_
  rintro ⟨k, m1, c⟩ ⟨hk, hin⟩
  dsimp only at hk hin ⊢
  have hm1 := hin.1
  have hcl := hin.2.2.2.2
  by_cases hkl : k < b.length
  ·have h4 : (k : Int) < ((wq b).length : Nat) := by omega
   obtain ⟨y, hy⟩ : ∃ y, b[k]? = some y := ⟨b[k], List.getElem?_eq_getElem hkl⟩
   obtain ⟨z, hz⟩ : ∃ z, m1[i + k]? = some z := ⟨m1[i + k]'(by omega), List.getElem?_eq_getElem (by omega)⟩
   have hby := wsR_ati (k := .u32) hy
   have hyl := db.get hy
   have hzl := hin.2.1.get hz
   obtain ⟨f1, f2⟩ := mul_fits hxl hyl hzl hcl
   have hxy : (x : Int) * (y : Int) = ((x * y : Nat) : Int) := (Int.natCast_mul x y).symm
   obtain ⟨p, hp⟩ : ∃ p, p = x * y := ⟨_, rfl⟩
   rw [← hp] at hxy f1 f2
   have hr : IntKind.u32.wrap ((c : Int) + ((x : Int) * (y : Int) + (z : Int))) = (((c + (p + z)) % 4294967296 : Nat) : Int) := by rw [wrap_u32, hxy];omega
   have hq : ((c : Int) + ((x : Int) * (y : Int) + (z : Int))) / 4294967296 = (((c + (p + z)) / 4294967296 : Nat) : Int) := by rw [hxy];omega
   repeat' (first|(apply S.move;exact rfl;exact rfl)|(apply S.assign;exact rfl;exact rfl)|(apply S.loadR;exact rfl;exact rfl;exact rfl)|(apply S.arith;(iterate 4 exact rfl);omega)|(apply S.arithU;(iterate 4 exact rfl);rw [hxy];omega)|(apply S.convW;exact rfl;exact wrap64 (show x < 18446744073709551616 by omega);exact rfl)|(apply S.convW;exact rfl;exact wrap64 (show y < 18446744073709551616 by omega);exact rfl)|(apply S.convW;exact rfl;exact wrap64 (show z < 18446744073709551616 by omega);exact rfl)|(apply S.convW;exact rfl;exact hr;exact rfl)|(apply S.shr32;exact rfl;exact rfl;exact rfl)|(apply S.indexR;exact rfl;exact rfl;exact rfl;exact hby;omega;exact rfl)|(apply S.indexU (i + k);(iterate 4 exact rfl);omega;omega)|(apply S.loadU;(iterate 4 exact rfl);exact hz)|(apply S.storeU;(iterate 4 exact rfl);omega)|(apply S.cmp;(iterate 4 exact rfl)) | apply S.nil | apply T.regs | apply T.reg|(apply T.cT;exact rfl;assumption) | apply T.seq|(apply T.skip;first | change T _ _ _ _ _ | change Done _ _ _ _ _ | change Next _ _ _ _ _ _ | skip) | apply T.block)
   change Next _ _ _ _ _ _
   exact Next.go ⟨k + 1, m1.set (i + k) ((c + (p + z)) % 4294967296), (c + (p + z)) / 4294967296⟩ ⟨by dsimp only;omega, mul_step hin hxl hy hyl hz (Nat.mod_lt _ (by decide)) (by rw [← hp];dsimp only;omega) (by dsimp only;omega)⟩ (by dsimp only;omega) (.cons rfl rfl (.cons rfl rfl (.cons rfl rfl (.cons (by rw [← hq];rfl) rfl (.cons rfl rfl (.cons rfl rfl (.cons rfl rfl (.cons rfl rfl (.cons rfl rfl (.cons rfl rfl (.cons rfl rfl (.cons rfl rfl (.cons rfl rfl .nil))))))))))))) (.live rfl (.live rfl (.live rfl (.live (wsA_under _ _ _) .nil))))
  ·have h4 : ¬ (k : Int) < ((wq b).length : Nat) := by omega
   obtain rfl : k = b.length := by omega
   have hr : IntKind.u32.wrap (c : Int) = (c : Int) := wrap32s hcl
   repeat' (first|(apply S.move;exact rfl;exact rfl)|(apply S.fieldP;exact rfl;exact rfl;exact rfl)|(apply S.loadP;(iterate 4 exact rfl))|(apply S.arith;(iterate 4 exact rfl);omega)|(apply S.convW;exact rfl;exact hr;exact rfl)|(apply S.indexU (i + b.length);(iterate 4 exact rfl);omega;omega)|(apply S.storeU;(iterate 4 exact rfl);omega)|(apply S.cmp;(iterate 4 exact rfl))|(apply S.lenR;exact rfl;exact rfl) | apply S.nil | apply T.regs | apply T.reg|(apply T.cF;exact rfl;assumption) | apply T.seq|(apply T.exit;first | change T _ _ _ _ _ | change Done _ _ _ _ _ | change Next _ _ _ _ _ _ | skip))
   change Next _ _ _ _ _ _
   exact Next.go ⟨i + 1, m1.set (i + b.length) c⟩ ⟨by dsimp only;omega, mul_out hin hx⟩ (by dsimp only;omega) (.cons rfl rfl (.cons rfl rfl (.cons rfl rfl (.cons rfl rfl (.cons rfl rfl (.cons rfl rfl (.cons rfl rfl .nil))))))) (.live rfl (.live rfl (.live rfl (.live (wsA_under _ _ _) .nil))))
 ·have h3 : ¬ (i : Int) < ((wq a).length : Nat) := by omega
  obtain rfl : i = a.length := by omega
  repeat' (first|(apply S.move;exact rfl;exact rfl)|(apply S.fieldP;exact rfl;exact rfl;exact rfl)|(apply S.loadP;(iterate 4 exact rfl))|(refine T.freeze 5 rfl rfl (ownRows_ws .u32 m hm.symm) ?_)|(apply S.boolNeB;(iterate 4 exact rfl))|(apply S.call;exact rfl;exact rfl;exact num_trimmed' m (val a * val b) hinv.2.1 (by omega) (mul_end hinv);exact rfl)|(apply T.draw 8 anyOrder (by decide +kernel);simp only [List.take_succ_cons, List.take_zero, List.drop_succ_cons, List.drop_zero])|(apply S.store;(iterate 7 exact rfl))|(apply S.cmp;(iterate 4 exact rfl))|(apply S.build;exact rfl;exact rfl;exact rfl) | apply S.nil | apply T.regs|(apply T.cF;exact rfl;assumption) | apply T.seq|(apply T.ret;change Done _ _ _ _ _)|(apply T.exit;first | change T _ _ _ _ _ | change Done _ _ _ _ _ | change Next _ _ _ _ _ _ | skip))
  exact ⟨.inr rfl, [rowA [.val (.bool (s != t)), .sl (wq (wds (val a * val b)))]], .cons (Res.row [.val (.bool (s != t)), .sl (wq (wds (val a * val b)))] rfl rfl rfl rfl rfl) .nil, .one (.agg (outL_refl _))⟩
theorem num_times (s : Bool) (a : Nat) (t : Bool) (b : Nat) (ha : (wds a).length ≤ 1000) (hb : (wds b).length ≤ 1000) : Fn0 Tryz.prog 136 [rowA (numR s a), rowA (numR t b)] (rowA (numR (s != t) (a * b))) := by
 have := num_times_l s t a b (wds a) (wds b) rfl rfl (wds_dig a) (wds_dig b) ha hb
 rwa [wds_val, wds_val] at this
end Go.Proofs.YtlncmkafjjomgaaGreat
set_option linter.unusedSimpArgs false
namespace Go.Proofs.YtlncmkafjjomgaaGreat
set_option linter.unusedVariables false
open Go.RowKit
abbrev exR (x : Ex) : List Lf := numR x.s x.n ++ numR false x.d
theorem bd_n {x : Ex} {k : Nat} (h : x.bd k) (hk : k ≤ 1000) : (wds x.n).length ≤ 1000 := Nat.le_trans (wds_len h.1) hk
theorem bd_d {x : Ex} {k : Nat} (h : x.bd k) (hk : k ≤ 1000) : (wds x.d).length ≤ 1000 := Nat.le_trans (wds_len h.2.1) hk
theorem wds_le {n k : Nat} (h : n < 4294967296 ^ k) (hk : k ≤ 1000) : (wds n).length ≤ 1000 := Nat.le_trans (wds_len h) hk
set_option maxHeartbeats 4000000 in
theorem ex_of (q : Rat) (hq : Fits q) : Fn0 Tryz.prog 68 [rowA (frR q)] (rowA (exR (Ex.ofQ q))) := by
 obtain ⟨h1, h2⟩ := hq
 have hd := q.den_pos
 have c1 := num_integer q.num (by omega) (by omega)
 have c2 : Fn0 Tryz.prog 103 [.i q.den] (rowA (numR false q.den)) := by
  have := num_integer (q.den : Int) (by omega) (by omega)
  rwa [decide_eq_false (show ¬ (q.den : Int) < 0 by omega), Int.natAbs_natCast] at this
 refine Fn0.of Tryz.func68 Tryz.ntmps68 rfl rfl rfl ?_
 simp only [entryTm]
 repeat' (first|(apply S.fieldP;exact rfl;exact rfl;exact rfl)|(apply S.loadP;(iterate 4 exact rfl))|(apply S.call;exact rfl;exact rfl;exact c1;exact rfl)|(apply S.call;exact rfl;exact rfl;exact c2;exact rfl)|(apply T.draw 7 anyOrder (by decide +kernel);simp only [List.take_succ_cons, List.take_zero, List.drop_succ_cons, List.drop_zero])|(apply S.box;(iterate 6 exact rfl))|(apply S.alloc;(iterate 5 exact rfl))|(apply S.store;(iterate 7 exact rfl))|(apply S.build;exact rfl;exact rfl;exact rfl) | apply S.nil | apply T.regs|(apply T.ret;change Done _ _ _ _ _))
 exact ⟨.inr rfl, [rowA (exR (Ex.ofQ q))], .cons (Res.row (exR (Ex.ofQ q)) rfl rfl rfl rfl rfl) .nil, .one (.agg (outL_refl (exR (Ex.ofQ q))))⟩
theorem ex_thousandth (n : Int) (h0 : -9223372036854775808 ≤ n) (h1 : n ≤ 9223372036854775807) : Fn0 Tryz.prog 107 [.i n] (rowA (exR (Ex.ofI n 1000))) := by
 have c1 := num_integer n h0 h1
 have c2 : Fn0 Tryz.prog 103 [.i 1000] (rowA (numR false 1000)) := num_integer 1000 (by omega) (by omega)
 refine Fn0.of Tryz.func107 Tryz.ntmps107 rfl rfl rfl ?_
 simp only [entryTm]
 repeat' (first|(apply S.move;exact rfl;exact rfl)|(apply S.call;exact rfl;exact rfl;exact c1;exact rfl)|(apply S.call;exact rfl;exact rfl;exact c2;exact rfl)|(apply S.alloc;(iterate 5 exact rfl))|(apply S.store;(iterate 7 exact rfl))|(apply S.build;exact rfl;exact rfl;exact rfl) | apply S.nil | apply T.regs|(apply T.ret;change Done _ _ _ _ _))
 exact ⟨.inr rfl, [rowA (exR (Ex.ofI n 1000))], .cons (Res.row (exR (Ex.ofI n 1000)) rfl rfl rfl rfl rfl) .nil, .one (.agg (outL_refl (exR (Ex.ofI n 1000))))⟩
set_option maxHeartbeats 4000000 in
theorem ex_times {x y : Ex} {j k : Nat} (hx : x.bd j) (hy : y.bd k) (hj : j ≤ 400) (hk : k ≤ 400) : Fn0 Tryz.prog 102 [rowA (exR x), rowA (exR y)] (rowA (exR (x.times y))) := by
 have c1 := num_times x.s x.n y.s y.n (bd_n hx (by omega)) (bd_n hy (by omega))
 have c2 := num_times false x.d false y.d (bd_d hx (by omega)) (bd_d hy (by omega))
 refine Fn0.of Tryz.func102 Tryz.ntmps102 rfl rfl rfl ?_
 simp only [entryTm]
 repeat' (first|(apply S.fieldP;exact rfl;exact rfl;exact rfl)|(apply S.call;exact rfl;exact rfl;exact c1;exact rfl)|(apply S.call;exact rfl;exact rfl;exact c2;exact rfl)|(apply T.draw 11 anyOrder (by decide +kernel);simp only [List.take_succ_cons, List.take_zero, List.drop_succ_cons, List.drop_zero])|(apply S.loadPA;(iterate 4 exact rfl))|(apply S.box;(iterate 6 exact rfl))|(apply S.alloc;(iterate 5 exact rfl))|(apply S.store;(iterate 7 exact rfl))|(apply S.build;exact rfl;exact rfl;exact rfl) | apply S.nil | apply T.regs|(apply T.ret;change Done _ _ _ _ _))
 exact ⟨.inr rfl, [rowA (exR (x.times y))], .cons (Res.row (exR (x.times y)) rfl rfl rfl rfl rfl) .nil, .one (.agg (outL_refl (exR (x.times y))))⟩
set_option maxHeartbeats 4000000 in
theorem ex_plus {x y : Ex} {j k : Nat} (hx : x.bd j) (hy : y.bd k) (hj : j ≤ 400) (hk : k ≤ 400) : Fn0 Tryz.prog 101 [rowA (exR x), rowA (exR y)] (rowA (exR (x.plus y))) := by
 have c1 := num_times x.s x.n false y.d (bd_n hx (by omega)) (bd_d hy (by omega))
 have c2 := num_times y.s y.n false x.d (bd_n hy (by omega)) (bd_d hx (by omega))
 have c3 := num_times false x.d false y.d (bd_d hx (by omega)) (bd_d hy (by omega))
 have c4 := num_plus (x.s != false) (x.n * y.d) (y.s != false) (y.n * x.d) (wds_le (mul_bd hx.1 hy.2.1) (by omega)) (wds_le (mul_bd hy.1 hx.2.1) (by omega))
 refine Fn0.of Tryz.func101 Tryz.ntmps101 rfl rfl rfl ?_
 simp only [entryTm]
 repeat' (first|(apply S.fieldP;exact rfl;exact rfl;exact rfl)|(apply S.call;exact rfl;exact rfl;exact c1;exact rfl)|(apply S.call;exact rfl;exact rfl;exact c2;exact rfl)|(apply S.call;exact rfl;exact rfl;exact c3;exact rfl)|(apply S.call;exact rfl;exact rfl;exact c4;exact rfl)|(apply T.draw 17 anyOrder (by decide +kernel);simp only [List.take_succ_cons, List.take_zero, List.drop_succ_cons, List.drop_zero])|(apply S.loadPA;(iterate 4 exact rfl))|(apply S.box;(iterate 6 exact rfl))|(apply S.alloc;(iterate 5 exact rfl))|(apply S.store;(iterate 7 exact rfl))|(apply S.build;exact rfl;exact rfl;exact rfl) | apply S.nil | apply T.regs|(apply T.ret;change Done _ _ _ _ _))
 exact ⟨.inr rfl, [rowA (exR (x.plus y))], .cons (Res.row (exR (x.plus y)) rfl rfl rfl rfl rfl) .nil, .one (.agg (outL_refl (exR (x.plus y))))⟩
set_option maxHeartbeats 4000000 in
theorem ex_less {x y : Ex} {j k : Nat} (hx : x.bd j) (hy : y.bd k) (hj : j ≤ 400) (hk : k ≤ 400) : Fn0 Tryz.prog 100 [rowA (exR x), rowA (exR y)] (rowA (exR (x.less y))) := by
 have c1 := num_opposite y.s y.n
 have c2 := ex_plus (y := ⟨!y.s, y.n, y.d⟩) hx ⟨hy.1, hy.2.1, hy.2.2⟩ hj hk
 refine Fn0.of Tryz.func100 Tryz.ntmps100 rfl rfl rfl ?_
 simp only [entryTm]
 repeat' (first|(apply S.fieldP;exact rfl;exact rfl;exact rfl)|(apply S.call;exact rfl;exact rfl;exact c1;exact rfl)|(apply S.call;exact rfl;exact rfl;exact c2;exact rfl)|(apply T.draw 8 anyOrder (by decide +kernel);simp only [List.take_succ_cons, List.take_zero, List.drop_succ_cons, List.drop_zero])|(apply S.loadPA;(iterate 4 exact rfl))|(apply S.box;(iterate 6 exact rfl))|(apply S.alloc;(iterate 5 exact rfl))|(apply S.store;(iterate 7 exact rfl))|(apply S.build;exact rfl;exact rfl;exact rfl) | apply S.nil | apply T.regs|(apply T.ret;change Done _ _ _ _ _))
 exact ⟨.inr rfl, [rowA (exR (x.less y))], .cons (Res.row (exR (x.less y)) rfl rfl rfl rfl rfl) .nil, .one (.agg (outL_refl (exR (x.less y))))⟩
theorem ex_sign {x : Ex} {j : Nat} (hx : x.bd j) : Fn0 Tryz.prog 69 [rowA (exR x)] (.i x.val.num.sign) := by
 have c1 := num_sign x.s x.n
 rw [show (if x.n = 0 then (0 : Int) else if x.s then -1 else 1) = x.val.num.sign from Ex.sign_val hx.2.2] at c1
 refine Fn0.of Tryz.func69 Tryz.ntmps69 rfl rfl rfl ?_
 simp only [entryTm]
 repeat' (first|(apply S.assign;exact rfl;exact rfl)|(apply S.fieldP;exact rfl;exact rfl;exact rfl)|(apply S.call;exact rfl;exact rfl;exact c1;exact rfl)|(apply S.loadPA;(iterate 4 exact rfl))|(apply S.box;(iterate 6 exact rfl)) | apply S.nil | apply T.regs|(apply T.ret;change Done _ _ _ _ _))
 exact doneV (by simp) Tryz.results69 rfl rfl
structure Pt where
 f : Ex
 a : Ex
 b : Ex
 c : Ex
abbrev ptR (p : Pt) : List Lf := exR p.f ++ exR p.a ++ exR p.b ++ exR p.c
structure Pt.ok (p : Pt) : Prop where
 f : p.f.bd 2
 a : p.a.bd 2
 b : p.b.bd 2
 c : p.c.bd 2
def Pt.value (p : Pt) (t : Ex) : Ex := p.a.plus ((p.b.plus (p.c.times (t.less p.f))).times (t.less p.f))
def Pt.slope (p : Pt) (t : Ex) : Ex := (p.b.plus (p.c.times (t.less p.f))).plus (p.c.times (t.less p.f))
set_option maxHeartbeats 4000000 in
theorem pt_value (p : Pt) (t : Ex) (hp : p.ok) (ht : t.bd 2) : Fn0 Tryz.prog 67 [rowA (ptR p), rowA (exR t)] (rowA (exR (p.value t))) := by
 have b1 := Ex.bd_less ht hp.f
 have b2 := Ex.bd_times hp.c b1
 have b3 := Ex.bd_plus hp.b b2
 have b4 := Ex.bd_times b3 b1
 have c1 := ex_less ht hp.f (by omega) (by omega)
 have c2 := ex_times hp.c b1 (by omega) (by omega)
 have c3 := ex_plus hp.b b2 (by omega) (by omega)
 have c4 := ex_times b3 b1 (by omega) (by omega)
 have c5 := ex_plus hp.a b4 (by omega) (by omega)
 refine Fn0.of Tryz.func67 Tryz.ntmps67 rfl rfl rfl ?_
 simp only [entryTm]
 repeat' (first|(apply S.fieldP;exact rfl;exact rfl;exact rfl)|(apply S.call;exact rfl;exact rfl;exact c1;exact rfl)|(apply S.call;exact rfl;exact rfl;exact c2;exact rfl)|(apply S.call;exact rfl;exact rfl;exact c3;exact rfl)|(apply S.call;exact rfl;exact rfl;exact c4;exact rfl)|(apply S.call;exact rfl;exact rfl;exact c5;exact rfl)|(apply T.draw 12 anyOrder (by decide +kernel);simp only [List.take_succ_cons, List.take_zero, List.drop_succ_cons, List.drop_zero])|(apply S.loadPA;(iterate 4 exact rfl))|(apply S.box;(iterate 6 exact rfl))|(apply S.alloc;(iterate 5 exact rfl))|(apply S.store;(iterate 7 exact rfl)) | apply S.nil | apply T.regs|(apply T.ret;change Done _ _ _ _ _))
 exact ⟨.inr rfl, [rowA (exR (p.value t))], .cons (Res.row (exR (p.value t)) rfl rfl rfl rfl rfl) .nil, .one (.agg (outL_refl (exR (p.value t))))⟩
set_option maxHeartbeats 4000000 in
theorem pt_slope (p : Pt) (t : Ex) (hp : p.ok) (ht : t.bd 2) : Fn0 Tryz.prog 106 [rowA (ptR p), rowA (exR t)] (rowA (exR (p.slope t))) := by
 have b1 := Ex.bd_less ht hp.f
 have b2 := Ex.bd_times hp.c b1
 have b3 := Ex.bd_plus hp.b b2
 have c1 := ex_less ht hp.f (by omega) (by omega)
 have c2 := ex_times hp.c b1 (by omega) (by omega)
 have c3 := ex_plus hp.b b2 (by omega) (by omega)
 have c4 := ex_plus b3 b2 (by omega) (by omega)
 refine Fn0.of Tryz.func106 Tryz.ntmps106 rfl rfl rfl ?_
 simp only [entryTm]
 repeat' (first|(apply S.fieldP;exact rfl;exact rfl;exact rfl)|(apply S.call;exact rfl;exact rfl;exact c1;exact rfl)|(apply S.call;exact rfl;exact rfl;exact c2;exact rfl)|(apply S.call;exact rfl;exact rfl;exact c3;exact rfl)|(apply S.call;exact rfl;exact rfl;exact c4;exact rfl)|(apply T.draw 6 anyOrder (by decide +kernel);simp only [List.take_succ_cons, List.take_zero, List.drop_succ_cons, List.drop_zero])|(apply T.drawAll anyOrder (by decide +kernel))|(apply S.loadPA;(iterate 4 exact rfl))|(apply S.box;(iterate 6 exact rfl))|(apply S.alloc;(iterate 5 exact rfl))|(apply S.store;(iterate 7 exact rfl))|(apply S.storeD;(iterate 8 exact rfl)) | apply S.nil | apply T.regs|(apply T.ret;change Done _ _ _ _ _))
 exact ⟨.inr rfl, [rowA (exR (p.slope t))], .cons (Res.row (exR (p.slope t)) rfl rfl rfl rfl rfl) .nil, .one (.agg (outL_refl (exR (p.slope t))))⟩
theorem bd_value {p : Pt} {t : Ex} (hp : p.ok) (ht : t.bd 2) : (p.value t).bd 21 := by
 have b1 := Ex.bd_less ht hp.f
 have b4 := Ex.bd_times (Ex.bd_plus hp.b (Ex.bd_times hp.c b1)) b1
 exact (Ex.bd_plus hp.a b4).mono (by omega)
theorem bd_slope {p : Pt} {t : Ex} (hp : p.ok) (ht : t.bd 2) : (p.slope t).bd 21 := by
 have b1 := Ex.bd_less ht hp.f
 have b2 := Ex.bd_times hp.c b1
 exact (Ex.bd_plus (Ex.bd_plus hp.b b2) b2).mono (by omega)
def sgQ (r : Rat) : Int := r.num.sign
abbrev four : Ex := Ex.ofI 4 1
def Pt.disc (p : Pt) : Ex := ((four.times p.a).times p.c).less (p.b.times p.b)
def Pt.belowS (p : Pt) (a b : Ex) : Prop := 0 < sgQ (b.less a).val ∧ ((sgQ (p.value a).val < 0 ∨ sgQ (p.value b).val < 0) ∨ (0 < sgQ p.c.val ∧ sgQ (p.slope a).val < 0 ∧ 0 < sgQ (p.slope b).val ∧ sgQ p.disc.val < 0))
instance (p : Pt) (a b : Ex) : Decidable (p.belowS a b) := by unfold Pt.belowS;exact inferInstance
set_option maxHeartbeats 16000000 in
theorem pt_below (p : Pt) (a b : Ex) (hp : p.ok) (ha : a.bd 2) (hb : b.bd 2) : Fn0 Tryz.prog 71 [rowA (ptR p), rowA (exR a), rowA (exR b)] (.b (decide (p.belowS a b))) := by
 have hf : four.bd 1 := by unfold Ex.bd four Ex.ofI;decide
 have b1 := Ex.bd_less hb ha
 have b2 := Ex.bd_times hf hp.a
 have b3 := Ex.bd_times b2 hp.c
 have b4 := Ex.bd_times hp.b hp.b
 have b5 := Ex.bd_less b3 b4
 have c1 := ex_less hb ha (by omega) (by omega)
 have s1 : Fn0 Tryz.prog 69 [rowA (exR (b.less a))] (.i (sgQ (b.less a).val)) := ex_sign b1
 have v1 := pt_value p a hp ha
 have v2 := pt_value p b hp hb
 have s2 : Fn0 Tryz.prog 69 [rowA (exR (p.value a))] (.i (sgQ (p.value a).val)) := ex_sign (bd_value hp ha)
 have s3 : Fn0 Tryz.prog 69 [rowA (exR (p.value b))] (.i (sgQ (p.value b).val)) := ex_sign (bd_value hp hb)
 have s4 : Fn0 Tryz.prog 69 [rowA (exR p.c)] (.i (sgQ p.c.val)) := ex_sign hp.c
 have l1 := pt_slope p a hp ha
 have l2 := pt_slope p b hp hb
 have s5 : Fn0 Tryz.prog 69 [rowA (exR (p.slope a))] (.i (sgQ (p.slope a).val)) := ex_sign (bd_slope hp ha)
 have s6 : Fn0 Tryz.prog 69 [rowA (exR (p.slope b))] (.i (sgQ (p.slope b).val)) := ex_sign (bd_slope hp hb)
 have n1 : Fn0 Tryz.prog 103 [.i 4] (rowA (numR false 4)) := num_integer 4 (by omega) (by omega)
 have n2 : Fn0 Tryz.prog 103 [.i 1] (rowA (numR false 1)) := num_integer 1 (by omega) (by omega)
 have t1 : Fn0 Tryz.prog 102 [rowA (numR false 4 ++ numR false 1), rowA (exR p.a)] (rowA (exR (four.times p.a))) := ex_times hf hp.a (by omega) (by omega)
 have t2 := ex_times b2 hp.c (by omega) (by omega)
 have t3 := ex_times hp.b hp.b (by omega) (by omega)
 have t4 := ex_less b3 b4 (by omega) (by omega)
 have s7 : Fn0 Tryz.prog 69 [rowA (exR p.disc)] (.i (sgQ p.disc.val)) := ex_sign b5
 refine Fn0.of Tryz.func71 Tryz.ntmps71 rfl rfl rfl ?_
 simp only [entryTm]
 repeat' (first|(apply S.move;exact rfl;exact rfl)|(apply S.assign;exact rfl;exact rfl)|(apply S.gCN;(iterate 4 exact rfl))|(apply S.gFF;exact rfl;exact rfl;assumption)|(apply S.gFT;exact rfl;exact rfl;assumption;exact rfl)|(apply S.fieldP;exact rfl;exact rfl;exact rfl)|(apply S.pC;exact rfl;exact rfl;exact rfl)|(apply S.pTp;exact rfl;assumption;exact rfl;exact rfl)|(apply S.pFp;exact rfl;assumption;exact rfl;exact rfl)|(apply S.call;exact rfl;exact rfl;exact c1;exact rfl)|(apply S.call;exact rfl;exact rfl;exact s1;exact rfl)|(apply S.call;exact rfl;exact rfl;exact v1;exact rfl)|(apply S.call;exact rfl;exact rfl;exact s2;exact rfl)|(apply S.call;exact rfl;exact rfl;exact v2;exact rfl)|(apply S.call;exact rfl;exact rfl;exact s3;exact rfl)|(apply S.call;exact rfl;exact rfl;exact s4;exact rfl)|(apply S.call;exact rfl;exact rfl;exact l1;exact rfl)|(apply S.call;exact rfl;exact rfl;exact l2;exact rfl)|(apply S.call;exact rfl;exact rfl;exact s5;exact rfl)|(apply S.call;exact rfl;exact rfl;exact s6;exact rfl)|(apply S.call;exact rfl;exact rfl;exact n1;exact rfl)|(apply S.call;exact rfl;exact rfl;exact n2;exact rfl)|(apply S.call;exact rfl;exact rfl;exact t1;exact rfl)|(apply S.call;exact rfl;exact rfl;exact t2;exact rfl)|(apply S.call;exact rfl;exact rfl;exact t3;exact rfl)|(apply S.call;exact rfl;exact rfl;exact t4;exact rfl)|(apply S.call;exact rfl;exact rfl;exact s7;exact rfl)|(apply T.draw 15 anyOrder (by decide +kernel);simp only [List.take_succ_cons, List.take_zero, List.drop_succ_cons, List.drop_zero])|(apply S.loadPA;(iterate 4 exact rfl))|(apply S.box;(iterate 6 exact rfl))|(apply S.alloc;(iterate 5 exact rfl))|(apply S.store;(iterate 7 exact rfl))|(apply S.cmp;(iterate 4 exact rfl))|(apply S.build;exact rfl;exact rfl;exact rfl)|(apply S.gsF;exact rfl;exact rfl;exact rfl;intro hc;rotate_left;intro hc;rotate_right) | apply S.nil | apply T.regs|(apply T.cC;exact rfl)|(apply T.cS;exact rfl;intro hc;rotate_left;intro hc;rotate_right) | apply T.seq|(apply T.skip;first | change T _ _ _ _ _ | change Done _ _ _ _ _ | change Next _ _ _ _ _ _ | skip)|(apply T.ret;change Done _ _ _ _ _))
 all_goals first
  | exact doneV (by simp) Tryz.results71 rfl (congrArg Value.bool (by symm;apply decide_eq_false;unfold Pt.belowS;omega))
  | exact doneV (by simp) Tryz.results71 rfl (congrArg Value.bool (by symm;apply decide_eq_true;unfold Pt.belowS;omega))
  | exact doneV (by simp) Tryz.results71 rfl (congrArg Value.bool (decide_eq_decide.2 (by unfold Pt.belowS;omega)))
def Pt.ofQ (f a b c : Rat) : Pt := ⟨Ex.ofQ f, Ex.ofQ a, Ex.ofQ b, Ex.ofQ c⟩
theorem bd_ofQ {q : Rat} (h : Fits q) : (Ex.ofQ q).bd 2 := by
 obtain ⟨h1, h2⟩ := h
 have : (4294967296 : Nat) ^ 2 = 18446744073709551616 := by decide
 refine ⟨?_, ?_, q.den_pos⟩ <;> (unfold Ex.ofQ;dsimp only;omega)
set_option maxHeartbeats 4000000 in
theorem pt_of (f a b c : Rat) (hf : Fits f) (ha : Fits a) (hb : Fits b) (hc : Fits c) : Fn0 Tryz.prog 66 [rowA (frR f ++ frR a ++ frR b ++ frR c)] (rowA (ptR (Pt.ofQ f a b c))) := by
 have c1 := ex_of f hf
 have c2 := ex_of a ha
 have c3 := ex_of b hb
 have c4 := ex_of c hc
 refine Fn0.of Tryz.func66 Tryz.ntmps66 rfl rfl rfl ?_
 simp only [entryTm]
 repeat' (first|(apply S.fieldP;exact rfl;exact rfl;exact rfl)|(apply S.call;exact rfl;exact rfl;exact c1;exact rfl)|(apply S.call;exact rfl;exact rfl;exact c2;exact rfl)|(apply S.call;exact rfl;exact rfl;exact c3;exact rfl)|(apply S.call;exact rfl;exact rfl;exact c4;exact rfl)|(apply T.draw 13 anyOrder (by decide +kernel);simp only [List.take_succ_cons, List.take_zero, List.drop_succ_cons, List.drop_zero])|(apply S.loadPA;(iterate 4 exact rfl))|(apply S.box;(iterate 6 exact rfl))|(apply S.alloc;(iterate 5 exact rfl))|(apply S.store;(iterate 7 exact rfl))|(apply S.build;exact rfl;exact rfl;exact rfl) | apply S.nil | apply T.regs|(apply T.ret;change Done _ _ _ _ _))
 exact ⟨.inr rfl, [rowA (ptR (Pt.ofQ f a b c))], .cons (Res.row (ptR (Pt.ofQ f a b c)) rfl rfl rfl rfl rfl) .nil, .one (.agg (outL_refl (ptR (Pt.ofQ f a b c))))⟩
end Go.Proofs.YtlncmkafjjomgaaGreat
