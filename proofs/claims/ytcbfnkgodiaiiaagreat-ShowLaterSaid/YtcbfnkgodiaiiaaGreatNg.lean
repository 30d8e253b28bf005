/- Contracts: numbers by their words: integer, plus, times. No conditions but those of each statement. -/
import Derived.Test.YtcbfnkgodiaiiaaGreatNf
set_option linter.unusedSimpArgs false
set_option linter.unusedVariables false
namespace Go.Proofs.YtcbfnkgodiaiiaaGreat
open Go.RowKit
theorem Aax (u : Nat) : val [u % 4294967296, u / 4294967296] = u := by simp only [val];omega
theorem Ac2 {u : Nat} (h : u < 18446744073709551616) : Dig [u % 4294967296, u / 4294967296] := by
 intro x hx
 simp only [List.mem_cons, List.not_mem_nil, or_false] at hx
 omega
set_option maxHeartbeats 4000000 in
theorem Fd (n : Int) (h0 : -9223372036854775808 <= n) (h1 : n <= 9223372036854775807) : Fn0 Tryz.prog 184 [.i n] (A1 (C6 (decide (n < 0)) n.natAbs)) := by
 obtain ⟨u, hu⟩ : ∃ u : Nat, u = n.natAbs := ⟨_, rfl⟩
 have hT := Ft [u % 4294967296, u / 4294967296] n.natAbs (Ac2 (by omega)) (by simp) (by rw [Aax, hu])
 have c2 : IntKind.u32.wrap (u : Int) = ((u % 4294967296 : Nat) : Int) := Adk u
 have c3 : IntKind.u32.wrap ((u : Int) / 4294967296) = ((u / 4294967296 : Nat) : Int) := by rw [Cl];omega
 by_cases hn : n < 0
 ·have c1 : IntKind.u64.wrap n = n + 18446744073709551616 := by rw [Cv];omega
  have c4 : IntKind.u64.wrap (-(n + 18446744073709551616)) = (u : Int) := by rw [Cv];omega
  refine Fn0.of Tryz.func184 Tryz.ntmps184 rfl rfl rfl ?_
  simp only [A2]
  repeat' (first | refine W ?_|(apply S.convW;exact rfl;exact c1;exact rfl)|(apply S.convW;exact rfl;exact c2;exact rfl)|(apply S.convW;exact rfl;exact c3;exact rfl)|(apply S.negU;exact rfl;exact c4;exact rfl)|(apply S.shr32;exact rfl;exact rfl;exact rfl)|(apply S.buildSliceF;(iterate 8 exact rfl))|refine Zc hT ?_ | refine V ?_|(refine W2 ?_ ?_ <;> intro hc))
  exact ⟨.inr rfl, [A1 (C6 (decide (n < 0)) n.natAbs)], .cons (Res.row (C6 (decide (n < 0)) n.natAbs) rfl rfl rfl rfl rfl) .nil, .one (.agg (A7 (C6 (decide (n < 0)) n.natAbs)))⟩
 ·have c1 : IntKind.u64.wrap n = (u : Int) := by rw [Cv];omega
  refine Fn0.of Tryz.func184 Tryz.ntmps184 rfl rfl rfl ?_
  simp only [A2]
  repeat' (first | refine W ?_|(apply S.convW;exact rfl;exact c1;exact rfl)|(apply S.convW;exact rfl;exact c2;exact rfl)|(apply S.convW;exact rfl;exact c3;exact rfl)|(apply S.shr32;exact rfl;exact rfl;exact rfl)|(apply S.buildSliceF;(iterate 8 exact rfl))|refine Zc hT ?_ | refine V ?_|(refine W2 ?_ ?_ <;> intro hc))
  exact ⟨.inr rfl, [A1 (C6 (decide (n < 0)) n.natAbs)], .cons (Res.row (C6 (decide (n < 0)) n.natAbs) rfl rfl rfl rfl rfl) .nil, .one (.agg (A7 (C6 (decide (n < 0)) n.natAbs)))⟩
set_option maxHeartbeats 4000000 in
theorem A9f (s : Bool) (a : Nat) (t : Bool) (b : Nat) (ha : (wds a).length <= 1000) (hb : (wds b).length <= 1000) : Fn0 Tryz.prog 251 [A1 (C6 s a), A1 (C6 t b)] (A1 (C6 (Hs s a t b).1 (Hs s a t b).2)) := by
 have c1 := A78 a b ha hb
 have c2 := Uk (wds a) (wds b) ha hb
 by_cases hab : a < b
 ·have c3 := V3 b a hb (by omega)
  have hc : Ms (wds a) (wds b) < 0 := (Z5 a b).2 hab
  cases s <;> cases t <;>
  ·simp only [Hs, hab, if_true, if_false, Bool.false_eq_true, Bool.true_eq_false, reduceCtorEq]
   refine Fn0.of Tryz.func251 Tryz.ntmps251 rfl rfl rfl ?_
   simp only [A2]
   repeat' (first | refine W ?_|(apply S.boolEqB;(iterate 4 exact rfl))|(apply S.boolNeB;(iterate 4 exact rfl))|refine Zc c1 ?_|refine Zc c2 ?_|refine Zc c3 ?_|(apply T.draw 8 A0 (by decide +kernel);simp only [td])|(apply T.drawR 8 A0 (by decide +kernel);simp only [td]) | refine V ?_|(refine W2 ?_ ?_ <;> intro hc))
   exact ⟨.inr rfl, [A1 (C6 _ _)], .cons (Res.row (C6 _ _) rfl rfl rfl rfl rfl) .nil, .one (.agg (A7 (C6 _ _)))⟩
 ·have c3 := V3 a b ha (by omega)
  have hc : ¬ Ms (wds a) (wds b) < 0 := fun h => hab ((Z5 a b).1 h)
  cases s <;> cases t <;>
  ·simp only [Hs, hab, if_true, if_false, Bool.false_eq_true, Bool.true_eq_false, reduceCtorEq]
   refine Fn0.of Tryz.func251 Tryz.ntmps251 rfl rfl rfl ?_
   simp only [A2]
   repeat' (first | refine W ?_|(apply S.boolEqB;(iterate 4 exact rfl))|(apply S.boolNeB;(iterate 4 exact rfl))|refine Zc c1 ?_|refine Zc c2 ?_|refine Zc c3 ?_|(apply T.draw 8 A0 (by decide +kernel);simp only [td])|(apply T.drawR 8 A0 (by decide +kernel);simp only [td]) | refine V ?_|(refine W2 ?_ ?_ <;> intro hc))
   exact ⟨.inr rfl, [A1 (C6 _ _)], .cons (Res.row (C6 _ _) rfl rfl rfl rfl rfl) .nil, .one (.agg (A7 (C6 _ _)))⟩
structure MulO where
 i : Nat
 m : List Nat
set_option maxHeartbeats 16000000 in
theorem A0g (s t : Bool) (na nb : Nat) (a b : List Nat) (hwa : wds na = a) (hwb : wds nb = b) (da : Dig a) (db : Dig b) (hla : a.length <= 1000) (hlb : b.length <= 1000) :
  Fn0 Tryz.prog 250 [A1 [.val (.bool s), .sl (wq a)], A1 [.val (.bool t), .sl (wq b)]] (A1 [.val (.bool (s != t)), .sl (wq (wds (val a * val b)))]) := by
 have e1 : (wq a).length = a.length := D1 _ _
 have e2 : (wq b).length = b.length := D1 _ _
 have h1 : (((wq a).length : Nat) : Int) + ((wq b).length : Nat) = ((a.length + b.length : Nat) : Int) := by omega
 refine Fn0.of Tryz.func250 Tryz.ntmps250 rfl rfl rfl ?_
 simp only [A2]
 repeat' (first | refine W ?_|refine Za ?_|(apply S.lenO;exact rfl;exact rfl;exact rfl)|(apply S.makeU (n := a.length + b.length);exact rfl;rw [<- h1];exact rfl;omega;exact rfl;exact rfl) | refine V ?_|(refine W2 ?_ ?_ <;> intro hc))
 refine T.loopS (fun (o : MulO) => o.i <= a.length /\ Om a b o.m o.i) (fun o => a.length - o.i) (fun o => [(22, .i o.i), (21, .i ((wq a).length : Nat)), (20, .sl (wq a)), (5, .own 3 0 (a.length + b.length) 1), (2, .ptr 0 0), (3, .ptr 1 0), (4, .ptr 2 0)])
  (fun o => [.live [.val (.bool s), .sl (wq a)], .live [.val (.bool t), .sl (wq b)], .live [.val (.bool false), .val (.slice none 0 0)], .live (wsA .u32 o.m)]) ⟨0, List.replicate (a.length + b.length) 0⟩ ⟨Nat.zero_le _, A62 a b⟩ (.cons rfl rfl CV) (.live rfl (.live rfl (.live rfl (.live (Bl _ _ _) .nil)))) ?_
 rintro ⟨i, m⟩ ⟨hi, hinv⟩
 dsimp only at hi hinv ⊢
 have hm := hinv.1
 by_cases hil : i < a.length
 ·have h3 : (i : Int) < ((wq a).length : Nat) := by omega
  obtain ⟨x, hx⟩ : ∃ x, a[i]? = some x := ⟨a[i], List.getElem?_eq_getElem hil⟩
  have hbx := Ge (k := .u32) hx
  have hxl := da.get hx
  repeat' (first | refine W ?_|refine Za ?_|refine Zi hbx ?_ | refine V ?_|(refine W2 ?_ ?_ <;> intro hc))
  refine T.loopS (fun (q : AddS) => q.i <= b.length /\ Te a b q.m i x q.i q.c) (fun q => b.length - q.i) (fun q => [(30, .i q.i), (29, .i ((wq b).length : Nat)), (28, .sl (wq b)), (8, .val (.int .u64 (q.c : Int))), (7, .val (.int .u32 (x : Int))), (6, .i i), (22, .i i), (21, .i ((wq a).length : Nat)), (20, .sl (wq a)), (5, .own 3 0 (a.length + b.length) 1), (2, .ptr 0 0), (3, .ptr 1 0), (4, .ptr 2 0)])
   (fun q => [.live [.val (.bool s), .sl (wq a)], .live [.val (.bool t), .sl (wq b)], .live [.val (.bool false), .val (.slice none 0 0)], .live (wsA .u32 q.m)]) ⟨0, m, 0⟩ ⟨Nat.zero_le _, Ad1 x hinv⟩ (.cons rfl rfl (.cons rfl rfl (.cons rfl rfl (.cons rfl rfl (.cons rfl rfl CV))))) (.live rfl (.live rfl (.live rfl (.live (Bl _ _ _) .nil)))) ?_
  rintro ⟨k, m1, c⟩ ⟨hk, hin⟩
  dsimp only at hk hin ⊢
  have hm1 := hin.1
  have hcl := hin.2.2.2.2
  by_cases hkl : k < b.length
  ·have h4 : (k : Int) < ((wq b).length : Nat) := by omega
   obtain ⟨y, hy⟩ : ∃ y, b[k]? = some y := ⟨b[k], List.getElem?_eq_getElem hkl⟩
   obtain ⟨z, hz⟩ : ∃ z, m1[i + k]? = some z := ⟨m1[i + k]'(by omega), List.getElem?_eq_getElem (by omega)⟩
   have hby := Ge (k := .u32) hy
   have hyl := db.get hy
   have hzl := hin.2.1.get hz
   obtain ⟨f1, f2⟩ := A9t hxl hyl hzl hcl
   have hxy : (x : Int) * (y : Int) = ((x * y : Nat) : Int) := (Int.natCast_mul x y).symm
   obtain ⟨p, hp⟩ : ∃ p, p = x * y := ⟨_, rfl⟩
   rw [<- hp] at hxy f1 f2
   have hr : IntKind.u32.wrap ((c : Int) + ((x : Int) * (y : Int) + (z : Int))) = (((c + (p + z)) % 4294967296 : Nat) : Int) := by rw [Cl, hxy];omega
   have hq : ((c : Int) + ((x : Int) * (y : Int) + (z : Int))) / 4294967296 = (((c + (p + z)) / 4294967296 : Nat) : Int) := by rw [hxy];omega
   repeat' (first | refine W ?_|refine Za ?_|(apply S.arithU;(iterate 4 exact rfl);rw [hxy];omega)|(apply S.convW;exact rfl;exact Ht (show x < 18446744073709551616 by omega);exact rfl)|(apply S.convW;exact rfl;exact Ht (show y < 18446744073709551616 by omega);exact rfl)|(apply S.convW;exact rfl;exact Ht (show z < 18446744073709551616 by omega);exact rfl)|(apply S.convW;exact rfl;exact hr;exact rfl)|(apply S.shr32;exact rfl;exact rfl;exact rfl)|refine Zi hby ?_|(apply S.indexU (i + k);(iterate 4 exact rfl);omega;omega)|(apply S.loadU;(iterate 4 exact rfl);exact hz)|(apply S.storeU;(iterate 4 exact rfl);omega) | refine V ?_|(refine W2 ?_ ?_ <;> intro hc))
   change Next _ _ _ _ _ _
   exact Next.go ⟨k + 1, m1.set (i + k) ((c + (p + z)) % 4294967296), (c + (p + z)) / 4294967296⟩ ⟨by dsimp only;omega, A7z hin hxl hy hyl hz (Nat.mod_lt _ (by decide)) (by rw [<- hp];dsimp only;omega) (by dsimp only;omega)⟩ (by dsimp only;omega) (.cons rfl rfl (.cons rfl rfl (.cons rfl rfl (.cons (by rw [<- hq];rfl) rfl (.cons rfl rfl CV))))) (.live rfl (.live rfl (.live rfl (.live (Bl _ _ _) .nil))))
  ·have h4 : ¬ (k : Int) < ((wq b).length : Nat) := by omega
   obtain rfl : k = b.length := by omega
   have hr : IntKind.u32.wrap (c : Int) = (c : Int) := Abi hcl
   repeat' (first | refine W ?_|refine Za ?_|(apply S.convW;exact rfl;exact hr;exact rfl)|(apply S.indexU (i + b.length);(iterate 4 exact rfl);omega;omega)|(apply S.storeU;(iterate 4 exact rfl);omega) | refine V ?_|(refine W2 ?_ ?_ <;> intro hc))
   change Next _ _ _ _ _ _
   exact Next.go ⟨i + 1, m1.set (i + b.length) c⟩ ⟨by dsimp only;omega, Abm hin hx⟩ (by dsimp only;omega) (.cons rfl rfl CV) (.live rfl (.live rfl (.live rfl (.live (Bl _ _ _) .nil))))
 ·have h3 : ¬ (i : Int) < ((wq a).length : Nat) := by omega
  obtain rfl : i = a.length := by omega
  repeat' (first | refine W ?_|(refine T.freeze 5 rfl rfl (Jl .u32 m hm.symm) ?_)|(apply S.boolEqB;(iterate 4 exact rfl))|(apply S.boolNeB;(iterate 4 exact rfl))|(apply S.call;exact rfl;exact rfl;exact Ft m (val a * val b) hinv.2.1 (by omega) (Ab1 hinv);exact rfl)|(apply T.draw 8 A0 (by decide +kernel);simp only [td])|(apply T.drawR 8 A0 (by decide +kernel);simp only [td]) | refine V ?_|(refine W2 ?_ ?_ <;> intro hc))
  exact ⟨.inr rfl, [A1 [.val (.bool (s != t)), .sl (wq (wds (val a * val b)))]], .cons (Res.row [.val (.bool (s != t)), .sl (wq (wds (val a * val b)))] rfl rfl rfl rfl rfl) .nil, .one (.agg (A7 _))⟩
theorem Ja (s : Bool) (a : Nat) (t : Bool) (b : Nat) (ha : (wds a).length <= 1000) (hb : (wds b).length <= 1000) : Fn0 Tryz.prog 250 [A1 (C6 s a), A1 (C6 t b)] (A1 (C6 (s != t) (a * b))) := by
 have := A0g s t a b (wds a) (wds b) rfl rfl (Dh a) (Dh b) ha hb
 rwa [Bw, Bw] at this
abbrev exR (x : Ex) : List Lf := C6 x.s x.n ++ C6 false x.d
theorem A33 {x : Ex} {k : Nat} (h : x.bd k) (hk : k <= 1000) : (wds x.n).length <= 1000 := Nat.le_trans (Tu h.1) hk
theorem Ur {x : Ex} {k : Nat} (h : x.bd k) (hk : k <= 1000) : (wds x.d).length <= 1000 := Nat.le_trans (Tu h.2.1) hk
theorem A6c {n k : Nat} (h : n < 4294967296 ^ k) (hk : k <= 1000) : (wds n).length <= 1000 := Nat.le_trans (Tu h) hk
set_option maxHeartbeats 4000000 in
theorem Hy (q : Rat) (hq : Fits q) : Fn0 Tryz.prog 105 [A1 (frR q)] (A1 (exR (Ex.ofQ q))) := by
 obtain ⟨h1, h2⟩ := hq
 have hd := q.den_pos
 have c1 := Fd q.num (by omega) (by omega)
 have c2 : Fn0 Tryz.prog 184 [.i q.den] (A1 (C6 false q.den)) := by
  have := Fd (q.den : Int) (by omega) (by omega)
  rwa [decide_eq_false (show ¬ (q.den : Int) < 0 by omega), Int.natAbs_natCast] at this
 refine Fn0.of Tryz.func105 Tryz.ntmps105 rfl rfl rfl ?_
 simp only [A2]
 repeat' (first | refine W ?_|refine Zc c1 ?_|refine Zc c2 ?_|(apply T.draw 7 A0 (by decide +kernel);simp only [td])|(apply T.drawR 7 A0 (by decide +kernel);simp only [td]) | refine V ?_|(refine W2 ?_ ?_ <;> intro hc))
 exact ⟨.inr rfl, [A1 (exR (Ex.ofQ q))], .cons (Res.row (exR (Ex.ofQ q)) rfl rfl rfl rfl rfl) .nil, .one (.agg (A7 (exR (Ex.ofQ q))))⟩
theorem Ns (n : Int) (h0 : -9223372036854775808 <= n) (h1 : n <= 9223372036854775807) : Fn0 Tryz.prog 188 [.i n] (A1 (exR (Ex.ofI n 1000))) := by
 have c1 := Fd n h0 h1
 have c2 : Fn0 Tryz.prog 184 [.i 1000] (A1 (C6 false 1000)) := Fd 1000 (by omega) (by omega)
 refine Fn0.of Tryz.func188 Tryz.ntmps188 rfl rfl rfl ?_
 simp only [A2]
 repeat' (first | refine W ?_|refine Zc c1 ?_|refine Zc c2 ?_|(apply T.draw 7 A0 (by decide +kernel);simp only [td])|(apply T.drawR 7 A0 (by decide +kernel);simp only [td]) | refine V ?_|(refine W2 ?_ ?_ <;> intro hc))
 exact ⟨.inr rfl, [A1 (exR (Ex.ofI n 1000))], .cons (Res.row (exR (Ex.ofI n 1000)) rfl rfl rfl rfl rfl) .nil, .one (.agg (A7 (exR (Ex.ofI n 1000))))⟩
set_option maxHeartbeats 4000000 in
theorem I9 {x y : Ex} {j k : Nat} (hx : x.bd j) (hy : y.bd k) (hj : j <= 400) (hk : k <= 400) : Fn0 Tryz.prog 183 [A1 (exR x), A1 (exR y)] (A1 (exR (x.times y))) := by
 have c1 := Ja x.s x.n y.s y.n (A33 hx (by omega)) (A33 hy (by omega))
 have c2 := Ja false x.d false y.d (Ur hx (by omega)) (Ur hy (by omega))
 refine Fn0.of Tryz.func183 Tryz.ntmps183 rfl rfl rfl ?_
 simp only [A2]
 repeat' (first | refine W ?_|refine Zc c1 ?_|refine Zc c2 ?_|(apply T.draw 11 A0 (by decide +kernel);simp only [td])|(apply T.drawR 11 A0 (by decide +kernel);simp only [td]) | refine V ?_|(refine W2 ?_ ?_ <;> intro hc))
 exact ⟨.inr rfl, [A1 (exR (x.times y))], .cons (Res.row (exR (x.times y)) rfl rfl rfl rfl rfl) .nil, .one (.agg (A7 (exR (x.times y))))⟩
set_option maxHeartbeats 4000000 in
theorem M4 {x y : Ex} {j k : Nat} (hx : x.bd j) (hy : y.bd k) (hj : j <= 400) (hk : k <= 400) : Fn0 Tryz.prog 182 [A1 (exR x), A1 (exR y)] (A1 (exR (x.plus y))) := by
 have c1 := Ja x.s x.n false y.d (A33 hx (by omega)) (Ur hy (by omega))
 have c2 := Ja y.s y.n false x.d (A33 hy (by omega)) (Ur hx (by omega))
 have c3 := Ja false x.d false y.d (Ur hx (by omega)) (Ur hy (by omega))
 have c4 := A9f (x.s != false) (x.n * y.d) (y.s != false) (y.n * x.d) (A6c (Jz hx.1 hy.2.1) (by omega)) (A6c (Jz hy.1 hx.2.1) (by omega))
 refine Fn0.of Tryz.func182 Tryz.ntmps182 rfl rfl rfl ?_
 simp only [A2]
 repeat' (first | refine W ?_|refine Zc c1 ?_|refine Zc c2 ?_|refine Zc c3 ?_|refine Zc c4 ?_|(apply T.draw 17 A0 (by decide +kernel);simp only [td])|(apply T.drawR 17 A0 (by decide +kernel);simp only [td]) | refine V ?_|(refine W2 ?_ ?_ <;> intro hc))
 exact ⟨.inr rfl, [A1 (exR (x.plus y))], .cons (Res.row (exR (x.plus y)) rfl rfl rfl rfl rfl) .nil, .one (.agg (A7 (exR (x.plus y))))⟩
set_option maxHeartbeats 4000000 in
theorem Jr {x y : Ex} {j k : Nat} (hx : x.bd j) (hy : y.bd k) (hj : j <= 400) (hk : k <= 400) : Fn0 Tryz.prog 181 [A1 (exR x), A1 (exR y)] (A1 (exR (x.less y))) := by
 have c1 := Z3 y.s y.n
 have c2 := M4 (y := ⟨!y.s, y.n, y.d⟩) hx ⟨hy.1, hy.2.1, hy.2.2⟩ hj hk
 refine Fn0.of Tryz.func181 Tryz.ntmps181 rfl rfl rfl ?_
 simp only [A2]
 repeat' (first | refine W ?_|refine Zc c1 ?_|refine Zc c2 ?_|(apply T.draw 8 A0 (by decide +kernel);simp only [td])|(apply T.drawR 8 A0 (by decide +kernel);simp only [td]) | refine V ?_|(refine W2 ?_ ?_ <;> intro hc))
 exact ⟨.inr rfl, [A1 (exR (x.less y))], .cons (Res.row (exR (x.less y)) rfl rfl rfl rfl rfl) .nil, .one (.agg (A7 (exR (x.less y))))⟩
theorem Di {x : Ex} {j : Nat} (hx : x.bd j) : Fn0 Tryz.prog 106 [A1 (exR x)] (.i x.val.num.sign) := by
 have c1 := A7w x.s x.n
 rw [show (if x.n = 0 then (0 : Int) else if x.s then -1 else 1) = x.val.num.sign from Ex.sign_val hx.2.2] at c1
 refine Fn0.of Tryz.func106 Tryz.ntmps106 rfl rfl rfl ?_
 simp only [A2]
 repeat' (first | refine W ?_|refine Zc c1 ?_ | refine V ?_|(refine W2 ?_ ?_ <;> intro hc))
 exact A5 (by simp) Tryz.results106 rfl rfl
structure Pt where
 f : Ex
 a : Ex
 b : Ex
 c : Ex
abbrev ptR (p : Pt) : List Lf := exR p.f ++ exR p.a ++ exR p.b ++ exR p.c
structure Pt.ok (p : Pt) : Prop where
 f : p.f.bd 2
 a : p.a.bd 2
 b : p.b.bd 2
 c : p.c.bd 2
def Pt.value (p : Pt) (t : Ex) : Ex := p.a.plus ((p.b.plus (p.c.times (t.less p.f))).times (t.less p.f))
def Pt.slope (p : Pt) (t : Ex) : Ex := (p.b.plus (p.c.times (t.less p.f))).plus (p.c.times (t.less p.f))
set_option maxHeartbeats 4000000 in
theorem N1 (p : Pt) (t : Ex) (hp : p.ok) (ht : t.bd 2) : Fn0 Tryz.prog 104 [A1 (ptR p), A1 (exR t)] (A1 (exR (p.value t))) := by
 have b1 := Ex.bd_less ht hp.f
 have b2 := Ex.bd_times hp.c b1
 have b3 := Ex.bd_plus hp.b b2
 have b4 := Ex.bd_times b3 b1
 have c1 := Jr ht hp.f (by omega) (by omega)
 have c2 := I9 hp.c b1 (by omega) (by omega)
 have c3 := M4 hp.b b2 (by omega) (by omega)
 have c4 := I9 b3 b1 (by omega) (by omega)
 have c5 := M4 hp.a b4 (by omega) (by omega)
 refine Fn0.of Tryz.func104 Tryz.ntmps104 rfl rfl rfl ?_
 simp only [A2]
 repeat' (first | refine W ?_|refine Zc c1 ?_|refine Zc c2 ?_|refine Zc c3 ?_|refine Zc c4 ?_|refine Zc c5 ?_|(apply T.draw 12 A0 (by decide +kernel);simp only [td])|(apply T.drawR 12 A0 (by decide +kernel);simp only [td]) | refine V ?_|(refine W2 ?_ ?_ <;> intro hc))
 exact ⟨.inr rfl, [A1 (exR (p.value t))], .cons (Res.row (exR (p.value t)) rfl rfl rfl rfl rfl) .nil, .one (.agg (A7 (exR (p.value t))))⟩
set_option maxHeartbeats 4000000 in
theorem Rf (p : Pt) (t : Ex) (hp : p.ok) (ht : t.bd 2) : Fn0 Tryz.prog 187 [A1 (ptR p), A1 (exR t)] (A1 (exR (p.slope t))) := by
 have b1 := Ex.bd_less ht hp.f
 have b2 := Ex.bd_times hp.c b1
 have b3 := Ex.bd_plus hp.b b2
 have c1 := Jr ht hp.f (by omega) (by omega)
 have c2 := I9 hp.c b1 (by omega) (by omega)
 have c3 := M4 hp.b b2 (by omega) (by omega)
 have c4 := M4 b3 b2 (by omega) (by omega)
 refine Fn0.of Tryz.func187 Tryz.ntmps187 rfl rfl rfl ?_
 simp only [A2]
 repeat' (first | refine W ?_|refine Zc c1 ?_|refine Zc c2 ?_|refine Zc c3 ?_|refine Zc c4 ?_|(apply T.draw 6 A0 (by decide +kernel);simp only [td])|(apply T.drawR 6 A0 (by decide +kernel);simp only [td])|(apply T.drawAll A0 (by decide +kernel)) | refine V ?_|(refine W2 ?_ ?_ <;> intro hc))
 exact ⟨.inr rfl, [A1 (exR (p.slope t))], .cons (Res.row (exR (p.slope t)) rfl rfl rfl rfl rfl) .nil, .one (.agg (A7 (exR (p.slope t))))⟩
theorem Mg {p : Pt} {t : Ex} (hp : p.ok) (ht : t.bd 2) : (p.value t).bd 21 := by
 have b1 := Ex.bd_less ht hp.f
 have b4 := Ex.bd_times (Ex.bd_plus hp.b (Ex.bd_times hp.c b1)) b1
 exact (Ex.bd_plus hp.a b4).mono (by omega)
theorem Rj {p : Pt} {t : Ex} (hp : p.ok) (ht : t.bd 2) : (p.slope t).bd 21 := by
 have b1 := Ex.bd_less ht hp.f
 have b2 := Ex.bd_times hp.c b1
 exact (Ex.bd_plus (Ex.bd_plus hp.b b2) b2).mono (by omega)
def sgQ (r : Rat) : Int := r.num.sign
abbrev four : Ex := Ex.ofI 4 1
def Pt.disc (p : Pt) : Ex := ((four.times p.a).times p.c).less (p.b.times p.b)
def Pt.belowS (p : Pt) (a b : Ex) : Prop := 0 < sgQ (b.less a).val /\ ((sgQ (p.value a).val < 0 \/ sgQ (p.value b).val < 0) \/ (0 < sgQ p.c.val /\ sgQ (p.slope a).val < 0 /\ 0 < sgQ (p.slope b).val /\ sgQ p.disc.val < 0))
instance (p : Pt) (a b : Ex) : Decidable (p.belowS a b) := by unfold Pt.belowS;exact inferInstance
set_option maxHeartbeats 16000000 in
theorem I7 (p : Pt) (a b : Ex) (hp : p.ok) (ha : a.bd 2) (hb : b.bd 2) : Fn0 Tryz.prog 108 [A1 (ptR p), A1 (exR a), A1 (exR b)] (.b (decide (p.belowS a b))) := by
 have hf : four.bd 1 := by unfold Ex.bd four Ex.ofI;decide
 have b1 := Ex.bd_less hb ha
 have b2 := Ex.bd_times hf hp.a
 have b3 := Ex.bd_times b2 hp.c
 have b4 := Ex.bd_times hp.b hp.b
 have b5 := Ex.bd_less b3 b4
 have c1 := Jr hb ha (by omega) (by omega)
 have s1 : Fn0 Tryz.prog 106 [A1 (exR (b.less a))] (.i (sgQ (b.less a).val)) := Di b1
 have v1 := N1 p a hp ha
 have v2 := N1 p b hp hb
 have s2 : Fn0 Tryz.prog 106 [A1 (exR (p.value a))] (.i (sgQ (p.value a).val)) := Di (Mg hp ha)
 have s3 : Fn0 Tryz.prog 106 [A1 (exR (p.value b))] (.i (sgQ (p.value b).val)) := Di (Mg hp hb)
 have s4 : Fn0 Tryz.prog 106 [A1 (exR p.c)] (.i (sgQ p.c.val)) := Di hp.c
 have l1 := Rf p a hp ha
 have l2 := Rf p b hp hb
 have s5 : Fn0 Tryz.prog 106 [A1 (exR (p.slope a))] (.i (sgQ (p.slope a).val)) := Di (Rj hp ha)
 have s6 : Fn0 Tryz.prog 106 [A1 (exR (p.slope b))] (.i (sgQ (p.slope b).val)) := Di (Rj hp hb)
 have n1 : Fn0 Tryz.prog 184 [.i 4] (A1 (C6 false 4)) := Fd 4 (by omega) (by omega)
 have n2 : Fn0 Tryz.prog 184 [.i 1] (A1 (C6 false 1)) := Fd 1 (by omega) (by omega)
 have t1 : Fn0 Tryz.prog 183 [A1 (C6 false 4 ++ C6 false 1), A1 (exR p.a)] (A1 (exR (four.times p.a))) := I9 hf hp.a (by omega) (by omega)
 have t2 := I9 b2 hp.c (by omega) (by omega)
 have t3 := I9 hp.b hp.b (by omega) (by omega)
 have t4 := Jr b3 b4 (by omega) (by omega)
 have s7 : Fn0 Tryz.prog 106 [A1 (exR p.disc)] (.i (sgQ p.disc.val)) := Di b5
 refine Fn0.of Tryz.func108 Tryz.ntmps108 rfl rfl rfl ?_
 simp only [A2]
 repeat' (first | refine W ?_|refine Zc c1 ?_|refine Zc s1 ?_|refine Zc v1 ?_|refine Zc s2 ?_|refine Zc v2 ?_|refine Zc s3 ?_|refine Zc s4 ?_|refine Zc l1 ?_|refine Zc l2 ?_|refine Zc s5 ?_|refine Zc s6 ?_|refine Zc n1 ?_|refine Zc n2 ?_|refine Zc t1 ?_|refine Zc t2 ?_|refine Zc t3 ?_|refine Zc t4 ?_|refine Zc s7 ?_|(apply T.drawR 15 A0 (by decide +kernel);simp only [td])|(apply T.draw 15 A0 (by decide +kernel);simp only [td]) | refine V ?_|(refine W2 ?_ ?_ <;> intro hc))
 all_goals first
  | exact A5 (by simp) Tryz.results108 rfl (congrArg Value.bool (by symm;apply decide_eq_false;unfold Pt.belowS;omega))
  | exact A5 (by simp) Tryz.results108 rfl (congrArg Value.bool (by symm;apply decide_eq_true;unfold Pt.belowS;omega))
  | exact A5 (by simp) Tryz.results108 rfl (congrArg Value.bool (decide_eq_decide.2 (by unfold Pt.belowS;omega)))
def Pt.ofQ (f a b c : Rat) : Pt := ⟨Ex.ofQ f, Ex.ofQ a, Ex.ofQ b, Ex.ofQ c⟩
theorem Bq {q : Rat} (h : Fits q) : (Ex.ofQ q).bd 2 := by
 obtain ⟨h1, h2⟩ := h
 have : (4294967296 : Nat) ^ 2 = 18446744073709551616 := by decide
 refine ⟨?_, ?_, q.den_pos⟩ <;> (unfold Ex.ofQ;dsimp only;omega)
set_option maxHeartbeats 4000000 in
theorem Adp (f a b c : Rat) (hf : Fits f) (ha : Fits a) (hb : Fits b) (hc : Fits c) : Fn0 Tryz.prog 103 [A1 (frR f ++ frR a ++ frR b ++ frR c)] (A1 (ptR (Pt.ofQ f a b c))) := by
 have c1 := Hy f hf
 have c2 := Hy a ha
 have c3 := Hy b hb
 have c4 := Hy c hc
 refine Fn0.of Tryz.func103 Tryz.ntmps103 rfl rfl rfl ?_
 simp only [A2]
 repeat' (first | refine W ?_|refine Zc c1 ?_|refine Zc c2 ?_|refine Zc c3 ?_|refine Zc c4 ?_|(apply T.draw 13 A0 (by decide +kernel);simp only [td])|(apply T.drawR 13 A0 (by decide +kernel);simp only [td]) | refine V ?_|(refine W2 ?_ ?_ <;> intro hc))
 exact ⟨.inr rfl, [A1 (ptR (Pt.ofQ f a b c))], .cons (Res.row (ptR (Pt.ofQ f a b c)) rfl rfl rfl rfl rfl) .nil, .one (.agg (A7 (ptR (Pt.ofQ f a b c))))⟩
end Go.Proofs.YtcbfnkgodiaiiaaGreat
