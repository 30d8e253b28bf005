/- Lemmas of the proof. -/
import Derived.Test.YtlapbaiejnaeiaaGreatDoorNf
set_option linter.all false
set_option maxHeartbeats 64000000
namespace Go.Proofs.YtlapbaiejnaeiaaGreatDoor
open Go.RowKit
def b0k := @Tryz.results146
theorem Ack (u : Nat) : val [u % 4294967296, u / 4294967296] = u := by simp only [val];omega
theorem Acj {u : Nat} (h : u < 18446744073709551616) : Dig [u % 4294967296, u / 4294967296] := by
 intro x hx
 simp only [a1j, a2e, or_false] at hx
 omega
theorem Ev (n : Int) (h0 : -9223372036854775808 <= n) (h1 : n <= 9223372036854775807) : Fn0 Tryz.prog 201 [.i n] (A1 (C2 (decide (n < 0)) n.natAbs)) := by
 obtain ⟨u, hu⟩ : ∃ u : Nat, u = n.natAbs := ⟨_, rfl⟩
 have hT := Fc [u % 4294967296, u / 4294967296] n.natAbs (Acj (by omega)) (by simp) (by rw [Ack, hu])
 have c2 : IntKind.u32.wrap (u : Int) = ((u % 4294967296 : Nat) : Int) := Adv u
 have c3 : IntKind.u32.wrap ((u : Int) / 4294967296) = ((u / 4294967296 : Nat) : Int) := by rw [Ci];omega
 by_cases hn : n < 0
 ·have c1 : IntKind.u64.wrap n = n + 18446744073709551616 := by rw [Cr];omega
  have c4 : IntKind.u64.wrap (-(n + 18446744073709551616)) = (u : Int) := by rw [Cr];omega
  refine Fn0.of Tryz.func201 Tryz.ntmps201 rfl rfl rfl ?_
  simp only [A2]
  repeat' (first|refine W ?_|(apply p0h;exact rfl;exact c1;exact rfl)|(apply p0h;exact rfl;exact c2;exact rfl)|(apply p0h;exact rfl;exact c3;exact rfl)|(apply p4m;exact rfl;exact c4;exact rfl)|(apply p1z;(iterate 3 exact rfl))|(apply p1e;(iterate 8 exact rfl))|refine Zc hT ?_|refine V ?_|(refine W2 ?_ ?_<;>intro hc))
  exact ⟨.inr rfl, [A1 (C2 (decide (n < 0)) n.natAbs)], .cons (Res.row (C2 (decide (n < 0)) n.natAbs) rfl rfl rfl rfl rfl) .nil, .one (.agg (A6 (C2 (decide (n < 0)) n.natAbs)))⟩
 ·have c1 : IntKind.u64.wrap n = (u : Int) := by rw [Cr];omega
  refine Fn0.of Tryz.func201 Tryz.ntmps201 rfl rfl rfl ?_
  simp only [A2]
  repeat' (first|refine W ?_|(apply p0h;exact rfl;exact c1;exact rfl)|(apply p0h;exact rfl;exact c2;exact rfl)|(apply p0h;exact rfl;exact c3;exact rfl)|(apply p1z;(iterate 3 exact rfl))|(apply p1e;(iterate 8 exact rfl))|refine Zc hT ?_|refine V ?_|(refine W2 ?_ ?_<;>intro hc))
  exact ⟨.inr rfl, [A1 (C2 (decide (n < 0)) n.natAbs)], .cons (Res.row (C2 (decide (n < 0)) n.natAbs) rfl rfl rfl rfl rfl) .nil, .one (.agg (A6 (C2 (decide (n < 0)) n.natAbs)))⟩
theorem A9l (s : Bool) (a : Nat) (t : Bool) (b : Nat) (ha : (wds a).length <= 1000) (hb : (wds b).length <= 1000) : Fn0 Tryz.prog 236 [A1 (C2 s a), A1 (C2 t b)] (A1 (C2 (Hg s a t b).1 (Hg s a t b).2)) := by
 have c1 := A63 a b ha hb
 have c2 := U5 (wds a) (wds b) ha hb
 by_cases hab : a < b
 ·have c3 := Vj b a hb (by omega)
  have hc : Lu (wds a) (wds b) < 0 := (X5 a b).2 hab
  cases s <;> cases t <;>
  ·simp only [Hg, hab, if_true, if_false, a4f, a7j, reduceCtorEq]
   refine Fn0.of Tryz.func236 Tryz.ntmps236 rfl rfl rfl ?_
   simp only [A2]
   repeat' (first|refine W ?_|(apply p0w;(iterate 4 exact rfl))|(apply p0x;(iterate 4 exact rfl))|refine Zc c1 ?_|refine Zc c2 ?_|refine Zc c3 ?_|(apply p0e 8 A0 (by decide +kernel);simp only [td])|(apply p0f 8 A0 (by decide +kernel);simp only [td])|refine V ?_|(refine W2 ?_ ?_<;>intro hc))
   exact ⟨.inr rfl, [A1 (C2 _ _)], .cons (Res.row (C2 _ _) rfl rfl rfl rfl rfl) .nil, .one (.agg (A6 (C2 _ _)))⟩
 ·have c3 := Vj a b ha (by omega)
  have hc : ¬ Lu (wds a) (wds b) < 0 := fun h => hab ((X5 a b).1 h)
  cases s <;> cases t <;>
  ·simp only [Hg, hab, if_true, if_false, a4f, a7j, reduceCtorEq]
   refine Fn0.of Tryz.func236 Tryz.ntmps236 rfl rfl rfl ?_
   simp only [A2]
   repeat' (first|refine W ?_|(apply p0w;(iterate 4 exact rfl))|(apply p0x;(iterate 4 exact rfl))|refine Zc c1 ?_|refine Zc c2 ?_|refine Zc c3 ?_|(apply p0e 8 A0 (by decide +kernel);simp only [td])|(apply p0f 8 A0 (by decide +kernel);simp only [td])|refine V ?_|(refine W2 ?_ ?_<;>intro hc))
   exact ⟨.inr rfl, [A1 (C2 _ _)], .cons (Res.row (C2 _ _) rfl rfl rfl rfl rfl) .nil, .one (.agg (A6 (C2 _ _)))⟩
structure MulO where
 i : Nat
 m : List Nat
theorem A09 (s t : Bool) (na nb : Nat) (a b : List Nat) (hwa : wds na = a) (hwb : wds nb = b) (da : Dig a) (db : Dig b) (hla : a.length <= 1000) (hlb : b.length <= 1000) :
  Fn0 Tryz.prog 235 [A1 [.val (.bool s), .sl (wq a)], A1 [.val (.bool t), .sl (wq b)]] (A1 [.val (.bool (s != t)), .sl (wq (wds (val a * val b)))]) := by
 have e1 : (wq a).length = a.length := Cz _ _
 have e2 : (wq b).length = b.length := Cz _ _
 have h1 : (((wq a).length : Nat) : Int) + ((wq b).length : Nat) = ((a.length + b.length : Nat) : Int) := by omega
 refine Fn0.of Tryz.func235 Tryz.ntmps235 rfl rfl rfl ?_
 simp only [A2]
 repeat' (first|refine W ?_|refine Za ?_|(apply S.lenO;(iterate 3 exact rfl))|(apply p3b (n := a.length + b.length);exact rfl;rw [<- h1];exact rfl;omega;exact rfl;exact rfl)|refine V ?_|(refine W2 ?_ ?_<;>intro hc))
 refine p0d (fun (o : MulO) => o.i <= a.length /\ N7 a b o.m o.i) (fun o => a.length - o.i) (fun o => [(22, .i o.i), (21, .i ((wq a).length : Nat)), (20, .sl (wq a)), (5, .own 3 0 (a.length + b.length) 1), (2, .ptr 0 0), (3, .ptr 1 0), (4, .ptr 2 0)])
  (fun o => [.live [.val (.bool s), .sl (wq a)], .live [.val (.bool t), .sl (wq b)], .live [.val (.bool false), .val (.slice none 0 0)], .live (wsA .u32 o.m)]) ⟨0, List.replicate (a.length + b.length) 0⟩ ⟨a0o _, A60 a b⟩ (.cons rfl rfl CV) (.live rfl (.live rfl (.live rfl (.live (Bm _ _ _) .nil)))) ?_
 rintro ⟨i, m⟩ ⟨hi, hinv⟩
 dsimp only at hi hinv ⊢
 have hm := hinv.1
 by_cases hil : i < a.length
 ·have h3 : (i : Int) < ((wq a).length : Nat) := by omega
  obtain ⟨x, hx⟩ : ∃ x, a[i]? = some x := ⟨a[i], a0b hil⟩
  have hbx := G2 (k := .u32) hx
  have hxl := da.get hx
  repeat' (first|refine W ?_|refine Za ?_|(apply S.indexR;(iterate 3 exact rfl);exact hbx;omega;exact rfl)|refine V ?_|(refine W2 ?_ ?_<;>intro hc))
  refine p0d (fun (q : AddS) => q.i <= b.length /\ Ro a b q.m i x q.i q.c) (fun q => b.length - q.i) (fun q => [(30, .i q.i), (29, .i ((wq b).length : Nat)), (28, .sl (wq b)), (8, .val (.int .u64 (q.c : Int))), (7, .val (.int .u32 (x : Int))), (6, .i i), (22, .i i), (21, .i ((wq a).length : Nat)), (20, .sl (wq a)), (5, .own 3 0 (a.length + b.length) 1), (2, .ptr 0 0), (3, .ptr 1 0), (4, .ptr 2 0)])
   (fun q => [.live [.val (.bool s), .sl (wq a)], .live [.val (.bool t), .sl (wq b)], .live [.val (.bool false), .val (.slice none 0 0)], .live (wsA .u32 q.m)]) ⟨0, m, 0⟩ ⟨a0o _, Adg x hinv⟩ (.cons rfl rfl (.cons rfl rfl (.cons rfl rfl (.cons rfl rfl (.cons rfl rfl CV))))) (.live rfl (.live rfl (.live rfl (.live (Bm _ _ _) .nil)))) ?_
  rintro ⟨k, m1, c⟩ ⟨hk, hin⟩
  dsimp only at hk hin ⊢
  have hm1 := hin.1
  have hcl := hin.2.2.2.2
  by_cases hkl : k < b.length
  ·have h4 : (k : Int) < ((wq b).length : Nat) := by omega
   obtain ⟨y, hy⟩ : ∃ y, b[k]? = some y := ⟨b[k], a0b hkl⟩
   obtain ⟨z, hz⟩ : ∃ z, m1[i + k]? = some z := ⟨m1[i + k]'(by omega), a0b (by omega)⟩
   have hby := G2 (k := .u32) hy
   have hyl := db.get hy
   have hzl := hin.2.1.get hz
   obtain ⟨f1, f2⟩ := A9c hxl hyl hzl hcl
   have hxy : (x : Int) * (y : Int) = ((x * y : Nat) : Int) := (a4r x y).symm
   obtain ⟨p, hp⟩ : ∃ p, p = x * y := ⟨_, rfl⟩
   rw [<- hp] at hxy f1 f2
   have hr : IntKind.u32.wrap ((c : Int) + ((x : Int) * (y : Int) + (z : Int))) = (((c + (p + z)) % 4294967296 : Nat) : Int) := by rw [Ci, hxy];omega
   have hq : ((c : Int) + ((x : Int) * (y : Int) + (z : Int))) / 4294967296 = (((c + (p + z)) / 4294967296 : Nat) : Int) := by rw [hxy];omega
   repeat' (first|refine W ?_|refine Za ?_|(apply p1x;(iterate 4 exact rfl);rw [hxy];omega)|(apply p0h;exact rfl;exact Hp (show x < 18446744073709551616 by omega);exact rfl)|(apply p0h;exact rfl;exact Hp (show y < 18446744073709551616 by omega);exact rfl)|(apply p0h;exact rfl;exact Hp (show z < 18446744073709551616 by omega);exact rfl)|(apply p0h;exact rfl;exact hr;exact rfl)|(apply p1z;(iterate 3 exact rfl))|(apply S.indexR;(iterate 3 exact rfl);exact hby;omega;exact rfl)|(apply p1g (i + k);(iterate 4 exact rfl);omega;omega)|(apply p4t;(iterate 4 exact rfl);exact hz)|(apply p1h;(iterate 4 exact rfl);omega)|refine V ?_|(refine W2 ?_ ?_<;>intro hc))
   change Next _ _ _ _ _ _
   exact Next.go ⟨k + 1, m1.set (i + k) ((c + (p + z)) % 4294967296), (c + (p + z)) / 4294967296⟩ ⟨by dsimp only;omega, A9d hin hxl hy hyl hz (Nat.mod_lt _ (by decide)) (by rw [<- hp];dsimp only;omega) (by dsimp only;omega)⟩ (by dsimp only;omega) (.cons rfl rfl (.cons rfl rfl (.cons rfl rfl (.cons (by rw [<- hq];rfl) rfl (.cons rfl rfl CV))))) (.live rfl (.live rfl (.live rfl (.live (Bm _ _ _) .nil))))
  ·have h4 : ¬ (k : Int) < ((wq b).length : Nat) := by omega
   obtain rfl : k = b.length := by omega
   have hr : IntKind.u32.wrap (c : Int) = (c : Int) := Acs hcl
   repeat' (first|refine W ?_|refine Za ?_|(apply p0h;exact rfl;exact hr;exact rfl)|(apply p1g (i + b.length);(iterate 4 exact rfl);omega;omega)|(apply p1h;(iterate 4 exact rfl);omega)|refine V ?_|(refine W2 ?_ ?_<;>intro hc))
   change Next _ _ _ _ _ _
   exact Next.go ⟨i + 1, m1.set (i + b.length) c⟩ ⟨by dsimp only;omega, Abo hin hx⟩ (by dsimp only;omega) (.cons rfl rfl CV) (.live rfl (.live rfl (.live rfl (.live (Bm _ _ _) .nil))))
 ·have h3 : ¬ (i : Int) < ((wq a).length : Nat) := by omega
  obtain rfl : i = a.length := by omega
  repeat' (first|refine W ?_|(refine T.freeze 5 rfl rfl (Ix .u32 m hm.symm) ?_)|(apply p0w;(iterate 4 exact rfl))|(apply p0x;(iterate 4 exact rfl))|(apply S.call;exact rfl;exact rfl;exact Fc m (val a * val b) hinv.2.1 (by omega) (Abn hinv);exact rfl)|(apply p0e 8 A0 (by decide +kernel);simp only [td])|(apply p0f 8 A0 (by decide +kernel);simp only [td])|refine V ?_|(refine W2 ?_ ?_<;>intro hc))
  exact ⟨.inr rfl, [A1 [.val (.bool (s != t)), .sl (wq (wds (val a * val b)))]], .cons (Res.row [.val (.bool (s != t)), .sl (wq (wds (val a * val b)))] rfl rfl rfl rfl rfl) .nil, .one (.agg (A6 _))⟩
theorem Ii (s : Bool) (a : Nat) (t : Bool) (b : Nat) (ha : (wds a).length <= 1000) (hb : (wds b).length <= 1000) : Fn0 Tryz.prog 235 [A1 (C2 s a), A1 (C2 t b)] (A1 (C2 (s != t) (a * b))) := by
 have := A09 s t a b (wds a) (wds b) rfl rfl (Dd a) (Dd b) ha hb
 rwa [Bu, Bu] at this
abbrev exR (x : Ex) : List Lf := C2 x.s x.n ++ C2 false x.d
theorem A29 {x : Ex} {k : Nat} (h : x.bd k) (hk : k <= 1000) : (wds x.n).length <= 1000 := a1z (Um h.1) hk
theorem Tk {x : Ex} {k : Nat} (h : x.bd k) (hk : k <= 1000) : (wds x.d).length <= 1000 := a1z (Um h.2.1) hk
theorem A7o {n k : Nat} (h : n < 4294967296 ^ k) (hk : k <= 1000) : (wds n).length <= 1000 := a1z (Um h) hk
theorem H7 (q : Rat) (hq : Fits q) : Fn0 Tryz.prog 143 [A1 (frR q)] (A1 (exR (Ex.ofQ q))) := by
 obtain ⟨h1, h2⟩ := hq
 have hd := q.den_pos
 have c1 := Ev q.num (by omega) (by omega)
 have c2 : Fn0 Tryz.prog 201 [.i q.den] (A1 (C2 false q.den)) := by
  have := Ev (q.den : Int) (by omega) (by omega)
  rwa [decide_eq_false (show ¬ (q.den : Int) < 0 by omega), b3f] at this
 refine Fn0.of Tryz.func143 Tryz.ntmps143 rfl rfl rfl ?_
 simp only [A2]
 repeat' (first|refine W ?_|refine Zc c1 ?_|refine Zc c2 ?_|(apply p0e 7 A0 (by decide +kernel);simp only [td])|(apply p0f 7 A0 (by decide +kernel);simp only [td])|refine V ?_|(refine W2 ?_ ?_<;>intro hc))
 exact ⟨.inr rfl, [A1 (exR (Ex.ofQ q))], .cons (Res.row (exR (Ex.ofQ q)) rfl rfl rfl rfl rfl) .nil, .one (.agg (A6 (exR (Ex.ofQ q))))⟩
theorem N1 (n : Int) (h0 : -9223372036854775808 <= n) (h1 : n <= 9223372036854775807) : Fn0 Tryz.prog 205 [.i n] (A1 (exR (p0v n 1000))) := by
 have c1 := Ev n h0 h1
 have c2 : Fn0 Tryz.prog 201 [.i 1000] (A1 (C2 false 1000)) := Ev 1000 (by omega) (by omega)
 refine Fn0.of Tryz.func205 Tryz.ntmps205 rfl rfl rfl ?_
 simp only [A2]
 repeat' (first|refine W ?_|refine Zc c1 ?_|refine Zc c2 ?_|(apply p0e 7 A0 (by decide +kernel);simp only [td])|(apply p0f 7 A0 (by decide +kernel);simp only [td])|refine V ?_|(refine W2 ?_ ?_<;>intro hc))
 exact ⟨.inr rfl, [A1 (exR (p0v n 1000))], .cons (Res.row (exR (p0v n 1000)) rfl rfl rfl rfl rfl) .nil, .one (.agg (A6 (exR (p0v n 1000))))⟩
theorem Hv {x y : Ex} {j k : Nat} (hx : x.bd j) (hy : y.bd k) (hj : j <= 400) (hk : k <= 400) : Fn0 Tryz.prog 200 [A1 (exR x), A1 (exR y)] (A1 (exR (x.times y))) := by
 have c1 := Ii x.s x.n y.s y.n (A29 hx (by omega)) (A29 hy (by omega))
 have c2 := Ii false x.d false y.d (Tk hx (by omega)) (Tk hy (by omega))
 refine Fn0.of Tryz.func200 Tryz.ntmps200 rfl rfl rfl ?_
 simp only [A2]
 repeat' (first|refine W ?_|refine Zc c1 ?_|refine Zc c2 ?_|(apply p0e 11 A0 (by decide +kernel);simp only [td])|(apply p0f 11 A0 (by decide +kernel);simp only [td])|refine V ?_|(refine W2 ?_ ?_<;>intro hc))
 exact ⟨.inr rfl, [A1 (exR (x.times y))], .cons (Res.row (exR (x.times y)) rfl rfl rfl rfl rfl) .nil, .one (.agg (A6 (exR (x.times y))))⟩
theorem L5 {x y : Ex} {j k : Nat} (hx : x.bd j) (hy : y.bd k) (hj : j <= 400) (hk : k <= 400) : Fn0 Tryz.prog 199 [A1 (exR x), A1 (exR y)] (A1 (exR (x.plus y))) := by
 have c1 := Ii x.s x.n false y.d (A29 hx (by omega)) (Tk hy (by omega))
 have c2 := Ii y.s y.n false x.d (A29 hy (by omega)) (Tk hx (by omega))
 have c3 := Ii false x.d false y.d (Tk hx (by omega)) (Tk hy (by omega))
 have c4 := A9l (x.s != false) (x.n * y.d) (y.s != false) (y.n * x.d) (A7o (Jp hx.1 hy.2.1) (by omega)) (A7o (Jp hy.1 hx.2.1) (by omega))
 refine Fn0.of Tryz.func199 Tryz.ntmps199 rfl rfl rfl ?_
 simp only [A2]
 repeat' (first|refine W ?_|refine Zc c1 ?_|refine Zc c2 ?_|refine Zc c3 ?_|refine Zc c4 ?_|(apply p0e 17 A0 (by decide +kernel);simp only [td])|(apply p0f 17 A0 (by decide +kernel);simp only [td])|refine V ?_|(refine W2 ?_ ?_<;>intro hc))
 exact ⟨.inr rfl, [A1 (exR (x.plus y))], .cons (Res.row (exR (x.plus y)) rfl rfl rfl rfl rfl) .nil, .one (.agg (A6 (exR (x.plus y))))⟩
theorem J4 {x y : Ex} {j k : Nat} (hx : x.bd j) (hy : y.bd k) (hj : j <= 400) (hk : k <= 400) : Fn0 Tryz.prog 198 [A1 (exR x), A1 (exR y)] (A1 (exR (x.less y))) := by
 have c1 := Yd y.s y.n
 have c2 := L5 (y := ⟨!y.s, y.n, y.d⟩) hx ⟨hy.1, hy.2.1, hy.2.2⟩ hj hk
 refine Fn0.of Tryz.func198 Tryz.ntmps198 rfl rfl rfl ?_
 simp only [A2]
 repeat' (first|refine W ?_|refine Zc c1 ?_|refine Zc c2 ?_|(apply p0e 8 A0 (by decide +kernel);simp only [td])|(apply p0f 8 A0 (by decide +kernel);simp only [td])|refine V ?_|(refine W2 ?_ ?_<;>intro hc))
 exact ⟨.inr rfl, [A1 (exR (x.less y))], .cons (Res.row (exR (x.less y)) rfl rfl rfl rfl rfl) .nil, .one (.agg (A6 (exR (x.less y))))⟩
theorem Dc {x : Ex} {j : Nat} (hx : x.bd j) : Fn0 Tryz.prog 144 [A1 (exR x)] (.i x.val.num.sign) := by
 have c1 := A9m x.s x.n
 rw [show (if x.n = 0 then (0 : Int) else if x.s then -1 else 1) = x.val.num.sign from p3g hx.2.2] at c1
 refine Fn0.of Tryz.func144 Tryz.ntmps144 rfl rfl rfl ?_
 simp only [A2]
 repeat' (first|refine W ?_|refine Zc c1 ?_|refine V ?_|(refine W2 ?_ ?_<;>intro hc))
 exact A4 (by simp) Tryz.results144 rfl rfl
structure Pt where
 f : Ex
 a : Ex
 b : Ex
 c : Ex
abbrev ptR (p : Pt) : List Lf := exR p.f ++ exR p.a ++ exR p.b ++ exR p.c
structure Pt.ok (p : Pt) : Prop where
 f : p.f.bd 2
 a : p.a.bd 2
 b : p.b.bd 2
 c : p.c.bd 2
def Pt.value (p : Pt) (t : Ex) : Ex := p.a.plus ((p.b.plus (p.c.times (t.less p.f))).times (t.less p.f))
def Pt.slope (p : Pt) (t : Ex) : Ex := (p.b.plus (p.c.times (t.less p.f))).plus (p.c.times (t.less p.f))
theorem Me (p : Pt) (t : Ex) (hp : p.ok) (ht : t.bd 2) : Fn0 Tryz.prog 142 [A1 (ptR p), A1 (exR t)] (A1 (exR (p.value t))) := by
 have b1 := p1j ht hp.f
 have b2 := p1d hp.c b1
 have b3 := p1l hp.b b2
 have b4 := p1d b3 b1
 have c1 := J4 ht hp.f (by omega) (by omega)
 have c2 := Hv hp.c b1 (by omega) (by omega)
 have c3 := L5 hp.b b2 (by omega) (by omega)
 have c4 := Hv b3 b1 (by omega) (by omega)
 have c5 := L5 hp.a b4 (by omega) (by omega)
 refine Fn0.of Tryz.func142 Tryz.ntmps142 rfl rfl rfl ?_
 simp only [A2]
 repeat' (first|refine W ?_|refine Zc c1 ?_|refine Zc c2 ?_|refine Zc c3 ?_|refine Zc c4 ?_|refine Zc c5 ?_|(apply p0e 12 A0 (by decide +kernel);simp only [td])|(apply p0f 12 A0 (by decide +kernel);simp only [td])|refine V ?_|(refine W2 ?_ ?_<;>intro hc))
 exact ⟨.inr rfl, [A1 (exR (p.value t))], .cons (Res.row (exR (p.value t)) rfl rfl rfl rfl rfl) .nil, .one (.agg (A6 (exR (p.value t))))⟩
theorem Ra (p : Pt) (t : Ex) (hp : p.ok) (ht : t.bd 2) : Fn0 Tryz.prog 204 [A1 (ptR p), A1 (exR t)] (A1 (exR (p.slope t))) := by
 have b1 := p1j ht hp.f
 have b2 := p1d hp.c b1
 have b3 := p1l hp.b b2
 have c1 := J4 ht hp.f (by omega) (by omega)
 have c2 := Hv hp.c b1 (by omega) (by omega)
 have c3 := L5 hp.b b2 (by omega) (by omega)
 have c4 := L5 b3 b2 (by omega) (by omega)
 refine Fn0.of Tryz.func204 Tryz.ntmps204 rfl rfl rfl ?_
 simp only [A2]
 repeat' (first|refine W ?_|refine Zc c1 ?_|refine Zc c2 ?_|refine Zc c3 ?_|refine Zc c4 ?_|(apply p0e 6 A0 (by decide +kernel);simp only [td])|(apply p0f 6 A0 (by decide +kernel);simp only [td])|(apply p0b A0 (by decide +kernel))|refine V ?_|(refine W2 ?_ ?_<;>intro hc))
 exact ⟨.inr rfl, [A1 (exR (p.slope t))], .cons (Res.row (exR (p.slope t)) rfl rfl rfl rfl rfl) .nil, .one (.agg (A6 (exR (p.slope t))))⟩
theorem Ln {p : Pt} {t : Ex} (hp : p.ok) (ht : t.bd 2) : (p.value t).bd 21 := by
 have b1 := p1j ht hp.f
 have b4 := p1d (p1l hp.b (p1d hp.c b1)) b1
 exact (p1l hp.a b4).mono (by omega)
theorem Qn {p : Pt} {t : Ex} (hp : p.ok) (ht : t.bd 2) : (p.slope t).bd 21 := by
 have b1 := p1j ht hp.f
 have b2 := p1d hp.c b1
 exact (p1l (p1l hp.b b2) b2).mono (by omega)
def sgQ (r : Rat) : Int := r.num.sign
abbrev four : Ex := p0v 4 1
def Pt.disc (p : Pt) : Ex := ((four.times p.a).times p.c).less (p.b.times p.b)
def Pt.belowS (p : Pt) (a b : Ex) : Prop := 0 < sgQ (b.less a).val /\ ((sgQ (p.value a).val < 0 \/ sgQ (p.value b).val < 0) \/ (0 < sgQ p.c.val /\ sgQ (p.slope a).val < 0 /\ 0 < sgQ (p.slope b).val /\ sgQ p.disc.val < 0))
instance (p : Pt) (a b : Ex) : Decidable (p.belowS a b) := by unfold Pt.belowS;exact inferInstance
theorem I1 (p : Pt) (a b : Ex) (hp : p.ok) (ha : a.bd 2) (hb : b.bd 2) : Fn0 Tryz.prog 146 [A1 (ptR p), A1 (exR a), A1 (exR b)] (.b (decide (p.belowS a b))) := by
 have hf : four.bd 1 := by unfold Ex.bd four p0v;decide
 have b1 := p1j hb ha
 have b2 := p1d hf hp.a
 have b3 := p1d b2 hp.c
 have b4 := p1d hp.b hp.b
 have b5 := p1j b3 b4
 have c1 := J4 hb ha (by omega) (by omega)
 have s1 : Fn0 Tryz.prog 144 [A1 (exR (b.less a))] (.i (sgQ (b.less a).val)) := Dc b1
 have v1 := Me p a hp ha
 have v2 := Me p b hp hb
 have s2 : Fn0 Tryz.prog 144 [A1 (exR (p.value a))] (.i (sgQ (p.value a).val)) := Dc (Ln hp ha)
 have s3 : Fn0 Tryz.prog 144 [A1 (exR (p.value b))] (.i (sgQ (p.value b).val)) := Dc (Ln hp hb)
 have s4 : Fn0 Tryz.prog 144 [A1 (exR p.c)] (.i (sgQ p.c.val)) := Dc hp.c
 have l1 := Ra p a hp ha
 have l2 := Ra p b hp hb
 have s5 : Fn0 Tryz.prog 144 [A1 (exR (p.slope a))] (.i (sgQ (p.slope a).val)) := Dc (Qn hp ha)
 have s6 : Fn0 Tryz.prog 144 [A1 (exR (p.slope b))] (.i (sgQ (p.slope b).val)) := Dc (Qn hp hb)
 have n1 : Fn0 Tryz.prog 201 [.i 4] (A1 (C2 false 4)) := Ev 4 (by omega) (by omega)
 have n2 : Fn0 Tryz.prog 201 [.i 1] (A1 (C2 false 1)) := Ev 1 (by omega) (by omega)
 have t1 : Fn0 Tryz.prog 200 [A1 (C2 false 4 ++ C2 false 1), A1 (exR p.a)] (A1 (exR (four.times p.a))) := Hv hf hp.a (by omega) (by omega)
 have t2 := Hv b2 hp.c (by omega) (by omega)
 have t3 := Hv hp.b hp.b (by omega) (by omega)
 have t4 := J4 b3 b4 (by omega) (by omega)
 have s7 : Fn0 Tryz.prog 144 [A1 (exR p.disc)] (.i (sgQ p.disc.val)) := Dc b5
 refine Fn0.of Tryz.func146 Tryz.ntmps146 rfl rfl rfl ?_
 simp only [A2]
 repeat' (first|refine W ?_|refine Zc c1 ?_|refine Zc s1 ?_|refine Zc v1 ?_|refine Zc s2 ?_|refine Zc v2 ?_|refine Zc s3 ?_|refine Zc s4 ?_|refine Zc l1 ?_|refine Zc l2 ?_|refine Zc s5 ?_|refine Zc s6 ?_|refine Zc n1 ?_|refine Zc n2 ?_|refine Zc t1 ?_|refine Zc t2 ?_|refine Zc t3 ?_|refine Zc t4 ?_|refine Zc s7 ?_|(apply p0f 15 A0 (by decide +kernel);simp only [td])|(apply p0e 15 A0 (by decide +kernel);simp only [td])|refine V ?_|(refine W2 ?_ ?_<;>intro hc))
 all_goals first
  | exact A4 (by simp) b0k rfl (congrArg Value.bool (by symm;apply decide_eq_false;unfold Pt.belowS;omega))
  | exact A4 (by simp) b0k rfl (congrArg Value.bool (by symm;apply decide_eq_true;unfold Pt.belowS;omega))
  | exact A4 (by simp) b0k rfl (congrArg Value.bool (decide_eq_decide.2 (by unfold Pt.belowS;omega)))
def Pt.ofQ (f a b c : Rat) : Pt := ⟨Ex.ofQ f, Ex.ofQ a, Ex.ofQ b, Ex.ofQ c⟩
theorem Bn {q : Rat} (h : Fits q) : (Ex.ofQ q).bd 2 := by
 obtain ⟨h1, h2⟩ := h
 have : (4294967296 : Nat) ^ 2 = 18446744073709551616 := by decide
 refine ⟨?_, ?_, q.den_pos⟩ <;> (unfold Ex.ofQ;dsimp only;omega)
theorem Ae7 (f a b c : Rat) (hf : Fits f) (ha : Fits a) (hb : Fits b) (hc : Fits c) : Fn0 Tryz.prog 141 [A1 (frR f ++ frR a ++ frR b ++ frR c)] (A1 (ptR (Pt.ofQ f a b c))) := by
 have c1 := H7 f hf
 have c2 := H7 a ha
 have c3 := H7 b hb
 have c4 := H7 c hc
 refine Fn0.of Tryz.func141 Tryz.ntmps141 rfl rfl rfl ?_
 simp only [A2]
 repeat' (first|refine W ?_|refine Zc c1 ?_|refine Zc c2 ?_|refine Zc c3 ?_|refine Zc c4 ?_|(apply p0e 13 A0 (by decide +kernel);simp only [td])|(apply p0f 13 A0 (by decide +kernel);simp only [td])|refine V ?_|(refine W2 ?_ ?_<;>intro hc))
 exact ⟨.inr rfl, [A1 (ptR (Pt.ofQ f a b c))], .cons (Res.row (ptR (Pt.ofQ f a b c)) rfl rfl rfl rfl rfl) .nil, .one (.agg (A6 (ptR (Pt.ofQ f a b c))))⟩
end Go.Proofs.YtlapbaiejnaeiaaGreatDoor
