/- Lemmas of the proof. -/
import Derived.Test.YtlapbaiejnaeiaaGreatDoorMj
import Derived.Test.YtlapbaiejnaeiaaGreatDoorMu
import Derived.Test.YtlapbaiejnaeiaaGreatDoorMh
import Derived.Test.YtlapbaiejnaeiaaGreatDoorNz
import Derived.Test.YtlapbaiejnaeiaaGreatDoorOg
import Derived.Test.YtlapbaiejnaeiaaGreatDoorPc
set_option linter.all false
set_option maxHeartbeats 64000000
namespace Go.Proofs.YtlapbaiejnaeiaaGreatDoor
open Go Go.RowKit
def a6v := @Tryz.ntmps57
def a7b := @Tryz.func57
def a7l := @Tryz.ntmps94
def a7z := @Tryz.func94
def b0t := @Tryz.results93
def b2a := @Tryz.ntmps93
def b2z := @Tryz.func93
theorem A0d (g : FuncId) (op : Rat -> Rat -> Rat) (hj : ∀ (p q : Rat) (e : Int), Fits p -> Fits q -> FnW Tryz.prog g [.i e] [A1 (frR p), A1 (frR q)] [.i (kE (op p q) e)] (A1 (frR (kQ (op p q))))) (a b : List PcQ) (ha : okC a) (hb : okC b) (ha0 : a ≠ []) (hb0 : b ≠ []) (han : a.length <= 200) (hbn : b.length <= 200)
  (hu : Fn0 Tryz.prog 124 [.sl (a.map PcQ.row)] (.b true)) (hv : Fn0 Tryz.prog 124 [.sl (b.map PcQ.row)] (.b true)) (hz : jEs op a b (Ao a b) = 0) (h2 : ¬ 200 < (Ao a b).length) : FnOwnT Tryz.prog 233 [.sl (a.map PcQ.row), .sl (b.map PcQ.row), .fn (.func g) [] []] (((Ao a b).map (jP op a b)).map PcQ.row) 8 (.int .i64 0) := by
 have hla : 0 < a.length := a1n.2 ha0
 have hlb : 0 < b.length := a1n.2 hb0
 have hlen : (a ++ b).length = a.length + b.length := a0q
 have hcat := N0 [a, b] (by simp;omega) (by simp;omega) (by simp)
 simp only [a1q, a4h, a3d, List.flatten_nil, a2g] at hcat
 have hfit := Kt a b ha hb
 have hts : ∀ q ∈ (a ++ b).map (·.f), Fits q := fun q hq => hfit q (by rw [Ao, Ei];exact hq)
 have hsort := Ta ((a ++ b).map (·.f)) hts (by rw [Db];omega)
 have hmut := fun l' hp hs => L1 ((a ++ b).map (·.f)) l' hp hs (by rw [Db];omega)
 have hT0 : 0 < (Ao a b).length := by
  obtain ⟨x, hx⟩ : ∃ x, x ∈ a := ⟨_, a3t hla⟩
  have : x.f ∈ Ao a b := by rw [Ao, Ei];exact a1b.2 ⟨x, a0u.2 (.inl hx), rfl⟩
  exact b1f this
 change ∀ l' hp hs, FnMut _ _ 2 _ _ (Ao a b).length (C6 (Ao a b)) at hmut
 generalize Ao a b = tms at hmut hT0 hfit hz h2 ⊢
 have hle : ((a ++ b).map PcQ.row).length = (a ++ b).length := a0a _
 have hT : (tms.map frR).length = tms.length := a0a _
 skip
 refine FnOwnT.of Tryz.func233 Tryz.ntmps233 rfl rfl rfl ?_
 simp only [A2]
 repeat' (first|refine W ?_|refine Zc hu ?_|refine Zc hv ?_|refine Zc hcat ?_|(apply p1e;(iterate 8 exact rfl))|(apply p0f 8 A0 (by decide +kernel);simp only [td])|(apply p0e 8 A0 (by decide +kernel);simp only [td])|(apply p1i A0)|(apply Ords.nil;decide +kernel)|(apply Ords.one (i := 0);decide +kernel;exact rfl)|(apply Ords.one (i := 1);decide +kernel;exact rfl)|(apply Ords.one (i := 2);decide +kernel;exact rfl)|(apply Ords.one (i := 3);decide +kernel;exact rfl)|(apply Ords.one (i := 4);decide +kernel;exact rfl)|(apply Ords.one (i := 5);decide +kernel;exact rfl)|(apply Ords.one (i := 6);decide +kernel;exact rfl)|(apply Ords.one (i := 7);decide +kernel;exact rfl)|(apply Ords.one (i := 8);decide +kernel;exact rfl)|(apply Ords.one (i := 9);decide +kernel;exact rfl)|(apply Ords.two (i := 0) (j := 1);decide +kernel;exact rfl;exact rfl)|(apply Ords.two (i := 0) (j := 2);decide +kernel;exact rfl;exact rfl)|(apply Ords.two (i := 0) (j := 3);decide +kernel;exact rfl;exact rfl)|(apply Ords.two (i := 0) (j := 4);decide +kernel;exact rfl;exact rfl)|(apply Ords.two (i := 1) (j := 5);decide +kernel;exact rfl;exact rfl)|(apply Ords.two (i := 2) (j := 5);decide +kernel;exact rfl;exact rfl)|(apply Ords.two (i := 3) (j := 5);decide +kernel;exact rfl;exact rfl)|(apply Ords.two (i := 4) (j := 5);decide +kernel;exact rfl;exact rfl)|(apply Ords.two (i := 5) (j := 6);decide +kernel;exact rfl;exact rfl)|(apply Ords.two (i := 4) (j := 6);decide +kernel;exact rfl;exact rfl)|(apply Ords.two (i := 6) (j := 7);decide +kernel;exact rfl;exact rfl)|(apply Ords.two (i := 5) (j := 7);decide +kernel;exact rfl;exact rfl)|refine V ?_|(refine W2 ?_ ?_<;>intro hc))
 refine T.kill 0 ?_
 refine p0d (fun i => i <= (a ++ b).length) (fun i => (a ++ b).length - i) (fun i => [(30, .i i), (8, rT 0 2 i), (29, .i ((a ++ b).map PcQ.row).length), (28, .sl ((a ++ b).map PcQ.row)), (0, .sl (a.map PcQ.row)), (1, .sl (b.map PcQ.row)), (2, .fn (.func g) [] [])]) (fun i => [rB (fa (((a ++ b).map (·.f)).take i)) i]) 0 (a0o _) CW (.dead .nil) ?_
 intro i hi
 by_cases hlt : (i : Int) < (((a ++ b).map PcQ.row).length : Nat)
 ·obtain ⟨x, hx⟩ : ∃ x, (a ++ b)[i]? = some x := ⟨(a ++ b)[i]'(by omega), a0b _⟩
  have hb : ((a ++ b).map PcQ.row)[((i : Nat) : Int).toNat]? = some x.row := by rw [a0v, a0e, hx];rfl
  have hxf : ((a ++ b).map (·.f))[i]? = some x.f := by rw [a0e, hx];rfl
  have hsn := A14 _ i x.f hxf
  cases i with
  | zero =>
   repeat' (first|refine W ?_|refine Za ?_|(apply S.indexR;(iterate 3 exact rfl);exact hb;omega;exact rfl)|(apply p0c;(iterate 7 exact rfl))|(apply p0u 0 (rows := []);(iterate 8 exact rfl);exact Af rfl;exact rfl;exact a0d rfl;exact a0d rfl)|refine V ?_|(refine W2 ?_ ?_<;>intro hc))
   change Next _ _ _ _ _ _
   exact Next.go 1 (by omega) (by omega) CW (by rw [show (1 : Nat) = 0 + 1 from rfl, hsn];exact .live rfl .nil)
  | succ i =>
   repeat' (first|refine W ?_|refine Za ?_|(apply S.indexR;(iterate 3 exact rfl);exact hb;omega;exact rfl)|(apply p0c;(iterate 7 exact rfl))|(apply p0p;(iterate 8 exact rfl);(rw [Sc, a0t, Db];omega);exact Af rfl;exact rfl;exact B6 _ _;simp only [a0i, a0n];omega;simp only [a0i, a0n];omega)|refine V ?_|(refine W2 ?_ ?_<;>intro hc))
   change Next _ _ _ _ _ _
   exact Next.go (i + 1 + 1) (by omega) (by omega) (.cons (by rw [show (((i + 1 + 1 : Nat) : Int)) = ((i + 1 : Nat) : Int) + 1 by omega];rfl) rfl CW) (by rw [hsn];exact .live (by rw [a2r, Gs];rfl) .nil)
 ·obtain rfl : i = (a ++ b).length := by omega
  have hlt' : ¬ ((((a ++ b).map (·.f)).length : Nat) : Int) < (((a ++ b).map PcQ.row).length : Nat) := by rw [Db];omega
  rw [Jw (by omega), Jv (by omega), <- Db, a1w]
  have h2' : ¬ (200 : Int) < ((tms.map frR).length : Nat) := by omega
  repeat' (first|refine W ?_|(refine T.freeze 8 rfl rfl (A66 tms) ?_)|(refine T.heat 1 [.i 0] rfl rfl ?_;intro k o)|(apply S.lenO;(iterate 3 exact rfl))|(apply p2j;exact rfl;exact rfl;exact hsort;exact rfl;rintro xs' ⟨l', rfl, hp, hs⟩)|(apply p2r (hmut _ hp hs);(iterate 5 exact rfl))|refine V ?_|(refine W2 ?_ ?_<;>intro hc))
  refine T.kill 2 ?_
  refine p0d (fun i => i <= tms.length) (fun i => tms.length - i) (fun i => [(51, .i i), (12, rT 2 8 i), (50, .i (tms.map frR).length), (49, .sl (tms.map frR)), (11, .ptr 1 0), (0, .sl (a.map PcQ.row)), (1, .sl (b.map PcQ.row)), (2, .fn (.func g) [] [])]) (fun i => [.dead, .hot k o [.i (jEs op a b (tms.take i))], rB (Bl ((tms.take i).map (jP op a b))) i]) 0 (a0o _) CW (.dead (.hot (.dead .nil))) ?_
  intro i hi
  by_cases hlt : (i : Int) < ((tms.map frR).length : Nat)
  ·obtain ⟨t, ht⟩ : ∃ t, tms[i]? = some t := ⟨tms[i]'(by omega), a0b _⟩
   have hft := hfit t (a0c ht)
   have hb2 : (tms.map frR)[((i : Nat) : Int).toNat]? = some (frR t) := by rw [a0v, a0e, ht];rfl
   have hts1 : tms.take (i + 1) = tms.take i ++ [t] := by rw [a0x, ht];rfl
   have hE : jEs op a b (tms.take (i + 1)) = jE op a b t (jEs op a b (tms.take i)) := by rw [hts1, jEs, a4s];rfl
   have hP : Bl ((tms.take (i + 1)).map (jP op a b)) = Bl ((tms.take i).map (jP op a b)) ++ [.i t.num, .i t.den, .i (kQ (op (atP a t).a (atP b t).a)).num, .i (kQ (op (atP a t).a (atP b t).a)).den, .i (kQ (op (atP a t).b (atP b t).b)).num, .i (kQ (op (atP a t).b (atP b t).b)).den, .i (kQ (op (atP a t).c (atP b t).c)).num, .i (kQ (op (atP a t).c (atP b t).c)).den] := by rw [hts1, a1u, Eo];rfl
   have hPl : ((tms.take i).map (jP op a b)).length = i := by rw [a0a, a0t];omega
   unfold jE at hE
   have ox := Ol a t ha ha0 hft
   have oy := Ol b t hb hb0 hft
   generalize jEs op a b (tms.take i) = e0 at hE ⊢
   have c1 := Tc a t e0 ha ha0 (by omega) hft
   generalize F2 a t e0 = e1 at hE c1
   have c2 := Tc b t e1 hb hb0 (by omega) hft
   generalize F2 b t e1 = e2 at hE c2
   generalize atP a t = x at hE hP c1 ox
   generalize atP b t = y at hE hP c2 oy
   have c3 := hj x.a y.a e2 ox.a oy.a
   have f3 := Cj (op x.a y.a)
   generalize kE (op x.a y.a) e2 = e3 at hE c3
   generalize kQ (op x.a y.a) = p3 at hP c3 f3
   have c4 := hj x.b y.b e3 ox.b oy.b
   generalize kE (op x.b y.b) e3 = e4 at hE c4
   generalize kQ (op x.b y.b) = p4 at hP c4
   have c5 := hj x.c y.c e4 ox.c oy.c
   generalize kE (op x.c y.c) e4 = e5 at hE c5
   generalize kQ (op x.c y.c) = p5 at hP c5
   cases i with
   | zero =>
    repeat' (first|refine W ?_|refine Za ?_|(apply p0r;(iterate 3 exact rfl))|(apply p0l;(iterate 3 exact rfl))|(apply p1b;(iterate 5 exact rfl))|(apply p0s;(iterate 5 exact rfl))|(apply p0m;(iterate 5 exact rfl);exact c1;exact rfl)|(apply p0i;(iterate 6 exact rfl);exact c1;exact rfl)|(apply p0m;(iterate 5 exact rfl);exact c2;exact rfl)|(apply p0i;(iterate 6 exact rfl);exact c2;exact rfl)|(apply p0m;(iterate 5 exact rfl);exact c3;exact rfl)|(apply p0i;(iterate 6 exact rfl);exact c3;exact rfl)|(apply p0m;(iterate 5 exact rfl);exact c4;exact rfl)|(apply p0i;(iterate 6 exact rfl);exact c4;exact rfl)|(apply p0m;(iterate 5 exact rfl);exact c5;exact rfl)|(apply p0i;(iterate 6 exact rfl);exact c5;exact rfl)|(apply S.indexR;(iterate 3 exact rfl);exact hb2;omega;exact rfl)|(apply p0c;(iterate 7 exact rfl))|(apply p0u 2 (rows := []);(iterate 8 exact rfl);exact Af rfl;exact rfl;exact a0d rfl;exact a0d rfl)|(apply p0f 25 A0 (by decide +kernel);simp only [td])|(apply p0e 25 A0 (by decide +kernel);simp only [td])|(apply p0b A0 (by decide +kernel))|refine V ?_|(refine W2 ?_ ?_<;>intro hc))
    change Next _ _ _ _ _ _
    exact Next.go 1 (by omega) (by omega) CW (by rw [show (1 : Nat) = 0 + 1 from rfl, hP, hE];exact .dead (.hot (.live rfl .nil)))
   | succ i =>
    repeat' (first|refine W ?_|refine Za ?_|(apply p0r;(iterate 3 exact rfl))|(apply p0l;(iterate 3 exact rfl))|(apply p1b;(iterate 5 exact rfl))|(apply p0s;(iterate 5 exact rfl))|(apply p0m;(iterate 5 exact rfl);exact c1;exact rfl)|(apply p0i;(iterate 6 exact rfl);exact c1;exact rfl)|(apply p0m;(iterate 5 exact rfl);exact c2;exact rfl)|(apply p0i;(iterate 6 exact rfl);exact c2;exact rfl)|(apply p0m;(iterate 5 exact rfl);exact c3;exact rfl)|(apply p0i;(iterate 6 exact rfl);exact c3;exact rfl)|(apply p0m;(iterate 5 exact rfl);exact c4;exact rfl)|(apply p0i;(iterate 6 exact rfl);exact c4;exact rfl)|(apply p0m;(iterate 5 exact rfl);exact c5;exact rfl)|(apply p0i;(iterate 6 exact rfl);exact c5;exact rfl)|(apply S.indexR;(iterate 3 exact rfl);exact hb2;omega;exact rfl)|(apply p0c;(iterate 7 exact rfl))|(apply p0p;(iterate 8 exact rfl);(rw [Cc, hPl]);exact Af rfl;exact rfl;exact B6 _ _;simp only [a0i, a0n];omega;simp only [a0i, a0n];omega)|(apply p0f 25 A0 (by decide +kernel);simp only [td])|(apply p0e 25 A0 (by decide +kernel);simp only [td])|(apply p0b A0 (by decide +kernel))|refine V ?_|(refine W2 ?_ ?_<;>intro hc))
    change Next _ _ _ _ _ _
    exact Next.go (i + 1 + 1) (by omega) (by omega) (.cons (by rw [show (((i + 1 + 1 : Nat) : Int)) = ((i + 1 : Nat) : Int) + 1 by omega];rfl) rfl CW) (by rw [hP, hE];exact .dead (.hot (.live (by rw [a2r, Cw];rfl) .nil)))
  ·obtain rfl : i = tms.length := by omega
   rw [Jw hT0, Jv hT0, a1w]
   rw [hz]
   have hll : tms.length = ((tms.map (jP op a b)).map PcQ.row).length := by rw [a0a, a0a]
   repeat' (first|refine W ?_|(apply p0r;(iterate 3 exact rfl))|(apply p0l;(iterate 3 exact rfl))|(apply p1b;(iterate 5 exact rfl))|(apply p0s;(iterate 5 exact rfl))|refine Za ?_|refine V ?_|(refine W2 ?_ ?_<;>intro hc))
   apply T.ret
   change Rm _ _ _ _ _ _ _
   refine ⟨.inr rfl, 2, .cons ?_ (.cons (.tmp rfl) .nil), rfl⟩
   rw [<- hll]
   exact .tmp rfl
theorem Aa0 (a b : List PcQ) (ha : okC a) (hb : okC b) (ha0 : a ≠ []) (hb0 : b ≠ []) (han : a.length <= 200) (hbn : b.length <= 200)
  (hu : Fn0 Tryz.prog 124 [.sl (a.map PcQ.row)] (.b true)) (hv : Fn0 Tryz.prog 124 [.sl (b.map PcQ.row)] (.b true)) (hz : jEs (· - ·) a b (Ao a b) = 0) (h2 : ¬ 200 < (Ao a b).length) :
  FnOwnT Tryz.prog 197 [.sl (a.map PcQ.row), .sl (b.map PcQ.row)] (((Ao a b).map (jP (· - ·) a b)).map PcQ.row) 8 (.int .i64 0) := by
 have c := A0d 128 (· - ·) (fun p q e hp hq => Pi p q e hp hq) a b ha hb ha0 hb0 han hbn hu hv hz h2
 refine FnOwnT.of Tryz.func197 Tryz.ntmps197 rfl rfl rfl ?_
 simp only [A2]
 repeat' (first|refine W ?_|(apply p2i 0 c;(iterate 6 exact rfl);exact L8 _)|refine V ?_|(refine W2 ?_ ?_<;>intro hc))
 apply T.ret
 change Rm _ _ _ _ _ _ _
 exact ⟨.inr rfl, 0, .cons (.tmp rfl) (.cons (.tmp rfl) .nil), rfl⟩
def C3 (s : SetR) : Rat := (Ce s : Int)
theorem A5j (s : SetR) : frR (C3 s) = [.i (Ce s), .i 1] := by
 unfold frR C3
 rw [Rat.num_intCast, Rat.den_intCast]
 rfl
theorem A8s {s : SetR} (hs : Ec s) : 0 <= Ce s /\ Ce s <= 1048576 := by
 rw [<- A2y]
 exact (O8 hs).hang
theorem Se {s : SetR} (hs : Ec s) : Fits (C3 s) := by
 have := A8s hs
 unfold Fits C3
 rw [Rat.num_intCast, Rat.den_intCast]
 omega
def sbL (x y : List PcQ) : List PcQ := (Ao x y).map (jP (· - ·) x y)
def lwE (x y : List PcQ) (by_ : Rat) : Int := if Hd (· - ·) x y = 0 then (if ∀ p ∈ sbL x y, Fits (p.a - by_) then 0 else 5) else Hd (· - ·) x y
def lwL (x y : List PcQ) (by_ : Rat) : List PcQ := if lwE x y by_ = 0 then (sbL x y).map (Gq by_) else []
def dsE (ha hb : Rat) (x y : List PcQ) : Int :=
 if atE x 0 0 = 0 then (if atE y 0 0 = 0 then (if Fits (atQ x 0 - atQ y 0) then (if Fits (atQ x 0 - atQ y 0 - ha) then (if 0 <= atQ x 0 - atQ y 0 - ha then lwE x y ha else lwE y x hb) else 5) else 5) else atE y 0 0) else atE x 0 0
def dsL (ha hb : Rat) (x y : List PcQ) : List PcQ :=
 if atE x 0 0 = 0 then (if atE y 0 0 = 0 then (if Fits (atQ x 0 - atQ y 0) then (if Fits (atQ x 0 - atQ y 0 - ha) then (if 0 <= atQ x 0 - atQ y 0 - ha then lwL x y ha else lwL y x hb) else []) else []) else []) else []
def F8 (a b : SetR) (x y : List PcQ) (te : Rat) : AV := if Ek a b /\ ¬ (Ce a = 0 /\ Ce b = 0) then (if dsE (C3 a) (C3 b) x y = 0 then B9 (dsL (C3 a) (C3 b) x y) 0 te else spE (dsE (C3 a) (C3 b) x y)) else spE 12
theorem M5 {op : Rat -> Rat -> Rat} {a b : List PcQ} (h : Hd op a b = 0) : ¬ 200 < (Ao a b).length /\ jEs op a b (Ao a b) = 0 := by
 unfold Hd at h
 split at h
 ·cases h
 ·exact ⟨by assumption, h⟩
theorem A6x {x y : List PcQ} (h : Hd (· - ·) x y = 0) : Sum (· - ·) x y (Ao x y) (sbL x y) := ⟨rfl, rfl, (M5 h).2⟩
theorem Adf {by_ : Rat} {l : List PcQ} (h : okC l) (hf : ∀ p ∈ l, Fits (p.a - by_)) : okC (l.map (Gq by_)) := fun p hp => by
 obtain ⟨q, hq, rfl⟩ := a1b.1 hp
 obtain ⟨h1, _, h3, h4⟩ := h q hq
 exact ⟨h1, hf q hq, h3, h4⟩
structure Dst (x y : List PcQ) (by_ : Rat) (l : List PcQ) : Prop where
 ok : okC l
 sort : Be l
 ne : l ≠ []
 len : l.length <= 200
 val : ∀ t, vaX l t = vaX x t - vaX y t - by_
theorem A5t {x y : List PcQ} {by_ : Rat} (hx : okC x) (hy : okC y) (hx0 : x ≠ []) (hy0 : y ≠ []) (hsx : Be x) (hsy : Be y) (h : lwE x y by_ = 0) : Dst x y by_ (lwL x y by_) := by
 unfold lwL
 rw [if_pos h]
 unfold lwE at h
 split at h
 ·rename_i hj
  split at h
  ·rename_i hf
   have hS := A6x hj
   have hl := hS.len
   have hp := hS.pos hx0
   have h0 : sbL x y ≠ [] := fun e => by rw [e] at hl;simp at hl;omega
   refine ⟨Adf (hS.ok hx hy) hf, A96 hS.sort, fun e => h0 (a6x.1 e), ?_, fun t => ?_⟩
   ·rw [a0a]
    have := (M5 hj).1
    omega
   ·rw [A5s h0, hS.value (c := (-1)) (fun p q => by grind) hsx hsy hx0 hy0 t]
  ·cases h
 ·rename_i hj
  exact absurd h hj
theorem Ade {ha hb : Rat} {x y : List PcQ} (hx : okC x) (hy : okC y) (hx0 : x ≠ []) (hy0 : y ≠ []) (hsx : Be x) (hsy : Be y) (h : dsE ha hb x y = 0) : Dst x y ha (dsL ha hb x y) \/ Dst y x hb (dsL ha hb x y) := by
 unfold dsL
 unfold dsE at h
 by_cases e1 : atE x 0 0 = 0
 ·rw [if_pos e1] at h ⊢
  by_cases e2 : atE y 0 0 = 0
  ·rw [if_pos e2] at h ⊢
   by_cases e3 : Fits (atQ x 0 - atQ y 0)
   ·rw [if_pos e3] at h ⊢
    by_cases e4 : Fits (atQ x 0 - atQ y 0 - ha)
    ·rw [if_pos e4] at h ⊢
     by_cases e5 : 0 <= atQ x 0 - atQ y 0 - ha
     ·rw [if_pos e5] at h ⊢
      exact .inl (A5t hx hy hx0 hy0 hsx hsy h)
     ·rw [if_neg e5] at h ⊢
      exact .inr (A5t hy hx hy0 hx0 hsy hsx h)
    ·rw [if_neg e4] at h;cases h
   ·rw [if_neg e3] at h;cases h
  ·rw [if_neg e2] at h;exact absurd h e2
 ·rw [if_neg e1] at h;exact absurd h e1
theorem Add {ha hb : Rat} {x y : List PcQ} (hx : okC x) (hy : okC y) (hx0 : x ≠ []) (hy0 : y ≠ []) (hsx : Be x) (hsy : Be y) (h : dsE ha hb x y = 0) : okC (dsL ha hb x y) /\ Be (dsL ha hb x y) /\ dsL ha hb x y ≠ [] /\ (dsL ha hb x y).length <= 200 := by
 rcases Ade hx hy hx0 hy0 hsx hsy h with h | h
 ·exact ⟨h.ok, h.sort, h.ne, h.len⟩
 ·exact ⟨h.ok, h.sort, h.ne, h.len⟩
theorem Nh : ∀ (l : List PcQ) (i : Nat) (x : PcQ), l[i]? = some x -> ((Bl l).drop (i * 8 + 2)).take 2 = [.i x.a.num, .i x.a.den]
 | [], i, x, h => by simp at h
 | y :: l, 0, x, h => by
  simp only [a2h, a0f] at h
  subst h
  rfl
 | y :: l, i + 1, x, h => by
  rw [C9, show (i + 1) * 8 + 2 = (y.row.map AV.lf).length + (i * 8 + 2) by simp [PcQ.row];omega, b0b]
  exact Nh l i x (by simpa using h)
theorem Pv : ∀ (l : List PcQ) (i : Nat) (x : PcQ) (v : Rat), l[i]? = some x -> As (i * 8 + 2) [.i v.num, .i v.den] (Bl l) = Bl (l.set i ⟨x.f, v, x.b, x.c⟩)
 | [], i, x, v, h => by simp at h
 | y :: l, 0, x, v, h => by
  simp only [a2h, a0f] at h
  subst h
  rw [a7k, C9, C9]
  simp [PcQ.row, As, E2]
 | y :: l, i + 1, x, v, h => by
  rw [a5e, C9, C9, <- Pv l i x v (by simpa using h), show (i + 1) * 8 + 2 = (i * 8 + 2) + 8 by omega]
  simp [PcQ.row, As]
def lwM (by_ : Rat) (c : List PcQ) (i : Nat) : List PcQ := (c.take i).map (Gq by_) ++ c.drop i
theorem A1g (by_ : Rat) (c : List PcQ) (i : Nat) (x : PcQ) (h : c[i]? = some x) : (lwM by_ c i)[i]? = some x := by
 have := (a0g.1 h).1
 rw [lwM, a1d (by simp;omega), a1t, a0a, a0t, show i + (i - min i c.length) = i by omega, h]
theorem Abg (by_ : Rat) (c : List PcQ) (i : Nat) (h : i <= c.length) : (lwM by_ c i).length = c.length := by
 rw [lwM, a0q, a0a, a0t, a1v];omega
theorem Abh (by_ : Rat) (c : List PcQ) (i : Nat) (x : PcQ) (h : c[i]? = some x) : (lwM by_ c i).set i (Gq by_ x) = lwM by_ c (i + 1) := by
 have hi := (a0g.1 h).1
 have hl : ((c.take i).map (Gq by_)).length = i := by rw [a0a, a0t];omega
 rw [lwM, lwM, a6s _ _ (by omega), hl, a5y, a0x, h]
 rw [a7p hi, a7k]
 simp
theorem Px (x y : List PcQ) (by_ : Rat) (hx : okC x) (hy : okC y) (hx0 : x ≠ []) (hy0 : y ≠ []) (hxn : x.length <= 200) (hyn : y.length <= 200) (hf : Fits by_)
  (hu : Fn0 Tryz.prog 124 [.sl (x.map PcQ.row)] (.b true)) (hv : Fn0 Tryz.prog 124 [.sl (y.map PcQ.row)] (.b true)) :
  Fn0 Tryz.prog 137 [.sl (x.map PcQ.row), .sl (y.map PcQ.row), A1 (frR by_)] (.tup [.sl ((lwL x y by_).map PcQ.row), .i (lwE x y by_)]) := by
 by_cases hj : Hd (· - ·) x y = 0
 ·obtain ⟨h2, hz⟩ := M5 hj
  have c1 := Aa0 x y hx hy hx0 hy0 hxn hyn hu hv hz h2
  have hS := A6x hj
  have hok := hS.ok hx hy
  have hcl : (sbL x y).length <= 200 := by have := hS.len;omega
  unfold lwL lwE
  rw [if_pos hj]
  change FnOwnT _ _ _ ((sbL x y).map PcQ.row) _ _ at c1
  generalize sbL x y = c at c1 hok hcl ⊢
  clear hu hv hz h2 hS hj
  have hle : (c.map PcQ.row).length = c.length := a0a _
  skip
  refine Fn0.of Tryz.func137 Tryz.ntmps137 rfl rfl rfl ?_
  simp only [A2]
  repeat' (first|refine W ?_|(apply p2i 1 c1;(iterate 6 exact rfl);exact L8 _)|(apply p0b A0 (by decide +kernel))|(apply S.lenO;(iterate 3 exact rfl))|refine V ?_|(refine W2 ?_ ?_<;>intro hc))
  refine p0d (fun i => i <= c.length /\ ∀ p ∈ c.take i, Fits (p.a - by_)) (fun i => c.length - i) (fun i => [(22, .i i), (21, .i (c.map PcQ.row).length), (8, .own 1 0 (c.map PcQ.row).length 8), (5, .ptr 0 0)]) (fun i => [.live [.i by_.num, .i by_.den], .live (Bl (lwM by_ c i))]) 0 ⟨a0o _, by simp⟩ CW (.live rfl (.live (Cw _ c) .nil)) ?_
  rintro i ⟨hi, hfi⟩
  by_cases hlt : (i : Int) < ((c.map PcQ.row).length : Nat)
  ·obtain ⟨p, hp⟩ : ∃ p, c[i]? = some p := ⟨c[i]'(by omega), a0b _⟩
   have hmem := a0c hp
   have hld := Nh _ i p (A1g by_ c i p hp)
   have hll := Abg by_ c i hi
   have cs := Fx p.a by_ (hok p hmem).a hf
   unfold Dn at cs
   by_cases hF : Fits (p.a - by_)
   ·rw [if_pos hF] at cs
    have hst := Pv _ i p (p.a - by_) (A1g by_ c i p hp)
    have hsm := Abh by_ c i p hp
    unfold Gq at hsm
    rw [hsm] at hst
    have hf' : ∀ q ∈ c.take (i + 1), Fits (q.a - by_) := fun q hq => by
     rw [a0x, hp] at hq
     rcases a0u.1 hq with hq | hq
     ·exact hfi q hq
     ·obtain rfl : q = p := by simpa using hq
      exact hF
    repeat' (first|refine W ?_|refine Za ?_|refine Zc cs ?_|(apply p3n (o2 := i * 8);(iterate 3 exact rfl);decide +kernel;exact rfl;omega;omega)|(apply p3j;(iterate 3 exact rfl);decide +kernel;exact rfl)|(apply p3a;exact rfl;exact rfl;decide +kernel;exact rfl)|(apply p3o;(iterate 3 exact rfl);decide +kernel;exact rfl;exact hld;(rw [Cc];omega))|(apply p3e;(iterate 6 exact rfl);(rw [Cc];omega);exact rfl)|(apply p2u 1 16 A0 (by decide +kernel);simp only [td])|(apply p2p 1 16 A0 (by decide +kernel);simp only [td])|(apply p0b A0 (by decide +kernel))|refine V ?_|(refine W2 ?_ ?_<;>intro hc))
    change Next _ _ _ _ _ _
    exact Next.go (i + 1) ⟨by omega, hf'⟩ (by omega) (.cons (by rw [show (((i + 1 : Nat) : Int)) = (i : Int) + 1 by omega];rfl) rfl CW) (.live rfl (p2g hst (Cw _ _) .nil))
   ·rw [if_neg hF] at cs
    have hno : ¬ ∀ p ∈ c, Fits (p.a - by_) := fun h => hF (h p hmem)
    rw [if_neg hno, if_neg (show ¬ (5 : Int) = 0 by decide)]
    repeat' (first|refine W ?_|refine Za ?_|refine Zc cs ?_|(apply p3n (o2 := i * 8);(iterate 3 exact rfl);decide +kernel;exact rfl;omega;omega)|(apply p3j;(iterate 3 exact rfl);decide +kernel;exact rfl)|(apply p3a;exact rfl;exact rfl;decide +kernel;exact rfl)|(apply p3o;(iterate 3 exact rfl);decide +kernel;exact rfl;exact hld;(rw [Cc];omega))|(apply p3e;(iterate 6 exact rfl);(rw [Cc];omega);exact rfl)|(apply p2u 1 16 A0 (by decide +kernel);simp only [td])|(apply p2p 1 16 A0 (by decide +kernel);simp only [td])|(apply p0b A0 (by decide +kernel))|(refine p0z 6 rfl ?_;apply T.ret;change Bj _ _ _ _ _)|refine V ?_|(refine W2 ?_ ?_<;>intro hc))
    all_goals exact D2 rfl rfl rfl
  ·obtain rfl : i = c.length := by omega
   rw [a1w] at hfi
   rw [if_pos hfi, if_pos rfl]
   have hfin : lwM by_ c c.length = c.map (Gq by_) := by rw [lwM, a1w, List.drop_length, a2g]
   have hown := P7 (c.map (Gq by_))
   rw [a0a, <- hle] at hown
   rw [hfin]
   repeat' (first|refine W ?_|(refine T.freeze 8 rfl rfl hown ?_)|refine Za ?_|refine V ?_|(refine W2 ?_ ?_<;>intro hc))
   exact D2 rfl rfl rfl
 ·have c1 := Ac4 x y hx hy hx0 hy0 hxn hyn hu hv
  have hl : lwE x y by_ = Hd (· - ·) x y := if_neg hj
  unfold lwL
  rw [hl, if_neg hj]
  generalize Hd (· - ·) x y = e at *
  generalize Wo (· - ·) x y = l at *
  refine Fn0.of Tryz.func137 Tryz.ntmps137 rfl rfl rfl ?_
  simp only [A2]
  repeat' (first|refine W ?_|refine Zc c1 ?_|(apply p0b A0 (by decide +kernel))|(refine p0z 6 rfl ?_;apply T.ret;change Bj _ _ _ _ _)|refine V ?_|(refine W2 ?_ ?_<;>intro hc))
  all_goals exact D2 rfl rfl rfl
structure Two (a b : SetR) (x y : List PcQ) : Prop where
 pa : Ec a
 pb : Ec b
 fa : a.fits
 fb : b.fits
 ox : okC x
 oy : okC y
 x0 : x ≠ []
 y0 : y ≠ []
 sx : Be x
 sy : Be y
 nx : x.length <= 200
 ny : y.length <= 200
def A3y (x : List PcQ) : Prop := Fn0 Tryz.prog 124 [.sl (x.map PcQ.row)] (.b true)
theorem Two.vx {a b : SetR} {x y : List PcQ} (h : Two a b x y) : A3y x := J0 x h.ox h.sx (a1n.2 h.x0) h.nx
theorem Two.vy {a b : SetR} {x y : List PcQ} (h : Two a b x y) : A3y y := J0 y h.oy h.sy (a1n.2 h.y0) h.ny
theorem A5r : Fits (1099511627776 : Rat) := by decide +kernel
theorem Oj : Fits (0 : Rat) := by decide +kernel
theorem A4n (a b : SetR) (x y : List PcQ) (h : Two a b x y) (te : Rat) (ht : Fits te) (h0 : 0 <= te) (h1 : te <= 1099511627776) :
  Fn0 Tryz.prog 93 [A1 a.row, A1 b.row, .sl (x.map PcQ.row), .sl (y.map PcQ.row), A1 (frR te)] (.i 0) := by
 have va := F6 a h.fa
 have vb := F6 b h.fb
 rw [decide_eq_true h.pa] at va
 rw [decide_eq_true h.pb] at vb
 have vx := h.vx
 have vy := h.vy
 unfold A3y at vx vy
 have vt : Fn0 Tryz.prog 84 [A1 (frR te)] (.b true) := by
  have := G9 te.num te.den
  rwa [ht.valid] at this
 have cm := O5 te 1099511627776 ht A5r
 change Fn0 _ _ [_, A1 [.i 1099511627776, .i 1]] _ at cm
 have k0 : ¬ 0 < C4 te 1099511627776 := fun h => a2m.2 h1 ((Ov _ _).1 h)
 have k1 : ¬ te.num < 0 := by have := a8z.2 h0;omega
 generalize C4 te 1099511627776 = c at cm k0
 refine Fn0.of b2z b2a rfl rfl rfl ?_
 simp only [A2]
 repeat' (first|refine W ?_|refine Zc va ?_|refine Zc vb ?_|refine Zc vx ?_|refine Zc vy ?_|refine Zc vt ?_|refine Zc cm ?_|(apply p0t;(iterate 3 exact rfl))|(apply p0b A0 (by decide +kernel))|refine V ?_|(refine W2 ?_ ?_<;>intro hc))
 all_goals exact A4 (by simp) b0t rfl rfl
theorem V0 (l : List PcQ) (fr te : Rat) : ∃ u v e : Int, B9 l fr te = .tup [A1 [.i u, .i v], .i e] := by
 unfold B9
 cases e : Cu (A5 l fr) fr te (A5 l fr).length with
 | none => exact ⟨0, 0, 12, rfl⟩
 | some r =>
  obtain ⟨j, _, hst, _⟩ := Kg e
  have key : ∃ u v : Int, r = [.i u, .i v] := by
   unfold Ax at hst
   split at hst
   ·cases hst
   ·split at hst
    ·injection hst with hst;subst hst;unfold enQ;split <;> exact ⟨_, _, rfl⟩
    ·split at hst
     ·injection hst with hst;subst hst;unfold H9;split <;> exact ⟨_, _, rfl⟩
     ·cases hst
  obtain ⟨u, v, rfl⟩ := key
  exact ⟨u, v, 0, rfl⟩
theorem Nu : A1 (frR 0) = A1 [.i 0, .i 1] := rfl
theorem X6 (a b : SetR) (x y : List PcQ) (h : Two a b x y) :
  Fn0 Tryz.prog 94 [A1 a.row, A1 b.row, .sl (x.map PcQ.row), .sl (y.map PcQ.row)] (.tup [.sl ((dsL (C3 a) (C3 b) x y).map PcQ.row), .i (dsE (C3 a) (C3 b) x y)]) := by
 have cu := A6j x 0 h.ox h.x0 (by have := h.nx;omega) Oj h.vx
 have cv := A6j y 0 h.oy h.y0 (by have := h.ny;omega) Oj h.vy
 rw [Nu] at cu cv
 have gA := Lv a h.fa.2.1
 have gB := Lv b h.fb.2.1
 rw [<- A5j] at gA gB
 have fA := Se h.pa
 have fB := Se h.pb
 have fu := Wt (t := 0) h.ox h.x0
 have fv := Wt (t := 0) h.oy h.y0
 have lA := Px x y (C3 a) h.ox h.oy h.x0 h.y0 h.nx h.ny fA h.vx h.vy
 have lB := Px y x (C3 b) h.oy h.ox h.y0 h.x0 h.ny h.nx fB h.vy h.vx
 unfold dsL dsE
 generalize C3 a = ha at *
 generalize C3 b = hb at *
 generalize lwL x y ha = LA at *
 generalize lwE x y ha = EA at *
 generalize lwL y x hb = LB at *
 generalize lwE y x hb = EB at *
 unfold Uc at cu cv
 by_cases e1 : atE x 0 0 = 0
 ·rw [if_pos e1] at cu
  by_cases e2 : atE y 0 0 = 0
  ·rw [if_pos e2] at cv
   have c1 := Fx (atQ x 0) (atQ y 0) fu fv
   generalize atQ x 0 = u at *
   generalize atQ y 0 = v at *
   unfold Dn at c1
   by_cases e3 : Fits (u - v)
   ·rw [if_pos e3] at c1
    have c2 := Fx (u - v) ha e3 fA
    unfold Dn at c2
    by_cases e4 : Fits (u - v - ha)
    ·rw [if_pos e4] at c2
     simp only [e1, e2, e3, e4, if_true]
     generalize u - v = w at *
     by_cases e5 : 0 <= w - ha
     ·have e6 : (w - ha).num >= 0 := a8z.2 e5
      generalize w - ha = z at *
      simp only [e5, if_true]
      skip
      refine Fn0.of a7z a7l rfl rfl rfl ?_
      simp only [A2]
      repeat' (first|refine W ?_|refine Zc cu ?_|refine Zc cv ?_|refine Zc gA ?_|refine Zc c1 ?_|refine Zc c2 ?_|refine Zc lA ?_|(apply p0t;(iterate 3 exact rfl))|(apply p0b A0 (by decide +kernel))|(apply p0e 7 A0 (by decide +kernel);simp only [td])|refine V ?_|(refine W2 ?_ ?_<;>intro hc))
      all_goals exact D2 rfl rfl rfl
     ·have e6 : ¬ (w - ha).num >= 0 := fun k => e5 (a8z.1 k)
      generalize w - ha = z at *
      simp only [e5, if_false]
      skip
      refine Fn0.of a7z a7l rfl rfl rfl ?_
      simp only [A2]
      repeat' (first|refine W ?_|refine Zc cu ?_|refine Zc cv ?_|refine Zc gA ?_|refine Zc gB ?_|refine Zc c1 ?_|refine Zc c2 ?_|refine Zc lB ?_|(apply p0t;(iterate 3 exact rfl))|(apply p0b A0 (by decide +kernel))|(apply p0e 7 A0 (by decide +kernel);simp only [td])|refine V ?_|(refine W2 ?_ ?_<;>intro hc))
      all_goals exact D2 rfl rfl rfl
    ·rw [if_neg e4] at c2
     simp only [e1, e2, e3, e4, if_true, if_false]
     skip
     refine Fn0.of a7z a7l rfl rfl rfl ?_
     simp only [A2]
     repeat' (first|refine W ?_|refine Zc cu ?_|refine Zc cv ?_|refine Zc gA ?_|refine Zc c1 ?_|refine Zc c2 ?_|(apply p0t;(iterate 3 exact rfl))|(apply p0b A0 (by decide +kernel))|(apply p0e 7 A0 (by decide +kernel);simp only [td])|(refine p0z 8 rfl ?_;apply T.ret;change Bj _ _ _ _ _)|refine V ?_|(refine W2 ?_ ?_<;>intro hc))
     all_goals exact D2 rfl rfl rfl
   ·rw [if_neg e3] at c1
    simp only [e1, e2, e3, if_true, if_false]
    skip
    refine Fn0.of a7z a7l rfl rfl rfl ?_
    simp only [A2]
    repeat' (first|refine W ?_|refine Zc cu ?_|refine Zc cv ?_|refine Zc c1 ?_|(apply p0t;(iterate 3 exact rfl))|(apply p0b A0 (by decide +kernel))|(refine p0z 8 rfl ?_;apply T.ret;change Bj _ _ _ _ _)|refine V ?_|(refine W2 ?_ ?_<;>intro hc))
    all_goals exact D2 rfl rfl rfl
  ·rw [if_neg e2] at cv
   simp only [e1, e2, if_true, if_false]
   generalize atE y 0 0 = e at *
   skip
   refine Fn0.of a7z a7l rfl rfl rfl ?_
   simp only [A2]
   repeat' (first|refine W ?_|refine Zc cu ?_|refine Zc cv ?_|(apply p0t;(iterate 3 exact rfl))|(apply p0b A0 (by decide +kernel))|(refine p0z 8 rfl ?_;apply T.ret;change Bj _ _ _ _ _)|refine V ?_|(refine W2 ?_ ?_<;>intro hc))
   all_goals exact D2 rfl rfl rfl
 ·rw [if_neg e1] at cu
  simp only [e1, if_false]
  generalize atE x 0 0 = e at *
  skip
  refine Fn0.of a7z a7l rfl rfl rfl ?_
  simp only [A2]
  repeat' (first|refine W ?_|refine Zc cu ?_|(apply p0t;(iterate 3 exact rfl))|(apply p0b A0 (by decide +kernel))|(refine p0z 8 rfl ?_;apply T.ret;change Bj _ _ _ _ _)|refine V ?_|(refine W2 ?_ ?_<;>intro hc))
  all_goals exact D2 rfl rfl rfl
theorem Uq (a b : SetR) (x y : List PcQ) (h : Two a b x y) (te : Rat) (ht : Fits te) (h0 : 0 <= te) (h1 : te <= 1099511627776) :
  Fn0 Tryz.prog 57 [A1 a.row, A1 b.row, .sl (x.map PcQ.row), .sl (y.map PcQ.row), A1 (frR te)] (F8 a b x y te) := by
 have cg := A4n a b x y h te ht h0 h1
 have cn := Mq a b h.pa h.pb h.fa h.fb
 have gA := Lv a h.fa.2.1
 have gB := Lv b h.fb.2.1
 have cd := X6 a b x y h
 unfold F8
 by_cases e1 : Ek a b
 ·rw [decide_eq_true e1] at cn
  by_cases e2 : Ce a = 0 /\ Ce b = 0
  ·obtain ⟨e2, e3⟩ := e2
   have hc : ¬ (Ek a b /\ ¬ (Ce a = 0 /\ Ce b = 0)) := fun k => k.2 ⟨e2, e3⟩
   rw [if_neg hc]
   rw [e2] at gA
   rw [e3] at gB
   refine Fn0.of a7b a6v rfl rfl rfl ?_
   simp only [A2]
   repeat' (first|refine W ?_|refine Zc cg ?_|refine Zc cn ?_|refine Zc gA ?_|refine Zc gB ?_|(apply S.field (i := 0) (f := ⟨"Num", 3, 0, false, "", "", 0⟩) Tryz.underlying107 rfl Tryz.underlying3 rfl;(iterate 3 exact rfl))|(apply p0t;(iterate 3 exact rfl))|(apply p0b A0 (by decide +kernel))|refine V ?_|(refine W2 ?_ ?_<;>intro hc))
   all_goals exact ⟨.inr rfl, [A1 [.i 0, .i 0], .i 12], .cons (Res.row [.i 0, .i 0] rfl rfl rfl rfl rfl) (.cons (.tmp rfl) .nil), .tup (.cons (.agg (A6 [.i 0, .i 0])) (.cons (.one (.lf _)) .nil))⟩
  ·have hc : Ek a b /\ ¬ (Ce a = 0 /\ Ce b = 0) := ⟨e1, e2⟩
   rw [if_pos hc]
   by_cases e3 : dsE (C3 a) (C3 b) x y = 0
   ·rw [if_pos e3]
    rw [e3] at cd
    obtain ⟨d1, d2, d3, d4⟩ := Add h.ox h.oy h.x0 h.y0 h.sx h.sy e3
    generalize dsL (C3 a) (C3 b) x y = l at *
    have cf := A6k l 0 te d1 d3 d4 Oj ht (J0 l d1 d2 (a1n.2 d3) d4) h0 ⟨by decide, by decide⟩ ⟨a0r (by decide) h0, h1⟩
    rw [Nu] at cf
    obtain ⟨u1, u2, u3, hu⟩ := V0 l 0 te
    rw [hu] at cf ⊢
    by_cases e4 : Ce a = 0
    ·have e5 : ¬ Ce b = 0 := fun k => e2 ⟨e4, k⟩
     refine Fn0.of a7b a6v rfl rfl rfl ?_
     simp only [A2]
     repeat' (first|refine W ?_|refine Zc cg ?_|refine Zc cn ?_|refine Zc gA ?_|refine Zc gB ?_|refine Zc cd ?_|refine Zc cf ?_|(apply S.field (i := 0) (f := ⟨"Num", 3, 0, false, "", "", 0⟩) Tryz.underlying107 rfl Tryz.underlying3 rfl;(iterate 3 exact rfl))|(apply p0t;(iterate 3 exact rfl))|(apply p0b A0 (by decide +kernel))|refine V ?_|(refine W2 ?_ ?_<;>intro hc))
     all_goals exact ⟨.inr rfl, [A1 [.i u1, .i u2], .i u3], .cons (Res.row [.i u1, .i u2] rfl rfl rfl rfl rfl) (.cons (.tmp rfl) .nil), .tup (.cons (.agg (A6 [.i u1, .i u2])) (.cons (.one (.lf _)) .nil))⟩
    ·skip
     refine Fn0.of a7b a6v rfl rfl rfl ?_
     simp only [A2]
     repeat' (first|refine W ?_|refine Zc cg ?_|refine Zc cn ?_|refine Zc gA ?_|refine Zc gB ?_|refine Zc cd ?_|refine Zc cf ?_|(apply S.field (i := 0) (f := ⟨"Num", 3, 0, false, "", "", 0⟩) Tryz.underlying107 rfl Tryz.underlying3 rfl;(iterate 3 exact rfl))|(apply p0t;(iterate 3 exact rfl))|(apply p0b A0 (by decide +kernel))|refine V ?_|(refine W2 ?_ ?_<;>intro hc))
     all_goals exact ⟨.inr rfl, [A1 [.i u1, .i u2], .i u3], .cons (Res.row [.i u1, .i u2] rfl rfl rfl rfl rfl) (.cons (.tmp rfl) .nil), .tup (.cons (.agg (A6 [.i u1, .i u2])) (.cons (.one (.lf _)) .nil))⟩
   ·rw [if_neg e3]
    generalize dsL (C3 a) (C3 b) x y = l at *
    generalize dsE (C3 a) (C3 b) x y = e at *
    by_cases e4 : Ce a = 0
    ·have e5 : ¬ Ce b = 0 := fun k => e2 ⟨e4, k⟩
     refine Fn0.of a7b a6v rfl rfl rfl ?_
     simp only [A2]
     repeat' (first|refine W ?_|refine Zc cg ?_|refine Zc cn ?_|refine Zc gA ?_|refine Zc gB ?_|refine Zc cd ?_|(apply S.field (i := 0) (f := ⟨"Num", 3, 0, false, "", "", 0⟩) Tryz.underlying107 rfl Tryz.underlying3 rfl;(iterate 3 exact rfl))|(apply p0t;(iterate 3 exact rfl))|(apply p0b A0 (by decide +kernel))|refine V ?_|(refine W2 ?_ ?_<;>intro hc))
     all_goals exact ⟨.inr rfl, [A1 [.i 0, .i 0], .i e], .cons (Res.row [.i 0, .i 0] rfl rfl rfl rfl rfl) (.cons (.tmp rfl) .nil), .tup (.cons (.agg (A6 [.i 0, .i 0])) (.cons (.one (.lf _)) .nil))⟩
    ·skip
     refine Fn0.of a7b a6v rfl rfl rfl ?_
     simp only [A2]
     repeat' (first|refine W ?_|refine Zc cg ?_|refine Zc cn ?_|refine Zc gA ?_|refine Zc gB ?_|refine Zc cd ?_|(apply S.field (i := 0) (f := ⟨"Num", 3, 0, false, "", "", 0⟩) Tryz.underlying107 rfl Tryz.underlying3 rfl;(iterate 3 exact rfl))|(apply p0t;(iterate 3 exact rfl))|(apply p0b A0 (by decide +kernel))|refine V ?_|(refine W2 ?_ ?_<;>intro hc))
     all_goals exact ⟨.inr rfl, [A1 [.i 0, .i 0], .i e], .cons (Res.row [.i 0, .i 0] rfl rfl rfl rfl rfl) (.cons (.tmp rfl) .nil), .tup (.cons (.agg (A6 [.i 0, .i 0])) (.cons (.one (.lf _)) .nil))⟩
 ·have hc : ¬ (Ek a b /\ ¬ (Ce a = 0 /\ Ce b = 0)) := fun k => e1 k.1
  rw [if_neg hc]
  rw [decide_eq_false e1] at cn
  refine Fn0.of a7b a6v rfl rfl rfl ?_
  simp only [A2]
  repeat' (first|refine W ?_|refine Zc cg ?_|refine Zc cn ?_|refine Zc gA ?_|refine Zc gB ?_|(apply S.field (i := 0) (f := ⟨"Num", 3, 0, false, "", "", 0⟩) Tryz.underlying107 rfl Tryz.underlying3 rfl;(iterate 3 exact rfl))|(apply p0t;(iterate 3 exact rfl))|(apply p0b A0 (by decide +kernel))|refine V ?_|(refine W2 ?_ ?_<;>intro hc))
  all_goals exact ⟨.inr rfl, [A1 [.i 0, .i 0], .i 12], .cons (Res.row [.i 0, .i 0] rfl rfl rfl rfl rfl) (.cons (.tmp rfl) .nil), .tup (.cons (.agg (A6 [.i 0, .i 0])) (.cons (.one (.lf _)) .nil))⟩
theorem mem_innN {l : List SetR} {k : Nat} {a : SetR} {x : ByteArray × ByteArray} : ∀ {m : Nat}, x ∈ Al l k a m ↔ ∃ j, j < m /\ ∃ b, l[k + 1 + j]? = some b /\ Ek a b /\ x = (a.name, b.name)
 | 0 => by simp [Al]
 | m + 1 => by
  rw [Al, a0u, mem_innN]
  constructor
  ·rintro (⟨j, h1, h2⟩ | h)
   ·exact ⟨j, by omega, h2⟩
   ·split at h
    ·rename_i b hb
     split at h
     ·rename_i hn
      exact ⟨m, by omega, b, hb, hn, a2n.1 h⟩
     ·cases h
    ·cases h
  ·rintro ⟨j, h1, b, hb, hn, hx⟩
   by_cases e : j = m
   ·subst e
    refine .inr ?_
    rw [hb]
    simp only [hn, if_true]
    exact a2n.2 hx
   ·exact .inl ⟨j, by omega, b, hb, hn, hx⟩
theorem mem_prsK {l : List SetR} {x : ByteArray × ByteArray} : ∀ {n : Nat}, x ∈ D1 l n ↔ ∃ k, k < n /\ ∃ a, l[k]? = some a /\ x ∈ Al l k a (l.length - (k + 1))
 | 0 => by simp [D1]
 | n + 1 => by
  rw [D1, a0u, mem_prsK]
  constructor
  ·rintro (⟨k, h1, h2⟩ | h)
   ·exact ⟨k, by omega, h2⟩
   ·split at h
    ·rename_i a ha
     exact ⟨n, by omega, a, ha, h⟩
    ·cases h
  ·rintro ⟨k, h1, a, ha, hx⟩
   by_cases e : k = n
   ·subst e
    refine .inr ?_
    rw [ha]
    exact hx
   ·exact .inl ⟨k, by omega, a, ha, hx⟩
end Go.Proofs.YtlapbaiejnaeiaaGreatDoor
