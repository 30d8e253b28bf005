/- Lemmas of the proof. -/
import Derived.Test.YtlapbaiejnaeiaaGreatDoorMk
import Derived.Test.YtlapbaiejnaeiaaGreatDoorOb
import Derived.Test.YtlapbaiejnaeiaaGreatDoorMh
import Derived.Test.YtlapbaiejnaeiaaGreatDoorNz
import Derived.Test.YtlapbaiejnaeiaaGreatDoorOg
import Derived.Test.YtlapbaiejnaeiaaGreatDoorMu
set_option linter.all false
set_option maxHeartbeats 64000000
namespace Go.Proofs.YtlapbaiejnaeiaaGreatDoor
open Go Go.RowKit
theorem A0j (g : FuncId) (op : Rat -> Rat -> Rat) (hj : ∀ (p q : Rat) (e : Int), Fits p -> Fits q -> FnW Tryz.prog g [.i e] [A2 (frR p), A2 (frR q)] [.i (kE (op p q) e)] (A2 (frR (kQ (op p q))))) (a b : List PcQ) (ha : okC a) (hb : okC b) (ha0 : a ≠ []) (hb0 : b ≠ []) (han : a.length <= 200) (hbn : b.length <= 200)
  (hu : Fn0 Tryz.prog 124 [.sl (a.map PcQ.row)] (.b true)) (hv : Fn0 Tryz.prog 124 [.sl (b.map PcQ.row)] (.b true)) (hz : jEs op a b (Ap a b) = 0) (h2 : ¬ 200 < (Ap a b).length) : FnOwnT Tryz.prog 233 [.sl (a.map PcQ.row), .sl (b.map PcQ.row), .fn (.func g) [] []] (((Ap a b).map (jP op a b)).map PcQ.row) 8 (.int .i64 0) := by
 have hla : 0 < a.length := a1j.2 ha0
 have hlb : 0 < b.length := a1j.2 hb0
 have hlen : (a ++ b).length = a.length + b.length := a0q
 have hcat := Nj [a, b] (by simp;omega) (by simp;omega) (by simp)
 simp only [a1l, a3v, a3b, List.flatten_nil, a2b] at hcat
 have hfit := L8 a b ha hb
 have hts : ∀ q ∈ (a ++ b).map (·.f), Fits q := fun q hq => hfit q (by rw [Ap, Es];exact hq)
 have hsort := To ((a ++ b).map (·.f)) hts (by rw [De];omega)
 have hmut := fun l' hp hs => Li ((a ++ b).map (·.f)) l' hp hs (by rw [De];omega)
 have hT0 : 0 < (Ap a b).length := by
  obtain ⟨x, hx⟩ : ∃ x, x ∈ a := ⟨_, a4a hla⟩
  have : x.f ∈ Ap a b := by rw [Ap, Es];exact a1a.2 ⟨x, a0t.2 (.inl hx), rfl⟩
  exact b1d this
 change ∀ l' hp hs, FnMut _ _ 2 _ _ (Ap a b).length (Cf (Ap a b)) at hmut
 generalize Ap a b = tms at hmut hT0 hfit hz h2 ⊢
 have hle : ((a ++ b).map PcQ.row).length = (a ++ b).length := a0a _
 have hT : (tms.map frR).length = tms.length := a0a _
 skip
 refine FnOwnT.of Tryz.func233 Tryz.ntmps233 rfl rfl rfl ?_
 simp only [A1]
 repeat' (first|refine W ?_|refine Zc hu ?_|refine Zc hv ?_|refine Zc hcat ?_|(apply p1d;(iterate 8 exact rfl))|(apply p0f 8 A0 (by decide +kernel);simp only [td])|(apply p0e 8 A0 (by decide +kernel);simp only [td])|(apply p1k A0)|(apply Ords.nil;decide +kernel)|(apply Ords.one (i := 0);decide +kernel;exact rfl)|(apply Ords.one (i := 1);decide +kernel;exact rfl)|(apply Ords.one (i := 2);decide +kernel;exact rfl)|(apply Ords.one (i := 3);decide +kernel;exact rfl)|(apply Ords.one (i := 4);decide +kernel;exact rfl)|(apply Ords.one (i := 5);decide +kernel;exact rfl)|(apply Ords.one (i := 6);decide +kernel;exact rfl)|(apply Ords.one (i := 7);decide +kernel;exact rfl)|(apply Ords.one (i := 8);decide +kernel;exact rfl)|(apply Ords.one (i := 9);decide +kernel;exact rfl)|(apply Ords.two (i := 0) (j := 1);decide +kernel;exact rfl;exact rfl)|(apply Ords.two (i := 0) (j := 2);decide +kernel;exact rfl;exact rfl)|(apply Ords.two (i := 0) (j := 3);decide +kernel;exact rfl;exact rfl)|(apply Ords.two (i := 0) (j := 4);decide +kernel;exact rfl;exact rfl)|(apply Ords.two (i := 1) (j := 5);decide +kernel;exact rfl;exact rfl)|(apply Ords.two (i := 2) (j := 5);decide +kernel;exact rfl;exact rfl)|(apply Ords.two (i := 3) (j := 5);decide +kernel;exact rfl;exact rfl)|(apply Ords.two (i := 4) (j := 5);decide +kernel;exact rfl;exact rfl)|(apply Ords.two (i := 5) (j := 6);decide +kernel;exact rfl;exact rfl)|(apply Ords.two (i := 4) (j := 6);decide +kernel;exact rfl;exact rfl)|(apply Ords.two (i := 6) (j := 7);decide +kernel;exact rfl;exact rfl)|(apply Ords.two (i := 5) (j := 7);decide +kernel;exact rfl;exact rfl)|refine V ?_|(refine W2 ?_ ?_<;>intro hc))
 refine T.kill 0 ?_
 refine p0d (fun i => i <= (a ++ b).length) (fun i => (a ++ b).length - i) (fun i => [(30, .i i), (8, rT 0 2 i), (29, .i ((a ++ b).map PcQ.row).length), (28, .sl ((a ++ b).map PcQ.row)), (0, .sl (a.map PcQ.row)), (1, .sl (b.map PcQ.row)), (2, .fn (.func g) [] [])]) (fun i => [rB (fa (((a ++ b).map (·.f)).take i)) i]) 0 (a0n _) CW (.dead .nil) ?_
 intro i hi
 by_cases hlt : (i : Int) < (((a ++ b).map PcQ.row).length : Nat)
 ·obtain ⟨x, hx⟩ : ∃ x, (a ++ b)[i]? = some x := ⟨(a ++ b)[i]'(by omega), a0c _⟩
  have hb : ((a ++ b).map PcQ.row)[((i : Nat) : Int).toNat]? = some x.row := by rw [a0s, a0e, hx];rfl
  have hxf : ((a ++ b).map (·.f))[i]? = some x.f := by rw [a0e, hx];rfl
  have hsn := A1h _ i x.f hxf
  cases i with
  | zero =>
   repeat' (first|refine W ?_|refine Za ?_|(apply S.indexR;(iterate 3 exact rfl);exact hb;omega;exact rfl)|(apply p0c;(iterate 7 exact rfl))|(apply p0r 0 (rows := []);(iterate 8 exact rfl);exact Ag rfl;exact rfl;exact a0d rfl;exact a0d rfl)|refine V ?_|(refine W2 ?_ ?_<;>intro hc))
   change Next _ _ _ _ _ _
   exact Next.go 1 (by omega) (by omega) CW (by rw [show (1 : Nat) = 0 + 1 from rfl, hsn];exact .live rfl .nil)
  | succ i =>
   repeat' (first|refine W ?_|refine Za ?_|(apply S.indexR;(iterate 3 exact rfl);exact hb;omega;exact rfl)|(apply p0c;(iterate 7 exact rfl))|(apply p0n;(iterate 8 exact rfl);(rw [Sq, a0z, De];omega);exact Ag rfl;exact rfl;exact Av _ _;simp only [a0i, a0o];omega;simp only [a0i, a0o];omega)|refine V ?_|(refine W2 ?_ ?_<;>intro hc))
   change Next _ _ _ _ _ _
   exact Next.go (i + 1 + 1) (by omega) (by omega) (.cons (by rw [show (((i + 1 + 1 : Nat) : Int)) = ((i + 1 : Nat) : Int) + 1 by omega];rfl) rfl CW) (by rw [hsn];exact .live (by rw [a2x, Hb];rfl) .nil)
 ·obtain rfl : i = (a ++ b).length := by omega
  have hlt' : ¬ ((((a ++ b).map (·.f)).length : Nat) : Int) < (((a ++ b).map PcQ.row).length : Nat) := by rw [De];omega
  rw [K9 (by omega), K8 (by omega), <- De, a1s]
  have h2' : ¬ (200 : Int) < ((tms.map frR).length : Nat) := by omega
  repeat' (first|refine W ?_|(refine T.freeze 8 rfl rfl (A72 tms) ?_)|(refine T.heat 1 [.i 0] rfl rfl ?_;intro k o)|(apply S.lenO;(iterate 3 exact rfl))|(apply p2h;exact rfl;exact rfl;exact hsort;exact rfl;rintro xs' ⟨l', rfl, hp, hs⟩)|(apply p2q (hmut _ hp hs);(iterate 5 exact rfl))|refine V ?_|(refine W2 ?_ ?_<;>intro hc))
  refine T.kill 2 ?_
  refine p0d (fun i => i <= tms.length) (fun i => tms.length - i) (fun i => [(51, .i i), (12, rT 2 8 i), (50, .i (tms.map frR).length), (49, .sl (tms.map frR)), (11, .ptr 1 0), (0, .sl (a.map PcQ.row)), (1, .sl (b.map PcQ.row)), (2, .fn (.func g) [] [])]) (fun i => [.dead, .hot k o [.i (jEs op a b (tms.take i))], rB (Bk ((tms.take i).map (jP op a b))) i]) 0 (a0n _) CW (.dead (.hot (.dead .nil))) ?_
  intro i hi
  by_cases hlt : (i : Int) < ((tms.map frR).length : Nat)
  ·obtain ⟨t, ht⟩ : ∃ t, tms[i]? = some t := ⟨tms[i]'(by omega), a0c _⟩
   have hft := hfit t (a0b ht)
   have hb2 : (tms.map frR)[((i : Nat) : Int).toNat]? = some (frR t) := by rw [a0s, a0e, ht];rfl
   have hts1 : tms.take (i + 1) = tms.take i ++ [t] := by rw [a0w, ht];rfl
   have hE : jEs op a b (tms.take (i + 1)) = jE op a b t (jEs op a b (tms.take i)) := by rw [hts1, jEs, a4n];rfl
   have hP : Bk ((tms.take (i + 1)).map (jP op a b)) = Bk ((tms.take i).map (jP op a b)) ++ [.i t.num, .i t.den, .i (kQ (op (atP a t).a (atP b t).a)).num, .i (kQ (op (atP a t).a (atP b t).a)).den, .i (kQ (op (atP a t).b (atP b t).b)).num, .i (kQ (op (atP a t).b (atP b t).b)).den, .i (kQ (op (atP a t).c (atP b t).c)).num, .i (kQ (op (atP a t).c (atP b t).c)).den] := by rw [hts1, a1p, F0];rfl
   have hPl : ((tms.take i).map (jP op a b)).length = i := by rw [a0a, a0z];omega
   unfold jE at hE
   have ox := Pa a t ha ha0 hft
   have oy := Pa b t hb hb0 hft
   generalize jEs op a b (tms.take i) = e0 at hE ⊢
   have c1 := Tt a t e0 ha ha0 (by omega) hft
   generalize Fe a t e0 = e1 at hE c1
   have c2 := Tt b t e1 hb hb0 (by omega) hft
   generalize Fe b t e1 = e2 at hE c2
   generalize atP a t = x at hE hP c1 ox
   generalize atP b t = y at hE hP c2 oy
   have c3 := hj x.a y.a e2 ox.a oy.a
   have f3 := Cp (op x.a y.a)
   generalize kE (op x.a y.a) e2 = e3 at hE c3
   generalize kQ (op x.a y.a) = p3 at hP c3 f3
   have c4 := hj x.b y.b e3 ox.b oy.b
   generalize kE (op x.b y.b) e3 = e4 at hE c4
   generalize kQ (op x.b y.b) = p4 at hP c4
   have c5 := hj x.c y.c e4 ox.c oy.c
   generalize kE (op x.c y.c) e4 = e5 at hE c5
   generalize kQ (op x.c y.c) = p5 at hP c5
   cases i with
   | zero =>
    repeat' (first|refine W ?_|refine Za ?_|(apply p0s;(iterate 3 exact rfl))|(apply p0l;(iterate 3 exact rfl))|(apply p1b;(iterate 5 exact rfl))|(apply p0t;(iterate 5 exact rfl))|(apply p0m;(iterate 5 exact rfl);exact c1;exact rfl)|(apply p0i;(iterate 6 exact rfl);exact c1;exact rfl)|(apply p0m;(iterate 5 exact rfl);exact c2;exact rfl)|(apply p0i;(iterate 6 exact rfl);exact c2;exact rfl)|(apply p0m;(iterate 5 exact rfl);exact c3;exact rfl)|(apply p0i;(iterate 6 exact rfl);exact c3;exact rfl)|(apply p0m;(iterate 5 exact rfl);exact c4;exact rfl)|(apply p0i;(iterate 6 exact rfl);exact c4;exact rfl)|(apply p0m;(iterate 5 exact rfl);exact c5;exact rfl)|(apply p0i;(iterate 6 exact rfl);exact c5;exact rfl)|(apply S.indexR;(iterate 3 exact rfl);exact hb2;omega;exact rfl)|(apply p0c;(iterate 7 exact rfl))|(apply p0r 2 (rows := []);(iterate 8 exact rfl);exact Ag rfl;exact rfl;exact a0d rfl;exact a0d rfl)|(apply p0f 25 A0 (by decide +kernel);simp only [td])|(apply p0e 25 A0 (by decide +kernel);simp only [td])|(apply p0a A0 (by decide +kernel))|refine V ?_|(refine W2 ?_ ?_<;>intro hc))
    change Next _ _ _ _ _ _
    exact Next.go 1 (by omega) (by omega) CW (by rw [show (1 : Nat) = 0 + 1 from rfl, hP, hE];exact .dead (.hot (.live rfl .nil)))
   | succ i =>
    repeat' (first|refine W ?_|refine Za ?_|(apply p0s;(iterate 3 exact rfl))|(apply p0l;(iterate 3 exact rfl))|(apply p1b;(iterate 5 exact rfl))|(apply p0t;(iterate 5 exact rfl))|(apply p0m;(iterate 5 exact rfl);exact c1;exact rfl)|(apply p0i;(iterate 6 exact rfl);exact c1;exact rfl)|(apply p0m;(iterate 5 exact rfl);exact c2;exact rfl)|(apply p0i;(iterate 6 exact rfl);exact c2;exact rfl)|(apply p0m;(iterate 5 exact rfl);exact c3;exact rfl)|(apply p0i;(iterate 6 exact rfl);exact c3;exact rfl)|(apply p0m;(iterate 5 exact rfl);exact c4;exact rfl)|(apply p0i;(iterate 6 exact rfl);exact c4;exact rfl)|(apply p0m;(iterate 5 exact rfl);exact c5;exact rfl)|(apply p0i;(iterate 6 exact rfl);exact c5;exact rfl)|(apply S.indexR;(iterate 3 exact rfl);exact hb2;omega;exact rfl)|(apply p0c;(iterate 7 exact rfl))|(apply p0n;(iterate 8 exact rfl);(rw [Ck, hPl]);exact Ag rfl;exact rfl;exact Av _ _;simp only [a0i, a0o];omega;simp only [a0i, a0o];omega)|(apply p0f 25 A0 (by decide +kernel);simp only [td])|(apply p0e 25 A0 (by decide +kernel);simp only [td])|(apply p0a A0 (by decide +kernel))|refine V ?_|(refine W2 ?_ ?_<;>intro hc))
    change Next _ _ _ _ _ _
    exact Next.go (i + 1 + 1) (by omega) (by omega) (.cons (by rw [show (((i + 1 + 1 : Nat) : Int)) = ((i + 1 : Nat) : Int) + 1 by omega];rfl) rfl CW) (by rw [hP, hE];exact .dead (.hot (.live (by rw [a2x, Cz];rfl) .nil)))
  ·obtain rfl : i = tms.length := by omega
   rw [K9 hT0, K8 hT0, a1s]
   rw [hz]
   have hll : tms.length = ((tms.map (jP op a b)).map PcQ.row).length := by rw [a0a, a0a]
   repeat' (first|refine W ?_|(apply p0s;(iterate 3 exact rfl))|(apply p0l;(iterate 3 exact rfl))|(apply p1b;(iterate 5 exact rfl))|(apply p0t;(iterate 5 exact rfl))|refine Za ?_|refine V ?_|(refine W2 ?_ ?_<;>intro hc))
   apply T.ret
   change S7 _ _ _ _ _ _ _
   refine ⟨.inr rfl, 2, .cons ?_ (.cons (.tmp rfl) .nil), rfl⟩
   rw [<- hll]
   exact .tmp rfl
theorem Ab4 (a b : List PcQ) (ha : okC a) (hb : okC b) (ha0 : a ≠ []) (hb0 : b ≠ []) (han : a.length <= 200) (hbn : b.length <= 200)
  (hu : Fn0 Tryz.prog 124 [.sl (a.map PcQ.row)] (.b true)) (hv : Fn0 Tryz.prog 124 [.sl (b.map PcQ.row)] (.b true)) (hz : jEs (· - ·) a b (Ap a b) = 0) (h2 : ¬ 200 < (Ap a b).length) :
  FnOwnT Tryz.prog 197 [.sl (a.map PcQ.row), .sl (b.map PcQ.row)] (((Ap a b).map (jP (· - ·) a b)).map PcQ.row) 8 (.int .i64 0) := by
 have c := A0j 128 (· - ·) (fun p q e hp hq => Q9 p q e hp hq) a b ha hb ha0 hb0 han hbn hu hv hz h2
 refine FnOwnT.of Tryz.func197 Tryz.ntmps197 rfl rfl rfl ?_
 simp only [A1]
 repeat' (first|refine W ?_|(apply p2g 0 c;(iterate 6 exact rfl);exact Lr _)|refine V ?_|(refine W2 ?_ ?_<;>intro hc))
 apply T.ret
 change S7 _ _ _ _ _ _ _
 exact ⟨.inr rfl, 0, .cons (.tmp rfl) (.cons (.tmp rfl) .nil), rfl⟩
def Ar (s : SetR) : Rat := (C3 s : Int)
theorem Vg (s : SetR) : frR (Ar s) = [.i (C3 s), .i 1] := by
 unfold frR Ar
 rw [Rat.num_intCast, Rat.den_intCast]
 rfl
theorem A9s {s : SetR} (hs : Dt s) : 0 <= C3 s /\ C3 s <= 1048576 := by
 rw [<- A3l]
 exact (Ou hs).hang
theorem Jb {s : SetR} (hs : Dt s) : Fits (Ar s) := by
 have := A9s hs
 unfold Fits Ar
 rw [Rat.num_intCast, Rat.den_intCast]
 omega
def sbL (x y : List PcQ) : List PcQ := (Ap x y).map (jP (· - ·) x y)
def lwE (x y : List PcQ) (by_ : Rat) : Int := if Fk (· - ·) x y = 0 then (if ∀ p ∈ sbL x y, Fits (p.a - by_) then 0 else 5) else Fk (· - ·) x y
def lwL (x y : List PcQ) (by_ : Rat) : List PcQ := if lwE x y by_ = 0 then (sbL x y).map (H6 by_) else []
def dsE (ha hb : Rat) (x y : List PcQ) : Int :=
 if atE x 0 0 = 0 then (if atE y 0 0 = 0 then (if Fits (atQ x 0 - atQ y 0) then (if Fits (atQ x 0 - atQ y 0 - ha) then (if 0 <= atQ x 0 - atQ y 0 - ha then lwE x y ha else lwE y x hb) else 5) else 5) else atE y 0 0) else atE x 0 0
def dsL (ha hb : Rat) (x y : List PcQ) : List PcQ :=
 if atE x 0 0 = 0 then (if atE y 0 0 = 0 then (if Fits (atQ x 0 - atQ y 0) then (if Fits (atQ x 0 - atQ y 0 - ha) then (if 0 <= atQ x 0 - atQ y 0 - ha then lwL x y ha else lwL y x hb) else []) else []) else []) else []
def Gi (a b : SetR) (x y : List PcQ) (te : Rat) : AV := if D0 a b /\ ¬ (C3 a = 0 /\ C3 b = 0) then (if dsE (Ar a) (Ar b) x y = 0 then Ay (dsL (Ar a) (Ar b) x y) 0 te else spE (dsE (Ar a) (Ar b) x y)) else spE 12
def Ha (a b : SetR) (p q : Rat) : AV := if D0 a b then (if Fits (p - Ar a) then (if Fits (q - Ar b) then .tup [.b (decide (p - Ar a < q /\ q - Ar b < p)), .i 0] else .tup [.b false, .i 5]) else .tup [.b false, .i 5]) else .tup [.b false, .i 0]
theorem Mo {op : Rat -> Rat -> Rat} {a b : List PcQ} (h : Fk op a b = 0) : ¬ 200 < (Ap a b).length /\ jEs op a b (Ap a b) = 0 := by
 unfold Fk at h
 split at h
 ·cases h
 ·exact ⟨by assumption, h⟩
theorem A7t {x y : List PcQ} (h : Fk (· - ·) x y = 0) : Sum (· - ·) x y (Ap x y) (sbL x y) := ⟨rfl, rfl, (Mo h).2⟩
theorem Aep {by_ : Rat} {l : List PcQ} (h : okC l) (hf : ∀ p ∈ l, Fits (p.a - by_)) : okC (l.map (H6 by_)) := fun p hp => by
 obtain ⟨q, hq, rfl⟩ := a1a.1 hp
 obtain ⟨h1, _, h3, h4⟩ := h q hq
 exact ⟨h1, hf q hq, h3, h4⟩
structure Dst (x y : List PcQ) (by_ : Rat) (l : List PcQ) : Prop where
 ok : okC l
 sort : Aj l
 ne : l ≠ []
 len : l.length <= 200
 val : ∀ t, vaX l t = vaX x t - vaX y t - by_
theorem A6k {x y : List PcQ} {by_ : Rat} (hx : okC x) (hy : okC y) (hx0 : x ≠ []) (hy0 : y ≠ []) (hsx : Aj x) (hsy : Aj y) (h : lwE x y by_ = 0) : Dst x y by_ (lwL x y by_) := by
 unfold lwL
 rw [if_pos h]
 unfold lwE at h
 split at h
 ·rename_i hj
  split at h
  ·rename_i hf
   have hS := A7t hj
   have hl := hS.len
   have hp := hS.pos hx0
   have h0 : sbL x y ≠ [] := fun e => by rw [e] at hl;simp at hl;omega
   refine ⟨Aep (hS.ok hx hy) hf, Aa7 hS.sort, fun e => h0 (a6y.1 e), ?_, fun t => ?_⟩
   ·rw [a0a]
    have := (Mo hj).1
    omega
   ·rw [A6i h0, hS.value (c := (-1)) (fun p q => by grind) hsx hsy hx0 hy0 t]
  ·cases h
 ·rename_i hj
  exact absurd h hj
theorem A5x {ha hb : Rat} {x y : List PcQ} (hx : okC x) (hy : okC y) (hx0 : x ≠ []) (hy0 : y ≠ []) (hsx : Aj x) (hsy : Aj y) (h : dsE ha hb x y = 0) : Dst x y ha (dsL ha hb x y) \/ Dst y x hb (dsL ha hb x y) := by
 unfold dsL
 unfold dsE at h
 by_cases e1 : atE x 0 0 = 0
 ·rw [if_pos e1] at h ⊢
  by_cases e2 : atE y 0 0 = 0
  ·rw [if_pos e2] at h ⊢
   by_cases e3 : Fits (atQ x 0 - atQ y 0)
   ·rw [if_pos e3] at h ⊢
    by_cases e4 : Fits (atQ x 0 - atQ y 0 - ha)
    ·rw [if_pos e4] at h ⊢
     by_cases e5 : 0 <= atQ x 0 - atQ y 0 - ha
     ·rw [if_pos e5] at h ⊢
      exact .inl (A6k hx hy hx0 hy0 hsx hsy h)
     ·rw [if_neg e5] at h ⊢
      exact .inr (A6k hy hx hy0 hx0 hsy hsx h)
    ·rw [if_neg e4] at h;cases h
   ·rw [if_neg e3] at h;cases h
  ·rw [if_neg e2] at h;exact absurd h e2
 ·rw [if_neg e1] at h;exact absurd h e1
theorem A5w {ha hb : Rat} {x y : List PcQ} (hx : okC x) (hy : okC y) (hx0 : x ≠ []) (hy0 : y ≠ []) (hsx : Aj x) (hsy : Aj y) (h : dsE ha hb x y = 0) : okC (dsL ha hb x y) /\ Aj (dsL ha hb x y) /\ dsL ha hb x y ≠ [] /\ (dsL ha hb x y).length <= 200 := by
 rcases A5x hx hy hx0 hy0 hsx hsy h with h | h
 ·exact ⟨h.ok, h.sort, h.ne, h.len⟩
 ·exact ⟨h.ok, h.sort, h.ne, h.len⟩
theorem Nz : ∀ (l : List PcQ) (i : Nat) (x : PcQ), l[i]? = some x -> ((Bk l).drop (i * 8 + 2)).take 2 = [.i x.a.num, .i x.a.den]
 | [], i, x, h => by simp at h
 | y :: l, 0, x, h => by
  simp only [a2h, a0f] at h
  subst h
  rfl
 | y :: l, i + 1, x, h => by
  rw [Ci, show (i + 1) * 8 + 2 = (y.row.map AV.lf).length + (i * 8 + 2) by simp [PcQ.row];omega, b0a]
  exact Nz l i x (by simpa using h)
theorem Qg : ∀ (l : List PcQ) (i : Nat) (x : PcQ) (v : Rat), l[i]? = some x -> Bd (i * 8 + 2) [.i v.num, .i v.den] (Bk l) = Bk (l.set i ⟨x.f, v, x.b, x.c⟩)
 | [], i, x, v, h => by simp at h
 | y :: l, 0, x, v, h => by
  simp only [a2h, a0f] at h
  subst h
  rw [a7l, Ci, Ci]
  simp [PcQ.row, Bd, Ew]
 | y :: l, i + 1, x, v, h => by
  rw [a5a, Ci, Ci, <- Qg l i x v (by simpa using h), show (i + 1) * 8 + 2 = (i * 8 + 2) + 8 by omega]
  simp [PcQ.row, Bd]
def lwM (by_ : Rat) (c : List PcQ) (i : Nat) : List PcQ := (c.take i).map (H6 by_) ++ c.drop i
theorem A1w (by_ : Rat) (c : List PcQ) (i : Nat) (x : PcQ) (h : c[i]? = some x) : (lwM by_ c i)[i]? = some x := by
 have := (a0g.1 h).1
 rw [lwM, a1g (by simp;omega), a1z, a0a, a0z, show i + (i - min i c.length) = i by omega, h]
theorem Ack (by_ : Rat) (c : List PcQ) (i : Nat) (h : i <= c.length) : (lwM by_ c i).length = c.length := by
 rw [lwM, a0q, a0a, a0z, a3a];omega
theorem Acl (by_ : Rat) (c : List PcQ) (i : Nat) (x : PcQ) (h : c[i]? = some x) : (lwM by_ c i).set i (H6 by_ x) = lwM by_ c (i + 1) := by
 have hi := (a0g.1 h).1
 have hl : ((c.take i).map (H6 by_)).length = i := by rw [a0a, a0z];omega
 rw [lwM, lwM, a6t _ _ (by omega), hl, a5f, a0w, h]
 rw [a7r hi, a7l]
 simp
theorem Qi (x y : List PcQ) (by_ : Rat) (hx : okC x) (hy : okC y) (hx0 : x ≠ []) (hy0 : y ≠ []) (hxn : x.length <= 200) (hyn : y.length <= 200) (hf : Fits by_)
  (hu : Fn0 Tryz.prog 124 [.sl (x.map PcQ.row)] (.b true)) (hv : Fn0 Tryz.prog 124 [.sl (y.map PcQ.row)] (.b true)) :
  Fn0 Tryz.prog 137 [.sl (x.map PcQ.row), .sl (y.map PcQ.row), A2 (frR by_)] (.tup [.sl ((lwL x y by_).map PcQ.row), .i (lwE x y by_)]) := by
 by_cases hj : Fk (· - ·) x y = 0
 ·obtain ⟨h2, hz⟩ := Mo hj
  have c1 := Ab4 x y hx hy hx0 hy0 hxn hyn hu hv hz h2
  have hS := A7t hj
  have hok := hS.ok hx hy
  have hcl : (sbL x y).length <= 200 := by have := hS.len;omega
  unfold lwL lwE
  rw [if_pos hj]
  change FnOwnT _ _ _ ((sbL x y).map PcQ.row) _ _ at c1
  generalize sbL x y = c at c1 hok hcl ⊢
  clear hu hv hz h2 hS hj
  have hle : (c.map PcQ.row).length = c.length := a0a _
  skip
  refine Fn0.of Tryz.func137 Tryz.ntmps137 rfl rfl rfl ?_
  simp only [A1]
  repeat' (first|refine W ?_|(apply p2g 1 c1;(iterate 6 exact rfl);exact Lr _)|(apply p0a A0 (by decide +kernel))|(apply S.lenO;(iterate 3 exact rfl))|refine V ?_|(refine W2 ?_ ?_<;>intro hc))
  refine p0d (fun i => i <= c.length /\ ∀ p ∈ c.take i, Fits (p.a - by_)) (fun i => c.length - i) (fun i => [(22, .i i), (21, .i (c.map PcQ.row).length), (8, .own 1 0 (c.map PcQ.row).length 8), (5, .ptr 0 0)]) (fun i => [.live [.i by_.num, .i by_.den], .live (Bk (lwM by_ c i))]) 0 ⟨a0n _, by simp⟩ CW (.live rfl (.live (Cz _ c) .nil)) ?_
  rintro i ⟨hi, hfi⟩
  by_cases hlt : (i : Int) < ((c.map PcQ.row).length : Nat)
  ·obtain ⟨p, hp⟩ : ∃ p, c[i]? = some p := ⟨c[i]'(by omega), a0c _⟩
   have hmem := a0b hp
   have hld := Nz _ i p (A1w by_ c i p hp)
   have hll := Ack by_ c i hi
   have cs := E4 p.a by_ (hok p hmem).a hf
   unfold Dm at cs
   by_cases hF : Fits (p.a - by_)
   ·rw [if_pos hF] at cs
    have hst := Qg _ i p (p.a - by_) (A1w by_ c i p hp)
    have hsm := Acl by_ c i p hp
    unfold H6 at hsm
    rw [hsm] at hst
    have hf' : ∀ q ∈ c.take (i + 1), Fits (q.a - by_) := fun q hq => by
     rw [a0w, hp] at hq
     rcases a0t.1 hq with hq | hq
     ·exact hfi q hq
     ·obtain rfl : q = p := by simpa using hq
      exact hF
    repeat' (first|refine W ?_|refine Za ?_|refine Zc cs ?_|(apply p3m (o2 := i * 8);(iterate 3 exact rfl);decide +kernel;exact rfl;omega;omega)|(apply p3h;(iterate 3 exact rfl);decide +kernel;exact rfl)|(apply p2x;exact rfl;exact rfl;decide +kernel;exact rfl)|(apply p3n;(iterate 3 exact rfl);decide +kernel;exact rfl;exact hld;(rw [Ck];omega))|(apply p3d;(iterate 6 exact rfl);(rw [Ck];omega);exact rfl)|(apply p2u 1 16 A0 (by decide +kernel);simp only [td])|(apply p2o 1 16 A0 (by decide +kernel);simp only [td])|(apply p0a A0 (by decide +kernel))|refine V ?_|(refine W2 ?_ ?_<;>intro hc))
    change Next _ _ _ _ _ _
    exact Next.go (i + 1) ⟨by omega, hf'⟩ (by omega) (.cons (by rw [show (((i + 1 : Nat) : Int)) = (i : Int) + 1 by omega];rfl) rfl CW) (.live rfl (p2f hst (Cz _ _) .nil))
   ·rw [if_neg hF] at cs
    have hno : ¬ ∀ p ∈ c, Fits (p.a - by_) := fun h => hF (h p hmem)
    rw [if_neg hno, if_neg (show ¬ (5 : Int) = 0 by decide)]
    repeat' (first|refine W ?_|refine Za ?_|refine Zc cs ?_|(apply p3m (o2 := i * 8);(iterate 3 exact rfl);decide +kernel;exact rfl;omega;omega)|(apply p3h;(iterate 3 exact rfl);decide +kernel;exact rfl)|(apply p2x;exact rfl;exact rfl;decide +kernel;exact rfl)|(apply p3n;(iterate 3 exact rfl);decide +kernel;exact rfl;exact hld;(rw [Ck];omega))|(apply p3d;(iterate 6 exact rfl);(rw [Ck];omega);exact rfl)|(apply p2u 1 16 A0 (by decide +kernel);simp only [td])|(apply p2o 1 16 A0 (by decide +kernel);simp only [td])|(apply p0a A0 (by decide +kernel))|(refine p0u 6 rfl ?_;apply T.ret;change Ba _ _ _ _ _)|refine V ?_|(refine W2 ?_ ?_<;>intro hc))
    all_goals exact D2 rfl rfl rfl
  ·obtain rfl : i = c.length := by omega
   rw [a1s] at hfi
   rw [if_pos hfi, if_pos rfl]
   have hfin : lwM by_ c c.length = c.map (H6 by_) := by rw [lwM, a1s, List.drop_length, a2b]
   have hown := Pv (c.map (H6 by_))
   rw [a0a, <- hle] at hown
   rw [hfin]
   repeat' (first|refine W ?_|(refine T.freeze 8 rfl rfl hown ?_)|refine Za ?_|refine V ?_|(refine W2 ?_ ?_<;>intro hc))
   exact D2 rfl rfl rfl
 ·have c1 := Ad8 x y hx hy hx0 hy0 hxn hyn hu hv
  have hl : lwE x y by_ = Fk (· - ·) x y := if_neg hj
  unfold lwL
  rw [hl, if_neg hj]
  generalize Fk (· - ·) x y = e at *
  generalize Wt (· - ·) x y = l at *
  refine Fn0.of Tryz.func137 Tryz.ntmps137 rfl rfl rfl ?_
  simp only [A1]
  repeat' (first|refine W ?_|refine Zc c1 ?_|(apply p0a A0 (by decide +kernel))|(refine p0u 6 rfl ?_;apply T.ret;change Ba _ _ _ _ _)|refine V ?_|(refine W2 ?_ ?_<;>intro hc))
  all_goals exact D2 rfl rfl rfl
end Go.Proofs.YtlapbaiejnaeiaaGreatDoor
