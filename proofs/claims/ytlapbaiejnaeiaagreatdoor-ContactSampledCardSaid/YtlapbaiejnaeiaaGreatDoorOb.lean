/- Lemmas of the proof. -/
import Derived.Test.YtlapbaiejnaeiaaGreatDoorNk
set_option linter.all false
set_option maxHeartbeats 64000000
namespace Go.Proofs.YtlapbaiejnaeiaaGreatDoor
open Go Go.RowKit
def b0a := @List.drop_length_add_append
def b1d := @List.length_pos_of_mem
theorem A1h (l : List Rat) (i : Nat) (q : Rat) (h : l[i]? = some q) : fa (l.take (i + 1)) = fa (l.take i) ++ [.i q.num, .i q.den] := by
 rw [a0w, h]
 simp [fa, Wd, Cf]
theorem De (a b : List PcQ) : ((a ++ b).map (·.f)).length = (a ++ b).length := a0a _
theorem A3x (g : FuncId) (op : Rat -> Rat -> Rat) (hj : ∀ (p q : Rat) (e : Int), Fits p -> Fits q -> FnW Tryz.prog g [.i e] [A2 (frR p), A2 (frR q)] [.i (kE (op p q) e)] (A2 (frR (kQ (op p q))))) (a b : List PcQ) (ha : okC a) (hb : okC b) (ha0 : a ≠ []) (hb0 : b ≠ []) (han : a.length <= 200) (hbn : b.length <= 200)
  (hu : Fn0 Tryz.prog 124 [.sl (a.map PcQ.row)] (.b true)) (hv : Fn0 Tryz.prog 124 [.sl (b.map PcQ.row)] (.b true)) : Fn0 Tryz.prog 233 [.sl (a.map PcQ.row), .sl (b.map PcQ.row), .fn (.func g) [] []] (Ws op a b) := by
 have hla : 0 < a.length := a1j.2 ha0
 have hlb : 0 < b.length := a1j.2 hb0
 have hlen : (a ++ b).length = a.length + b.length := a0q
 have hcat := Nj [a, b] (by simp;omega) (by simp;omega) (by simp)
 simp only [a1l, a3v, a3b, List.flatten_nil, a2b] at hcat
 have hfit := L8 a b ha hb
 have hts : ∀ q ∈ (a ++ b).map (·.f), Fits q := fun q hq => hfit q (by rw [Ap, Es];exact hq)
 have hsort := To ((a ++ b).map (·.f)) hts (by rw [De];omega)
 have hmut := fun l' hp hs => Li ((a ++ b).map (·.f)) l' hp hs (by rw [De];omega)
 have hT0 : 0 < (Ap a b).length := by
  obtain ⟨x, hx⟩ : ∃ x, x ∈ a := ⟨_, a4a hla⟩
  have : x.f ∈ Ap a b := by rw [Ap, Es];exact a1a.2 ⟨x, a0t.2 (.inl hx), rfl⟩
  exact b1d this
 unfold Ws
 change ∀ l' hp hs, FnMut _ _ 2 _ _ (Ap a b).length (Cf (Ap a b)) at hmut
 generalize Ap a b = tms at hmut hT0 hfit ⊢
 have hle : ((a ++ b).map PcQ.row).length = (a ++ b).length := a0a _
 have hT : (tms.map frR).length = tms.length := a0a _
 skip
 refine Fn0.of Tryz.func233 Tryz.ntmps233 rfl rfl rfl ?_
 simp only [A1]
 repeat' (first|refine W ?_|refine Zc hu ?_|refine Zc hv ?_|refine Zc hcat ?_|(apply p1d;(iterate 8 exact rfl))|(apply p0f 8 A0 (by decide +kernel);simp only [td])|(apply p0e 8 A0 (by decide +kernel);simp only [td])|(apply p1k A0)|(apply Ords.nil;decide +kernel)|(apply Ords.one (i := 0);decide +kernel;exact rfl)|(apply Ords.one (i := 1);decide +kernel;exact rfl)|(apply Ords.one (i := 2);decide +kernel;exact rfl)|(apply Ords.one (i := 3);decide +kernel;exact rfl)|(apply Ords.one (i := 4);decide +kernel;exact rfl)|(apply Ords.one (i := 5);decide +kernel;exact rfl)|(apply Ords.one (i := 6);decide +kernel;exact rfl)|(apply Ords.one (i := 7);decide +kernel;exact rfl)|(apply Ords.one (i := 8);decide +kernel;exact rfl)|(apply Ords.one (i := 9);decide +kernel;exact rfl)|(apply Ords.two (i := 0) (j := 1);decide +kernel;exact rfl;exact rfl)|(apply Ords.two (i := 0) (j := 2);decide +kernel;exact rfl;exact rfl)|(apply Ords.two (i := 0) (j := 3);decide +kernel;exact rfl;exact rfl)|(apply Ords.two (i := 0) (j := 4);decide +kernel;exact rfl;exact rfl)|(apply Ords.two (i := 1) (j := 5);decide +kernel;exact rfl;exact rfl)|(apply Ords.two (i := 2) (j := 5);decide +kernel;exact rfl;exact rfl)|(apply Ords.two (i := 3) (j := 5);decide +kernel;exact rfl;exact rfl)|(apply Ords.two (i := 4) (j := 5);decide +kernel;exact rfl;exact rfl)|(apply Ords.two (i := 5) (j := 6);decide +kernel;exact rfl;exact rfl)|(apply Ords.two (i := 4) (j := 6);decide +kernel;exact rfl;exact rfl)|(apply Ords.two (i := 6) (j := 7);decide +kernel;exact rfl;exact rfl)|(apply Ords.two (i := 5) (j := 7);decide +kernel;exact rfl;exact rfl)|refine V ?_|(refine W2 ?_ ?_<;>intro hc))
 refine T.kill 0 ?_
 refine p0d (fun i => i <= (a ++ b).length) (fun i => (a ++ b).length - i) (fun i => [(30, .i i), (8, rT 0 2 i), (29, .i ((a ++ b).map PcQ.row).length), (28, .sl ((a ++ b).map PcQ.row)), (0, .sl (a.map PcQ.row)), (1, .sl (b.map PcQ.row)), (2, .fn (.func g) [] [])]) (fun i => [rB (fa (((a ++ b).map (·.f)).take i)) i]) 0 (a0n _) CV (.dead .nil) ?_
 intro i hi
 by_cases hlt : (i : Int) < (((a ++ b).map PcQ.row).length : Nat)
 ·obtain ⟨x, hx⟩ : ∃ x, (a ++ b)[i]? = some x := ⟨(a ++ b)[i]'(by omega), a0c _⟩
  have hb : ((a ++ b).map PcQ.row)[((i : Nat) : Int).toNat]? = some x.row := by rw [a0s, a0e, hx];rfl
  have hxf : ((a ++ b).map (·.f))[i]? = some x.f := by rw [a0e, hx];rfl
  have hsn := A1h _ i x.f hxf
  cases i with
  | zero =>
   repeat' (first|refine W ?_|refine Za ?_|(apply S.indexR;(iterate 3 exact rfl);exact hb;omega;exact rfl)|(apply p0c;(iterate 7 exact rfl))|(apply p0r 0 (rows := []);(iterate 8 exact rfl);exact Ag rfl;exact rfl;exact a0d rfl;exact a0d rfl)|refine V ?_|(refine W2 ?_ ?_<;>intro hc))
   change Next _ _ _ _ _ _
   exact Next.go 1 (by omega) (by omega) CV (by rw [show (1 : Nat) = 0 + 1 from rfl, hsn];exact .live rfl .nil)
  | succ i =>
   repeat' (first|refine W ?_|refine Za ?_|(apply S.indexR;(iterate 3 exact rfl);exact hb;omega;exact rfl)|(apply p0c;(iterate 7 exact rfl))|(apply p0n;(iterate 8 exact rfl);(rw [Sq, a0z, De];omega);exact Ag rfl;exact rfl;exact Av _ _;simp only [a0i, a0o];omega;simp only [a0i, a0o];omega)|refine V ?_|(refine W2 ?_ ?_<;>intro hc))
   change Next _ _ _ _ _ _
   exact Next.go (i + 1 + 1) (by omega) (by omega) (.cons (by rw [show (((i + 1 + 1 : Nat) : Int)) = ((i + 1 : Nat) : Int) + 1 by omega];rfl) rfl CV) (by rw [hsn];exact .live (by rw [a2x, Hb];rfl) .nil)
 ·obtain rfl : i = (a ++ b).length := by omega
  have hlt' : ¬ ((((a ++ b).map (·.f)).length : Nat) : Int) < (((a ++ b).map PcQ.row).length : Nat) := by rw [De];omega
  rw [K9 (by omega), K8 (by omega), <- De, a1s]
  by_cases h2 : (200 : Int) < (tms.length : Nat)
  ·rw [if_pos (by omega)]
   repeat' (first|refine W ?_|(apply S.lenO;(iterate 3 exact rfl))|(apply p2h;exact rfl;exact rfl;exact hsort;exact rfl;rintro xs' ⟨l', rfl, hp, hs⟩)|(apply p2q (hmut _ hp hs);(iterate 5 exact rfl))|(refine p0u 6 rfl ?_;apply T.ret;change Ba _ _ _ _ _)|refine V ?_|(refine W2 ?_ ?_<;>intro hc))
   exact D2 rfl rfl rfl
  ·rw [if_neg (by omega)]
   have h2' : ¬ (200 : Int) < ((tms.map frR).length : Nat) := by omega
   repeat' (first|refine W ?_|(refine T.freeze 8 rfl rfl (A72 tms) ?_)|(refine T.heat 1 [.i 0] rfl rfl ?_;intro k o)|(apply S.lenO;(iterate 3 exact rfl))|(apply p2h;exact rfl;exact rfl;exact hsort;exact rfl;rintro xs' ⟨l', rfl, hp, hs⟩)|(apply p2q (hmut _ hp hs);(iterate 5 exact rfl))|refine V ?_|(refine W2 ?_ ?_<;>intro hc))
   refine T.kill 2 ?_
   refine p0d (fun i => i <= tms.length) (fun i => tms.length - i) (fun i => [(51, .i i), (12, rT 2 8 i), (50, .i (tms.map frR).length), (49, .sl (tms.map frR)), (11, .ptr 1 0), (0, .sl (a.map PcQ.row)), (1, .sl (b.map PcQ.row)), (2, .fn (.func g) [] [])]) (fun i => [.dead, .hot k o [.i (jEs op a b (tms.take i))], rB (Bk ((tms.take i).map (jP op a b))) i]) 0 (a0n _) CV (.dead (.hot (.dead .nil))) ?_
   intro i hi
   by_cases hlt : (i : Int) < ((tms.map frR).length : Nat)
   ·obtain ⟨t, ht⟩ : ∃ t, tms[i]? = some t := ⟨tms[i]'(by omega), a0c _⟩
    have hft := hfit t (a0b ht)
    have hb2 : (tms.map frR)[((i : Nat) : Int).toNat]? = some (frR t) := by rw [a0s, a0e, ht];rfl
    have hts1 : tms.take (i + 1) = tms.take i ++ [t] := by rw [a0w, ht];rfl
    have hE : jEs op a b (tms.take (i + 1)) = jE op a b t (jEs op a b (tms.take i)) := by rw [hts1, jEs, a4n];rfl
    have hP : Bk ((tms.take (i + 1)).map (jP op a b)) = Bk ((tms.take i).map (jP op a b)) ++ [.i t.num, .i t.den, .i (kQ (op (atP a t).a (atP b t).a)).num, .i (kQ (op (atP a t).a (atP b t).a)).den, .i (kQ (op (atP a t).b (atP b t).b)).num, .i (kQ (op (atP a t).b (atP b t).b)).den, .i (kQ (op (atP a t).c (atP b t).c)).num, .i (kQ (op (atP a t).c (atP b t).c)).den] := by rw [hts1, a1p, F0];rfl
    have hPl : ((tms.take i).map (jP op a b)).length = i := by rw [a0a, a0z];omega
    unfold jE at hE
    have ox := Pa a t ha ha0 hft
    have oy := Pa b t hb hb0 hft
    generalize jEs op a b (tms.take i) = e0 at hE ⊢
    have c1 := Tt a t e0 ha ha0 (by omega) hft
    generalize Fe a t e0 = e1 at hE c1
    have c2 := Tt b t e1 hb hb0 (by omega) hft
    generalize Fe b t e1 = e2 at hE c2
    generalize atP a t = x at hE hP c1 ox
    generalize atP b t = y at hE hP c2 oy
    have c3 := hj x.a y.a e2 ox.a oy.a
    have f3 := Cp (op x.a y.a)
    generalize kE (op x.a y.a) e2 = e3 at hE c3
    generalize kQ (op x.a y.a) = p3 at hP c3 f3
    have c4 := hj x.b y.b e3 ox.b oy.b
    generalize kE (op x.b y.b) e3 = e4 at hE c4
    generalize kQ (op x.b y.b) = p4 at hP c4
    have c5 := hj x.c y.c e4 ox.c oy.c
    generalize kE (op x.c y.c) e4 = e5 at hE c5
    generalize kQ (op x.c y.c) = p5 at hP c5
    cases i with
    | zero =>
     repeat' (first|refine W ?_|refine Za ?_|(apply p0s;(iterate 3 exact rfl))|(apply p0l;(iterate 3 exact rfl))|(apply p1b;(iterate 5 exact rfl))|(apply p0t;(iterate 5 exact rfl))|(apply p0m;(iterate 5 exact rfl);exact c1;exact rfl)|(apply p0i;(iterate 6 exact rfl);exact c1;exact rfl)|(apply p0m;(iterate 5 exact rfl);exact c2;exact rfl)|(apply p0i;(iterate 6 exact rfl);exact c2;exact rfl)|(apply p0m;(iterate 5 exact rfl);exact c3;exact rfl)|(apply p0i;(iterate 6 exact rfl);exact c3;exact rfl)|(apply p0m;(iterate 5 exact rfl);exact c4;exact rfl)|(apply p0i;(iterate 6 exact rfl);exact c4;exact rfl)|(apply p0m;(iterate 5 exact rfl);exact c5;exact rfl)|(apply p0i;(iterate 6 exact rfl);exact c5;exact rfl)|(apply S.indexR;(iterate 3 exact rfl);exact hb2;omega;exact rfl)|(apply p0c;(iterate 7 exact rfl))|(apply p0r 2 (rows := []);(iterate 8 exact rfl);exact Ag rfl;exact rfl;exact a0d rfl;exact a0d rfl)|(apply p0f 25 A0 (by decide +kernel);simp only [td])|(apply p0e 25 A0 (by decide +kernel);simp only [td])|(apply p0a A0 (by decide +kernel))|refine V ?_|(refine W2 ?_ ?_<;>intro hc))
     change Next _ _ _ _ _ _
     exact Next.go 1 (by omega) (by omega) CV (by rw [show (1 : Nat) = 0 + 1 from rfl, hP, hE];exact .dead (.hot (.live rfl .nil)))
    | succ i =>
     repeat' (first|refine W ?_|refine Za ?_|(apply p0s;(iterate 3 exact rfl))|(apply p0l;(iterate 3 exact rfl))|(apply p1b;(iterate 5 exact rfl))|(apply p0t;(iterate 5 exact rfl))|(apply p0m;(iterate 5 exact rfl);exact c1;exact rfl)|(apply p0i;(iterate 6 exact rfl);exact c1;exact rfl)|(apply p0m;(iterate 5 exact rfl);exact c2;exact rfl)|(apply p0i;(iterate 6 exact rfl);exact c2;exact rfl)|(apply p0m;(iterate 5 exact rfl);exact c3;exact rfl)|(apply p0i;(iterate 6 exact rfl);exact c3;exact rfl)|(apply p0m;(iterate 5 exact rfl);exact c4;exact rfl)|(apply p0i;(iterate 6 exact rfl);exact c4;exact rfl)|(apply p0m;(iterate 5 exact rfl);exact c5;exact rfl)|(apply p0i;(iterate 6 exact rfl);exact c5;exact rfl)|(apply S.indexR;(iterate 3 exact rfl);exact hb2;omega;exact rfl)|(apply p0c;(iterate 7 exact rfl))|(apply p0n;(iterate 8 exact rfl);(rw [Ck, hPl]);exact Ag rfl;exact rfl;exact Av _ _;simp only [a0i, a0o];omega;simp only [a0i, a0o];omega)|(apply p0f 25 A0 (by decide +kernel);simp only [td])|(apply p0e 25 A0 (by decide +kernel);simp only [td])|(apply p0a A0 (by decide +kernel))|refine V ?_|(refine W2 ?_ ?_<;>intro hc))
     change Next _ _ _ _ _ _
     exact Next.go (i + 1 + 1) (by omega) (by omega) (.cons (by rw [show (((i + 1 + 1 : Nat) : Int)) = ((i + 1 : Nat) : Int) + 1 by omega];rfl) rfl CV) (by rw [hP, hE];exact .dead (.hot (.live (by rw [a2x, Cz];rfl) .nil)))
   ·obtain rfl : i = tms.length := by omega
    rw [K9 hT0, K8 hT0, a1s]
    have hPl : (tms.map (jP op a b)).length = tms.length := a0a _
    have hown := Pv (tms.map (jP op a b))
    rw [hPl] at hown
    generalize jEs op a b tms = e
    by_cases he : e = 0
    ·rw [if_pos he]
     repeat' (first|refine W ?_|(refine T.freeze 12 rfl rfl hown ?_)|(apply p0s;(iterate 3 exact rfl))|(apply p0l;(iterate 3 exact rfl))|(apply p1b;(iterate 5 exact rfl))|(apply p0t;(iterate 5 exact rfl))|refine Za ?_|refine V ?_|(refine W2 ?_ ?_<;>intro hc))
     exact D2 rfl rfl rfl
    ·rw [if_neg he]
     repeat' (first|refine W ?_|(refine T.cool 1 rfl ?_)|(apply p0s;(iterate 3 exact rfl))|(apply p0l;(iterate 3 exact rfl))|(apply p1b;(iterate 5 exact rfl))|(apply p0t;(iterate 5 exact rfl))|refine Za ?_|(apply p0f 6 A0 (by decide +kernel);simp only [td])|(apply p0e 6 A0 (by decide +kernel);simp only [td])|(apply p0f 4 A0 (by decide +kernel);simp only [td])|(apply p0e 4 A0 (by decide +kernel);simp only [td])|(apply p1k A0)|(apply Ords.nil;decide +kernel)|(apply Ords.one (i := 0);decide +kernel;exact rfl)|(apply Ords.one (i := 1);decide +kernel;exact rfl)|(apply Ords.one (i := 2);decide +kernel;exact rfl)|(apply Ords.one (i := 3);decide +kernel;exact rfl)|(apply Ords.one (i := 4);decide +kernel;exact rfl)|(apply Ords.one (i := 5);decide +kernel;exact rfl)|(apply Ords.one (i := 6);decide +kernel;exact rfl)|(apply Ords.one (i := 7);decide +kernel;exact rfl)|(apply Ords.one (i := 8);decide +kernel;exact rfl)|(apply Ords.one (i := 9);decide +kernel;exact rfl)|(apply Ords.two (i := 0) (j := 1);decide +kernel;exact rfl;exact rfl)|(apply Ords.two (i := 0) (j := 2);decide +kernel;exact rfl;exact rfl)|(apply Ords.two (i := 0) (j := 3);decide +kernel;exact rfl;exact rfl)|(apply Ords.two (i := 0) (j := 4);decide +kernel;exact rfl;exact rfl)|(apply Ords.two (i := 1) (j := 5);decide +kernel;exact rfl;exact rfl)|(apply Ords.two (i := 2) (j := 5);decide +kernel;exact rfl;exact rfl)|(apply Ords.two (i := 3) (j := 5);decide +kernel;exact rfl;exact rfl)|(apply Ords.two (i := 4) (j := 5);decide +kernel;exact rfl;exact rfl)|(apply Ords.two (i := 5) (j := 6);decide +kernel;exact rfl;exact rfl)|(apply Ords.two (i := 4) (j := 6);decide +kernel;exact rfl;exact rfl)|(apply Ords.two (i := 6) (j := 7);decide +kernel;exact rfl;exact rfl)|(apply Ords.two (i := 5) (j := 7);decide +kernel;exact rfl;exact rfl)|(refine p0u 6 rfl ?_;apply T.ret;change Ba _ _ _ _ _)|refine V ?_|(refine W2 ?_ ?_<;>intro hc))
     all_goals exact D2 rfl rfl rfl
def Wt (op : Rat -> Rat -> Rat) (a b : List PcQ) : List PcQ := if 200 < (Ap a b).length then [] else if jEs op a b (Ap a b) = 0 then (Ap a b).map (jP op a b) else []
def Fk (op : Rat -> Rat -> Rat) (a b : List PcQ) : Int := if 200 < (Ap a b).length then 4 else jEs op a b (Ap a b)
theorem Aa0 (op : Rat -> Rat -> Rat) (a b : List PcQ) : Ws op a b = .tup [.sl ((Wt op a b).map PcQ.row), .i (Fk op a b)] := by
 unfold Ws Wt Fk
 split
 ·rfl
 ·split
  ·rename_i h;rw [h]
  ·rfl
theorem Ad8 (a b : List PcQ) (ha : okC a) (hb : okC b) (ha0 : a ≠ []) (hb0 : b ≠ []) (han : a.length <= 200) (hbn : b.length <= 200)
  (hu : Fn0 Tryz.prog 124 [.sl (a.map PcQ.row)] (.b true)) (hv : Fn0 Tryz.prog 124 [.sl (b.map PcQ.row)] (.b true)) : Fn0 Tryz.prog 197 [.sl (a.map PcQ.row), .sl (b.map PcQ.row)] (.tup [.sl ((Wt (· - ·) a b).map PcQ.row), .i (Fk (· - ·) a b)]) := by
 have c := A3x 128 (· - ·) (fun p q e hp hq => Q9 p q e hp hq) a b ha hb ha0 hb0 han hbn hu hv
 rw [Aa0] at c
 refine Fn0.of Tryz.func197 Tryz.ntmps197 rfl rfl rfl ?_
 simp only [A1]
 repeat' (first|refine W ?_|refine Zc c ?_|refine V ?_|(refine W2 ?_ ?_<;>intro hc))
 exact D2 rfl rfl rfl
theorem p2f {n : Nat} {cs cs' : List AV} {H H' : AH} (h : cs = cs') (hb : cs'.all (AV.under n) = true) (c : CovH n H H') : CovH n (.live cs :: H) (.live cs' :: H') := by subst h;exact .live hb c
theorem Qe : ∀ (l : List PcQ) (i : Nat) (x : PcQ), l[i]? = some x -> ((Bk l).drop (i * 8)).take 2 = [.i x.f.num, .i x.f.den]
 | [], i, x, h => by simp at h
 | y :: l, 0, x, h => by
  simp only [a2h, a0f] at h
  subst h
  rfl
 | y :: l, i + 1, x, h => by
  rw [Ci, show (i + 1) * 8 = (y.row.map AV.lf).length + i * 8 by simp [PcQ.row];omega, b0a]
  exact Qe l i x (by simpa using h)
end Go.Proofs.YtlapbaiejnaeiaaGreatDoor
