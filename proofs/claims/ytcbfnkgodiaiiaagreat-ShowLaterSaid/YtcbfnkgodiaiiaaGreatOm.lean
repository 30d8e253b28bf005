/- Contracts: quadratic's joined and Sub, whose curves are the caller's own. No conditions but those of each statement. -/
import Derived.Test.YtcbfnkgodiaiiaaGreatPa
import Derived.Test.YtcbfnkgodiaiiaaGreatOb
import Derived.Test.YtcbfnkgodiaiiaaGreatOl
set_option linter.unusedSimpArgs false
set_option linter.unusedVariables false
namespace Go.Proofs.YtcbfnkgodiaiiaaGreat
open Go Go.RowKit
set_option maxHeartbeats 32000000 in
theorem Zr (g : FuncId) (op : Rat -> Rat -> Rat) (hj : ∀ (p q : Rat) (e : Int), Fits p -> Fits q -> FnW Tryz.prog g [.i e] [A1 (frR p), A1 (frR q)] [.i (kE (op p q) e)] (A1 (frR (kQ (op p q))))) (a b : List PcQ) (ha : okC a) (hb : okC b) (ha0 : a ≠ []) (hb0 : b ≠ []) (han : a.length <= 200) (hbn : b.length <= 200)
  (hu : Fn0 Tryz.prog 95 [.sl (a.map PcQ.row)] (.b true)) (hv : Fn0 Tryz.prog 95 [.sl (b.map PcQ.row)] (.b true)) (hz : jEs op a b (Af a b) = 0) (h2 : ¬ 200 < (Af a b).length) : FnOwnT Tryz.prog 248 [.sl (a.map PcQ.row), .sl (b.map PcQ.row), .fn (.func g) [] []] (((Af a b).map (jP op a b)).map PcQ.row) 8 (.int .i64 0) := by
 have hla : 0 < a.length := List.length_pos_iff.2 ha0
 have hlb : 0 < b.length := List.length_pos_iff.2 hb0
 have hlen : (a ++ b).length = a.length + b.length := List.length_append
 have hcat := Nu [a, b] (by simp;omega) (by simp;omega) (by simp)
 simp only [List.map_cons, List.map_nil, List.flatten_cons, List.flatten_nil, List.append_nil] at hcat
 have hfit := Lh a b ha hb
 have hts : ∀ q ∈ (a ++ b).map (·.f), Fits q := fun q hq => hfit q (by rw [Af, E6];exact hq)
 have hsort := Se ((a ++ b).map (·.f)) hts (by rw [Df];omega)
 have hmut := fun l' hp hs => Ln ((a ++ b).map (·.f)) l' hp hs (by rw [Df];omega)
 have hT0 : 0 < (Af a b).length := by
  obtain ⟨x, hx⟩ : ∃ x, x ∈ a := ⟨_, List.getElem_mem hla⟩
  have : x.f ∈ Af a b := by rw [Af, E6];exact List.mem_map.2 ⟨x, List.mem_append.2 (.inl hx), rfl⟩
  exact List.length_pos_of_mem this
 change ∀ l' hp hs, FnMut _ _ 2 _ _ (Af a b).length (Cc (Af a b)) at hmut
 generalize Af a b = tms at hmut hT0 hfit hz h2 ⊢
 have hle : ((a ++ b).map PcQ.row).length = (a ++ b).length := List.length_map _
 have hT : (tms.map frR).length = tms.length := List.length_map _
 skip
 refine FnOwnT.of Tryz.func248 Tryz.ntmps248 rfl rfl rfl ?_
 simp only [A2]
 repeat' (first | refine W ?_|refine Zc hu ?_|refine Zc hv ?_|refine Zc hcat ?_|(apply S.buildSliceF;(iterate 8 exact rfl))|(apply T.drawR 8 A0 (by decide +kernel);simp only [td])|(apply T.draw 8 A0 (by decide +kernel);simp only [td])|(apply T.orders A0)|(apply Ords.nil;decide +kernel)|(apply Ords.one (i := 0);decide +kernel;exact rfl)|(apply Ords.one (i := 1);decide +kernel;exact rfl)|(apply Ords.one (i := 2);decide +kernel;exact rfl)|(apply Ords.one (i := 3);decide +kernel;exact rfl)|(apply Ords.one (i := 4);decide +kernel;exact rfl)|(apply Ords.one (i := 5);decide +kernel;exact rfl)|(apply Ords.one (i := 6);decide +kernel;exact rfl)|(apply Ords.one (i := 7);decide +kernel;exact rfl)|(apply Ords.one (i := 8);decide +kernel;exact rfl)|(apply Ords.one (i := 9);decide +kernel;exact rfl)|(apply Ords.two (i := 0) (j := 1);decide +kernel;exact rfl;exact rfl)|(apply Ords.two (i := 0) (j := 2);decide +kernel;exact rfl;exact rfl)|(apply Ords.two (i := 0) (j := 3);decide +kernel;exact rfl;exact rfl)|(apply Ords.two (i := 0) (j := 4);decide +kernel;exact rfl;exact rfl)|(apply Ords.two (i := 1) (j := 5);decide +kernel;exact rfl;exact rfl)|(apply Ords.two (i := 2) (j := 5);decide +kernel;exact rfl;exact rfl)|(apply Ords.two (i := 3) (j := 5);decide +kernel;exact rfl;exact rfl)|(apply Ords.two (i := 4) (j := 5);decide +kernel;exact rfl;exact rfl)|(apply Ords.two (i := 5) (j := 6);decide +kernel;exact rfl;exact rfl)|(apply Ords.two (i := 4) (j := 6);decide +kernel;exact rfl;exact rfl)|(apply Ords.two (i := 6) (j := 7);decide +kernel;exact rfl;exact rfl)|(apply Ords.two (i := 5) (j := 7);decide +kernel;exact rfl;exact rfl) | refine V ?_|(refine W2 ?_ ?_ <;> intro hc))
 refine T.kill 0 ?_
 refine T.loopS (fun i => i <= (a ++ b).length) (fun i => (a ++ b).length - i) (fun i => [(30, .i i), (8, rT 0 2 i), (29, .i ((a ++ b).map PcQ.row).length), (28, .sl ((a ++ b).map PcQ.row)), (0, .sl (a.map PcQ.row)), (1, .sl (b.map PcQ.row)), (2, .fn (.func g) [] [])]) (fun i => [rB (fa (((a ++ b).map (·.f)).take i)) i]) 0 (Nat.zero_le _) CW (.dead .nil) ?_
 intro i hi
 by_cases hlt : (i : Int) < (((a ++ b).map PcQ.row).length : Nat)
 ·obtain ⟨x, hx⟩ : ∃ x, (a ++ b)[i]? = some x := ⟨(a ++ b)[i]'(by omega), List.getElem?_eq_getElem _⟩
  have hb : ((a ++ b).map PcQ.row)[((i : Nat) : Int).toNat]? = some x.row := by rw [Int.toNat_natCast, List.getElem?_map, hx];rfl
  have hxf : ((a ++ b).map (·.f))[i]? = some x.f := by rw [List.getElem?_map, hx];rfl
  have hsn := A0n _ i x.f hxf
  cases i with
  | zero =>
   repeat' (first | refine W ?_|refine Za ?_|refine Zi hb ?_|(apply S.buildSlice1;(iterate 7 exact rfl))|(apply S.appendN 0 (rows := []);(iterate 8 exact rfl);exact Ai rfl;exact rfl;exact Nat.le_of_ble_eq_true rfl;exact Nat.le_of_ble_eq_true rfl) | refine V ?_|(refine W2 ?_ ?_ <;> intro hc))
   change Next _ _ _ _ _ _
   exact Next.go 1 (by omega) (by omega) CW (by rw [show (1 : Nat) = 0 + 1 from rfl, hsn];exact .live rfl .nil)
  | succ i =>
   repeat' (first | refine W ?_|refine Za ?_|refine Zi hb ?_|(apply S.buildSlice1;(iterate 7 exact rfl))|(apply S.appendO;(iterate 8 exact rfl);(rw [Sr, List.length_take, Df];omega);exact Ai rfl;exact rfl;exact Az _ _;simp only [List.length_cons, List.length_nil];omega;simp only [List.length_cons, List.length_nil];omega) | refine V ?_|(refine W2 ?_ ?_ <;> intro hc))
   change Next _ _ _ _ _ _
   exact Next.go (i + 1 + 1) (by omega) (by omega) (.cons (by rw [show (((i + 1 + 1 : Nat) : Int)) = ((i + 1 : Nat) : Int) + 1 by omega];rfl) rfl CW) (by rw [hsn];exact .live (by rw [List.all_append, Gz];rfl) .nil)
 ·obtain rfl : i = (a ++ b).length := by omega
  have hlt' : ¬ ((((a ++ b).map (·.f)).length : Nat) : Int) < (((a ++ b).map PcQ.row).length : Nat) := by rw [Df];omega
  rw [Kn (by omega), Kq (by omega), <- Df, List.take_length]
  have h2' : ¬ (200 : Int) < ((tms.map frR).length : Nat) := by omega
  repeat' (first | refine W ?_|(refine T.freeze 8 rfl rfl (A4z tms) ?_)|(refine T.heat 1 [.i 0] rfl rfl ?_;intro k o)|(apply S.lenO;exact rfl;exact rfl;exact rfl)|(apply S.callSort;exact rfl;exact rfl;exact hsort;exact rfl;rintro xs' ⟨l', rfl, hp, hs⟩)|(apply S.callMut (hmut _ hp hs);(iterate 5 exact rfl)) | refine V ?_|(refine W2 ?_ ?_ <;> intro hc))
  refine T.kill 2 ?_
  refine T.loopS (fun i => i <= tms.length) (fun i => tms.length - i) (fun i => [(51, .i i), (12, rT 2 8 i), (50, .i (tms.map frR).length), (49, .sl (tms.map frR)), (11, .ptr 1 0), (0, .sl (a.map PcQ.row)), (1, .sl (b.map PcQ.row)), (2, .fn (.func g) [] [])]) (fun i => [.dead, .hot k o [.i (jEs op a b (tms.take i))], rB (Bk ((tms.take i).map (jP op a b))) i]) 0 (Nat.zero_le _) CW (.dead (.hot (.dead .nil))) ?_
  intro i hi
  by_cases hlt : (i : Int) < ((tms.map frR).length : Nat)
  ·obtain ⟨t, ht⟩ : ∃ t, tms[i]? = some t := ⟨tms[i]'(by omega), List.getElem?_eq_getElem _⟩
   have hft := hfit t (List.mem_of_getElem? ht)
   have hb2 : (tms.map frR)[((i : Nat) : Int).toNat]? = some (frR t) := by rw [Int.toNat_natCast, List.getElem?_map, ht];rfl
   have hts1 : tms.take (i + 1) = tms.take i ++ [t] := by rw [List.take_add_one, ht];rfl
   have hE : jEs op a b (tms.take (i + 1)) = jE op a b t (jEs op a b (tms.take i)) := by rw [hts1, jEs, List.foldl_append];rfl
   have hP : Bk ((tms.take (i + 1)).map (jP op a b)) = Bk ((tms.take i).map (jP op a b)) ++ [.i t.num, .i t.den, .i (kQ (op (atP a t).a (atP b t).a)).num, .i (kQ (op (atP a t).a (atP b t).a)).den, .i (kQ (op (atP a t).b (atP b t).b)).num, .i (kQ (op (atP a t).b (atP b t).b)).den, .i (kQ (op (atP a t).c (atP b t).c)).num, .i (kQ (op (atP a t).c (atP b t).c)).den] := by rw [hts1, List.map_append, Fa];rfl
   have hPl : ((tms.take i).map (jP op a b)).length = i := by rw [List.length_map, List.length_take];omega
   unfold jE at hE
   have ox := Q2 a t ha ha0 hft
   have oy := Q2 b t hb hb0 hft
   generalize jEs op a b (tms.take i) = e0 at hE ⊢
   have c1 := T9 a t e0 ha ha0 (by omega) hft
   generalize Fj a t e0 = e1 at hE c1
   have c2 := T9 b t e1 hb hb0 (by omega) hft
   generalize Fj b t e1 = e2 at hE c2
   generalize atP a t = x at hE hP c1 ox
   generalize atP b t = y at hE hP c2 oy
   have c3 := hj x.a y.a e2 ox.a oy.a
   have f3 := Cp (op x.a y.a)
   generalize kE (op x.a y.a) e2 = e3 at hE c3
   generalize kQ (op x.a y.a) = p3 at hP c3 f3
   have c4 := hj x.b y.b e3 ox.b oy.b
   generalize kE (op x.b y.b) e3 = e4 at hE c4
   generalize kQ (op x.b y.b) = p4 at hP c4
   have c5 := hj x.c y.c e4 ox.c oy.c
   generalize kE (op x.c y.c) e4 = e5 at hE c5
   generalize kQ (op x.c y.c) = p5 at hP c5
   cases i with
   | zero =>
    repeat' (first | refine W ?_|refine Za ?_|(apply S.fieldH;exact rfl;exact rfl;exact rfl)|(apply S.nilCheckH;exact rfl;exact rfl;exact rfl)|(apply S.loadH;(iterate 5 exact rfl))|(apply S.storeH;(iterate 5 exact rfl))|(apply S.callW;(iterate 5 exact rfl);exact c1;exact rfl)|(apply S.callWD;(iterate 6 exact rfl);exact c1;exact rfl)|(apply S.callW;(iterate 5 exact rfl);exact c2;exact rfl)|(apply S.callWD;(iterate 6 exact rfl);exact c2;exact rfl)|(apply S.callW;(iterate 5 exact rfl);exact c3;exact rfl)|(apply S.callWD;(iterate 6 exact rfl);exact c3;exact rfl)|(apply S.callW;(iterate 5 exact rfl);exact c4;exact rfl)|(apply S.callWD;(iterate 6 exact rfl);exact c4;exact rfl)|(apply S.callW;(iterate 5 exact rfl);exact c5;exact rfl)|(apply S.callWD;(iterate 6 exact rfl);exact c5;exact rfl)|refine Zi hb2 ?_|(apply S.buildSlice1;(iterate 7 exact rfl))|(apply S.appendN 2 (rows := []);(iterate 8 exact rfl);exact Ai rfl;exact rfl;exact Nat.le_of_ble_eq_true rfl;exact Nat.le_of_ble_eq_true rfl)|(apply T.drawR 25 A0 (by decide +kernel);simp only [td])|(apply T.draw 25 A0 (by decide +kernel);simp only [td])|(apply T.drawAll A0 (by decide +kernel)) | refine V ?_|(refine W2 ?_ ?_ <;> intro hc))
    change Next _ _ _ _ _ _
    exact Next.go 1 (by omega) (by omega) CW (by rw [show (1 : Nat) = 0 + 1 from rfl, hP, hE];exact .dead (.hot (.live rfl .nil)))
   | succ i =>
    repeat' (first | refine W ?_|refine Za ?_|(apply S.fieldH;exact rfl;exact rfl;exact rfl)|(apply S.nilCheckH;exact rfl;exact rfl;exact rfl)|(apply S.loadH;(iterate 5 exact rfl))|(apply S.storeH;(iterate 5 exact rfl))|(apply S.callW;(iterate 5 exact rfl);exact c1;exact rfl)|(apply S.callWD;(iterate 6 exact rfl);exact c1;exact rfl)|(apply S.callW;(iterate 5 exact rfl);exact c2;exact rfl)|(apply S.callWD;(iterate 6 exact rfl);exact c2;exact rfl)|(apply S.callW;(iterate 5 exact rfl);exact c3;exact rfl)|(apply S.callWD;(iterate 6 exact rfl);exact c3;exact rfl)|(apply S.callW;(iterate 5 exact rfl);exact c4;exact rfl)|(apply S.callWD;(iterate 6 exact rfl);exact c4;exact rfl)|(apply S.callW;(iterate 5 exact rfl);exact c5;exact rfl)|(apply S.callWD;(iterate 6 exact rfl);exact c5;exact rfl)|refine Zi hb2 ?_|(apply S.buildSlice1;(iterate 7 exact rfl))|(apply S.appendO;(iterate 8 exact rfl);(rw [Ci, hPl]);exact Ai rfl;exact rfl;exact Az _ _;simp only [List.length_cons, List.length_nil];omega;simp only [List.length_cons, List.length_nil];omega)|(apply T.drawR 25 A0 (by decide +kernel);simp only [td])|(apply T.draw 25 A0 (by decide +kernel);simp only [td])|(apply T.drawAll A0 (by decide +kernel)) | refine V ?_|(refine W2 ?_ ?_ <;> intro hc))
    change Next _ _ _ _ _ _
    exact Next.go (i + 1 + 1) (by omega) (by omega) (.cons (by rw [show (((i + 1 + 1 : Nat) : Int)) = ((i + 1 : Nat) : Int) + 1 by omega];rfl) rfl CW) (by rw [hP, hE];exact .dead (.hot (.live (by rw [List.all_append, D0];rfl) .nil)))
  ·obtain rfl : i = tms.length := by omega
   rw [Kn hT0, Kq hT0, List.take_length]
   rw [hz]
   have hll : tms.length = ((tms.map (jP op a b)).map PcQ.row).length := by rw [List.length_map, List.length_map]
   repeat' (first | refine W ?_|(apply S.fieldH;exact rfl;exact rfl;exact rfl)|(apply S.nilCheckH;exact rfl;exact rfl;exact rfl)|(apply S.loadH;(iterate 5 exact rfl))|(apply S.storeH;(iterate 5 exact rfl))|refine Za ?_ | refine V ?_|(refine W2 ?_ ?_ <;> intro hc))
   apply T.ret
   change Tg _ _ _ _ _ _ _
   refine ⟨.inr rfl, 2, .cons ?_ (.cons (.tmp rfl) .nil), rfl⟩
   rw [<- hll]
   exact .tmp rfl
theorem A9q (a b : List PcQ) (ha : okC a) (hb : okC b) (ha0 : a ≠ []) (hb0 : b ≠ []) (han : a.length <= 200) (hbn : b.length <= 200)
  (hu : Fn0 Tryz.prog 95 [.sl (a.map PcQ.row)] (.b true)) (hv : Fn0 Tryz.prog 95 [.sl (b.map PcQ.row)] (.b true)) (hz : jEs (· - ·) a b (Af a b) = 0) (h2 : ¬ 200 < (Af a b).length) :
  FnOwnT Tryz.prog 180 [.sl (a.map PcQ.row), .sl (b.map PcQ.row)] (((Af a b).map (jP (· - ·) a b)).map PcQ.row) 8 (.int .i64 0) := by
 have c := Zr 150 (· - ·) (fun p q e hp hq => Pm p q e hp hq) a b ha hb ha0 hb0 han hbn hu hv hz h2
 refine FnOwnT.of Tryz.func180 Tryz.ntmps180 rfl rfl rfl ?_
 simp only [A2]
 repeat' (first | refine W ?_|(apply S.callOwnT 0 c;(iterate 6 exact rfl);exact M2 _) | refine V ?_|(refine W2 ?_ ?_ <;> intro hc))
 apply T.ret
 change Tg _ _ _ _ _ _ _
 exact ⟨.inr rfl, 0, .cons (.tmp rfl) (.cons (.tmp rfl) .nil), rfl⟩
end Go.Proofs.YtcbfnkgodiaiiaaGreat
