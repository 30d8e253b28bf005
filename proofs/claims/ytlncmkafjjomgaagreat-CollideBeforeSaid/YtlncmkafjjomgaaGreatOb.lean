/- Contract: quadratic's joined. No conditions but those of each statement. | Contracts: quadratic's Add, Sub, Shift. No conditions but those of each statement. -/
import Derived.Test.YtlncmkafjjomgaaGreatOa
set_option linter.unusedSimpArgs false
namespace Go.Proofs.YtlncmkafjjomgaaGreat
set_option linter.unusedVariables false
open Go Go.RowKit
theorem fa_snoc (l : List Rat) (i : Nat) (q : Rat) (h : l[i]? = some q) : fa (l.take (i + 1)) = fa (l.take i) ++ [.i q.num, .i q.den] := by
 rw [List.take_add_one, h]
 simp [fa, cellsF_append, cellsF]
theorem times_len (a b : List PcQ) : ((a ++ b).map (·.f)).length = (a ++ b).length := List.length_map _
set_option maxHeartbeats 32000000 in
theorem qua_joined (g : FuncId) (op : Rat → Rat → Rat) (hj : ∀ (p q : Rat) (e : Int), Fits p → Fits q → FnW Tryz.prog g [.i e] [rowA (frR p), rowA (frR q)] [.i (kE (op p q) e)] (rowA (frR (kQ (op p q))))) (a b : List PcQ) (ha : okC a) (hb : okC b) (ha0 : a ≠ []) (hb0 : b ≠ []) (han : a.length ≤ 200) (hbn : b.length ≤ 200)
  (hu : Fn0 Tryz.prog 38 [.sl (a.map PcQ.row)] (.b true)) (hv : Fn0 Tryz.prog 38 [.sl (b.map PcQ.row)] (.b true)) : Fn0 Tryz.prog 134 [.sl (a.map PcQ.row), .sl (b.map PcQ.row), .fn (.func g) [] []] (joinA op a b) := by
 have hla : 0 < a.length := List.length_pos_iff.2 ha0
 have hlb : 0 < b.length := List.length_pos_iff.2 hb0
 have hlen : (a ++ b).length = a.length + b.length := List.length_append
 have hcat := concat_pieces [a, b] (by simp;omega) (by simp;omega) (by simp)
 simp only [List.map_cons, List.map_nil, List.flatten_cons, List.flatten_nil, List.append_nil] at hcat
 have hfit := timesQ_fits a b ha hb
 have hts : ∀ q ∈ (a ++ b).map (·.f), Fits q := fun q hq => hfit q (by rw [timesQ, mem_putAll];exact hq)
 have hsort := sort_fracs ((a ++ b).map (·.f)) hts (by rw [times_len];omega)
 have hmut := fun l' hp hs => compact_sorted ((a ++ b).map (·.f)) l' hp hs (by rw [times_len];omega)
 have hT0 : 0 < (timesQ a b).length := by
  obtain ⟨x, hx⟩ : ∃ x, x ∈ a := ⟨_, List.getElem_mem hla⟩
  have : x.f ∈ timesQ a b := by rw [timesQ, mem_putAll];exact List.mem_map.2 ⟨x, List.mem_append.2 (.inl hx), rfl⟩
  exact List.length_pos_of_mem this
 unfold joinA
 change ∀ l' hp hs, FnMut _ _ 2 _ _ (timesQ a b).length (cellsF (timesQ a b)) at hmut
 generalize timesQ a b = tms at hmut hT0 hfit ⊢
 have hle : ((a ++ b).map PcQ.row).length = (a ++ b).length := List.length_map _
 have hT : (tms.map frR).length = tms.length := List.length_map _
 skip
 refine Fn0.of Tryz.func134 Tryz.ntmps134 rfl rfl rfl ?_
 simp only [entryTm]
 repeat' (first|(apply S.move;exact rfl;exact rfl)|(apply S.assign;exact rfl;exact rfl)|(apply S.gC;exact rfl;exact rfl;exact rfl)|(apply S.pCN;exact rfl;exact rfl;exact rfl)|(apply S.call;exact rfl;exact rfl;exact hu;exact rfl)|(apply S.call;exact rfl;exact rfl;exact hv;exact rfl)|(apply S.call;exact rfl;exact rfl;exact hcat;exact rfl)|(apply S.buildSliceF;(iterate 8 exact rfl))|(apply S.not;exact rfl;exact rfl;exact rfl)|(apply S.lenR;exact rfl;exact rfl) | apply S.nil | apply T.regs|(apply T.cCN;exact rfl) | apply T.seq|(apply T.skip;first | change T _ _ _ _ _ | change Done _ _ _ _ _ | change Next _ _ _ _ _ _ | skip) | apply T.block)
 refine T.kill 0 ?_
 refine T.loopS (fun i => i ≤ (a ++ b).length) (fun i => (a ++ b).length - i) (fun i => [(30, .i i), (8, rT 0 2 i), (29, .i ((a ++ b).map PcQ.row).length), (28, .sl ((a ++ b).map PcQ.row)), (0, .sl (a.map PcQ.row)), (1, .sl (b.map PcQ.row)), (2, .fn (.func g) [] [])]) (fun i => [rB (fa (((a ++ b).map (·.f)).take i)) i]) 0 (Nat.zero_le _) (.cons rfl rfl (.cons rfl rfl (.cons rfl rfl (.cons rfl rfl (.cons rfl rfl (.cons rfl rfl (.cons rfl rfl .nil))))))) (.dead .nil) ?_
 intro i hi
 by_cases hlt : (i : Int) < (((a ++ b).map PcQ.row).length : Nat)
 ·obtain ⟨x, hx⟩ : ∃ x, (a ++ b)[i]? = some x := ⟨(a ++ b)[i]'(by omega), List.getElem?_eq_getElem _⟩
  have hb : ((a ++ b).map PcQ.row)[((i : Nat) : Int).toNat]? = some x.row := by rw [Int.toNat_natCast, List.getElem?_map, hx];rfl
  have hxf : ((a ++ b).map (·.f))[i]? = some x.f := by rw [List.getElem?_map, hx];rfl
  have hsn := fa_snoc _ i x.f hxf
  cases i with
  | zero =>
   repeat' (first|(apply S.move;exact rfl;exact rfl)|(apply S.assign;exact rfl;exact rfl)|(apply S.fieldP;exact rfl;exact rfl;exact rfl)|(apply S.arith;(iterate 4 exact rfl);omega)|(apply S.indexR;exact rfl;exact rfl;exact rfl;exact hb;omega;exact rfl)|(apply S.buildSlice1;(iterate 7 exact rfl))|(apply S.appendN 0 (rows := []);(iterate 8 exact rfl);exact rows_one rfl;exact rfl;exact Nat.le_of_ble_eq_true rfl;exact Nat.le_of_ble_eq_true rfl)|(apply S.loadPA;(iterate 4 exact rfl))|(apply S.loadRA;(iterate 4 exact rfl))|(apply S.alloc;(iterate 5 exact rfl))|(apply S.store;(iterate 7 exact rfl))|(apply S.cmp;(iterate 4 exact rfl)) | apply S.nil | apply T.regs | apply T.reg|(apply T.cT;exact rfl;assumption) | apply T.seq|(apply T.skip;first | change T _ _ _ _ _ | change Done _ _ _ _ _ | change Next _ _ _ _ _ _ | skip) | apply T.block)
   change Next _ _ _ _ _ _
   exact Next.go 1 (by omega) (by omega) (.cons rfl rfl (.cons rfl rfl (.cons rfl rfl (.cons rfl rfl (.cons rfl rfl (.cons rfl rfl (.cons rfl rfl .nil))))))) (by rw [show (1 : Nat) = 0 + 1 from rfl, hsn];exact .live rfl .nil)
  | succ i =>
   repeat' (first|(apply S.move;exact rfl;exact rfl)|(apply S.assign;exact rfl;exact rfl)|(apply S.fieldP;exact rfl;exact rfl;exact rfl)|(apply S.arith;(iterate 4 exact rfl);omega)|(apply S.indexR;exact rfl;exact rfl;exact rfl;exact hb;omega;exact rfl)|(apply S.buildSlice1;(iterate 7 exact rfl))|(apply S.appendO;(iterate 8 exact rfl);(rw [fa_len, List.length_take, times_len];omega);exact rows_one rfl;exact rfl;exact clear_lf _ _;simp only [List.length_cons, List.length_nil];omega;simp only [List.length_cons, List.length_nil];omega)|(apply S.loadPA;(iterate 4 exact rfl))|(apply S.loadRA;(iterate 4 exact rfl))|(apply S.alloc;(iterate 5 exact rfl))|(apply S.store;(iterate 7 exact rfl))|(apply S.cmp;(iterate 4 exact rfl)) | apply S.nil | apply T.regs | apply T.reg|(apply T.cT;exact rfl;assumption) | apply T.seq|(apply T.skip;first | change T _ _ _ _ _ | change Done _ _ _ _ _ | change Next _ _ _ _ _ _ | skip) | apply T.block)
   change Next _ _ _ _ _ _
   exact Next.go (i + 1 + 1) (by omega) (by omega) (.cons (by rw [show (((i + 1 + 1 : Nat) : Int)) = ((i + 1 : Nat) : Int) + 1 by omega];rfl) rfl (.cons rfl rfl (.cons rfl rfl (.cons rfl rfl (.cons rfl rfl (.cons rfl rfl (.cons rfl rfl .nil))))))) (by rw [hsn];exact .live (by rw [List.all_append, under_fa];rfl) .nil)
 ·obtain rfl : i = (a ++ b).length := by omega
  have hlt' : ¬ ((((a ++ b).map (·.f)).length : Nat) : Int) < (((a ++ b).map PcQ.row).length : Nat) := by rw [times_len];omega
  rw [rT_pos (by omega), rB_pos (by omega), ← times_len, List.take_length]
  by_cases h2 : (200 : Int) < (tms.length : Nat)
  ·rw [if_pos (by omega)]
   repeat' (first|(apply S.move;exact rfl;exact rfl)|(apply S.assign;exact rfl;exact rfl)|(apply S.lenO;exact rfl;exact rfl;exact rfl)|(apply S.callSort;exact rfl;exact rfl;exact hsort;exact rfl;rintro xs' ⟨l', rfl, hp, hs⟩)|(apply S.callMut (hmut _ hp hs);(iterate 5 exact rfl))|(refine T.nilU 6 rfl ?_;apply T.ret;change Done _ _ _ _ _)|(apply S.cmp;(iterate 4 exact rfl)) | apply S.nil | apply T.regs|(apply T.cT;exact rfl;assumption)|(apply T.cF;exact rfl;assumption) | apply T.seq|(apply T.exit;first | change T _ _ _ _ _ | change Done _ _ _ _ _ | change Next _ _ _ _ _ _ | skip))
   exact ⟨.inr rfl, [.sl [], .i 4], .cons (.tmp rfl) (.cons (.tmp rfl) .nil), .tup (.cons (.one (.lf _)) (.cons (.one (.lf _)) .nil))⟩
  ·rw [if_neg (by omega)]
   have h2' : ¬ (200 : Int) < ((tms.map frR).length : Nat) := by omega
   repeat' (first|(apply S.move;exact rfl;exact rfl)|(apply S.assign;exact rfl;exact rfl)|(refine T.freeze 8 rfl rfl (own_fa tms) ?_)|(refine T.heat 1 [.i 0] rfl rfl ?_;intro k o)|(apply S.callSort;exact rfl;exact rfl;exact hsort;exact rfl;rintro xs' ⟨l', rfl, hp, hs⟩)|(apply S.callMut (hmut _ hp hs);(iterate 5 exact rfl))|(apply S.box;(iterate 6 exact rfl))|(apply S.cmp;(iterate 4 exact rfl))|(apply S.lenR;exact rfl;exact rfl)|(apply S.build;exact rfl;exact rfl;exact rfl) | apply S.nil | apply T.regs|(apply T.cF;exact rfl;assumption) | apply T.seq|(apply T.skip;first | change T _ _ _ _ _ | change Done _ _ _ _ _ | change Next _ _ _ _ _ _ | skip)|(apply T.exit;first | change T _ _ _ _ _ | change Done _ _ _ _ _ | change Next _ _ _ _ _ _ | skip) | apply T.block)
   refine T.kill 2 ?_
   refine T.loopS (fun i => i ≤ tms.length) (fun i => tms.length - i) (fun i => [(51, .i i), (12, rT 2 8 i), (50, .i (tms.map frR).length), (49, .sl (tms.map frR)), (11, .ptr 1 0), (0, .sl (a.map PcQ.row)), (1, .sl (b.map PcQ.row)), (2, .fn (.func g) [] [])]) (fun i => [.dead, .hot k o [.i (jEs op a b (tms.take i))], rB (cellsP ((tms.take i).map (jP op a b))) i]) 0 (Nat.zero_le _) (.cons rfl rfl (.cons rfl rfl (.cons rfl rfl (.cons rfl rfl (.cons rfl rfl (.cons rfl rfl (.cons rfl rfl (.cons rfl rfl .nil)))))))) (.dead (.hot (.dead .nil))) ?_
   intro i hi
   by_cases hlt : (i : Int) < ((tms.map frR).length : Nat)
   ·obtain ⟨t, ht⟩ : ∃ t, tms[i]? = some t := ⟨tms[i]'(by omega), List.getElem?_eq_getElem _⟩
    have hft := hfit t (List.mem_of_getElem? ht)
    have hb2 : (tms.map frR)[((i : Nat) : Int).toNat]? = some (frR t) := by rw [Int.toNat_natCast, List.getElem?_map, ht];rfl
    have hts1 : tms.take (i + 1) = tms.take i ++ [t] := by rw [List.take_add_one, ht];rfl
    have hE : jEs op a b (tms.take (i + 1)) = jE op a b t (jEs op a b (tms.take i)) := by rw [hts1, jEs, List.foldl_append];rfl
    have hP : cellsP ((tms.take (i + 1)).map (jP op a b)) = cellsP ((tms.take i).map (jP op a b)) ++ [.i t.num, .i t.den, .i (kQ (op (atP a t).a (atP b t).a)).num, .i (kQ (op (atP a t).a (atP b t).a)).den, .i (kQ (op (atP a t).b (atP b t).b)).num, .i (kQ (op (atP a t).b (atP b t).b)).den, .i (kQ (op (atP a t).c (atP b t).c)).num, .i (kQ (op (atP a t).c (atP b t).c)).den] := by rw [hts1, List.map_append, cellsP_append];rfl
    have hPl : ((tms.take i).map (jP op a b)).length = i := by rw [List.length_map, List.length_take];omega
    unfold jE at hE
    have ox := atP_okD a t ha ha0 hft
    have oy := atP_okD b t hb hb0 hft
    generalize jEs op a b (tms.take i) = e0 at hE ⊢
    have c1 := sum_at a t e0 ha ha0 (by omega) hft
    generalize atPE a t e0 = e1 at hE c1
    have c2 := sum_at b t e1 hb hb0 (by omega) hft
    generalize atPE b t e1 = e2 at hE c2
    generalize atP a t = x at hE hP c1 ox
    generalize atP b t = y at hE hP c2 oy
    have c3 := hj x.a y.a e2 ox.a oy.a
    have f3 := kQ_fits (op x.a y.a)
    generalize kE (op x.a y.a) e2 = e3 at hE c3
    generalize kQ (op x.a y.a) = p3 at hP c3 f3
    have c4 := hj x.b y.b e3 ox.b oy.b
    generalize kE (op x.b y.b) e3 = e4 at hE c4
    generalize kQ (op x.b y.b) = p4 at hP c4
    have c5 := hj x.c y.c e4 ox.c oy.c
    generalize kE (op x.c y.c) e4 = e5 at hE c5
    generalize kQ (op x.c y.c) = p5 at hP c5
    cases i with
    | zero =>
     repeat' (first|(apply S.move;exact rfl;exact rfl)|(apply S.assign;exact rfl;exact rfl)|(apply S.fieldP;exact rfl;exact rfl;exact rfl)|(apply S.arith;(iterate 4 exact rfl);omega)|(apply S.callWD;(iterate 6 exact rfl);exact c1;exact rfl)|(apply S.callWD;(iterate 6 exact rfl);exact c2;exact rfl)|(apply S.callWD;(iterate 6 exact rfl);exact c3;exact rfl)|(apply S.callWD;(iterate 6 exact rfl);exact c4;exact rfl)|(apply S.callWD;(iterate 6 exact rfl);exact c5;exact rfl)|(apply S.indexR;exact rfl;exact rfl;exact rfl;exact hb2;omega;exact rfl)|(apply S.buildSlice1;(iterate 7 exact rfl))|(apply S.appendN 2 (rows := []);(iterate 8 exact rfl);exact rows_one rfl;exact rfl;exact Nat.le_of_ble_eq_true rfl;exact Nat.le_of_ble_eq_true rfl)|(apply T.drawR 25 anyOrder (by decide +kernel);simp only [List.take_succ_cons, List.take_zero, List.drop_succ_cons, List.drop_zero])|(apply T.drawAll anyOrder (by decide +kernel))|(apply S.loadPA;(iterate 4 exact rfl))|(apply S.loadRA;(iterate 4 exact rfl))|(apply S.alloc;(iterate 5 exact rfl))|(apply S.store;(iterate 7 exact rfl))|(apply S.storeD;(iterate 8 exact rfl))|(apply S.cmp;(iterate 4 exact rfl))|(apply S.build;exact rfl;exact rfl;exact rfl) | apply S.nil | apply T.regs | apply T.reg|(apply T.cT;exact rfl;assumption) | apply T.seq|(apply T.skip;first | change T _ _ _ _ _ | change Done _ _ _ _ _ | change Next _ _ _ _ _ _ | skip) | apply T.block)
     change Next _ _ _ _ _ _
     exact Next.go 1 (by omega) (by omega) (.cons rfl rfl (.cons rfl rfl (.cons rfl rfl (.cons rfl rfl (.cons rfl rfl (.cons rfl rfl (.cons rfl rfl (.cons rfl rfl .nil)))))))) (by rw [show (1 : Nat) = 0 + 1 from rfl, hP, hE];exact .dead (.hot (.live rfl .nil)))
    | succ i =>
     repeat' (first|(apply S.move;exact rfl;exact rfl)|(apply S.assign;exact rfl;exact rfl)|(apply S.fieldP;exact rfl;exact rfl;exact rfl)|(apply S.arith;(iterate 4 exact rfl);omega)|(apply S.callWD;(iterate 6 exact rfl);exact c1;exact rfl)|(apply S.callWD;(iterate 6 exact rfl);exact c2;exact rfl)|(apply S.callWD;(iterate 6 exact rfl);exact c3;exact rfl)|(apply S.callWD;(iterate 6 exact rfl);exact c4;exact rfl)|(apply S.callWD;(iterate 6 exact rfl);exact c5;exact rfl)|(apply S.indexR;exact rfl;exact rfl;exact rfl;exact hb2;omega;exact rfl)|(apply S.buildSlice1;(iterate 7 exact rfl))|(apply S.appendO;(iterate 8 exact rfl);(rw [cellsP_len, hPl]);exact rows_one rfl;exact rfl;exact clear_lf _ _;simp only [List.length_cons, List.length_nil];omega;simp only [List.length_cons, List.length_nil];omega)|(apply T.drawR 25 anyOrder (by decide +kernel);simp only [List.take_succ_cons, List.take_zero, List.drop_succ_cons, List.drop_zero])|(apply T.drawAll anyOrder (by decide +kernel))|(apply S.loadPA;(iterate 4 exact rfl))|(apply S.loadRA;(iterate 4 exact rfl))|(apply S.alloc;(iterate 5 exact rfl))|(apply S.store;(iterate 7 exact rfl))|(apply S.storeD;(iterate 8 exact rfl))|(apply S.cmp;(iterate 4 exact rfl))|(apply S.build;exact rfl;exact rfl;exact rfl) | apply S.nil | apply T.regs | apply T.reg|(apply T.cT;exact rfl;assumption) | apply T.seq|(apply T.skip;first | change T _ _ _ _ _ | change Done _ _ _ _ _ | change Next _ _ _ _ _ _ | skip) | apply T.block)
     change Next _ _ _ _ _ _
     exact Next.go (i + 1 + 1) (by omega) (by omega) (.cons (by rw [show (((i + 1 + 1 : Nat) : Int)) = ((i + 1 : Nat) : Int) + 1 by omega];rfl) rfl (.cons rfl rfl (.cons rfl rfl (.cons rfl rfl (.cons rfl rfl (.cons rfl rfl (.cons rfl rfl (.cons rfl rfl .nil)))))))) (by rw [hP, hE];exact .dead (.hot (.live (by rw [List.all_append, under_pcs];rfl) .nil)))
   ·obtain rfl : i = tms.length := by omega
    rw [rT_pos hT0, rB_pos hT0, List.take_length]
    have hPl : (tms.map (jP op a b)).length = tms.length := List.length_map _
    have hown := own_pcs (tms.map (jP op a b))
    rw [hPl] at hown
    generalize jEs op a b tms = e
    by_cases he : e = 0
    ·rw [if_pos he]
     repeat' (first|(apply S.move;exact rfl;exact rfl)|(apply S.assign;exact rfl;exact rfl)|(refine T.freeze 12 rfl rfl hown ?_)|(apply S.fieldH;exact rfl;exact rfl;exact rfl)|(apply S.nilCheckH;exact rfl;exact rfl;exact rfl)|(apply S.loadH;(iterate 5 exact rfl))|(apply S.cmp;(iterate 4 exact rfl)) | apply S.nil | apply T.regs|(apply T.cF;exact rfl;assumption)|(apply T.cFn;exact rfl;assumption) | apply T.seq|(apply T.skip;first | change T _ _ _ _ _ | change Done _ _ _ _ _ | change Next _ _ _ _ _ _ | skip)|(apply T.ret;change Done _ _ _ _ _)|(apply T.exit;first | change T _ _ _ _ _ | change Done _ _ _ _ _ | change Next _ _ _ _ _ _ | skip))
     exact ⟨.inr rfl, [.sl ((tms.map (jP op a b)).map PcQ.row), .i 0], .cons (.tmp rfl) (.cons (.tmp rfl) .nil), .tup (.cons (.one (.lf _)) (.cons (.one (.lf _)) .nil))⟩
    ·rw [if_neg he]
     repeat' (first|(apply S.move;exact rfl;exact rfl)|(apply S.assign;exact rfl;exact rfl)|(apply S.fieldP;exact rfl;exact rfl;exact rfl)|(apply S.loadP;(iterate 4 exact rfl))|(refine T.cool 1 rfl ?_)|(apply T.draw 6 anyOrder (by decide +kernel);simp only [List.take_succ_cons, List.take_zero, List.drop_succ_cons, List.drop_zero])|(refine T.nilU 6 rfl ?_;apply T.ret;change Done _ _ _ _ _)|(apply S.cmp;(iterate 4 exact rfl))|(apply S.nilCheckP;exact rfl;exact rfl;exact rfl) | apply S.nil | apply T.regs|(apply T.cT;exact rfl;assumption)|(apply T.cF;exact rfl;assumption) | apply T.seq|(apply T.exit;first | change T _ _ _ _ _ | change Done _ _ _ _ _ | change Next _ _ _ _ _ _ | skip))
     all_goals exact ⟨.inr rfl, [.sl [], .i e], .cons (.tmp rfl) (.cons (.tmp rfl) .nil), .tup (.cons (.one (.lf _)) (.cons (.one (.lf _)) .nil))⟩
end Go.Proofs.YtlncmkafjjomgaaGreat
set_option linter.unusedSimpArgs false
namespace Go.Proofs.YtlncmkafjjomgaaGreat
set_option linter.unusedVariables false
open Go Go.RowKit
def joinL (op : Rat → Rat → Rat) (a b : List PcQ) : List PcQ := if 200 < (timesQ a b).length then [] else if jEs op a b (timesQ a b) = 0 then (timesQ a b).map (jP op a b) else []
def joinE (op : Rat → Rat → Rat) (a b : List PcQ) : Int := if 200 < (timesQ a b).length then 4 else jEs op a b (timesQ a b)
theorem joinA_eq (op : Rat → Rat → Rat) (a b : List PcQ) : joinA op a b = .tup [.sl ((joinL op a b).map PcQ.row), .i (joinE op a b)] := by
 unfold joinA joinL joinE
 split
 ·rfl
 ·split
  ·rename_i h;rw [h]
  ·rfl
theorem qua_sub (a b : List PcQ) (ha : okC a) (hb : okC b) (ha0 : a ≠ []) (hb0 : b ≠ []) (han : a.length ≤ 200) (hbn : b.length ≤ 200)
  (hu : Fn0 Tryz.prog 38 [.sl (a.map PcQ.row)] (.b true)) (hv : Fn0 Tryz.prog 38 [.sl (b.map PcQ.row)] (.b true)) : Fn0 Tryz.prog 99 [.sl (a.map PcQ.row), .sl (b.map PcQ.row)] (.tup [.sl ((joinL (· - ·) a b).map PcQ.row), .i (joinE (· - ·) a b)]) := by
 have c := qua_joined 42 (· - ·) (fun p q e hp hq => sum_sub p q e hp hq) a b ha hb ha0 hb0 han hbn hu hv
 rw [joinA_eq] at c
 refine Fn0.of Tryz.func99 Tryz.ntmps99 rfl rfl rfl ?_
 simp only [entryTm]
 repeat' (first|(apply S.move;exact rfl;exact rfl)|(apply S.assign;exact rfl;exact rfl)|(apply S.call;exact rfl;exact rfl;exact c;exact rfl)|(apply S.extract;exact rfl;exact rfl;exact rfl) | apply S.nil | apply T.regs|(apply T.ret;change Done _ _ _ _ _))
 exact ⟨.inr rfl, [.sl ((joinL (· - ·) a b).map PcQ.row), .i (joinE (· - ·) a b)], .cons (.tmp rfl) (.cons (.tmp rfl) .nil), .tup (.cons (.one (.lf _)) (.cons (.one (.lf _)) .nil))⟩
theorem CovH.liveE {n : Nat} {cs cs' : List AV} {H H' : AH} (h : cs = cs') (hb : cs'.all (AV.under n) = true) (c : CovH n H H') : CovH n (.live cs :: H) (.live cs' :: H') := by subst h;exact .live hb c
end Go.Proofs.YtlncmkafjjomgaaGreat
