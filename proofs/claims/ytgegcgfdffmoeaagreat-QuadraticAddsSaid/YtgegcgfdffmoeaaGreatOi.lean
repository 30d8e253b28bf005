/- Contracts: the walk of the law on the values of sums. No conditions but those of each statement. -/
import Derived.Test.YtgegcgfdffmoeaaGreatOh
set_option linter.unusedSimpArgs false
namespace Go.Proofs.YtgegcgfdffmoeaaGreat
set_option linter.unusedVariables false
open Go Go.RowKit
structure Rnd (g : FuncId) (s : List PcQ) (t : Rat) (e x1 x2 f y1 y2 k p1 p2 l q1 q2 : Int) : Prop where
  v : Fn0 Tryz.prog 28 [.sl (s.map PcQ.row)] (.b true)
  at_ : ∃ z1 z2 h : Int, Fn0 Tryz.prog 23 [.sl (s.map PcQ.row), rowA (frR t)] (.tup [rowA [.i z1, .i z2], .i h]) ∧ ∃ w1 w2 i : Int, Fn0 Tryz.prog g [rowA [.i x1, .i x2], rowA [.i y1, .i y2]] (.tup [rowA [.i w1, .i w2], .i i]) ∧ (e = 0 → f = 0 → h = 0 → i = 0 → z1 = w1 ∧ z2 = w2)
  sl : ∃ z1 z2 h : Int, Fn0 Tryz.prog 24 [.sl (s.map PcQ.row), rowA (frR t)] (.tup [rowA [.i z1, .i z2], .i h]) ∧ ∃ w1 w2 i : Int, Fn0 Tryz.prog g [rowA [.i p1, .i p2], rowA [.i q1, .i q2]] (.tup [rowA [.i w1, .i w2], .i i]) ∧ (k = 0 → l = 0 → h = 0 → i = 0 → z1 = w1 ∧ z2 = w2)
theorem fits_at {l : List PcQ} {t : Rat} (hl : okC l) (h0 : l ≠ []) : Fits (atQ l t) := by
  unfold atQ
  split
  · exact (pcAt_okD l 0 hl).a
  · exact kQ_fits _
theorem fits_sl (l : List PcQ) (t : Rat) : Fits (atS l t) := by
  unfold atS
  split
  · exact Fits.zero
  · exact kQ_fits _
theorem rnd_add {a b : List PcQ} {t : Rat} (ha : okC a) (hb : okC b) (ha0 : a ≠ []) (hb0 : b ≠ []) (hsa : sortC a) (hsb : sortC b) (hn : a.length + b.length ≤ 200) (ht : Fits t) (hg : jEs (· + ·) a b (timesQ a b) = 0) : Rnd 26 ((timesQ a b).map (jP (· + ·) a b)) t (atE a t 0) (rx (atQ a t) (atE a t 0)).1 (rx (atQ a t) (atE a t 0)).2 (atE b t 0) (rx (atQ b t) (atE b t 0)).1 (rx (atQ b t) (atE b t 0)).2 (atSE a t 0) (rx (atS a t) (atSE a t 0)).1 (rx (atS a t) (atSE a t 0)).2 (atSE b t 0) (rx (atS b t) (atSE b t 0)).1 (rx (atS b t) (atSE b t 0)).2 := by
  have hS : Sum (· + ·) a b (timesQ a b) ((timesQ a b).map (jP (· + ·) a b)) := ⟨rfl, rfl, hg⟩
  generalize (timesQ a b).map (jP (· + ·) a b) = s at hS ⊢
  have h1 := hS.pos ha0
  have h2 := timesQ_lenJ a b
  have h3 := hS.len
  have ok := hS.ok ha hb
  have s0 : s ≠ [] := fun e => by rw [e] at h3;simp at h3;omega
  have v := qua_validQ s ok hS.sort (by omega) (by omega)
  have ca := qua_at s t ok s0 (by omega) ht v
  have cs := qua_slope s t ok s0 (by omega) ht v
  rw [resA_rx] at ca cs
  have hv := hS.value (c := 1) (fun p q => by grind) hsa hsb ha0 hb0 t
  have hl := hS.slope (c := 1) (fun p q => by grind) t
  refine ⟨v, ⟨_, _, _, ca, _, _, _, ratio_addAny _ _ _ _, fun e1 e2 e3 e4 => ?_⟩, ⟨_, _, _, cs, _, _, _, ratio_addAny _ _ _ _, fun e1 e2 e3 e4 => ?_⟩⟩
  · rw [rx_ok _ e1, rx_ok _ e2] at e4
    rw [rx_ok _ e1, rx_ok _ e2, rx_ok _ e3]
    obtain ⟨f1, f2⟩ := addS_fits (fits_at ha ha0) (fits_at hb hb0) e4
    rw [f1, f2, atQ_ex e1, atQ_ex e2, atQ_ex e3, hv]
    exact ⟨rfl, rfl⟩
  · rw [rx_ok _ e1, rx_ok _ e2] at e4
    rw [rx_ok _ e1, rx_ok _ e2, rx_ok _ e3]
    obtain ⟨f1, f2⟩ := addS_fits (fits_sl a t) (fits_sl b t) e4
    rw [f1, f2, atS_ex e1, atS_ex e2, atS_ex e3, hl]
    exact ⟨rfl, rfl⟩
theorem rnd_sub {a b : List PcQ} {t : Rat} (ha : okC a) (hb : okC b) (ha0 : a ≠ []) (hb0 : b ≠ []) (hsa : sortC a) (hsb : sortC b) (hn : a.length + b.length ≤ 200) (ht : Fits t) (hg : jEs (· - ·) a b (timesQ a b) = 0) : Rnd 27 ((timesQ a b).map (jP (· - ·) a b)) t (atE a t 0) (rx (atQ a t) (atE a t 0)).1 (rx (atQ a t) (atE a t 0)).2 (atE b t 0) (rx (atQ b t) (atE b t 0)).1 (rx (atQ b t) (atE b t 0)).2 (atSE a t 0) (rx (atS a t) (atSE a t 0)).1 (rx (atS a t) (atSE a t 0)).2 (atSE b t 0) (rx (atS b t) (atSE b t 0)).1 (rx (atS b t) (atSE b t 0)).2 := by
  have hS : Sum (· - ·) a b (timesQ a b) ((timesQ a b).map (jP (· - ·) a b)) := ⟨rfl, rfl, hg⟩
  generalize (timesQ a b).map (jP (· - ·) a b) = s at hS ⊢
  have h1 := hS.pos ha0
  have h2 := timesQ_lenJ a b
  have h3 := hS.len
  have ok := hS.ok ha hb
  have s0 : s ≠ [] := fun e => by rw [e] at h3;simp at h3;omega
  have v := qua_validQ s ok hS.sort (by omega) (by omega)
  have ca := qua_at s t ok s0 (by omega) ht v
  have cs := qua_slope s t ok s0 (by omega) ht v
  rw [resA_rx] at ca cs
  have hv := hS.value (c := (-1)) (fun p q => by grind) hsa hsb ha0 hb0 t
  have hl := hS.slope (c := (-1)) (fun p q => by grind) t
  refine ⟨v, ⟨_, _, _, ca, _, _, _, ratio_subAny _ _ _ _, fun e1 e2 e3 e4 => ?_⟩, ⟨_, _, _, cs, _, _, _, ratio_subAny _ _ _ _, fun e1 e2 e3 e4 => ?_⟩⟩
  · rw [rx_ok _ e1, rx_ok _ e2] at e4
    rw [rx_ok _ e1, rx_ok _ e2, rx_ok _ e3]
    obtain ⟨f1, f2⟩ := subS_fits (fits_at ha ha0) (fits_at hb hb0) e4
    rw [f1, f2, atQ_ex e1, atQ_ex e2, atQ_ex e3, hv]
    exact ⟨rfl, rfl⟩
  · rw [rx_ok _ e1, rx_ok _ e2] at e4
    rw [rx_ok _ e1, rx_ok _ e2, rx_ok _ e3]
    obtain ⟨f1, f2⟩ := subS_fits (fits_sl a t) (fits_sl b t) e4
    rw [f1, f2, atS_ex e1, atS_ex e2, atS_ex e3, hl]
    exact ⟨rfl, rfl⟩
set_option maxHeartbeats 64000000 in
theorem law_quadraticAdds (la lb : List PieceR) (n d n2 d2 : Int) (hn : la.length ≤ 1000000000000000) (hm : lb.length ≤ 1000000000000000) : Fn0 Tryz.prog 5 [.sl (la.map PieceR.row), .sl (lb.map PieceR.row), rowA [.i n, .i d], rowA [.i n2, .i d2]] (.b true) := by
  have ca := l08_right la [(n, d), (n2, d2)] hn (by simp)
  have cb := l08_rightN lb hm
  simp only [List.map_cons, List.map_nil, intR2] at ca
  by_cases hA : (la.length ≤ 12 ∧ curveP la) ∧ ∀ p ∈ [(n, d), (n2, d2)], vF p.1 p.2
  · rw [decide_eq_true hA] at ca
    obtain ⟨⟨ha12, hAc⟩, hts⟩ := hA
    have hv1 : vF n d := hts (n, d) (by simp)
    have hv2 : vF n2 d2 := hts (n2, d2) (by simp)
    by_cases hB : lb.length ≤ 12 ∧ curveP lb
    · rw [decide_eq_true hB] at cb
      obtain ⟨hb12, hBc⟩ := hB
      obtain ⟨hok, hrow, hne, hs⟩ := curveQ_ok hAc
      obtain ⟨hok2, hrow2, hne2, hs2⟩ := curveQ_ok hBc
      have hlen : (la.map toQ).length ≤ 12 := by rw [List.length_map];exact ha12
      have hlen2 : (lb.map toQ).length ≤ 12 := by rw [List.length_map];exact hb12
      have pa := qua_validL la hn
      have pb := qua_validL lb hm
      rw [decide_eq_true hAc] at pa
      rw [decide_eq_true hBc] at pb
      rw [← hrow] at ca pa ⊢
      rw [← hrow2] at cb pb ⊢
      generalize la.map toQ = qa at *
      generalize lb.map toQ = qb at *
      obtain ⟨ft, f1, f2⟩ := vF_fits hv1
      obtain ⟨t, htt⟩ : ∃ t, t = ratV n d := ⟨_, rfl⟩
      rw [← htt] at ft f1 f2
      obtain ⟨fb, f3, f4⟩ := vF_fits hv2
      obtain ⟨by_, hby⟩ : ∃ t, t = ratV n2 d2 := ⟨_, rfl⟩
      rw [← hby] at fb f3 f4
      subst f1 f2 f3 f4
      have ca1 := qua_at qa t hok hne (by omega) ft pa
      have cb1 := qua_at qb t hok2 hne2 (by omega) ft pb
      have ca2 := qua_slope qa t hok hne (by omega) ft pa
      have cb2 := qua_slope qb t hok2 hne2 (by omega) ft pb
      rw [resA_rx] at ca1 cb1 ca2 cb2
      have fe := l08_fits (atE qa t 0) (atE_or qa t)
      have ff := l08_fits (atE qb t 0) (atE_or qb t)
      have fk := l08_fits (atSE qa t 0) (atSE_or qa t)
      have fl := l08_fits (atSE qb t 0) (atSE_or qb t)
      have f0 := l08_fits 0 (.inl rfl)
      have f5 := l08_fits 5 (.inr rfl)
      have xs := qua_add qa qb hok hok2 hne hne2 (by omega) (by omega) pa pb
      have xd := qua_sub qa qb hok hok2 hne hne2 (by omega) (by omega) pa pb
      have RA := rnd_add hok hok2 hne hne2 hs hs2 (t := t) (by omega) ft
      have RS := rnd_sub hok hok2 hne hne2 hs hs2 (t := t) (by omega) ft
      obtain ⟨j1, j2⟩ := joinE_small (op := (· + ·)) (a := qa) (b := qb) (by omega)
      obtain ⟨j3, j4⟩ := joinE_small (op := (· - ·)) (a := qa) (b := qb) (by omega)
      rw [j1, j2] at xs
      rw [j3, j4] at xd
      clear j1 j2 j3 j4
      have hE : (jEs (· + ·) qa qb (timesQ qa qb) = 0 ∧ Fn0 Tryz.prog 16 [.sl (qa.map PcQ.row), .sl (qb.map PcQ.row)] (.tup [.sl (((timesQ qa qb).map (jP (· + ·) qa qb)).map PcQ.row), .i 0])) ∨ Fn0 Tryz.prog 16 [.sl (qa.map PcQ.row), .sl (qb.map PcQ.row)] (.tup [.sl [], .i 5]) := by
        rcases jEs_or (· + ·) qa qb (timesQ qa qb) with h | h
        · rw [h, if_pos (show (0 : Int) = 0 from rfl)] at xs;exact .inl ⟨h, xs⟩
        · rw [h, if_neg (show ¬ (5 : Int) = 0 by decide)] at xs;exact .inr xs
      have hD : (jEs (· - ·) qa qb (timesQ qa qb) = 0 ∧ Fn0 Tryz.prog 17 [.sl (qa.map PcQ.row), .sl (qb.map PcQ.row)] (.tup [.sl (((timesQ qa qb).map (jP (· - ·) qa qb)).map PcQ.row), .i 0])) ∨ Fn0 Tryz.prog 17 [.sl (qa.map PcQ.row), .sl (qb.map PcQ.row)] (.tup [.sl [], .i 5]) := by
        rcases jEs_or (· - ·) qa qb (timesQ qa qb) with h | h
        · rw [h, if_pos (show (0 : Int) = 0 from rfl)] at xd;exact .inl ⟨h, xd⟩
        · rw [h, if_neg (show ¬ (5 : Int) = 0 by decide)] at xd;exact .inr xd
      have pv := qua_valid1 by_.num by_.den
      rw [decide_eq_true hv2] at pv
      have xh := qua_shift qa by_ hok fb hne (by omega) pa pv
      have xl := ratio_addA t by_ ft fb
      have hlast : (∃ g h : Int, ∃ (c : List (List Lf)) (r1 r2 : Int), Fn0 Tryz.prog 18 [.sl (qa.map PcQ.row), rowA (frR by_)] (.tup [.sl c, .i g]) ∧ Fn0 Tryz.prog 26 [rowA (frR t), rowA (frR by_)] (.tup [rowA [.i r1, .i r2], .i h]) ∧ (¬ g = 0 ∨ ¬ h = 0) ∧ Fn0 Tryz.prog 25 [.i g] (.b true) ∧ Fn0 Tryz.prog 25 [.i h] (.b true)) ∨
          ∃ (c : List (List Lf)) (r1 r2 : Int), Fn0 Tryz.prog 18 [.sl (qa.map PcQ.row), rowA (frR by_)] (.tup [.sl c, .i 0]) ∧ Fn0 Tryz.prog 26 [rowA (frR t), rowA (frR by_)] (.tup [rowA [.i r1, .i r2], .i 0]) ∧ Fn0 Tryz.prog 23 [.sl c, rowA [.i r1, .i r2]] (.tup [rowA [.i (rx (atQ qa t) (atE qa t 0)).1, .i (rx (atQ qa t) (atE qa t 0)).2], .i (atE qa t 0)]) := by
        unfold outA at xl
        rcases shEs_or by_ qa with h | h
        · by_cases hF : Fits (t + by_)
          · rw [if_pos hF] at xl
            rw [h, if_pos (show (0 : Int) = 0 from rfl)] at xh
            have m0 : qa.map (shP by_) ≠ [] := fun e => hne (List.map_eq_nil_iff.1 e)
            have ml : (qa.map (shP by_)).length = qa.length := List.length_map _
            have mp := List.length_pos_iff.2 hne
            have mv := qua_validQ (qa.map (shP by_)) (sh_ok hok) (sh_sort h hs) (by omega) (by omega)
            have mc := qua_at (qa.map (shP by_)) (t + by_) (sh_ok hok) m0 (by omega) hF mv
            rw [(sh_value h hne t).1, (sh_value h hne t).2, resA_rx] at mc
            exact .inr ⟨_, _, _, xh, xl, mc⟩
          · rw [if_neg hF] at xl
            rw [h] at xh
            exact .inl ⟨0, 5, _, 0, 0, xh, xl, .inr (by decide), f0, f5⟩
        · rw [h] at xh
          by_cases hF : Fits (t + by_)
          · rw [if_pos hF] at xl
            exact .inl ⟨5, 0, _, _, _, xh, xl, .inl (by decide), f5, f0⟩
          · rw [if_neg hF] at xl
            exact .inl ⟨5, 5, _, 0, 0, xh, xl, .inl (by decide), f5, f5⟩
      clear xh xl pv f0 f5
      generalize (timesQ qa qb).map (jP (· + ·) qa qb) = sa at *
      generalize (timesQ qa qb).map (jP (· - ·) qa qb) = sd at *
      generalize atE qa t 0 = e at *
      generalize atE qb t 0 = f at *
      generalize atSE qa t 0 = k at *
      generalize atSE qb t 0 = l at *
      generalize (rx (atQ qa t) e).1 = x1 at *
      generalize (rx (atQ qa t) e).2 = x2 at *
      generalize (rx (atQ qb t) f).1 = y1 at *
      generalize (rx (atQ qb t) f).2 = y2 at *
      generalize (rx (atS qa t) k).1 = p1 at *
      generalize (rx (atS qa t) k).2 = p2 at *
      generalize (rx (atS qb t) l).1 = q1 at *
      generalize (rx (atS qb t) l).2 = q2 at *
      skip
      refine Fn0.of Tryz.func5 Tryz.ntmps5 rfl rfl rfl ?_
      simp only [entryTm]
      repeat' (first|(apply S.move;exact rfl;exact rfl)|(apply S.assign;exact rfl;exact rfl)|(apply S.gC;exact rfl;exact rfl;exact rfl)|(apply S.pCN;exact rfl;exact rfl;exact rfl)|(apply S.call;exact rfl;exact rfl;exact l08_awake;exact rfl)|(apply S.call;exact rfl;exact rfl;exact ca;exact rfl)|(apply S.call;exact rfl;exact rfl;exact cb;exact rfl)|(apply S.call;exact rfl;exact rfl;exact ca1;exact rfl)|(apply S.call;exact rfl;exact rfl;exact cb1;exact rfl)|(apply S.call;exact rfl;exact rfl;exact ca2;exact rfl)|(apply S.call;exact rfl;exact rfl;exact cb2;exact rfl)|(apply S.call;exact rfl;exact rfl;exact fe;exact rfl)|(apply S.call;exact rfl;exact rfl;exact ff;exact rfl)|(apply S.call;exact rfl;exact rfl;exact fk;exact rfl)|(apply S.call;exact rfl;exact rfl;exact fl;exact rfl)|(apply S.buildSliceF;(iterate 8 exact rfl))|(apply S.loadPA;(iterate 4 exact rfl))|(apply S.box;(iterate 6 exact rfl))|(apply S.alloc;(iterate 5 exact rfl))|(apply S.store;(iterate 7 exact rfl))|(apply S.not;exact rfl;exact rfl;exact rfl)|(apply S.extract;exact rfl;exact rfl;exact rfl)|(apply S.lenR;exact rfl;exact rfl) | apply S.nil | apply T.regs|(apply T.cCN;exact rfl) | apply T.seq|(apply T.skip;first | change T _ _ _ _ _ | change Done _ _ _ _ _ | change Next _ _ _ _ _ _ | skip) | apply T.block)
      refine T.loopS (fun i : Nat => i ≤ 2) (fun i => 2 - i) (fun i => [(89, .i i), (88, .i 2), (87, .sl [[.val (.bool false)], [.val (.bool true)]]), (0, .sl (qa.map PcQ.row)), (1, .sl (qb.map PcQ.row)), (6, .ptr 0 0), (7, .ptr 1 0), (9, .ptr 2 0), (10, .i e), (11, .ptr 3 0), (12, .i f), (13, .ptr 4 0), (14, .i k), (15, .ptr 5 0), (16, .i l)]) (fun i => [.live [.i t.num, .i t.den], .live [.i by_.num, .i by_.den], .live [.i x1, .i x2], .live [.i y1, .i y2], .live [.i p1, .i p2], .live [.i q1, .i q2]]) 0 (Nat.zero_le _) (.cons rfl rfl (.cons rfl rfl (.cons rfl rfl (.cons rfl rfl (.cons rfl rfl (.cons rfl rfl (.cons rfl rfl (.cons rfl rfl (.cons rfl rfl (.cons rfl rfl (.cons rfl rfl (.cons rfl rfl (.cons rfl rfl (.cons rfl rfl (.cons rfl rfl .nil))))))))))))))) (.live rfl (.live rfl (.live rfl (.live rfl (.live rfl (.live rfl .nil)))))) ?_
      intro i hi
      by_cases hlt : (i : Int) < 2
      · have hi01 : i = 0 ∨ i = 1 := by omega
        rcases hi01 with rfl | rfl
        · -- round 0
          rcases hE with ⟨hg, xs1⟩ | xs1
          · have R := RA hg
            obtain ⟨z1, z2, h1, cz, w1, w2, i1, cw, hz⟩ := R.at_
            obtain ⟨z3, z4, h2, cz2, w3, w4, i2, cw2, hz2⟩ := R.sl
            have rv := R.v
            repeat' (first|(apply S.move;exact rfl;exact rfl)|(apply S.assign;exact rfl;exact rfl)|(apply S.gCN;(iterate 4 exact rfl))|(apply S.gTT;exact rfl;exact rfl;assumption)|(apply S.gTF;exact rfl;exact rfl;assumption;exact rfl)|(apply S.loadR;exact rfl;exact rfl;exact rfl)|(apply S.pCN;exact rfl;exact rfl;exact rfl)|(apply S.pTp;exact rfl;assumption;exact rfl;exact rfl)|(apply S.pFp;exact rfl;assumption;exact rfl;exact rfl)|(apply S.arith;(iterate 4 exact rfl);omega)|(apply S.call;exact rfl;exact rfl;exact xs1;exact rfl)|(apply S.call;exact rfl;exact rfl;exact rv;exact rfl)|(apply S.call;exact rfl;exact rfl;exact cz;exact rfl)|(apply S.call;exact rfl;exact rfl;exact cz2;exact rfl)|(apply S.callF;exact rfl;exact rfl;exact cw;exact rfl;exact rfl)|(apply S.callF;exact rfl;exact rfl;exact cw2;exact rfl;exact rfl)|(apply S.indexR (row := [.val (.bool false)]);(iterate 4 exact rfl);decide;exact rfl)|(apply S.ne2;exact rfl;exact rfl;exact rfl)|(refine T.meetR 26 ([(89, .i 0), (88, .i 2), (87, .sl [[.val (.bool false)], [.val (.bool true)]]), (19, .sl (sa.map PcQ.row)), (21, .fn (.func 26) [] []), (22, .ptr 6 0), (24, .ptr 7 0), (0, .sl (qa.map PcQ.row)), (1, .sl (qb.map PcQ.row)), (6, .ptr 0 0), (7, .ptr 1 0), (9, .ptr 2 0), (10, .i e), (11, .ptr 3 0), (12, .i f), (13, .ptr 4 0), (14, .i k), (15, .ptr 5 0), (16, .i l)]) ([.live [.i t.num, .i t.den], .live [.i by_.num, .i by_.den], .live [.i x1, .i x2], .live [.i y1, .i y2], .live [.i p1, .i p2], .live [.i q1, .i q2], .live [.i z1, .i z2], .live [.i w1, .i w2]]) ?_ ?_)|(apply S.loadPA;(iterate 4 exact rfl))|(apply S.alloc;(iterate 5 exact rfl))|(apply S.store;(iterate 7 exact rfl))|(apply S.cmp;(iterate 4 exact rfl))|(apply S.not;exact rfl;exact rfl;exact rfl)|(apply S.extract;exact rfl;exact rfl;exact rfl)|(apply S.gsT;exact rfl;exact rfl;exact rfl;intro hc;rotate_left;intro hc;rotate_right) | apply S.nil | apply T.regs | apply T.reg|(apply T.cC;exact rfl)|(apply T.cCN;exact rfl)|(apply T.cSn;exact rfl;intro hc;rotate_left;intro hc;rotate_right) | apply T.seq|(apply T.skip;first | change T _ _ _ _ _ | change Done _ _ _ _ _ | change Next _ _ _ _ _ _ | skip)|(apply T.ret;change Done _ _ _ _ _) | apply T.block)
            all_goals first
              | exact T.met (.cons rfl rfl (.cons rfl rfl (.cons rfl rfl (.cons rfl rfl (.cons rfl rfl (.cons rfl rfl (.cons rfl rfl (.cons rfl rfl (.cons rfl rfl (.cons rfl rfl (.cons rfl rfl (.cons rfl rfl (.cons rfl rfl (.cons rfl rfl (.cons rfl rfl (.cons rfl rfl (.cons rfl rfl (.cons rfl rfl (.cons rfl rfl .nil))))))))))))))))))) (.live rfl (.live rfl (.live rfl (.live rfl (.live rfl (.live rfl (.live rfl (.live rfl .nil))))))))
              | exact Next.go (0 + 1) (by omega) (by omega) (.cons rfl rfl (.cons rfl rfl (.cons rfl rfl (.cons rfl rfl (.cons rfl rfl (.cons rfl rfl (.cons rfl rfl (.cons rfl rfl (.cons rfl rfl (.cons rfl rfl (.cons rfl rfl (.cons rfl rfl (.cons rfl rfl (.cons rfl rfl (.cons rfl rfl .nil))))))))))))))) (.live rfl (.live rfl (.live rfl (.live rfl (.live rfl (.live rfl .nil))))))
              | exact absurd (hz (by assumption) (by assumption) (by assumption) (by assumption)) (by assumption)
              | exact absurd (hz2 (by assumption) (by assumption) (by assumption) (by assumption)) (by assumption)
          · repeat' (first|(apply S.move;exact rfl;exact rfl)|(apply S.assign;exact rfl;exact rfl)|(apply S.gC;exact rfl;exact rfl;exact rfl)|(apply S.loadR;exact rfl;exact rfl;exact rfl)|(apply S.pCN;exact rfl;exact rfl;exact rfl)|(apply S.arith;(iterate 4 exact rfl);omega)|(apply S.call;exact rfl;exact rfl;exact xs1;exact rfl)|(apply S.indexR (row := [.val (.bool false)]);(iterate 4 exact rfl);decide;exact rfl)|(apply S.cmp;(iterate 4 exact rfl))|(apply S.extract;exact rfl;exact rfl;exact rfl)|(apply S.lenR;exact rfl;exact rfl) | apply S.nil | apply T.regs | apply T.reg|(apply T.cC;exact rfl)|(apply T.cCN;exact rfl) | apply T.seq|(apply T.skip;first | change T _ _ _ _ _ | change Done _ _ _ _ _ | change Next _ _ _ _ _ _ | skip)|(apply T.exit;first | change T _ _ _ _ _ | change Done _ _ _ _ _ | change Next _ _ _ _ _ _ | skip) | apply T.block)
            all_goals exact Next.go (0 + 1) (by omega) (by omega) (.cons rfl rfl (.cons rfl rfl (.cons rfl rfl (.cons rfl rfl (.cons rfl rfl (.cons rfl rfl (.cons rfl rfl (.cons rfl rfl (.cons rfl rfl (.cons rfl rfl (.cons rfl rfl (.cons rfl rfl (.cons rfl rfl (.cons rfl rfl (.cons rfl rfl .nil))))))))))))))) (.live rfl (.live rfl (.live rfl (.live rfl (.live rfl (.live rfl .nil))))))
        · -- round 1
          rcases hD with ⟨hg, xd1⟩ | xd1
          · have R := RS hg
            obtain ⟨z1, z2, h1, cz, w1, w2, i1, cw, hz⟩ := R.at_
            obtain ⟨z3, z4, h2, cz2, w3, w4, i2, cw2, hz2⟩ := R.sl
            have rv := R.v
            repeat' (first|(apply S.move;exact rfl;exact rfl)|(apply S.assign;exact rfl;exact rfl)|(apply S.gCN;(iterate 4 exact rfl))|(apply S.gTT;exact rfl;exact rfl;assumption)|(apply S.gTF;exact rfl;exact rfl;assumption;exact rfl)|(apply S.loadR;exact rfl;exact rfl;exact rfl)|(apply S.pCN;exact rfl;exact rfl;exact rfl)|(apply S.pTp;exact rfl;assumption;exact rfl;exact rfl)|(apply S.pFp;exact rfl;assumption;exact rfl;exact rfl)|(apply S.arith;(iterate 4 exact rfl);omega)|(apply S.call;exact rfl;exact rfl;exact xs;exact rfl)|(apply S.call;exact rfl;exact rfl;exact xd1;exact rfl)|(apply S.call;exact rfl;exact rfl;exact rv;exact rfl)|(apply S.call;exact rfl;exact rfl;exact cz;exact rfl)|(apply S.call;exact rfl;exact rfl;exact cz2;exact rfl)|(apply S.callF;exact rfl;exact rfl;exact cw;exact rfl;exact rfl)|(apply S.callF;exact rfl;exact rfl;exact cw2;exact rfl;exact rfl)|(apply S.indexR (row := [.val (.bool true)]);(iterate 4 exact rfl);decide;exact rfl)|(apply S.ne2;exact rfl;exact rfl;exact rfl)|(refine T.meetR 26 ([(89, .i 1), (88, .i 2), (87, .sl [[.val (.bool false)], [.val (.bool true)]]), (19, .sl (sd.map PcQ.row)), (21, .fn (.func 27) [] []), (22, .ptr 6 0), (24, .ptr 7 0), (0, .sl (qa.map PcQ.row)), (1, .sl (qb.map PcQ.row)), (6, .ptr 0 0), (7, .ptr 1 0), (9, .ptr 2 0), (10, .i e), (11, .ptr 3 0), (12, .i f), (13, .ptr 4 0), (14, .i k), (15, .ptr 5 0), (16, .i l)]) ([.live [.i t.num, .i t.den], .live [.i by_.num, .i by_.den], .live [.i x1, .i x2], .live [.i y1, .i y2], .live [.i p1, .i p2], .live [.i q1, .i q2], .live [.i z1, .i z2], .live [.i w1, .i w2]]) ?_ ?_)|(apply S.loadPA;(iterate 4 exact rfl))|(apply S.alloc;(iterate 5 exact rfl))|(apply S.store;(iterate 7 exact rfl))|(apply S.cmp;(iterate 4 exact rfl))|(apply S.not;exact rfl;exact rfl;exact rfl)|(apply S.extract;exact rfl;exact rfl;exact rfl)|(apply S.gsT;exact rfl;exact rfl;exact rfl;intro hc;rotate_left;intro hc;rotate_right) | apply S.nil | apply T.regs | apply T.reg|(apply T.cC;exact rfl)|(apply T.cCN;exact rfl)|(apply T.cSn;exact rfl;intro hc;rotate_left;intro hc;rotate_right) | apply T.seq|(apply T.skip;first | change T _ _ _ _ _ | change Done _ _ _ _ _ | change Next _ _ _ _ _ _ | skip)|(apply T.ret;change Done _ _ _ _ _) | apply T.block)
            all_goals first
              | exact T.met (.cons rfl rfl (.cons rfl rfl (.cons rfl rfl (.cons rfl rfl (.cons rfl rfl (.cons rfl rfl (.cons rfl rfl (.cons rfl rfl (.cons rfl rfl (.cons rfl rfl (.cons rfl rfl (.cons rfl rfl (.cons rfl rfl (.cons rfl rfl (.cons rfl rfl (.cons rfl rfl (.cons rfl rfl (.cons rfl rfl (.cons rfl rfl .nil))))))))))))))))))) (.live rfl (.live rfl (.live rfl (.live rfl (.live rfl (.live rfl (.live rfl (.live rfl .nil))))))))
              | exact Next.go (1 + 1) (by omega) (by omega) (.cons rfl rfl (.cons rfl rfl (.cons rfl rfl (.cons rfl rfl (.cons rfl rfl (.cons rfl rfl (.cons rfl rfl (.cons rfl rfl (.cons rfl rfl (.cons rfl rfl (.cons rfl rfl (.cons rfl rfl (.cons rfl rfl (.cons rfl rfl (.cons rfl rfl .nil))))))))))))))) (.live rfl (.live rfl (.live rfl (.live rfl (.live rfl (.live rfl .nil))))))
              | exact absurd (hz (by assumption) (by assumption) (by assumption) (by assumption)) (by assumption)
              | exact absurd (hz2 (by assumption) (by assumption) (by assumption) (by assumption)) (by assumption)
          · repeat' (first|(apply S.move;exact rfl;exact rfl)|(apply S.assign;exact rfl;exact rfl)|(apply S.gC;exact rfl;exact rfl;exact rfl)|(apply S.loadR;exact rfl;exact rfl;exact rfl)|(apply S.pCN;exact rfl;exact rfl;exact rfl)|(apply S.arith;(iterate 4 exact rfl);omega)|(apply S.call;exact rfl;exact rfl;exact xs;exact rfl)|(apply S.call;exact rfl;exact rfl;exact xd1;exact rfl)|(apply S.indexR (row := [.val (.bool true)]);(iterate 4 exact rfl);decide;exact rfl)|(apply S.cmp;(iterate 4 exact rfl))|(apply S.extract;exact rfl;exact rfl;exact rfl)|(apply S.lenR;exact rfl;exact rfl) | apply S.nil | apply T.regs | apply T.reg|(apply T.cC;exact rfl)|(apply T.cCN;exact rfl) | apply T.seq|(apply T.skip;first | change T _ _ _ _ _ | change Done _ _ _ _ _ | change Next _ _ _ _ _ _ | skip)|(apply T.exit;first | change T _ _ _ _ _ | change Done _ _ _ _ _ | change Next _ _ _ _ _ _ | skip) | apply T.block)
            all_goals exact Next.go (1 + 1) (by omega) (by omega) (.cons rfl rfl (.cons rfl rfl (.cons rfl rfl (.cons rfl rfl (.cons rfl rfl (.cons rfl rfl (.cons rfl rfl (.cons rfl rfl (.cons rfl rfl (.cons rfl rfl (.cons rfl rfl (.cons rfl rfl (.cons rfl rfl (.cons rfl rfl (.cons rfl rfl .nil))))))))))))))) (.live rfl (.live rfl (.live rfl (.live rfl (.live rfl (.live rfl .nil))))))
      · obtain rfl : i = 2 := by omega
        have hee : e = e := rfl
        have hxx : x1 = x1 ∧ x2 = x2 := ⟨rfl, rfl⟩
        rcases hlast with ⟨g, h, c, r1, r2, sh, al, hgh, fg, fh⟩ | ⟨c, r1, r2, sh, al, cl⟩
        · by_cases hg0 : g = 0
          · have hh0 : ¬ h = 0 := hgh.resolve_left fun k => k hg0
            have hg1 : ¬ ¬ g = 0 := fun k => k hg0
            repeat' (first|(apply S.move;exact rfl;exact rfl)|(apply S.assign;exact rfl;exact rfl)|(apply S.gC;exact rfl;exact rfl;exact rfl)|(apply S.gFF;exact rfl;exact rfl;assumption)|(apply S.pC;exact rfl;exact rfl;exact rfl)|(apply S.pFp;exact rfl;assumption;exact rfl;exact rfl)|(apply S.call;exact rfl;exact rfl;exact sh;exact rfl)|(apply S.call;exact rfl;exact rfl;exact al;exact rfl)|(apply S.call;exact rfl;exact rfl;exact fg;exact rfl)|(apply S.call;exact rfl;exact rfl;exact fh;exact rfl)|(apply S.loadPA;(iterate 4 exact rfl))|(apply S.alloc;(iterate 5 exact rfl))|(apply S.store;(iterate 7 exact rfl))|(apply S.cmp;(iterate 4 exact rfl))|(apply S.extract;exact rfl;exact rfl;exact rfl) | apply S.nil | apply T.regs|(apply T.cCN;exact rfl)|(apply T.cT;exact rfl;assumption) | apply T.seq|(apply T.ret;change Done _ _ _ _ _)|(apply T.exit;first | change T _ _ _ _ _ | change Done _ _ _ _ _ | change Next _ _ _ _ _ _ | skip))
            all_goals exact doneV (by simp) Tryz.results5 rfl rfl
          · repeat' (first|(apply S.move;exact rfl;exact rfl)|(apply S.assign;exact rfl;exact rfl)|(apply S.gC;exact rfl;exact rfl;exact rfl)|(apply S.gFT;exact rfl;exact rfl;assumption;exact rfl)|(apply S.pC;exact rfl;exact rfl;exact rfl)|(apply S.pTp;exact rfl;assumption;exact rfl;exact rfl)|(apply S.call;exact rfl;exact rfl;exact sh;exact rfl)|(apply S.call;exact rfl;exact rfl;exact al;exact rfl)|(apply S.call;exact rfl;exact rfl;exact fg;exact rfl)|(apply S.call;exact rfl;exact rfl;exact fh;exact rfl)|(apply S.loadPA;(iterate 4 exact rfl))|(apply S.alloc;(iterate 5 exact rfl))|(apply S.store;(iterate 7 exact rfl))|(apply S.cmp;(iterate 4 exact rfl))|(apply S.extract;exact rfl;exact rfl;exact rfl) | apply S.nil | apply T.regs|(apply T.cC;exact rfl)|(apply T.cCN;exact rfl) | apply T.seq|(apply T.ret;change Done _ _ _ _ _)|(apply T.exit;first | change T _ _ _ _ _ | change Done _ _ _ _ _ | change Next _ _ _ _ _ _ | skip))
            all_goals exact doneV (by simp) Tryz.results5 rfl rfl
        · repeat' (first|(apply S.move;exact rfl;exact rfl)|(apply S.assign;exact rfl;exact rfl)|(apply S.gC;exact rfl;exact rfl;exact rfl)|(apply S.gTT;exact rfl;exact rfl;assumption)|(apply S.pCN;exact rfl;exact rfl;exact rfl)|(apply S.pTp;exact rfl;assumption;exact rfl;exact rfl)|(apply S.call;exact rfl;exact rfl;exact sh;exact rfl)|(apply S.call;exact rfl;exact rfl;exact al;exact rfl)|(apply S.call;exact rfl;exact rfl;exact cl;exact rfl)|(apply S.eq2;exact rfl;exact rfl;exact rfl)|(apply S.loadPA;(iterate 4 exact rfl))|(apply S.alloc;(iterate 5 exact rfl))|(apply S.store;(iterate 7 exact rfl))|(apply S.cmp;(iterate 4 exact rfl))|(apply S.extract;exact rfl;exact rfl;exact rfl) | apply S.nil | apply T.regs|(apply T.cCN;exact rfl) | apply T.seq|(apply T.skip;first | change T _ _ _ _ _ | change Done _ _ _ _ _ | change Next _ _ _ _ _ _ | skip)|(apply T.ret;change Done _ _ _ _ _)|(apply T.exit;first | change T _ _ _ _ _ | change Done _ _ _ _ _ | change Next _ _ _ _ _ _ | skip))
          all_goals exact doneV (by simp) Tryz.results5 rfl (by simp)
    · rw [decide_eq_false hB] at cb
      refine Fn0.of Tryz.func5 Tryz.ntmps5 rfl rfl rfl ?_
      simp only [entryTm]
      repeat' (first|(apply S.move;exact rfl;exact rfl)|(apply S.assign;exact rfl;exact rfl)|(apply S.gC;exact rfl;exact rfl;exact rfl)|(apply S.pCN;exact rfl;exact rfl;exact rfl)|(apply S.call;exact rfl;exact rfl;exact l08_awake;exact rfl)|(apply S.call;exact rfl;exact rfl;exact ca;exact rfl)|(apply S.call;exact rfl;exact rfl;exact cb;exact rfl)|(apply S.buildSliceF;(iterate 8 exact rfl))|(apply S.loadPA;(iterate 4 exact rfl))|(apply S.box;(iterate 6 exact rfl))|(apply S.not;exact rfl;exact rfl;exact rfl) | apply S.nil | apply T.regs|(apply T.cC;exact rfl)|(apply T.cCN;exact rfl) | apply T.seq|(apply T.skip;first | change T _ _ _ _ _ | change Done _ _ _ _ _ | change Next _ _ _ _ _ _ | skip)|(apply T.ret;change Done _ _ _ _ _))
      all_goals exact doneV (by simp) Tryz.results5 rfl rfl
  · rw [decide_eq_false hA] at ca
    refine Fn0.of Tryz.func5 Tryz.ntmps5 rfl rfl rfl ?_
    simp only [entryTm]
    repeat' (first|(apply S.move;exact rfl;exact rfl)|(apply S.assign;exact rfl;exact rfl)|(apply S.gCN;(iterate 4 exact rfl))|(apply S.pC;exact rfl;exact rfl;exact rfl)|(apply S.call;exact rfl;exact rfl;exact l08_awake;exact rfl)|(apply S.call;exact rfl;exact rfl;exact ca;exact rfl)|(apply S.buildSliceF;(iterate 8 exact rfl))|(apply S.loadPA;(iterate 4 exact rfl))|(apply S.box;(iterate 6 exact rfl))|(apply S.not;exact rfl;exact rfl;exact rfl) | apply S.nil | apply T.regs|(apply T.cC;exact rfl)|(apply T.cCN;exact rfl) | apply T.seq|(apply T.skip;first | change T _ _ _ _ _ | change Done _ _ _ _ _ | change Next _ _ _ _ _ _ | skip)|(apply T.ret;change Done _ _ _ _ _))
    all_goals exact doneV (by simp) Tryz.results5 rfl rfl
end Go.Proofs.YtgegcgfdffmoeaaGreat
