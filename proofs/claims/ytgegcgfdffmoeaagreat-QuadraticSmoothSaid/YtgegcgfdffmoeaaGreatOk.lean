/- Contracts: the walk of the law on smooth curves. No conditions but those of each statement. -/
import Derived.Test.YtgegcgfdffmoeaaGreatOh
import Derived.Test.YtgegcgfdffmoeaaGreatOj
set_option linter.unusedSimpArgs false
namespace Go.Proofs.YtgegcgfdffmoeaaGreat
set_option linter.unusedVariables false
open Go Go.RowKit
theorem smA_or (l : List PcQ) : (smA l = .tup [.b true, .i 0] ∧ smE l (l.length - 1) = 0 ∧ smX l (l.length - 1)) ∨ smA l = .tup [.b false, .i 0] ∧ smE l (l.length - 1) = 0 ∧ ¬ smX l (l.length - 1) ∨ smA l = .tup [.b false, .i 5] := by
  unfold smA
  rcases smE_or l (l.length - 1) with h | h
  · have hx := smE_exact l _ h
    rw [if_pos h]
    by_cases hk : smK l (l.length - 1)
    · rw [decide_eq_true hk];exact .inl ⟨rfl, h, hx.1 hk⟩
    · rw [decide_eq_false hk];exact .inr (.inl ⟨rfl, h, fun k => hk (hx.2 k)⟩)
  · rw [h, if_neg (show ¬ (5 : Int) = 0 by decide)];exact .inr (.inr rfl)
theorem sh_smA {by_ : Rat} {l : List PcQ} (h : shEs by_ l = 0) (h0 : l ≠ []) : smA (l.map (shP by_)) = smA l := by
  have hpos := List.length_pos_iff.2 h0
  obtain ⟨h1, h2⟩ := sh_smE h (l.length - 1) (by omega)
  unfold smA
  rw [List.length_map, h1]
  congr 1
  rw [decide_eq_decide.2 h2]
set_option maxHeartbeats 64000000 in
theorem law_quadraticSmooth (la lb : List PieceR) (n d : Int) (hn : la.length ≤ 1000000000000000) (hm : lb.length ≤ 1000000000000000) : Fn0 Tryz.prog 6 [.sl (la.map PieceR.row), .sl (lb.map PieceR.row), rowA [.i n, .i d]] (.b true) := by
  have ca := l08_right la [(n, d)] hn (by simp)
  have cb := l08_rightN lb hm
  simp only [List.map_cons, List.map_nil, intR2] at ca
  by_cases hA : (la.length ≤ 12 ∧ curveP la) ∧ ∀ p ∈ [(n, d)], vF p.1 p.2
  · rw [decide_eq_true hA] at ca
    obtain ⟨⟨ha12, hAc⟩, hts⟩ := hA
    have hv2 : vF n d := hts (n, d) (by simp)
    by_cases hB : lb.length ≤ 12 ∧ curveP lb
    · rw [decide_eq_true hB] at cb
      obtain ⟨hb12, hBc⟩ := hB
      obtain ⟨hok, hrow, hne, hs⟩ := curveQ_ok hAc
      obtain ⟨hok2, hrow2, hne2, hs2⟩ := curveQ_ok hBc
      have hlen : (la.map toQ).length ≤ 12 := by rw [List.length_map];exact ha12
      have hlen2 : (lb.map toQ).length ≤ 12 := by rw [List.length_map];exact hb12
      have pa := qua_validL la hn
      have pb := qua_validL lb hm
      rw [decide_eq_true hAc] at pa
      rw [decide_eq_true hBc] at pb
      rw [← hrow] at ca pa ⊢
      rw [← hrow2] at cb pb ⊢
      generalize la.map toQ = qa at *
      generalize lb.map toQ = qb at *
      obtain ⟨fb, f3, f4⟩ := vF_fits hv2
      obtain ⟨by_, hby⟩ : ∃ t, t = ratV n d := ⟨_, rfl⟩
      rw [← hby] at fb f3 f4
      subst f3 f4
      have f0 := l08_fits 0 (.inl rfl)
      have f5 := l08_fits 5 (.inr rfl)
      have sa := qua_smooth qa hok hne (by omega) pa
      have sb := qua_smooth qb hok2 hne2 (by omega) pb
      have xs := qua_add qa qb hok hok2 hne hne2 (by omega) (by omega) pa pb
      obtain ⟨j1, j2⟩ := joinE_small (op := (· + ·)) (a := qa) (b := qb) (by omega)
      rw [j1, j2] at xs
      clear j1 j2
      have pv := qua_valid1 by_.num by_.den
      rw [decide_eq_true hv2] at pv
      have xh := qua_shift qa by_ hok fb hne (by omega) pa pv
      have hpos := List.length_pos_iff.2 hne
      obtain ⟨x0, hx0⟩ : ∃ x, qa[0]? = some x := ⟨qa[0]'hpos, List.getElem?_eq_getElem _⟩
      have hb0 : (qa.map PcQ.row)[(0 : Int).toNat]? = some x0.row := by rw [show (0 : Int).toNat = 0 from rfl, List.getElem?_map, hx0];rfl
      have hle : (qa.map PcQ.row).length = qa.length := List.length_map _
      have hlz : (0 : Int) < ((qa.map PcQ.row).length : Nat) := by omega
      have mp : (qa.map (shP by_)).length = qa.length := List.length_map _
      rcases smA_or qa with ⟨h1, e1, k1⟩ | ⟨h1, _, _⟩ | h1 <;> rw [h1] at sa
      · rcases smA_or qb with ⟨h2, e2, k2⟩ | ⟨h2, _, _⟩ | h2 <;> rw [h2] at sb
        · have hz : x0.b = 0 := by have := k1.1;rwa [pcAt_of hx0] at this
          have hzn : ¬ ¬ x0.b.num = 0 := fun k => k (by rw [hz];rfl)
          have hS : (∃ c x e, Fn0 Tryz.prog 16 [.sl (qa.map PcQ.row), .sl (qb.map PcQ.row)] (.tup [.sl c, .i 0]) ∧ Fn0 Tryz.prog 29 [.sl c] (.tup [.b x, .i e]) ∧ (x = true ∧ e = 0 ∨ x = false ∧ e = 5)) ∨ Fn0 Tryz.prog 16 [.sl (qa.map PcQ.row), .sl (qb.map PcQ.row)] (.tup [.sl [], .i 5]) := by
            rcases jEs_or (· + ·) qa qb (timesQ qa qb) with h | h
            · rw [h, if_pos (show (0 : Int) = 0 from rfl)] at xs
              have hSum : Sum (· + ·) qa qb (timesQ qa qb) ((timesQ qa qb).map (jP (· + ·) qa qb)) := ⟨rfl, rfl, h⟩
              generalize (timesQ qa qb).map (jP (· + ·) qa qb) = s at hSum xs
              have q1 := hSum.pos hne
              have q2 := timesQ_lenJ qa qb
              have q3 := hSum.len
              have s0 : s ≠ [] := fun e => by rw [e] at q3;simp at q3;omega
              have ok := hSum.ok hok hok2
              have v := qua_validQ s ok hSum.sort (by omega) (by omega)
              have cs := qua_smooth s ok s0 (by omega) v
              have hx := hSum.smooth (c := 1) (fun p q => by grind) hs hs2 hne hne2 k1 k2
              rcases smA_or s with ⟨h3, _, _⟩ | ⟨h3, _, k3⟩ | h3
              · rw [h3] at cs;exact .inl ⟨_, _, _, xs, cs, .inl ⟨rfl, rfl⟩⟩
              · exact absurd hx k3
              · rw [h3] at cs;exact .inl ⟨_, _, _, xs, cs, .inr ⟨rfl, rfl⟩⟩
            · rw [h, if_neg (show ¬ (5 : Int) = 0 by decide)] at xs;exact .inr xs
          have hM : (∃ c, Fn0 Tryz.prog 18 [.sl (qa.map PcQ.row), rowA (frR by_)] (.tup [.sl c, .i 0]) ∧ Fn0 Tryz.prog 29 [.sl c] (.tup [.b true, .i 0])) ∨ ∃ c, Fn0 Tryz.prog 18 [.sl (qa.map PcQ.row), rowA (frR by_)] (.tup [.sl c, .i 5]) := by
            rcases shEs_or by_ qa with h | h
            · rw [h, if_pos (show (0 : Int) = 0 from rfl)] at xh
              have m0 : qa.map (shP by_) ≠ [] := fun e => hne (List.map_eq_nil_iff.1 e)
              have mv := qua_validQ (qa.map (shP by_)) (sh_ok hok) (sh_sort h hs) (by omega) (by omega)
              have mc := qua_smooth (qa.map (shP by_)) (sh_ok hok) m0 (by omega) mv
              rw [sh_smA h hne, h1] at mc
              exact .inl ⟨_, xh, mc⟩
            · rw [h] at xh;exact .inr ⟨_, xh⟩
          clear xs xh
          rcases hS with ⟨c, x, e, xs, xc, ⟨rfl, rfl⟩ | ⟨rfl, rfl⟩⟩ | xs
          · rcases hM with ⟨m, xh, xm⟩ | ⟨m, xh⟩
            · skip
              refine Fn0.of Tryz.func6 Tryz.ntmps6 rfl rfl rfl ?_
              simp only [entryTm]
              repeat' (first|(apply S.move;exact rfl;exact rfl)|(apply S.assign;exact rfl;exact rfl)|(apply S.gC;exact rfl;exact rfl;exact rfl)|(apply S.fieldR;exact rfl;exact rfl)|(apply S.loadR;exact rfl;exact rfl;exact rfl)|(apply S.pC;exact rfl;exact rfl;exact rfl)|(apply S.pCN;exact rfl;exact rfl;exact rfl)|(apply S.call;exact rfl;exact rfl;exact l08_awake;exact rfl)|(apply S.call;exact rfl;exact rfl;exact ca;exact rfl)|(apply S.call;exact rfl;exact rfl;exact cb;exact rfl)|(apply S.call;exact rfl;exact rfl;exact sa;exact rfl)|(apply S.call;exact rfl;exact rfl;exact sb;exact rfl)|(apply S.call;exact rfl;exact rfl;exact f0;exact rfl)|(apply S.call;exact rfl;exact rfl;exact xs;exact rfl)|(apply S.call;exact rfl;exact rfl;exact xc;exact rfl)|(apply S.call;exact rfl;exact rfl;exact xh;exact rfl)|(apply S.call;exact rfl;exact rfl;exact xm;exact rfl)|(apply S.indexR;exact rfl;exact rfl;exact rfl;exact hb0;omega;exact rfl)|(apply S.buildSlice1;(iterate 7 exact rfl))|(apply S.loadPA;(iterate 4 exact rfl))|(apply S.box;(iterate 6 exact rfl))|(apply S.cmp;(iterate 4 exact rfl))|(apply S.not;exact rfl;exact rfl;exact rfl)|(apply S.extract;exact rfl;exact rfl;exact rfl) | apply S.nil | apply T.regs|(apply T.cC;exact rfl)|(apply T.cCN;exact rfl)|(apply T.cF;exact rfl;assumption) | apply T.seq|(apply T.skip;first | change T _ _ _ _ _ | change Done _ _ _ _ _ | change Next _ _ _ _ _ _ | skip)|(apply T.ret;change Done _ _ _ _ _))
              all_goals exact doneV (by simp) Tryz.results6 rfl rfl
            · skip
              refine Fn0.of Tryz.func6 Tryz.ntmps6 rfl rfl rfl ?_
              simp only [entryTm]
              repeat' (first|(apply S.move;exact rfl;exact rfl)|(apply S.assign;exact rfl;exact rfl)|(apply S.gC;exact rfl;exact rfl;exact rfl)|(apply S.fieldR;exact rfl;exact rfl)|(apply S.loadR;exact rfl;exact rfl;exact rfl)|(apply S.pC;exact rfl;exact rfl;exact rfl)|(apply S.pCN;exact rfl;exact rfl;exact rfl)|(apply S.call;exact rfl;exact rfl;exact l08_awake;exact rfl)|(apply S.call;exact rfl;exact rfl;exact ca;exact rfl)|(apply S.call;exact rfl;exact rfl;exact cb;exact rfl)|(apply S.call;exact rfl;exact rfl;exact sa;exact rfl)|(apply S.call;exact rfl;exact rfl;exact sb;exact rfl)|(apply S.call;exact rfl;exact rfl;exact f0;exact rfl)|(apply S.call;exact rfl;exact rfl;exact xs;exact rfl)|(apply S.call;exact rfl;exact rfl;exact xc;exact rfl)|(apply S.call;exact rfl;exact rfl;exact xh;exact rfl)|(apply S.indexR;exact rfl;exact rfl;exact rfl;exact hb0;omega;exact rfl)|(apply S.buildSlice1;(iterate 7 exact rfl))|(apply S.loadPA;(iterate 4 exact rfl))|(apply S.box;(iterate 6 exact rfl))|(apply S.cmp;(iterate 4 exact rfl))|(apply S.not;exact rfl;exact rfl;exact rfl)|(apply S.extract;exact rfl;exact rfl;exact rfl) | apply S.nil | apply T.regs|(apply T.cC;exact rfl)|(apply T.cCN;exact rfl)|(apply T.cF;exact rfl;assumption) | apply T.seq|(apply T.skip;first | change T _ _ _ _ _ | change Done _ _ _ _ _ | change Next _ _ _ _ _ _ | skip)|(apply T.ret;change Done _ _ _ _ _))
              all_goals exact doneV (by simp) Tryz.results6 rfl rfl
          · rcases hM with ⟨m, xh, xm⟩ | ⟨m, xh⟩
            · skip
              refine Fn0.of Tryz.func6 Tryz.ntmps6 rfl rfl rfl ?_
              simp only [entryTm]
              repeat' (first|(apply S.move;exact rfl;exact rfl)|(apply S.assign;exact rfl;exact rfl)|(apply S.gC;exact rfl;exact rfl;exact rfl)|(apply S.gCN;(iterate 4 exact rfl))|(apply S.fieldR;exact rfl;exact rfl)|(apply S.loadR;exact rfl;exact rfl;exact rfl)|(apply S.pC;exact rfl;exact rfl;exact rfl)|(apply S.pCN;exact rfl;exact rfl;exact rfl)|(apply S.call;exact rfl;exact rfl;exact l08_awake;exact rfl)|(apply S.call;exact rfl;exact rfl;exact ca;exact rfl)|(apply S.call;exact rfl;exact rfl;exact cb;exact rfl)|(apply S.call;exact rfl;exact rfl;exact sa;exact rfl)|(apply S.call;exact rfl;exact rfl;exact sb;exact rfl)|(apply S.call;exact rfl;exact rfl;exact f0;exact rfl)|(apply S.call;exact rfl;exact rfl;exact f5;exact rfl)|(apply S.call;exact rfl;exact rfl;exact xs;exact rfl)|(apply S.call;exact rfl;exact rfl;exact xc;exact rfl)|(apply S.call;exact rfl;exact rfl;exact xh;exact rfl)|(apply S.call;exact rfl;exact rfl;exact xm;exact rfl)|(apply S.indexR;exact rfl;exact rfl;exact rfl;exact hb0;omega;exact rfl)|(apply S.buildSlice1;(iterate 7 exact rfl))|(apply S.loadPA;(iterate 4 exact rfl))|(apply S.box;(iterate 6 exact rfl))|(apply S.cmp;(iterate 4 exact rfl))|(apply S.not;exact rfl;exact rfl;exact rfl)|(apply S.extract;exact rfl;exact rfl;exact rfl) | apply S.nil | apply T.regs|(apply T.cC;exact rfl)|(apply T.cCN;exact rfl)|(apply T.cF;exact rfl;assumption) | apply T.seq|(apply T.skip;first | change T _ _ _ _ _ | change Done _ _ _ _ _ | change Next _ _ _ _ _ _ | skip)|(apply T.ret;change Done _ _ _ _ _))
              all_goals exact doneV (by simp) Tryz.results6 rfl rfl
            · skip
              refine Fn0.of Tryz.func6 Tryz.ntmps6 rfl rfl rfl ?_
              simp only [entryTm]
              repeat' (first|(apply S.move;exact rfl;exact rfl)|(apply S.assign;exact rfl;exact rfl)|(apply S.gC;exact rfl;exact rfl;exact rfl)|(apply S.gCN;(iterate 4 exact rfl))|(apply S.fieldR;exact rfl;exact rfl)|(apply S.loadR;exact rfl;exact rfl;exact rfl)|(apply S.pCN;exact rfl;exact rfl;exact rfl)|(apply S.call;exact rfl;exact rfl;exact l08_awake;exact rfl)|(apply S.call;exact rfl;exact rfl;exact ca;exact rfl)|(apply S.call;exact rfl;exact rfl;exact cb;exact rfl)|(apply S.call;exact rfl;exact rfl;exact sa;exact rfl)|(apply S.call;exact rfl;exact rfl;exact sb;exact rfl)|(apply S.call;exact rfl;exact rfl;exact f5;exact rfl)|(apply S.call;exact rfl;exact rfl;exact xs;exact rfl)|(apply S.call;exact rfl;exact rfl;exact xc;exact rfl)|(apply S.call;exact rfl;exact rfl;exact xh;exact rfl)|(apply S.indexR;exact rfl;exact rfl;exact rfl;exact hb0;omega;exact rfl)|(apply S.buildSlice1;(iterate 7 exact rfl))|(apply S.loadPA;(iterate 4 exact rfl))|(apply S.box;(iterate 6 exact rfl))|(apply S.cmp;(iterate 4 exact rfl))|(apply S.not;exact rfl;exact rfl;exact rfl)|(apply S.extract;exact rfl;exact rfl;exact rfl) | apply S.nil | apply T.regs|(apply T.cC;exact rfl)|(apply T.cCN;exact rfl)|(apply T.cF;exact rfl;assumption) | apply T.seq|(apply T.skip;first | change T _ _ _ _ _ | change Done _ _ _ _ _ | change Next _ _ _ _ _ _ | skip)|(apply T.ret;change Done _ _ _ _ _))
              all_goals exact doneV (by simp) Tryz.results6 rfl rfl
          · rcases hM with ⟨m, xh, xm⟩ | ⟨m, xh⟩
            · skip
              refine Fn0.of Tryz.func6 Tryz.ntmps6 rfl rfl rfl ?_
              simp only [entryTm]
              repeat' (first|(apply S.move;exact rfl;exact rfl)|(apply S.assign;exact rfl;exact rfl)|(apply S.gC;exact rfl;exact rfl;exact rfl)|(apply S.fieldR;exact rfl;exact rfl)|(apply S.loadR;exact rfl;exact rfl;exact rfl)|(apply S.pC;exact rfl;exact rfl;exact rfl)|(apply S.pCN;exact rfl;exact rfl;exact rfl)|(apply S.call;exact rfl;exact rfl;exact l08_awake;exact rfl)|(apply S.call;exact rfl;exact rfl;exact ca;exact rfl)|(apply S.call;exact rfl;exact rfl;exact cb;exact rfl)|(apply S.call;exact rfl;exact rfl;exact sa;exact rfl)|(apply S.call;exact rfl;exact rfl;exact sb;exact rfl)|(apply S.call;exact rfl;exact rfl;exact f0;exact rfl)|(apply S.call;exact rfl;exact rfl;exact xs;exact rfl)|(apply S.call;exact rfl;exact rfl;exact xh;exact rfl)|(apply S.call;exact rfl;exact rfl;exact xm;exact rfl)|(apply S.indexR;exact rfl;exact rfl;exact rfl;exact hb0;omega;exact rfl)|(apply S.buildSlice1;(iterate 7 exact rfl))|(apply S.loadPA;(iterate 4 exact rfl))|(apply S.box;(iterate 6 exact rfl))|(apply S.cmp;(iterate 4 exact rfl))|(apply S.not;exact rfl;exact rfl;exact rfl)|(apply S.extract;exact rfl;exact rfl;exact rfl) | apply S.nil | apply T.regs|(apply T.cCN;exact rfl)|(apply T.cF;exact rfl;assumption) | apply T.seq|(apply T.skip;first | change T _ _ _ _ _ | change Done _ _ _ _ _ | change Next _ _ _ _ _ _ | skip)|(apply T.ret;change Done _ _ _ _ _))
              all_goals exact doneV (by simp) Tryz.results6 rfl rfl
            · skip
              refine Fn0.of Tryz.func6 Tryz.ntmps6 rfl rfl rfl ?_
              simp only [entryTm]
              repeat' (first|(apply S.move;exact rfl;exact rfl)|(apply S.assign;exact rfl;exact rfl)|(apply S.gC;exact rfl;exact rfl;exact rfl)|(apply S.fieldR;exact rfl;exact rfl)|(apply S.loadR;exact rfl;exact rfl;exact rfl)|(apply S.pCN;exact rfl;exact rfl;exact rfl)|(apply S.call;exact rfl;exact rfl;exact l08_awake;exact rfl)|(apply S.call;exact rfl;exact rfl;exact ca;exact rfl)|(apply S.call;exact rfl;exact rfl;exact cb;exact rfl)|(apply S.call;exact rfl;exact rfl;exact sa;exact rfl)|(apply S.call;exact rfl;exact rfl;exact sb;exact rfl)|(apply S.call;exact rfl;exact rfl;exact xs;exact rfl)|(apply S.call;exact rfl;exact rfl;exact xh;exact rfl)|(apply S.indexR;exact rfl;exact rfl;exact rfl;exact hb0;omega;exact rfl)|(apply S.buildSlice1;(iterate 7 exact rfl))|(apply S.loadPA;(iterate 4 exact rfl))|(apply S.box;(iterate 6 exact rfl))|(apply S.cmp;(iterate 4 exact rfl))|(apply S.not;exact rfl;exact rfl;exact rfl)|(apply S.extract;exact rfl;exact rfl;exact rfl) | apply S.nil | apply T.regs|(apply T.cC;exact rfl)|(apply T.cCN;exact rfl)|(apply T.cF;exact rfl;assumption) | apply T.seq|(apply T.skip;first | change T _ _ _ _ _ | change Done _ _ _ _ _ | change Next _ _ _ _ _ _ | skip)|(apply T.ret;change Done _ _ _ _ _))
              all_goals exact doneV (by simp) Tryz.results6 rfl rfl
        · skip
          refine Fn0.of Tryz.func6 Tryz.ntmps6 rfl rfl rfl ?_
          simp only [entryTm]
          repeat' (first|(apply S.move;exact rfl;exact rfl)|(apply S.assign;exact rfl;exact rfl)|(apply S.gC;exact rfl;exact rfl;exact rfl)|(apply S.gCN;(iterate 4 exact rfl))|(apply S.pC;exact rfl;exact rfl;exact rfl)|(apply S.pCN;exact rfl;exact rfl;exact rfl)|(apply S.call;exact rfl;exact rfl;exact l08_awake;exact rfl)|(apply S.call;exact rfl;exact rfl;exact ca;exact rfl)|(apply S.call;exact rfl;exact rfl;exact cb;exact rfl)|(apply S.call;exact rfl;exact rfl;exact sa;exact rfl)|(apply S.call;exact rfl;exact rfl;exact sb;exact rfl)|(apply S.call;exact rfl;exact rfl;exact f0;exact rfl)|(apply S.buildSlice1;(iterate 7 exact rfl))|(apply S.loadPA;(iterate 4 exact rfl))|(apply S.box;(iterate 6 exact rfl))|(apply S.cmp;(iterate 4 exact rfl))|(apply S.not;exact rfl;exact rfl;exact rfl)|(apply S.extract;exact rfl;exact rfl;exact rfl) | apply S.nil | apply T.regs|(apply T.cC;exact rfl)|(apply T.cCN;exact rfl) | apply T.seq|(apply T.skip;first | change T _ _ _ _ _ | change Done _ _ _ _ _ | change Next _ _ _ _ _ _ | skip)|(apply T.ret;change Done _ _ _ _ _))
          all_goals exact doneV (by simp) Tryz.results6 rfl rfl
        · skip
          refine Fn0.of Tryz.func6 Tryz.ntmps6 rfl rfl rfl ?_
          simp only [entryTm]
          repeat' (first|(apply S.move;exact rfl;exact rfl)|(apply S.assign;exact rfl;exact rfl)|(apply S.gC;exact rfl;exact rfl;exact rfl)|(apply S.gCN;(iterate 4 exact rfl))|(apply S.pC;exact rfl;exact rfl;exact rfl)|(apply S.pCN;exact rfl;exact rfl;exact rfl)|(apply S.call;exact rfl;exact rfl;exact l08_awake;exact rfl)|(apply S.call;exact rfl;exact rfl;exact ca;exact rfl)|(apply S.call;exact rfl;exact rfl;exact cb;exact rfl)|(apply S.call;exact rfl;exact rfl;exact sa;exact rfl)|(apply S.call;exact rfl;exact rfl;exact sb;exact rfl)|(apply S.call;exact rfl;exact rfl;exact f0;exact rfl)|(apply S.call;exact rfl;exact rfl;exact f5;exact rfl)|(apply S.buildSlice1;(iterate 7 exact rfl))|(apply S.loadPA;(iterate 4 exact rfl))|(apply S.box;(iterate 6 exact rfl))|(apply S.cmp;(iterate 4 exact rfl))|(apply S.not;exact rfl;exact rfl;exact rfl)|(apply S.extract;exact rfl;exact rfl;exact rfl) | apply S.nil | apply T.regs|(apply T.cC;exact rfl)|(apply T.cCN;exact rfl) | apply T.seq|(apply T.skip;first | change T _ _ _ _ _ | change Done _ _ _ _ _ | change Next _ _ _ _ _ _ | skip)|(apply T.ret;change Done _ _ _ _ _))
          all_goals exact doneV (by simp) Tryz.results6 rfl rfl
      · rcases smA_or qb with ⟨h2, e2, k2⟩ | ⟨h2, _, _⟩ | h2 <;> rw [h2] at sb
        · skip
          refine Fn0.of Tryz.func6 Tryz.ntmps6 rfl rfl rfl ?_
          simp only [entryTm]
          repeat' (first|(apply S.move;exact rfl;exact rfl)|(apply S.assign;exact rfl;exact rfl)|(apply S.gC;exact rfl;exact rfl;exact rfl)|(apply S.gCN;(iterate 4 exact rfl))|(apply S.pC;exact rfl;exact rfl;exact rfl)|(apply S.pCN;exact rfl;exact rfl;exact rfl)|(apply S.call;exact rfl;exact rfl;exact l08_awake;exact rfl)|(apply S.call;exact rfl;exact rfl;exact ca;exact rfl)|(apply S.call;exact rfl;exact rfl;exact cb;exact rfl)|(apply S.call;exact rfl;exact rfl;exact sa;exact rfl)|(apply S.call;exact rfl;exact rfl;exact sb;exact rfl)|(apply S.call;exact rfl;exact rfl;exact f0;exact rfl)|(apply S.buildSlice1;(iterate 7 exact rfl))|(apply S.loadPA;(iterate 4 exact rfl))|(apply S.box;(iterate 6 exact rfl))|(apply S.cmp;(iterate 4 exact rfl))|(apply S.not;exact rfl;exact rfl;exact rfl)|(apply S.extract;exact rfl;exact rfl;exact rfl) | apply S.nil | apply T.regs|(apply T.cC;exact rfl)|(apply T.cCN;exact rfl) | apply T.seq|(apply T.skip;first | change T _ _ _ _ _ | change Done _ _ _ _ _ | change Next _ _ _ _ _ _ | skip)|(apply T.ret;change Done _ _ _ _ _))
          all_goals exact doneV (by simp) Tryz.results6 rfl rfl
        · skip
          refine Fn0.of Tryz.func6 Tryz.ntmps6 rfl rfl rfl ?_
          simp only [entryTm]
          repeat' (first|(apply S.move;exact rfl;exact rfl)|(apply S.assign;exact rfl;exact rfl)|(apply S.gC;exact rfl;exact rfl;exact rfl)|(apply S.gCN;(iterate 4 exact rfl))|(apply S.pC;exact rfl;exact rfl;exact rfl)|(apply S.pCN;exact rfl;exact rfl;exact rfl)|(apply S.call;exact rfl;exact rfl;exact l08_awake;exact rfl)|(apply S.call;exact rfl;exact rfl;exact ca;exact rfl)|(apply S.call;exact rfl;exact rfl;exact cb;exact rfl)|(apply S.call;exact rfl;exact rfl;exact sa;exact rfl)|(apply S.call;exact rfl;exact rfl;exact sb;exact rfl)|(apply S.call;exact rfl;exact rfl;exact f0;exact rfl)|(apply S.buildSlice1;(iterate 7 exact rfl))|(apply S.loadPA;(iterate 4 exact rfl))|(apply S.box;(iterate 6 exact rfl))|(apply S.cmp;(iterate 4 exact rfl))|(apply S.not;exact rfl;exact rfl;exact rfl)|(apply S.extract;exact rfl;exact rfl;exact rfl) | apply S.nil | apply T.regs|(apply T.cC;exact rfl)|(apply T.cCN;exact rfl) | apply T.seq|(apply T.skip;first | change T _ _ _ _ _ | change Done _ _ _ _ _ | change Next _ _ _ _ _ _ | skip)|(apply T.ret;change Done _ _ _ _ _))
          all_goals exact doneV (by simp) Tryz.results6 rfl rfl
        · skip
          refine Fn0.of Tryz.func6 Tryz.ntmps6 rfl rfl rfl ?_
          simp only [entryTm]
          repeat' (first|(apply S.move;exact rfl;exact rfl)|(apply S.assign;exact rfl;exact rfl)|(apply S.gC;exact rfl;exact rfl;exact rfl)|(apply S.gCN;(iterate 4 exact rfl))|(apply S.pC;exact rfl;exact rfl;exact rfl)|(apply S.pCN;exact rfl;exact rfl;exact rfl)|(apply S.call;exact rfl;exact rfl;exact l08_awake;exact rfl)|(apply S.call;exact rfl;exact rfl;exact ca;exact rfl)|(apply S.call;exact rfl;exact rfl;exact cb;exact rfl)|(apply S.call;exact rfl;exact rfl;exact sa;exact rfl)|(apply S.call;exact rfl;exact rfl;exact sb;exact rfl)|(apply S.call;exact rfl;exact rfl;exact f0;exact rfl)|(apply S.call;exact rfl;exact rfl;exact f5;exact rfl)|(apply S.buildSlice1;(iterate 7 exact rfl))|(apply S.loadPA;(iterate 4 exact rfl))|(apply S.box;(iterate 6 exact rfl))|(apply S.cmp;(iterate 4 exact rfl))|(apply S.not;exact rfl;exact rfl;exact rfl)|(apply S.extract;exact rfl;exact rfl;exact rfl) | apply S.nil | apply T.regs|(apply T.cC;exact rfl)|(apply T.cCN;exact rfl) | apply T.seq|(apply T.skip;first | change T _ _ _ _ _ | change Done _ _ _ _ _ | change Next _ _ _ _ _ _ | skip)|(apply T.ret;change Done _ _ _ _ _))
          all_goals exact doneV (by simp) Tryz.results6 rfl rfl
      · rcases smA_or qb with ⟨h2, e2, k2⟩ | ⟨h2, _, _⟩ | h2 <;> rw [h2] at sb
        · skip
          refine Fn0.of Tryz.func6 Tryz.ntmps6 rfl rfl rfl ?_
          simp only [entryTm]
          repeat' (first|(apply S.move;exact rfl;exact rfl)|(apply S.assign;exact rfl;exact rfl)|(apply S.gC;exact rfl;exact rfl;exact rfl)|(apply S.gCN;(iterate 4 exact rfl))|(apply S.pC;exact rfl;exact rfl;exact rfl)|(apply S.pCN;exact rfl;exact rfl;exact rfl)|(apply S.call;exact rfl;exact rfl;exact l08_awake;exact rfl)|(apply S.call;exact rfl;exact rfl;exact ca;exact rfl)|(apply S.call;exact rfl;exact rfl;exact cb;exact rfl)|(apply S.call;exact rfl;exact rfl;exact sa;exact rfl)|(apply S.call;exact rfl;exact rfl;exact sb;exact rfl)|(apply S.call;exact rfl;exact rfl;exact f0;exact rfl)|(apply S.call;exact rfl;exact rfl;exact f5;exact rfl)|(apply S.buildSlice1;(iterate 7 exact rfl))|(apply S.loadPA;(iterate 4 exact rfl))|(apply S.box;(iterate 6 exact rfl))|(apply S.cmp;(iterate 4 exact rfl))|(apply S.not;exact rfl;exact rfl;exact rfl)|(apply S.extract;exact rfl;exact rfl;exact rfl) | apply S.nil | apply T.regs|(apply T.cC;exact rfl)|(apply T.cCN;exact rfl) | apply T.seq|(apply T.skip;first | change T _ _ _ _ _ | change Done _ _ _ _ _ | change Next _ _ _ _ _ _ | skip)|(apply T.ret;change Done _ _ _ _ _))
          all_goals exact doneV (by simp) Tryz.results6 rfl rfl
        · skip
          refine Fn0.of Tryz.func6 Tryz.ntmps6 rfl rfl rfl ?_
          simp only [entryTm]
          repeat' (first|(apply S.move;exact rfl;exact rfl)|(apply S.assign;exact rfl;exact rfl)|(apply S.gC;exact rfl;exact rfl;exact rfl)|(apply S.gCN;(iterate 4 exact rfl))|(apply S.pC;exact rfl;exact rfl;exact rfl)|(apply S.pCN;exact rfl;exact rfl;exact rfl)|(apply S.call;exact rfl;exact rfl;exact l08_awake;exact rfl)|(apply S.call;exact rfl;exact rfl;exact ca;exact rfl)|(apply S.call;exact rfl;exact rfl;exact cb;exact rfl)|(apply S.call;exact rfl;exact rfl;exact sa;exact rfl)|(apply S.call;exact rfl;exact rfl;exact sb;exact rfl)|(apply S.call;exact rfl;exact rfl;exact f0;exact rfl)|(apply S.call;exact rfl;exact rfl;exact f5;exact rfl)|(apply S.buildSlice1;(iterate 7 exact rfl))|(apply S.loadPA;(iterate 4 exact rfl))|(apply S.box;(iterate 6 exact rfl))|(apply S.cmp;(iterate 4 exact rfl))|(apply S.not;exact rfl;exact rfl;exact rfl)|(apply S.extract;exact rfl;exact rfl;exact rfl) | apply S.nil | apply T.regs|(apply T.cC;exact rfl)|(apply T.cCN;exact rfl) | apply T.seq|(apply T.skip;first | change T _ _ _ _ _ | change Done _ _ _ _ _ | change Next _ _ _ _ _ _ | skip)|(apply T.ret;change Done _ _ _ _ _))
          all_goals exact doneV (by simp) Tryz.results6 rfl rfl
        · skip
          refine Fn0.of Tryz.func6 Tryz.ntmps6 rfl rfl rfl ?_
          simp only [entryTm]
          repeat' (first|(apply S.move;exact rfl;exact rfl)|(apply S.assign;exact rfl;exact rfl)|(apply S.gC;exact rfl;exact rfl;exact rfl)|(apply S.gCN;(iterate 4 exact rfl))|(apply S.pC;exact rfl;exact rfl;exact rfl)|(apply S.pCN;exact rfl;exact rfl;exact rfl)|(apply S.call;exact rfl;exact rfl;exact l08_awake;exact rfl)|(apply S.call;exact rfl;exact rfl;exact ca;exact rfl)|(apply S.call;exact rfl;exact rfl;exact cb;exact rfl)|(apply S.call;exact rfl;exact rfl;exact sa;exact rfl)|(apply S.call;exact rfl;exact rfl;exact sb;exact rfl)|(apply S.call;exact rfl;exact rfl;exact f5;exact rfl)|(apply S.buildSlice1;(iterate 7 exact rfl))|(apply S.loadPA;(iterate 4 exact rfl))|(apply S.box;(iterate 6 exact rfl))|(apply S.cmp;(iterate 4 exact rfl))|(apply S.not;exact rfl;exact rfl;exact rfl)|(apply S.extract;exact rfl;exact rfl;exact rfl) | apply S.nil | apply T.regs|(apply T.cC;exact rfl)|(apply T.cCN;exact rfl) | apply T.seq|(apply T.skip;first | change T _ _ _ _ _ | change Done _ _ _ _ _ | change Next _ _ _ _ _ _ | skip)|(apply T.ret;change Done _ _ _ _ _))
          all_goals exact doneV (by simp) Tryz.results6 rfl rfl
    · rw [decide_eq_false hB] at cb
      refine Fn0.of Tryz.func6 Tryz.ntmps6 rfl rfl rfl ?_
      simp only [entryTm]
      repeat' (first|(apply S.move;exact rfl;exact rfl)|(apply S.assign;exact rfl;exact rfl)|(apply S.gC;exact rfl;exact rfl;exact rfl)|(apply S.pCN;exact rfl;exact rfl;exact rfl)|(apply S.call;exact rfl;exact rfl;exact l08_awake;exact rfl)|(apply S.call;exact rfl;exact rfl;exact ca;exact rfl)|(apply S.call;exact rfl;exact rfl;exact cb;exact rfl)|(apply S.buildSlice1;(iterate 7 exact rfl))|(apply S.loadPA;(iterate 4 exact rfl))|(apply S.box;(iterate 6 exact rfl))|(apply S.not;exact rfl;exact rfl;exact rfl) | apply S.nil | apply T.regs|(apply T.cC;exact rfl)|(apply T.cCN;exact rfl) | apply T.seq|(apply T.skip;first | change T _ _ _ _ _ | change Done _ _ _ _ _ | change Next _ _ _ _ _ _ | skip)|(apply T.ret;change Done _ _ _ _ _))
      all_goals exact doneV (by simp) Tryz.results6 rfl rfl
  · rw [decide_eq_false hA] at ca
    refine Fn0.of Tryz.func6 Tryz.ntmps6 rfl rfl rfl ?_
    simp only [entryTm]
    repeat' (first|(apply S.move;exact rfl;exact rfl)|(apply S.assign;exact rfl;exact rfl)|(apply S.gCN;(iterate 4 exact rfl))|(apply S.pC;exact rfl;exact rfl;exact rfl)|(apply S.call;exact rfl;exact rfl;exact l08_awake;exact rfl)|(apply S.call;exact rfl;exact rfl;exact ca;exact rfl)|(apply S.buildSlice1;(iterate 7 exact rfl))|(apply S.loadPA;(iterate 4 exact rfl))|(apply S.box;(iterate 6 exact rfl))|(apply S.not;exact rfl;exact rfl;exact rfl) | apply S.nil | apply T.regs|(apply T.cC;exact rfl)|(apply T.cCN;exact rfl) | apply T.seq|(apply T.skip;first | change T _ _ _ _ _ | change Done _ _ _ _ _ | change Next _ _ _ _ _ _ | skip)|(apply T.ret;change Done _ _ _ _ _))
    all_goals exact doneV (by simp) Tryz.results6 rfl rfl
end Go.Proofs.YtgegcgfdffmoeaaGreat
