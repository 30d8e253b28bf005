/- Contracts: the walk of the law on Least and First. No conditions but those of each statement. -/
import Derived.Test.YtgegcgfdffmoeaaGreatNm
import Derived.Test.YtgegcgfdffmoeaaGreatNv
import Derived.Test.YtgegcgfdffmoeaaGreatNn
set_option linter.unusedSimpArgs false
namespace Go.Proofs.YtgegcgfdffmoeaaGreat
set_option linter.unusedVariables false
open Go.RowKit
theorem rfScan_sp {l : List PcQ} {fr te : Rat} : ∀ {j : Nat} {r : List Lf}, rfScan l fr te j = some r → sp2 r
  | 0, r, h => by cases h
  | j + 1, r, h => by
    rw [rfScan] at h
    cases hk : rfScan l fr te j with
    | some q =>
      rw [hk] at h
      injection h with h
      exact h ▸ rfScan_sp hk
    | none =>
      rw [hk] at h
      change rfStep l fr te (rpI l fr + j) = some r at h
      unfold rfStep rfS at h
      split at h
      · injection h with h; exact h ▸ encR_sp _ _ _ _
      · split at h
        · injection h with h; exact h ▸ encR_sp _ _ _ _
        · split at h
          · cases h
          · split at h
            · injection h with h; exact h ▸ encR_sp _ _ _ _
            · cases h
theorem isRes_first (l : List PcQ) (fr te : Rat) : isRes (rfFirst l fr te) := by
  unfold rfFirst
  cases h : rfScan l fr te (rfN l fr te) with
  | none => exact ⟨0, 0, 12, rfl⟩
  | some r =>
    obtain ⟨x, y, rfl⟩ := rfScan_sp h
    exact ⟨x, y, 0, rfl⟩
theorem isRes_opt (o : Option Rat) : isRes (optA o) := by
  cases o with
  | none => exact ⟨0, 0, 5, rfl⟩
  | some m => exact ⟨m.num, m.den, 0, rfl⟩
set_option maxHeartbeats 32000000 in
theorem law_quadraticLeast (l : List PieceR) (n d n2 d2 : Int) (hn : l.length ≤ 1000000000000000) : Fn0 Tryz.prog 3 [.sl (l.map PieceR.row), rowA [.i n, .i d], rowA [.i n2, .i d2]] (.b true) := by
  have cl := l08_long l hn
  have pv := qua_validL l hn
  have rv := rq_validL l hn
  have v1 := r02_valid n d
  have v2 := r02_valid n2 d2
  have z0 : (0 : Int) = 0 := rfl
  have z1 : (1 : Int) = 1 := rfl
  have z2 : (2 : Int) = 2 := rfl
  have zz : (0 : Int) = 0 ∧ (0 : Int) = 0 := ⟨rfl, rfl⟩
  by_cases hlong : 12 < l.length ∧ l.length ≤ 200 ∨ 205 < l.length
  · skip
    refine Fn0.of Tryz.func3 Tryz.ntmps3 rfl rfl rfl ?_
    simp only [entryTm]
    repeat' (first | (apply S.move; exact rfl; exact rfl) | (apply S.assign; exact rfl; exact rfl) | (apply S.call; exact rfl; exact rfl; exact l08_awake; exact rfl) | (apply S.call; exact rfl; exact rfl; exact cl; exact rfl) | (apply S.box; (iterate 6 exact rfl)) | (apply S.not; exact rfl; exact rfl; exact rfl) | apply S.nil | apply T.regs | (apply T.cCN; exact rfl) | (apply T.cT; exact rfl; assumption) | apply T.seq | (apply T.skip; first | change T _ _ _ _ _ | change Done _ _ _ _ _ | change Next _ _ _ _ _ _ | skip) | (apply T.ret; change Done _ _ _ _ _))
    all_goals exact doneV (by simp) Tryz.results3 rfl rfl
  by_cases hall : curveP l ∧ vF n d ∧ vF n2 d2
  · obtain ⟨hc, hv1, hv2⟩ := hall
    obtain ⟨hok, hrow, hne, hs⟩ := curveQ_ok hc
    have hlen : (l.map toQ).length ≤ 200 := by rw [List.length_map]; exact hc.1.2
    rw [decide_eq_true hc] at pv rv
    rw [decide_eq_true hv1] at v1
    rw [decide_eq_true hv2] at v2
    rw [← hrow] at cl pv rv ⊢
    generalize l.map toQ = lq at *
    obtain ⟨ff, e1, e2⟩ := vF_fits hv1
    obtain ⟨fr, hfr⟩ : ∃ t, t = ratV n d := ⟨_, rfl⟩
    rw [← hfr] at ff e1 e2
    obtain ⟨ft, e3, e4⟩ := vF_fits hv2
    obtain ⟨te, hte⟩ : ∃ t, t = ratV n2 d2 := ⟨_, rfl⟩
    rw [← hte] at ft e3 e4
    subst e1 e2 e3 e4
    have cc := r02_cmp fr te ff ft
    by_cases hle : fr ≤ te
    · have nc : ¬ 0 < cmpQ fr te := fun h => Rat.not_lt.2 hle ((cmpQ_gt _ _).1 h)
      have a1 := qua_least lq fr te hok hne hlen ff ft pv hle
      have b1 := rf_least lq fr te hok hne (by omega) ff ft
      rw [least_same hok hs hle] at a1
      obtain ⟨p1, p2, p3, hp⟩ := isRes_opt (rlK lq fr te (rfN lq fr te))
      rw [show rlA lq fr te = .tup [rowA [.i p1, .i p2], .i p3] from hp] at a1 b1
      have k1 : p1 = p1 ∧ p2 = p2 := ⟨rfl, rfl⟩
      have k2 : ¬ ¬ (p1 = p1 ∧ p2 = p2) := fun h => h k1
      have k3 : p3 = p3 := rfl
      by_cases hr : rangP fr ∧ rangP te
      · have a2 := qua_first lq fr te hok hne hlen ff ft pv hle hr.1 hr.2
        have b2 := rf_first lq fr te hok hne (by omega) ff ft hle hr.1 hr.2
        rw [first_same hs hle hr.1 hr.2] at a2
        obtain ⟨q1, q2, q3, hq⟩ := isRes_first lq fr te
        rw [hq] at a2 b2
        have m1 : q1 = q1 ∧ q2 = q2 := ⟨rfl, rfl⟩
        have m2 : ¬ ¬ (q1 = q1 ∧ q2 = q2) := fun h => h m1
        have m3 : q3 = q3 := rfl
        have m4 : ¬ ¬ q3 = q3 := fun h => h rfl
        refine Fn0.of Tryz.func3 Tryz.ntmps3 rfl rfl rfl ?_
        simp only [entryTm]
        repeat' (first | (apply S.move; exact rfl; exact rfl) | (apply S.assign; exact rfl; exact rfl) | (apply S.gC; exact rfl; exact rfl; exact rfl) | (apply S.gTT; exact rfl; exact rfl; assumption) | (apply S.gFF; exact rfl; exact rfl; assumption) | (apply S.pCN; exact rfl; exact rfl; exact rfl) | (apply S.pTp; exact rfl; assumption; exact rfl; exact rfl) | (apply S.pFp; exact rfl; assumption; exact rfl; exact rfl) | (apply S.call; exact rfl; exact rfl; exact l08_awake; exact rfl) | (apply S.call; exact rfl; exact rfl; exact cl; exact rfl) | (apply S.call; exact rfl; exact rfl; exact rv; exact rfl) | (apply S.call; exact rfl; exact rfl; exact v1; exact rfl) | (apply S.call; exact rfl; exact rfl; exact v2; exact rfl) | (apply S.call; exact rfl; exact rfl; exact a1; exact rfl) | (apply S.call; exact rfl; exact rfl; exact a2; exact rfl) | (apply S.call; exact rfl; exact rfl; exact b1; exact rfl) | (apply S.call; exact rfl; exact rfl; exact b2; exact rfl) | (apply S.call; exact rfl; exact rfl; exact cc; exact rfl) | (apply S.eq2; exact rfl; exact rfl; exact rfl) | (apply S.ne2; exact rfl; exact rfl; exact rfl) | (apply S.loadPA; (iterate 4 exact rfl)) | (apply S.box; (iterate 6 exact rfl)) | (apply S.alloc; (iterate 5 exact rfl)) | (apply S.store; (iterate 7 exact rfl)) | (apply S.cmp; (iterate 4 exact rfl)) | (apply S.not; exact rfl; exact rfl; exact rfl) | (apply S.extract; exact rfl; exact rfl; exact rfl) | apply S.nil | apply T.regs | (apply T.cCN; exact rfl) | (apply T.cF; exact rfl; assumption) | apply T.seq | (apply T.skip; first | change T _ _ _ _ _ | change Done _ _ _ _ _ | change Next _ _ _ _ _ _ | skip) | (apply T.ret; change Done _ _ _ _ _))
        all_goals exact doneV (by simp) Tryz.results3 rfl (by simp [*])
      · have a2 := qua_first_range (lq.map PcQ.row) fr te ff ft pv (fun h => hr h.2)
        have b2 := rf_first_range (lq.map PcQ.row) fr te ff ft (fun h => hr h.2)
        have m2 : ¬ ¬ ((0 : Int) = 0 ∧ (0 : Int) = 0) := fun h => h zz
        have m4 : ¬ ¬ (2 : Int) = 2 := fun h => h rfl
        refine Fn0.of Tryz.func3 Tryz.ntmps3 rfl rfl rfl ?_
        simp only [entryTm]
        repeat' (first | (apply S.move; exact rfl; exact rfl) | (apply S.assign; exact rfl; exact rfl) | (apply S.gC; exact rfl; exact rfl; exact rfl) | (apply S.gTT; exact rfl; exact rfl; assumption) | (apply S.pCN; exact rfl; exact rfl; exact rfl) | (apply S.pTp; exact rfl; assumption; exact rfl; exact rfl) | (apply S.call; exact rfl; exact rfl; exact l08_awake; exact rfl) | (apply S.call; exact rfl; exact rfl; exact cl; exact rfl) | (apply S.call; exact rfl; exact rfl; exact rv; exact rfl) | (apply S.call; exact rfl; exact rfl; exact v1; exact rfl) | (apply S.call; exact rfl; exact rfl; exact v2; exact rfl) | (apply S.call; exact rfl; exact rfl; exact a1; exact rfl) | (apply S.call; exact rfl; exact rfl; exact a2; exact rfl) | (apply S.call; exact rfl; exact rfl; exact b1; exact rfl) | (apply S.call; exact rfl; exact rfl; exact b2; exact rfl) | (apply S.call; exact rfl; exact rfl; exact cc; exact rfl) | (apply S.eq2; exact rfl; exact rfl; exact rfl) | (apply S.ne2; exact rfl; exact rfl; exact rfl) | (apply S.loadPA; (iterate 4 exact rfl)) | (apply S.box; (iterate 6 exact rfl)) | (apply S.alloc; (iterate 5 exact rfl)) | (apply S.store; (iterate 7 exact rfl)) | (apply S.cmp; (iterate 4 exact rfl)) | (apply S.not; exact rfl; exact rfl; exact rfl) | (apply S.extract; exact rfl; exact rfl; exact rfl) | apply S.nil | apply T.regs | (apply T.cCN; exact rfl) | (apply T.cF; exact rfl; assumption) | apply T.seq | (apply T.skip; first | change T _ _ _ _ _ | change Done _ _ _ _ _ | change Next _ _ _ _ _ _ | skip) | (apply T.ret; change Done _ _ _ _ _))
        all_goals exact doneV (by simp) Tryz.results3 rfl (by simp [*])
    · have nc : 0 < cmpQ fr te := (cmpQ_gt _ _).2 (Rat.not_le.1 hle)
      have a1 := qua_least_range (lq.map PcQ.row) fr te ff ft pv (Rat.not_le.1 hle)
      have a2 := qua_first_range (lq.map PcQ.row) fr te ff ft pv (fun h => hle h.1)
      have b2 := rf_first_range (lq.map PcQ.row) fr te ff ft (fun h => hle h.1)
      have m2 : ¬ ¬ ((0 : Int) = 0 ∧ (0 : Int) = 0) := fun h => h zz
      have m4 : ¬ ¬ (2 : Int) = 2 := fun h => h rfl
      refine Fn0.of Tryz.func3 Tryz.ntmps3 rfl rfl rfl ?_
      simp only [entryTm]
      repeat' (first | (apply S.move; exact rfl; exact rfl) | (apply S.assign; exact rfl; exact rfl) | (apply S.gC; exact rfl; exact rfl; exact rfl) | (apply S.pC; exact rfl; exact rfl; exact rfl) | (apply S.pCN; exact rfl; exact rfl; exact rfl) | (apply S.call; exact rfl; exact rfl; exact l08_awake; exact rfl) | (apply S.call; exact rfl; exact rfl; exact cl; exact rfl) | (apply S.call; exact rfl; exact rfl; exact rv; exact rfl) | (apply S.call; exact rfl; exact rfl; exact v1; exact rfl) | (apply S.call; exact rfl; exact rfl; exact v2; exact rfl) | (apply S.call; exact rfl; exact rfl; exact a1; exact rfl) | (apply S.call; exact rfl; exact rfl; exact a2; exact rfl) | (apply S.call; exact rfl; exact rfl; exact b2; exact rfl) | (apply S.call; exact rfl; exact rfl; exact cc; exact rfl) | (apply S.eq2; exact rfl; exact rfl; exact rfl) | (apply S.ne2; exact rfl; exact rfl; exact rfl) | (apply S.buildN; exact rfl; exact rfl; exact rfl) | (apply S.loadPA; (iterate 4 exact rfl)) | (apply S.box; (iterate 6 exact rfl)) | (apply S.alloc; (iterate 5 exact rfl)) | (apply S.store; (iterate 7 exact rfl)) | (apply S.cmp; (iterate 4 exact rfl)) | (apply S.not; exact rfl; exact rfl; exact rfl) | (apply S.extract; exact rfl; exact rfl; exact rfl) | apply S.nil | apply T.regs | (apply T.cCN; exact rfl) | (apply T.cT; exact rfl; assumption) | (apply T.cF; exact rfl; assumption) | apply T.seq | (apply T.skip; first | change T _ _ _ _ _ | change Done _ _ _ _ _ | change Next _ _ _ _ _ _ | skip) | (apply T.ret; change Done _ _ _ _ _))
      all_goals exact doneV (by simp) Tryz.results3 rfl (by simp [*])
  · have hbad : ¬ (decide (curveP l) = true ∧ vF n d ∧ vF n2 d2) := fun h => hall ⟨of_decide_eq_true h.1, h.2⟩
    have a1 := qua_least_bad (l.map PieceR.row) n d n2 d2 _ pv hbad
    have a2 := qua_first_bad (l.map PieceR.row) n d n2 d2 _ pv hbad
    refine Fn0.of Tryz.func3 Tryz.ntmps3 rfl rfl rfl ?_
    simp only [entryTm]
    repeat' (first | (apply S.move; exact rfl; exact rfl) | (apply S.assign; exact rfl; exact rfl) | (apply S.gC; exact rfl; exact rfl; exact rfl) | (apply S.gCN; (iterate 4 exact rfl)) | (apply S.gFT; exact rfl; exact rfl; assumption; exact rfl) | (apply S.gFFn; exact rfl; exact rfl; assumption) | (apply S.pC; exact rfl; exact rfl; exact rfl) | (apply S.pTp; exact rfl; assumption; exact rfl; exact rfl) | (apply S.pFn; exact rfl; assumption; exact rfl; exact rfl) | (apply S.call; exact rfl; exact rfl; exact l08_awake; exact rfl) | (apply S.call; exact rfl; exact rfl; exact cl; exact rfl) | (apply S.call; exact rfl; exact rfl; exact rv; exact rfl) | (apply S.call; exact rfl; exact rfl; exact v1; exact rfl) | (apply S.call; exact rfl; exact rfl; exact v2; exact rfl) | (apply S.call; exact rfl; exact rfl; exact a1; exact rfl) | (apply S.call; exact rfl; exact rfl; exact a2; exact rfl) | (apply S.eq2; exact rfl; exact rfl; exact rfl) | (apply S.buildN; exact rfl; exact rfl; exact rfl) | (apply S.loadPA; (iterate 4 exact rfl)) | (apply S.box; (iterate 6 exact rfl)) | (apply S.alloc; (iterate 5 exact rfl)) | (apply S.store; (iterate 7 exact rfl)) | (apply S.cmp; (iterate 4 exact rfl)) | (apply S.notP; exact rfl; exact rfl) | (apply S.not; exact rfl; exact rfl; exact rfl) | (apply S.extract; exact rfl; exact rfl; exact rfl) | (apply S.gsFn; exact rfl; exact rfl; exact rfl; intro hc; rotate_left; intro hc; rotate_right) | apply S.nil | apply T.regs | (apply T.cC; exact rfl) | (apply T.cCN; exact rfl) | (apply T.cF; exact rfl; assumption) | (apply T.cSn; exact rfl; intro hc; rotate_left; intro hc; rotate_right) | apply T.seq | (apply T.skip; first | change T _ _ _ _ _ | change Done _ _ _ _ _ | change Next _ _ _ _ _ _ | skip) | (apply T.ret; change Done _ _ _ _ _))
    all_goals first
      | exact doneV (by simp) Tryz.results3 rfl (by simp [*])
      | (exfalso; simp_all; done)
end Go.Proofs.YtgegcgfdffmoeaaGreat
