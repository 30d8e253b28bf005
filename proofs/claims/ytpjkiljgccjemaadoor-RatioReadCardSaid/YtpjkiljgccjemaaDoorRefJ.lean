/- Contracts of the reference's Sub, Cmp, Floor and Ceil. -/
import Derived.Test.YtpjkiljgccjemaaDoorRefI
import Derived.Test.YtpjkiljgccjemaaDoorRatK
namespace Go.Proofs.YtpjkiljgccjemaaDoor
set_option linter.unusedVariables false
open Go.RowKit Go.Sort

theorem subS_add {an ad bn bd : Int} (va : validB an ad = true) (vb : validB bn bd = true) : addS an ad (-bn) bd = subS an ad bn bd := by
  unfold addS subS
  rw [validB_neg, if_pos ⟨va, vb⟩, if_pos ⟨va, vb⟩, ratV_neg, Rat.sub_eq_add_neg]
set_option maxHeartbeats 1000000 in
/-- The reference's Sub. -/
theorem rsub_any (an ad bn bd : Int) (w : World) (va : validB an ad = true) (vb : validB bn bd = true) :
    Calls Tryd.prog 27 #[.agg #[.int .i64 an, .int .i64 ad], .agg #[.int .i64 bn, .int .i64 bd]] w fun e w' =>
      e = .returned (.tuple #[.agg #[.int .i64 (subS an ad bn bd).1, .int .i64 (subS an ad bn bd).2.1], .int .i64 (subS an ad bn bd).2.2]) ∧ Tr w w' := by
  obtain ⟨p1, p2, p3, p4, _⟩ := validB_spec.1 va
  obtain ⟨q1, q2, q3, q4, _⟩ := validB_spec.1 vb
  have c1 := fun W => radd_any an ad (-bn) bd W va (by rw [validB_neg]; exact vb)
  rw [subS_add va vb] at c1
  have C1 := Lib.hid c1
  clear c1 va vb
  generalize (subS an ad bn bd).1 = o1 at *
  generalize (subS an ad bn bd).2.1 = o2 at *
  generalize (subS an ad bn bd).2.2 = o3 at *
  go_enter Tryd.func27, Tryd.ntmps27
  go_upto_region 1 with (fail)
  refine wp_region_mix0 6 (by kernel_rfl) (by kernel_rfl) ?_
  intro wq hwq
  have kq := Keep.cl (l := [(⟨w.heap.size, 0, none⟩, .int .i64 (an)), (⟨w.heap.size, 1, none⟩, .int .i64 (ad)), (⟨w.heap.size + 1, 0, none⟩, .int .i64 (bn)), (⟨w.heap.size + 1, 1, none⟩, .int .i64 (bd)), (⟨w.heap.size + 1 + 1, 0, none⟩, .int .i64 (0)), (⟨w.heap.size + 1 + 1, 1, none⟩, .int .i64 (0))]) (by first | (simp [Keep, go_sem, *]; done) | (simp [Keep, go_sem, *]; omega) | (simp (disch := first | omega | (simp; omega) | (simp; done)) [Keep, go_sem, cell_far, cell_off, RowKit.frozen?_alloc_cells, frozen_new, *]; done) | (simp (disch := first | omega | (simp; omega) | (simp; done)) [Keep, go_sem, cell_far, cell_off, RowKit.frozen?_alloc_cells, frozen_new, *]; omega)) hwq
  simp only [KeepCl] at kq
  simp only [List.take_succ_cons, List.take_zero, List.drop_succ_cons, List.drop_zero]
  repeat (go_big_quiet_step (first | (go_at_call 52; with_reducible exact calls_cl (rneg_any _ _ (by omega) (by omega) _)) | (go_at_call 26; with_reducible exact calls_cl (C1.out _))))
  refine wpQuiet_nil ?_
  intro w3 ht3
  have K3 := Keep.tr (l := [(⟨w.heap.size, 0, none⟩, .int .i64 (an)), (⟨w.heap.size, 1, none⟩, .int .i64 (ad)), (⟨w.heap.size + 1, 0, none⟩, .int .i64 (bn)), (⟨w.heap.size + 1, 1, none⟩, .int .i64 (bd)), (⟨w.heap.size + 1 + 1, 0, none⟩, .int .i64 (0)), (⟨w.heap.size + 1 + 1, 1, none⟩, .int .i64 (0))]) (by first | (simp [Keep, go_sem, *]; done) | (simp [Keep, go_sem, *]; omega) | (simp (disch := first | omega | (simp; omega) | (simp; done)) [Keep, go_sem, cell_far, cell_off, RowKit.frozen?_alloc_cells, frozen_new, *]; done) | (simp (disch := first | omega | (simp; omega) | (simp; done)) [Keep, go_sem, cell_far, cell_off, RowKit.frozen?_alloc_cells, frozen_new, *]; omega)) ht3
  have T3 : Tr w w3 := Tr.trans (by repeat (first | exact Tr.refl _ | assumption | apply Tr.al | apply Tr.drN | apply Tr.dr | (refine Tr.set ?_ (by first | omega | (simp; done) | (simp; omega)) _))) ht3
  have hs3 := Below.size ht3
  (try simp at hs3)
  simp only [Keep] at K3
  clear ht3 hwq kq
  go_wp2
  simp [bodyPost, results, Tryd.results27, go_sem, *]
  exact (by repeat (first | exact Tr.refl _ | assumption | apply Tr.al | apply Tr.drN | apply Tr.dr | (refine Tr.set ?_ (by first | omega | (simp; done) | (simp; omega)) _)))

theorem wd_ne {x y xh xl yh yl : Int} (h1 : Wd x xh xl) (h2 : Wd y yh yl) (h : x ≠ y) : (xh == yh) = false ∨ ((xh == yh) = true ∧ (xl == yl) = false) := by
  obtain ⟨rfl, rfl⟩ := h1
  obtain ⟨rfl, rfl⟩ := h2
  by_cases a : x / 18446744073709551616 = y / 18446744073709551616
  · have b : x % 18446744073709551616 ≠ y % 18446744073709551616 := by omega
    exact .inr ⟨by simp [a], by simp [b]⟩
  · exact .inl (by simp [a])
/-- How the reference compares. -/
theorem cmp_parts {an ad bn bd : Int} (va : validB an ad = true) (vb : validB bn bd = true) :
    (decide (an < 0) = true ∧ decide (0 ≤ an) = false ∧ decide (bn < 0) = false ∧ decide (0 ≤ bn) = true ∧ Hid (cmpQ (ratV an ad) (ratV bn bd) = -1)) ∨
    (decide (an < 0) = false ∧ decide (0 ≤ an) = true ∧ decide (bn < 0) = true ∧ decide (0 ≤ bn) = false ∧ Hid (cmpQ (ratV an ad) (ratV bn bd) = 1)) ∨
    (decide (an < 0) = decide (bn < 0) ∧ decide (0 ≤ an) = decide (0 ≤ bn) ∧
      ((Hid ((an.natAbs : Int) * bd.natAbs = (bn.natAbs : Int) * ad.natAbs) ∧ Hid (cmpQ (ratV an ad) (ratV bn bd) = 0)) ∨
       (Hid ((an.natAbs : Int) * bd.natAbs < (bn.natAbs : Int) * ad.natAbs) ∧ decide (an < 0) = false ∧ decide (0 ≤ an) = true ∧ Hid (cmpQ (ratV an ad) (ratV bn bd) = -1)) ∨
       (Hid ((an.natAbs : Int) * bd.natAbs < (bn.natAbs : Int) * ad.natAbs) ∧ decide (an < 0) = true ∧ decide (0 ≤ an) = false ∧ Hid (cmpQ (ratV an ad) (ratV bn bd) = 1)) ∨
       (Hid ((bn.natAbs : Int) * ad.natAbs < (an.natAbs : Int) * bd.natAbs) ∧ decide (an < 0) = false ∧ decide (0 ≤ an) = true ∧ Hid (cmpQ (ratV an ad) (ratV bn bd) = 1)) ∨
       (Hid ((bn.natAbs : Int) * ad.natAbs < (an.natAbs : Int) * bd.natAbs) ∧ decide (an < 0) = true ∧ decide (0 ≤ an) = false ∧ Hid (cmpQ (ratV an ad) (ratV bn bd) = -1)))) := by
  obtain ⟨a1, _⟩ := validB_spec.1 va
  obtain ⟨b1, _⟩ := validB_spec.1 vb
  rw [show ((ad.natAbs : Nat) : Int) = ad by omega, show ((bd.natAbs : Nat) : Int) = bd by omega]
  have l1 := lt_ratV va vb
  have l2 := lt_ratV vb va
  unfold cmpQ
  simp only [l1, l2]
  by_cases h1 : an < 0 <;> by_cases h2 : bn < 0
  · refine .inr (.inr ⟨by simp [h1, h2], by simp; omega, ?_⟩)
    rw [show ((an.natAbs : Nat) : Int) = -an by omega, show ((bn.natAbs : Nat) : Int) = -bn by omega, Int.neg_mul, Int.neg_mul]
    generalize an * bd = X at *
    generalize bn * ad = Y at *
    by_cases e : X = Y
    · subst e; exact .inl ⟨rfl, by show _ = _; rw [if_neg (by omega), if_neg (by omega)]⟩
    · by_cases e2 : -X < -Y
      · exact .inr (.inr (.inl ⟨e2, by simp [h1], by simp; omega, by show _ = _; rw [if_neg (by omega), if_pos (by omega)]⟩))
      · exact .inr (.inr (.inr (.inr ⟨(by omega : -Y < -X), by simp [h1], by simp; omega, by show _ = _; rw [if_pos (by omega)]⟩)))
  · have e1 : an * bd < 0 := Int.mul_neg_of_neg_of_pos h1 (by omega)
    have e2 : 0 ≤ bn * ad := Int.mul_nonneg (by omega) (by omega)
    exact .inl ⟨by simp [h1], by simp; omega, by simp [h2], by simp; omega, by show _ = _; rw [if_pos (by omega)]⟩
  · have e1 : 0 ≤ an * bd := Int.mul_nonneg (by omega) (by omega)
    have e2 : bn * ad < 0 := Int.mul_neg_of_neg_of_pos h2 (by omega)
    exact .inr (.inl ⟨by simp [h1], by simp; omega, by simp [h2], by simp; omega, by show _ = _; rw [if_neg (by omega), if_pos (by omega)]⟩)
  · refine .inr (.inr ⟨by simp [h1, h2], by simp; omega, ?_⟩)
    rw [show ((an.natAbs : Nat) : Int) = an by omega, show ((bn.natAbs : Nat) : Int) = bn by omega]
    generalize an * bd = X at *
    generalize bn * ad = Y at *
    by_cases e : X = Y
    · subst e; exact .inl ⟨rfl, by show _ = _; rw [if_neg (by omega), if_neg (by omega)]⟩
    · by_cases e2 : X < Y
      · exact .inr (.inl ⟨e2, by simp [h1], by simp; omega, by show _ = _; rw [if_pos (by omega)]⟩)
      · exact .inr (.inr (.inr (.inl ⟨(by omega : Y < X), by simp [h1], by simp; omega, by show _ = _; rw [if_neg (by omega), if_pos (by omega)]⟩)))

set_option maxRecDepth 100000 in
set_option maxHeartbeats 4000000 in
/-- The reference's Cmp. -/
theorem rcmp_any (an ad bn bd : Int) (w : World) (va : validB an ad = true) (vb : validB bn bd = true) :
    Calls Tryd.prog 30 #[.agg #[.int .i64 an, .int .i64 ad], .agg #[.int .i64 bn, .int .i64 bd]] w fun e w' =>
      e = .returned (.int .i64 (cmpQ (ratV an ad) (ratV bn bd))) ∧ Tr w w' := by
  obtain ⟨p1, p2, p3, p4, _⟩ := validB_spec.1 va
  obtain ⟨q1, q2, q3, q4, _⟩ := validB_spec.1 vb
  have m1 := fun W => rmul_any an.natAbs bd.natAbs W (by omega) (by omega) (by omega) (by omega)
  have m2 := fun W => rmul_any bn.natAbs ad.natAbs W (by omega) (by omega) (by omega) (by omega)
  have cp := cmp_parts va vb
  have bx := prod_big (a := (an.natAbs : Int)) (b := bd.natAbs) (by omega) (by omega) (by omega) (by omega)
  have b_y := prod_big (a := (bn.natAbs : Int)) (b := ad.natAbs) (by omega) (by omega) (by omega) (by omega)
  generalize cmpQ (ratV an ad) (ratV bn bd) = r at *
  generalize ((an.natAbs : Int) * bd.natAbs) = X at *
  generalize ((bn.natAbs : Int) * ad.natAbs) = Y at *
  obtain ⟨xh, hxh⟩ : ∃ z, z = X / 18446744073709551616 := ⟨_, rfl⟩
  obtain ⟨xl, hxl⟩ : ∃ z, z = X % 18446744073709551616 := ⟨_, rfl⟩
  obtain ⟨yh, hyh⟩ : ∃ z, z = Y / 18446744073709551616 := ⟨_, rfl⟩
  obtain ⟨yl, hyl⟩ : ∃ z, z = Y % 18446744073709551616 := ⟨_, rfl⟩
  rw [← hxh, ← hxl] at m1
  rw [← hyh, ← hyl] at m2
  have WX : Hid (Wd X xh xl) := ⟨hxh, hxl⟩
  have WY : Hid (Wd Y yh yl) := ⟨hyh, hyl⟩
  have BX := Lib.hid bx
  have BY := Lib.hid b_y
  have M1 := Lib.hid m1
  have M2 := Lib.hid m2
  clear m1 m2 hxh hxl hyh hyl bx b_y va vb
  go_enter Tryd.func30, Tryd.ntmps30
  go_upto_region 1 with (fail)
  refine wp_region_mix2 14 #[.int .u64 0, .int .u64 0] 69 _ #[.int .u64 0, .int .u64 0] 69 _ (by kernel_rfl) (by kernel_rfl) rfl (makesU _ rfl rfl) rfl (makesU _ rfl rfl) (by decide) ?_
  intro wq hwq
  have kq := Keep.cl (l := [(⟨w.heap.size, 0, none⟩, .int .i64 (an)), (⟨w.heap.size, 1, none⟩, .int .i64 (ad)), (⟨w.heap.size + 1, 0, none⟩, .int .i64 (bn)), (⟨w.heap.size + 1, 1, none⟩, .int .i64 (bd))]) (by first | (simp [Keep, go_sem, *]; done) | (simp [Keep, go_sem, *]; omega) | (simp (disch := first | omega | (simp; omega) | (simp; done)) [Keep, go_sem, cell_far, cell_off, RowKit.frozen?_alloc_cells, frozen_new, *]; done) | (simp (disch := first | omega | (simp; omega) | (simp; done)) [Keep, go_sem, cell_far, cell_off, RowKit.frozen?_alloc_cells, frozen_new, *]; omega)) hwq
  simp only [KeepCl] at kq
  simp only [List.take_succ_cons, List.take_zero, List.drop_succ_cons, List.drop_zero]
  repeat (go_big_quiet_step (first | (go_at_call 49; exact calls_cl_same (rsize_any _ (by omega) (by omega) _)) | (go_at_call 53; first | with_reducible exact calls_cl (M1.out _) | with_reducible exact calls_cl (M2.out _))))
  refine wpQuiet_nil ?_
  intro b b' w' hb hb' hne ht hz hz'
  have Kb := Keep.at2 hz; have Kb' := Keep.at2 hz'; have K0 := Keep.tr (l := [(⟨w.heap.size, 0, none⟩, .int .i64 (an)), (⟨w.heap.size, 1, none⟩, .int .i64 (ad)), (⟨w.heap.size + 1, 0, none⟩, .int .i64 (bn)), (⟨w.heap.size + 1, 1, none⟩, .int .i64 (bd))]) (by first | (simp [Keep, go_sem, *]; done) | (simp [Keep, go_sem, *]; omega) | (simp (disch := first | omega | (simp; omega) | (simp; done)) [Keep, go_sem, cell_far, cell_off, RowKit.frozen?_alloc_cells, frozen_new, *]; done) | (simp (disch := first | omega | (simp; omega) | (simp; done)) [Keep, go_sem, cell_far, cell_off, RowKit.frozen?_alloc_cells, frozen_new, *]; omega)) ht; have T0 : Tr w w' := Tr.trans (by repeat (first | exact Tr.refl _ | assumption | apply Tr.al | apply Tr.drN | apply Tr.dr | (refine Tr.set ?_ (by first | omega | (simp; done) | (simp; omega)) _))) ht; have hs0 := Below.size ht; have hbl := lt_of_block hz; have hbl' := lt_of_block hz'; (try simp at hb); (try simp at hb'); (try simp at hs0); simp only [Keep] at Kb Kb' K0; clear ht hz hz'
  clear hwq kq
  simp only [Act.put, List.setIfInBounds_toArray, List.set_cons_succ, List.set_cons_zero]
  clear M1 M2
  go_upto_region 2 with (fail)
  refine wp_forget (w0 := w) [(⟨w.heap.size, 0, none⟩, .int .i64 (an)), (⟨w.heap.size, 1, none⟩, .int .i64 (ad)), (⟨w.heap.size + 1, 0, none⟩, .int .i64 (bn)), (⟨w.heap.size + 1, 1, none⟩, .int .i64 (bd)), (⟨b, 0, none⟩, .int .u64 (xh)), (⟨b, 1, none⟩, .int .u64 (xl)), (⟨b', 0, none⟩, .int .u64 (yh)), (⟨b', 1, none⟩, .int .u64 (yl))] (by first | (simp [Keep, go_sem, *]; done) | (simp [Keep, go_sem, *]; omega) | (simp (disch := first | omega | (simp; omega) | (simp; done)) [Keep, go_sem, cell_far, cell_off, RowKit.frozen?_alloc_cells, frozen_new, *]; done) | (simp (disch := first | omega | (simp; omega) | (simp; done)) [Keep, go_sem, cell_far, cell_off, RowKit.frozen?_alloc_cells, frozen_new, *]; omega)) (by repeat (first | exact Tr.refl _ | assumption | apply Tr.al | apply Tr.drN | apply Tr.dr | (refine Tr.set ?_ (by first | omega | (simp; done) | (simp; omega)) _))) ?_; intro w6 hs6 K6 T6; (try simp at hs6); simp only [Keep] at K6
  clear Kb Kb' K0 T0
  rcases cp with ⟨s1, s2, s3, s4, hr⟩ | ⟨s1, s2, s3, s4, hr⟩ | ⟨s1, s2, hc⟩
  · go_wp2_with fail
    go_ret
    exact ⟨by rw [hr.out]; rfl, (by repeat (first | exact Tr.refl _ | assumption | apply Tr.al | apply Tr.drN | apply Tr.dr | (refine Tr.set ?_ (by first | omega | (simp; done) | (simp; omega)) _)))⟩
  · go_wp2_with fail
    go_ret
    exact ⟨by rw [hr.out]; rfl, (by repeat (first | exact Tr.refl _ | assumption | apply Tr.al | apply Tr.drN | apply Tr.dr | (refine Tr.set ?_ (by first | omega | (simp; done) | (simp; omega)) _)))⟩
  · rcases hc with ⟨e, hr⟩ | ⟨e, s3, s4, hr⟩ | ⟨e, s3, s4, hr⟩ | ⟨e, s3, s4, hr⟩ | ⟨e, s3, s4, hr⟩
    · have e1 : xh = yh := by rw [WX.out.1, WY.out.1, e.out]
      have e2 : xl = yl := by rw [WX.out.2, WY.out.2, e.out]
      subst e1 e2
      clear WX WY BX BY e
      by_cases hn : an < 0
      · have t1 : decide (an < 0) = true := by simp [hn]
        have t2 : decide (0 ≤ an) = false := by simp; omega
        rw [t1] at s1
        rw [t2] at s2
        have t3 := s1.symm
        have t4 := s2.symm
        clear s1 s2 hn
        go_wp2_with fail
        go_ret
        exact ⟨by rw [hr.out]; rfl, (by repeat (first | exact Tr.refl _ | assumption | apply Tr.al | apply Tr.drN | apply Tr.dr | (refine Tr.set ?_ (by first | omega | (simp; done) | (simp; omega)) _)))⟩
      · have t1 : decide (an < 0) = false := by simp [hn]
        have t2 : decide (0 ≤ an) = true := by simp; omega
        rw [t1] at s1
        rw [t2] at s2
        have t3 := s1.symm
        have t4 := s2.symm
        clear s1 s2 hn
        go_wp2_with fail
        go_ret
        exact ⟨by rw [hr.out]; rfl, (by repeat (first | exact Tr.refl _ | assumption | apply Tr.al | apply Tr.drN | apply Tr.dr | (refine Tr.set ?_ (by first | omega | (simp; done) | (simp; omega)) _)))⟩
    · have hne := wd_ne WX.out WY.out (by have := e.out; omega)
      have C1 := Lib.hid fun W => rless_lt WX.out WY.out BX.out.1 BY.out.1 e.out W
      clear WX WY BX BY e
      rw [s3] at s1
      rw [s4] at s2
      have t3 := s1.symm
      have t4 := s2.symm
      clear s1 s2
      go_upto_region 6 with (fail)
      go_cut [39] (fun s wx => s = .bool false ∧ w6 = wx)
      case first =>
        rcases hne with hne | ⟨hne, hne2⟩
        all_goals
          go_wp2_with fail
          go_meet
          exact ⟨rfl, rfl⟩
      obtain ⟨rfl, rfl⟩ := hcut
      clear hne
      go_upto_region 8 with (fail)
      refine wp_region_mix0 7 (by kernel_rfl) (by kernel_rfl) ?_
      intro wq hwq
      have kq := Keep.cl (l := [(⟨w.heap.size, 0, none⟩, .int .i64 (an)), (⟨w.heap.size, 1, none⟩, .int .i64 (ad)), (⟨w.heap.size + 1, 0, none⟩, .int .i64 (bn)), (⟨w.heap.size + 1, 1, none⟩, .int .i64 (bd)), (⟨b, 0, none⟩, .int .u64 (xh)), (⟨b, 1, none⟩, .int .u64 (xl)), (⟨b', 0, none⟩, .int .u64 (yh)), (⟨b', 1, none⟩, .int .u64 (yl))]) (by first | (simp [Keep, go_sem, *]; done) | (simp [Keep, go_sem, *]; omega) | (simp (disch := first | omega | (simp; omega) | (simp; done)) [Keep, go_sem, cell_far, cell_off, RowKit.frozen?_alloc_cells, frozen_new, *]; done) | (simp (disch := first | omega | (simp; omega) | (simp; done)) [Keep, go_sem, cell_far, cell_off, RowKit.frozen?_alloc_cells, frozen_new, *]; omega)) hwq
      simp only [KeepCl] at kq
      simp only [List.take_succ_cons, List.take_zero, List.drop_succ_cons, List.drop_zero]
      repeat (go_big_quiet_step (first | (go_at_call 55; with_reducible exact calls_cl (C1.out _))))
      refine wpQuiet_nil ?_
      intro w7 ht7
      have K7 := Keep.tr (l := [(⟨w.heap.size, 0, none⟩, .int .i64 (an)), (⟨w.heap.size, 1, none⟩, .int .i64 (ad)), (⟨w.heap.size + 1, 0, none⟩, .int .i64 (bn)), (⟨w.heap.size + 1, 1, none⟩, .int .i64 (bd)), (⟨b, 0, none⟩, .int .u64 (xh)), (⟨b, 1, none⟩, .int .u64 (xl)), (⟨b', 0, none⟩, .int .u64 (yh)), (⟨b', 1, none⟩, .int .u64 (yl))]) (by first | (simp [Keep, go_sem, *]; done) | (simp [Keep, go_sem, *]; omega) | (simp (disch := first | omega | (simp; omega) | (simp; done)) [Keep, go_sem, cell_far, cell_off, RowKit.frozen?_alloc_cells, frozen_new, *]; done) | (simp (disch := first | omega | (simp; omega) | (simp; done)) [Keep, go_sem, cell_far, cell_off, RowKit.frozen?_alloc_cells, frozen_new, *]; omega)) ht7
      have T7 : Tr w w7 := Tr.trans (by repeat (first | exact Tr.refl _ | assumption | apply Tr.al | apply Tr.drN | apply Tr.dr | (refine Tr.set ?_ (by first | omega | (simp; done) | (simp; omega)) _))) ht7
      have hs7 := Below.size ht7
      (try simp at hs7)
      simp only [Keep] at K7
      clear ht7 hwq kq
      go_wp2
      go_ret
      exact ⟨by rw [hr.out]; rfl, (by repeat (first | exact Tr.refl _ | assumption | apply Tr.al | apply Tr.drN | apply Tr.dr | (refine Tr.set ?_ (by first | omega | (simp; done) | (simp; omega)) _)))⟩
    · have hne := wd_ne WX.out WY.out (by have := e.out; omega)
      have C1 := Lib.hid fun W => rless_lt WX.out WY.out BX.out.1 BY.out.1 e.out W
      clear WX WY BX BY e
      rw [s3] at s1
      rw [s4] at s2
      have t3 := s1.symm
      have t4 := s2.symm
      clear s1 s2
      go_upto_region 6 with (fail)
      go_cut [39] (fun s wx => s = .bool false ∧ w6 = wx)
      case first =>
        rcases hne with hne | ⟨hne, hne2⟩
        all_goals
          go_wp2_with fail
          go_meet
          exact ⟨rfl, rfl⟩
      obtain ⟨rfl, rfl⟩ := hcut
      clear hne
      go_upto_region 8 with (fail)
      refine wp_region_mix0 7 (by kernel_rfl) (by kernel_rfl) ?_
      intro wq hwq
      have kq := Keep.cl (l := [(⟨w.heap.size, 0, none⟩, .int .i64 (an)), (⟨w.heap.size, 1, none⟩, .int .i64 (ad)), (⟨w.heap.size + 1, 0, none⟩, .int .i64 (bn)), (⟨w.heap.size + 1, 1, none⟩, .int .i64 (bd)), (⟨b, 0, none⟩, .int .u64 (xh)), (⟨b, 1, none⟩, .int .u64 (xl)), (⟨b', 0, none⟩, .int .u64 (yh)), (⟨b', 1, none⟩, .int .u64 (yl))]) (by first | (simp [Keep, go_sem, *]; done) | (simp [Keep, go_sem, *]; omega) | (simp (disch := first | omega | (simp; omega) | (simp; done)) [Keep, go_sem, cell_far, cell_off, RowKit.frozen?_alloc_cells, frozen_new, *]; done) | (simp (disch := first | omega | (simp; omega) | (simp; done)) [Keep, go_sem, cell_far, cell_off, RowKit.frozen?_alloc_cells, frozen_new, *]; omega)) hwq
      simp only [KeepCl] at kq
      simp only [List.take_succ_cons, List.take_zero, List.drop_succ_cons, List.drop_zero]
      repeat (go_big_quiet_step (first | (go_at_call 55; with_reducible exact calls_cl (C1.out _))))
      refine wpQuiet_nil ?_
      intro w7 ht7
      have K7 := Keep.tr (l := [(⟨w.heap.size, 0, none⟩, .int .i64 (an)), (⟨w.heap.size, 1, none⟩, .int .i64 (ad)), (⟨w.heap.size + 1, 0, none⟩, .int .i64 (bn)), (⟨w.heap.size + 1, 1, none⟩, .int .i64 (bd)), (⟨b, 0, none⟩, .int .u64 (xh)), (⟨b, 1, none⟩, .int .u64 (xl)), (⟨b', 0, none⟩, .int .u64 (yh)), (⟨b', 1, none⟩, .int .u64 (yl))]) (by first | (simp [Keep, go_sem, *]; done) | (simp [Keep, go_sem, *]; omega) | (simp (disch := first | omega | (simp; omega) | (simp; done)) [Keep, go_sem, cell_far, cell_off, RowKit.frozen?_alloc_cells, frozen_new, *]; done) | (simp (disch := first | omega | (simp; omega) | (simp; done)) [Keep, go_sem, cell_far, cell_off, RowKit.frozen?_alloc_cells, frozen_new, *]; omega)) ht7
      have T7 : Tr w w7 := Tr.trans (by repeat (first | exact Tr.refl _ | assumption | apply Tr.al | apply Tr.drN | apply Tr.dr | (refine Tr.set ?_ (by first | omega | (simp; done) | (simp; omega)) _))) ht7
      have hs7 := Below.size ht7
      (try simp at hs7)
      simp only [Keep] at K7
      clear ht7 hwq kq
      go_wp2
      go_ret
      exact ⟨by rw [hr.out]; rfl, (by repeat (first | exact Tr.refl _ | assumption | apply Tr.al | apply Tr.drN | apply Tr.dr | (refine Tr.set ?_ (by first | omega | (simp; done) | (simp; omega)) _)))⟩
    · have hne := wd_ne WX.out WY.out (by have := e.out; omega)
      have C1 := Lib.hid fun W => rless_ge WX.out WY.out BX.out.1 BY.out.1 (by have := e.out; omega) W
      clear WX WY BX BY e
      rw [s3] at s1
      rw [s4] at s2
      have t3 := s1.symm
      have t4 := s2.symm
      clear s1 s2
      go_upto_region 6 with (fail)
      go_cut [39] (fun s wx => s = .bool false ∧ w6 = wx)
      case first =>
        rcases hne with hne | ⟨hne, hne2⟩
        all_goals
          go_wp2_with fail
          go_meet
          exact ⟨rfl, rfl⟩
      obtain ⟨rfl, rfl⟩ := hcut
      clear hne
      go_upto_region 8 with (fail)
      refine wp_region_mix0 7 (by kernel_rfl) (by kernel_rfl) ?_
      intro wq hwq
      have kq := Keep.cl (l := [(⟨w.heap.size, 0, none⟩, .int .i64 (an)), (⟨w.heap.size, 1, none⟩, .int .i64 (ad)), (⟨w.heap.size + 1, 0, none⟩, .int .i64 (bn)), (⟨w.heap.size + 1, 1, none⟩, .int .i64 (bd)), (⟨b, 0, none⟩, .int .u64 (xh)), (⟨b, 1, none⟩, .int .u64 (xl)), (⟨b', 0, none⟩, .int .u64 (yh)), (⟨b', 1, none⟩, .int .u64 (yl))]) (by first | (simp [Keep, go_sem, *]; done) | (simp [Keep, go_sem, *]; omega) | (simp (disch := first | omega | (simp; omega) | (simp; done)) [Keep, go_sem, cell_far, cell_off, RowKit.frozen?_alloc_cells, frozen_new, *]; done) | (simp (disch := first | omega | (simp; omega) | (simp; done)) [Keep, go_sem, cell_far, cell_off, RowKit.frozen?_alloc_cells, frozen_new, *]; omega)) hwq
      simp only [KeepCl] at kq
      simp only [List.take_succ_cons, List.take_zero, List.drop_succ_cons, List.drop_zero]
      repeat (go_big_quiet_step (first | (go_at_call 55; with_reducible exact calls_cl (C1.out _))))
      refine wpQuiet_nil ?_
      intro w7 ht7
      have K7 := Keep.tr (l := [(⟨w.heap.size, 0, none⟩, .int .i64 (an)), (⟨w.heap.size, 1, none⟩, .int .i64 (ad)), (⟨w.heap.size + 1, 0, none⟩, .int .i64 (bn)), (⟨w.heap.size + 1, 1, none⟩, .int .i64 (bd)), (⟨b, 0, none⟩, .int .u64 (xh)), (⟨b, 1, none⟩, .int .u64 (xl)), (⟨b', 0, none⟩, .int .u64 (yh)), (⟨b', 1, none⟩, .int .u64 (yl))]) (by first | (simp [Keep, go_sem, *]; done) | (simp [Keep, go_sem, *]; omega) | (simp (disch := first | omega | (simp; omega) | (simp; done)) [Keep, go_sem, cell_far, cell_off, RowKit.frozen?_alloc_cells, frozen_new, *]; done) | (simp (disch := first | omega | (simp; omega) | (simp; done)) [Keep, go_sem, cell_far, cell_off, RowKit.frozen?_alloc_cells, frozen_new, *]; omega)) ht7
      have T7 : Tr w w7 := Tr.trans (by repeat (first | exact Tr.refl _ | assumption | apply Tr.al | apply Tr.drN | apply Tr.dr | (refine Tr.set ?_ (by first | omega | (simp; done) | (simp; omega)) _))) ht7
      have hs7 := Below.size ht7
      (try simp at hs7)
      simp only [Keep] at K7
      clear ht7 hwq kq
      go_wp2
      go_ret
      exact ⟨by rw [hr.out]; rfl, (by repeat (first | exact Tr.refl _ | assumption | apply Tr.al | apply Tr.drN | apply Tr.dr | (refine Tr.set ?_ (by first | omega | (simp; done) | (simp; omega)) _)))⟩
    · have hne := wd_ne WX.out WY.out (by have := e.out; omega)
      have C1 := Lib.hid fun W => rless_ge WX.out WY.out BX.out.1 BY.out.1 (by have := e.out; omega) W
      clear WX WY BX BY e
      rw [s3] at s1
      rw [s4] at s2
      have t3 := s1.symm
      have t4 := s2.symm
      clear s1 s2
      go_upto_region 6 with (fail)
      go_cut [39] (fun s wx => s = .bool false ∧ w6 = wx)
      case first =>
        rcases hne with hne | ⟨hne, hne2⟩
        all_goals
          go_wp2_with fail
          go_meet
          exact ⟨rfl, rfl⟩
      obtain ⟨rfl, rfl⟩ := hcut
      clear hne
      go_upto_region 8 with (fail)
      refine wp_region_mix0 7 (by kernel_rfl) (by kernel_rfl) ?_
      intro wq hwq
      have kq := Keep.cl (l := [(⟨w.heap.size, 0, none⟩, .int .i64 (an)), (⟨w.heap.size, 1, none⟩, .int .i64 (ad)), (⟨w.heap.size + 1, 0, none⟩, .int .i64 (bn)), (⟨w.heap.size + 1, 1, none⟩, .int .i64 (bd)), (⟨b, 0, none⟩, .int .u64 (xh)), (⟨b, 1, none⟩, .int .u64 (xl)), (⟨b', 0, none⟩, .int .u64 (yh)), (⟨b', 1, none⟩, .int .u64 (yl))]) (by first | (simp [Keep, go_sem, *]; done) | (simp [Keep, go_sem, *]; omega) | (simp (disch := first | omega | (simp; omega) | (simp; done)) [Keep, go_sem, cell_far, cell_off, RowKit.frozen?_alloc_cells, frozen_new, *]; done) | (simp (disch := first | omega | (simp; omega) | (simp; done)) [Keep, go_sem, cell_far, cell_off, RowKit.frozen?_alloc_cells, frozen_new, *]; omega)) hwq
      simp only [KeepCl] at kq
      simp only [List.take_succ_cons, List.take_zero, List.drop_succ_cons, List.drop_zero]
      repeat (go_big_quiet_step (first | (go_at_call 55; with_reducible exact calls_cl (C1.out _))))
      refine wpQuiet_nil ?_
      intro w7 ht7
      have K7 := Keep.tr (l := [(⟨w.heap.size, 0, none⟩, .int .i64 (an)), (⟨w.heap.size, 1, none⟩, .int .i64 (ad)), (⟨w.heap.size + 1, 0, none⟩, .int .i64 (bn)), (⟨w.heap.size + 1, 1, none⟩, .int .i64 (bd)), (⟨b, 0, none⟩, .int .u64 (xh)), (⟨b, 1, none⟩, .int .u64 (xl)), (⟨b', 0, none⟩, .int .u64 (yh)), (⟨b', 1, none⟩, .int .u64 (yl))]) (by first | (simp [Keep, go_sem, *]; done) | (simp [Keep, go_sem, *]; omega) | (simp (disch := first | omega | (simp; omega) | (simp; done)) [Keep, go_sem, cell_far, cell_off, RowKit.frozen?_alloc_cells, frozen_new, *]; done) | (simp (disch := first | omega | (simp; omega) | (simp; done)) [Keep, go_sem, cell_far, cell_off, RowKit.frozen?_alloc_cells, frozen_new, *]; omega)) ht7
      have T7 : Tr w w7 := Tr.trans (by repeat (first | exact Tr.refl _ | assumption | apply Tr.al | apply Tr.drN | apply Tr.dr | (refine Tr.set ?_ (by first | omega | (simp; done) | (simp; omega)) _))) ht7
      have hs7 := Below.size ht7
      (try simp at hs7)
      simp only [Keep] at K7
      clear ht7 hwq kq
      go_wp2
      go_ret
      exact ⟨by rw [hr.out]; rfl, (by repeat (first | exact Tr.refl _ | assumption | apply Tr.al | apply Tr.drN | apply Tr.dr | (refine Tr.set ?_ (by first | omega | (simp; done) | (simp; omega)) _)))⟩

/-- The reference's Floor. -/
theorem rfloor_any (n d : Int) (w : World) (n1 : -1152921504606846976 ≤ n) (n2 : n ≤ 1152921504606846976) (d1 : 1 ≤ d) (d2 : d ≤ 1152921504606846976) :
    Calls Tryd.prog 23 #[.agg #[.int .i64 n, .int .i64 d]] w fun e w' => e = .returned (.int .i64 (n / d)) ∧ Tr w w' := by
  have g4 : ¬ d = 0 := by omega
  by_cases h : 0 ≤ n
  · obtain ⟨k1, r0, r1⟩ := quo_rem n d (by omega)
    have q0 : 0 ≤ n / d := Int.ediv_nonneg h (by omega)
    have q1 : n / d ≤ n := Int.ediv_le_self _ h
    have q2 : n / d * d ≤ n := by omega
    have q3 : 0 ≤ n / d * d := Int.mul_nonneg q0 (by omega)
    clear k1 r0 r1
    go_enter Tryd.func23, Tryd.ntmps23
    go_wp2
    go_ret
    exact ⟨rfl, (by repeat (first | exact Tr.refl _ | assumption | apply Tr.al | apply Tr.drN | apply Tr.dr | (refine Tr.set ?_ (by first | omega | (simp; done) | (simp; omega)) _)))⟩
  · obtain ⟨e1, e2⟩ := tdiv_neg_parts n d (by omega) d1
    have q0 : 0 ≤ -n / d := Int.ediv_nonneg (by omega) (by omega)
    have q1 : -n / d ≤ -n := Int.ediv_le_self _ (by omega)
    have r0 : 0 ≤ -n % d := Int.emod_nonneg _ (by omega)
    have r1 : -n % d < d := Int.emod_lt_of_pos _ (by omega)
    have key : -n = -n / d * d + -n % d := (quo_rem (-n) d (by omega)).1
    have res : n / d = if -n % d = 0 then -(-n / d) else -(-n / d) - 1 := by
      split
      · refine (div_unique n d (-(-n / d)) 0 ?_ (by omega) (by omega)).1
        rw [Int.neg_mul]; omega
      · refine (div_unique n d (-(-n / d) - 1) (d - -n % d) ?_ (by omega) (by omega)).1
        rw [Int.sub_mul, Int.neg_mul]; omega
    have HR := Lib.hid res
    have e3 : -(-n / d) * d = n + -n % d := by rw [Int.neg_mul]; omega
    clear res key e2
    generalize -n / d = q at *
    generalize -n % d = r at *
    obtain ⟨Q, hQ⟩ : ∃ Q, Q = -q := ⟨_, rfl⟩
    rw [← hQ] at e1 e3 HR
    have b1 : -1152921504606846976 ≤ Q := by omega
    have b2 : Q ≤ 0 := by omega
    clear hQ q0 q1
    by_cases hr : r = 0
    · subst hr
      go_enter Tryd.func23, Tryd.ntmps23
      go_wp2
      go_ret
      exact ⟨ret_int (by rw [HR.out]; simp), (by repeat (first | exact Tr.refl _ | assumption | apply Tr.al | apply Tr.drN | apply Tr.dr | (refine Tr.set ?_ (by first | omega | (simp; done) | (simp; omega)) _)))⟩
    · have hr' : 1 ≤ r := by omega
      go_enter Tryd.func23, Tryd.ntmps23
      go_wp2
      go_ret
      exact ⟨ret_int (by rw [HR.out, if_neg hr]), (by repeat (first | exact Tr.refl _ | assumption | apply Tr.al | apply Tr.drN | apply Tr.dr | (refine Tr.set ?_ (by first | omega | (simp; done) | (simp; omega)) _)))⟩
/-- The reference's Ceil. -/
theorem rceil_any (n d : Int) (w : World) (n1 : -1152921504606846976 ≤ n) (n2 : n ≤ 1152921504606846976) (d1 : 1 ≤ d) (d2 : d ≤ 1152921504606846976) :
    Calls Tryd.prog 24 #[.agg #[.int .i64 n, .int .i64 d]] w fun e w' => e = .returned (.int .i64 (-(-n / d))) ∧ Tr w w' := by
  have q0 : -1152921504606846976 ≤ -n / d := by
    by_cases h : 0 ≤ -n
    · have := Int.ediv_nonneg h (show 0 ≤ d by omega); omega
    · exact quo_le _ _ _ (by omega) (by omega)
  have q1 : -n / d ≤ 1152921504606846976 := by
    by_cases h : 0 ≤ -n
    · have := Int.ediv_le_self d h; omega
    · have := quo_lt (-n) d 0 (by omega) (by omega); omega
  go_enter Tryd.func24, Tryd.ntmps24
  go_wp2_with (first
    | (go_at_call 52; (with_reducible refine (rneg_any _ _ (by omega) (by omega) _).mono ?_); rintro e w1 ⟨rfl, ht1⟩; have T1 : Tr w w1 := Tr.trans (by repeat (first | exact Tr.refl _ | assumption | apply Tr.al | apply Tr.drN | apply Tr.dr | (refine Tr.set ?_ (by first | omega | (simp; done) | (simp; omega)) _))) ht1; have K1 := Keep.tr (l := []) (by first | (simp [Keep, go_sem, *]; done) | (simp [Keep, go_sem, *]; omega) | (simp (disch := first | omega | (simp; omega) | (simp; done)) [Keep, go_sem, cell_far, cell_off, RowKit.frozen?_alloc_cells, frozen_new, *]; done) | (simp (disch := first | omega | (simp; omega) | (simp; done)) [Keep, go_sem, cell_far, cell_off, RowKit.frozen?_alloc_cells, frozen_new, *]; omega)) ht1; have hz1 := Below.size ht1; (try simp at hz1); clear ht1; simp only [Keep] at K1)
    | (go_at_call 23; (with_reducible refine (rfloor_any _ _ _ (by omega) (by omega) (by omega) (by omega)).mono ?_); rintro e w2 ⟨rfl, ht2⟩; have T2 : Tr w w2 := Tr.trans (by repeat (first | exact Tr.refl _ | assumption | apply Tr.al | apply Tr.drN | apply Tr.dr | (refine Tr.set ?_ (by first | omega | (simp; done) | (simp; omega)) _))) ht2; have K2 := Keep.tr (l := []) (by first | (simp [Keep, go_sem, *]; done) | (simp [Keep, go_sem, *]; omega) | (simp (disch := first | omega | (simp; omega) | (simp; done)) [Keep, go_sem, cell_far, cell_off, RowKit.frozen?_alloc_cells, frozen_new, *]; done) | (simp (disch := first | omega | (simp; omega) | (simp; done)) [Keep, go_sem, cell_far, cell_off, RowKit.frozen?_alloc_cells, frozen_new, *]; omega)) ht2; have hz2 := Below.size ht2; (try simp at hz2); clear ht2; simp only [Keep] at K2))
  go_ret
  exact ⟨rfl, (by repeat (first | exact Tr.refl _ | assumption | apply Tr.al | apply Tr.drN | apply Tr.dr | (refine Tr.set ?_ (by first | omega | (simp; done) | (simp; omega)) _)))⟩
/-- The law's same, where all is the same. -/
theorem same_yes (n d e : Int) (w : World) :
    Calls Tryd.prog 21 #[.agg #[.int .i64 n, .int .i64 d], .int .i64 e, .agg #[.int .i64 n, .int .i64 d], .int .i64 e] w fun r w' => r = .returned (.bool true) ∧ Tr w w' := by
  go_enter Tryd.func21, Tryd.ntmps21
  go_wp2
  go_ret
  exact ⟨rfl, (by repeat (first | exact Tr.refl _ | assumption | apply Tr.al | apply Tr.drN | apply Tr.dr | (refine Tr.set ?_ (by first | omega | (simp; done) | (simp; omega)) _)))⟩
end Go.Proofs.YtpjkiljgccjemaaDoor
