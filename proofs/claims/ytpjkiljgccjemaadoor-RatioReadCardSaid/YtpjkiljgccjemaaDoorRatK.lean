/- ratio.Cmp, Floor and Ceil: for every argument. -/
import Derived.Test.YtpjkiljgccjemaaDoorRatJ
namespace Go.Proofs.YtpjkiljgccjemaaDoor
open Go.RowKit Go.Sort

def cmpS (an ad bn bd : Int) : Int × Int := if validB an ad = true ∧ validB bn bd = true then (cmpQ (ratV an ad) (ratV bn bd), 0) else (0, 1)
def floorS (n d : Int) : Int × Int := if validB n d = true then (n / d, 0) else (0, 1)
def ceilS (n d : Int) : Int × Int := if validB n d = true then (-(-n / d), 0) else (0, 1)

set_option maxRecDepth 100000 in
set_option maxHeartbeats 1000000 in
theorem cmp_core (an ad bn bd X Y r : Int) (w : World) (va : validB an ad = true) (vb : validB bn bd = true)
    (a1 : 1 ≤ ad) (a2 : ad ≤ 1152921504606846976) (a3 : -1152921504606846976 ≤ an) (a4 : an ≤ 1152921504606846976)
    (b1 : 1 ≤ bd) (b2 : bd ≤ 1152921504606846976) (b3 : -1152921504606846976 ≤ bn) (b4 : bn ≤ 1152921504606846976)
    (hX : (an.natAbs : Int) * bd = X) (hY : (bn.natAbs : Int) * ad = Y) (x1 : 0 ≤ X) (y1 : 0 ≤ Y)
    (hr : (decide (an < 0) = true ∧ decide (bn < 0) = false ∧ Hid (r = -1)) ∨ (decide (an < 0) = false ∧ decide (bn < 0) = true ∧ Hid (r = 1)) ∨
      (decide (an < 0) = true ∧ decide (bn < 0) = true ∧ ((decide (Y < X) = true ∧ decide (X < Y) = false ∧ Hid (r = -1)) ∨ (decide (Y < X) = false ∧ decide (X < Y) = true ∧ Hid (r = 1)) ∨ (decide (Y < X) = false ∧ decide (X < Y) = false ∧ Hid (r = 0)))) ∨
      (decide (an < 0) = false ∧ decide (bn < 0) = false ∧ ((decide (X < Y) = true ∧ decide (Y < X) = false ∧ Hid (r = -1)) ∨ (decide (X < Y) = false ∧ decide (Y < X) = true ∧ Hid (r = 1)) ∨ (decide (X < Y) = false ∧ decide (Y < X) = false ∧ Hid (r = 0))))) :
    Calls Tryd.prog 25 #[.agg #[.int .i64 an, .int .i64 ad], .agg #[.int .i64 bn, .int .i64 bd]] w fun e w' =>
      e = .returned (.tuple #[.int .i64 r, .int .i64 0]) ∧ Tr w w' := by
  go_enter Tryd.func25, Tryd.ntmps25
  go_wp2_with (go_at_call 15; (with_reducible refine (valid_any _ _ _).mono ?_); rintro e w1 ⟨rfl, ht1⟩; have T1 : Tr w w1 := Tr.trans (by repeat (first | exact Tr.refl _ | assumption | apply Tr.al | apply Tr.drN | apply Tr.dr | (refine Tr.set ?_ (by first | omega | (simp; done) | (simp; omega)) _))) ht1; have K1 := Keep.tr (l := [(⟨w.heap.size, 0, none⟩, .int .i64 (an)), (⟨w.heap.size, 1, none⟩, .int .i64 (ad)), (⟨w.heap.size + 1, 0, none⟩, .int .i64 (bn)), (⟨w.heap.size + 1, 1, none⟩, .int .i64 (bd))]) (by first | (simp [Keep, go_sem, *]; done) | (simp [Keep, go_sem, *]; omega) | (simp (disch := first | omega | (simp; omega) | (simp; done)) [Keep, go_sem, cell_far, cell_off, RowKit.frozen?_alloc_cells, frozen_new, *]; done) | (simp (disch := first | omega | (simp; omega) | (simp; done)) [Keep, go_sem, cell_far, cell_off, RowKit.frozen?_alloc_cells, frozen_new, *]; omega)) ht1; have hz1 := Below.size ht1; (try simp at hz1); clear ht1; simp only [Keep] at K1)
  refine wp_region_mix2 14 #[.int .u64 0, .int .u64 0] 59 _ #[.int .u64 0, .int .u64 0] 59 _ (by kernel_rfl) (by kernel_rfl) rfl (makesWide _ rfl rfl) rfl (makesWide _ rfl rfl) (by decide) ?_
  intro w5 hw5
  have k5 := Keep.cl (l := [(⟨w.heap.size, 0, none⟩, .int .i64 (an)), (⟨w.heap.size, 1, none⟩, .int .i64 (ad)), (⟨w.heap.size + 1, 0, none⟩, .int .i64 (bn)), (⟨w.heap.size + 1, 1, none⟩, .int .i64 (bd))]) (by first | (simp [Keep, go_sem, *]; done) | (simp [Keep, go_sem, *]; omega) | (simp (disch := first | omega | (simp; omega) | (simp; done)) [Keep, go_sem, cell_far, cell_off, RowKit.frozen?_alloc_cells, frozen_new, *]; done) | (simp (disch := first | omega | (simp; omega) | (simp; done)) [Keep, go_sem, cell_far, cell_off, RowKit.frozen?_alloc_cells, frozen_new, *]; omega)) hw5
  simp only [KeepCl] at k5
  simp only [List.take_succ_cons, List.take_zero, List.drop_succ_cons, List.drop_zero]
  repeat (go_big_quiet_step (first
    | (go_at_call 42; exact calls_cl_same (size_any _ (by omega) (by omega) _))
    | (go_at_call 41; exact calls_cl (product_any _ _ _ (by omega) (by omega) (by omega) (by omega)))))
  refine wpQuiet_nil ?_
  intro b b' w' hb hb' hne ht hz hz'
  have Kb := Keep.at2 hz; have Kb' := Keep.at2 hz'; have K0 := Keep.tr (l := [(⟨w.heap.size, 0, none⟩, .int .i64 (an)), (⟨w.heap.size, 1, none⟩, .int .i64 (ad)), (⟨w.heap.size + 1, 0, none⟩, .int .i64 (bn)), (⟨w.heap.size + 1, 1, none⟩, .int .i64 (bd))]) (by first | (simp [Keep, go_sem, *]; done) | (simp [Keep, go_sem, *]; omega) | (simp (disch := first | omega | (simp; omega) | (simp; done)) [Keep, go_sem, cell_far, cell_off, RowKit.frozen?_alloc_cells, frozen_new, *]; done) | (simp (disch := first | omega | (simp; omega) | (simp; done)) [Keep, go_sem, cell_far, cell_off, RowKit.frozen?_alloc_cells, frozen_new, *]; omega)) ht; have T0 : Tr w w' := Tr.trans (by repeat (first | exact Tr.refl _ | assumption | apply Tr.al | apply Tr.drN | apply Tr.dr | (refine Tr.set ?_ (by first | omega | (simp; done) | (simp; omega)) _))) ht; have hs0 := Below.size ht; have hbl := lt_of_block hz; have hbl' := lt_of_block hz'; (try simp at hb); (try simp at hb'); (try simp at hs0); simp only [Keep] at Kb Kb' K0; clear ht hz hz'
  clear hw5 k5
  simp only [Act.put, List.setIfInBounds_toArray, List.set_cons_succ, List.set_cons_zero]
  go_upto_block 0 with (fail)
  rcases hr with ⟨s1, s2, hr⟩ | ⟨s1, s2, hr⟩ | ⟨s1, s2, hr⟩ | ⟨s1, s2, hr⟩
  · refine wp_forget (w0 := w) [(⟨w.heap.size, 0, none⟩, .int .i64 (an)), (⟨w.heap.size, 1, none⟩, .int .i64 (ad)), (⟨w.heap.size + 1, 0, none⟩, .int .i64 (bn)), (⟨w.heap.size + 1, 1, none⟩, .int .i64 (bd)), (⟨b, 0, none⟩, .int .u64 (X / 18446744073709551616)), (⟨b, 1, none⟩, .int .u64 (X % 18446744073709551616)), (⟨b', 0, none⟩, .int .u64 (Y / 18446744073709551616)), (⟨b', 1, none⟩, .int .u64 (Y % 18446744073709551616))] (by first | (simp [Keep, go_sem, *]; done) | (simp [Keep, go_sem, *]; omega) | (simp (disch := first | omega | (simp; omega) | (simp; done)) [Keep, go_sem, cell_far, cell_off, RowKit.frozen?_alloc_cells, frozen_new, *]; done) | (simp (disch := first | omega | (simp; omega) | (simp; done)) [Keep, go_sem, cell_far, cell_off, RowKit.frozen?_alloc_cells, frozen_new, *]; omega)) (by repeat (first | exact Tr.refl _ | assumption | apply Tr.al | apply Tr.drN | apply Tr.dr | (refine Tr.set ?_ (by first | omega | (simp; done) | (simp; omega)) _))) ?_; intro w6 hs6 K6 T6; (try simp at hs6); simp only [Keep] at K6
    clear Kb Kb' K0 T0 K1 T1
    go_wp2_with fail
    go_ret2
    exact ⟨by rw [hr.out]; rfl, (by repeat (first | exact Tr.refl _ | assumption | apply Tr.al | apply Tr.drN | apply Tr.dr | (refine Tr.set ?_ (by first | omega | (simp; done) | (simp; omega)) _)))⟩
  · refine wp_forget (w0 := w) [(⟨w.heap.size, 0, none⟩, .int .i64 (an)), (⟨w.heap.size, 1, none⟩, .int .i64 (ad)), (⟨w.heap.size + 1, 0, none⟩, .int .i64 (bn)), (⟨w.heap.size + 1, 1, none⟩, .int .i64 (bd)), (⟨b, 0, none⟩, .int .u64 (X / 18446744073709551616)), (⟨b, 1, none⟩, .int .u64 (X % 18446744073709551616)), (⟨b', 0, none⟩, .int .u64 (Y / 18446744073709551616)), (⟨b', 1, none⟩, .int .u64 (Y % 18446744073709551616))] (by first | (simp [Keep, go_sem, *]; done) | (simp [Keep, go_sem, *]; omega) | (simp (disch := first | omega | (simp; omega) | (simp; done)) [Keep, go_sem, cell_far, cell_off, RowKit.frozen?_alloc_cells, frozen_new, *]; done) | (simp (disch := first | omega | (simp; omega) | (simp; done)) [Keep, go_sem, cell_far, cell_off, RowKit.frozen?_alloc_cells, frozen_new, *]; omega)) (by repeat (first | exact Tr.refl _ | assumption | apply Tr.al | apply Tr.drN | apply Tr.dr | (refine Tr.set ?_ (by first | omega | (simp; done) | (simp; omega)) _))) ?_; intro w6 hs6 K6 T6; (try simp at hs6); simp only [Keep] at K6
    clear Kb Kb' K0 T0 K1 T1
    go_wp2_with fail
    go_ret2
    exact ⟨by rw [hr.out]; rfl, (by repeat (first | exact Tr.refl _ | assumption | apply Tr.al | apply Tr.drN | apply Tr.dr | (refine Tr.set ?_ (by first | omega | (simp; done) | (simp; omega)) _)))⟩
  · refine wp_forget (w0 := w) [(⟨w.heap.size, 0, none⟩, .int .i64 (an)), (⟨w.heap.size, 1, none⟩, .int .i64 (ad)), (⟨w.heap.size + 1, 0, none⟩, .int .i64 (bn)), (⟨w.heap.size + 1, 1, none⟩, .int .i64 (bd)), (⟨b, 0, none⟩, .int .u64 (X / 18446744073709551616)), (⟨b, 1, none⟩, .int .u64 (X % 18446744073709551616)), (⟨b', 0, none⟩, .int .u64 (Y / 18446744073709551616)), (⟨b', 1, none⟩, .int .u64 (Y % 18446744073709551616))] (by first | (simp [Keep, go_sem, *]; done) | (simp [Keep, go_sem, *]; omega) | (simp (disch := first | omega | (simp; omega) | (simp; done)) [Keep, go_sem, cell_far, cell_off, RowKit.frozen?_alloc_cells, frozen_new, *]; done) | (simp (disch := first | omega | (simp; omega) | (simp; done)) [Keep, go_sem, cell_far, cell_off, RowKit.frozen?_alloc_cells, frozen_new, *]; omega)) (by repeat (first | exact Tr.refl _ | assumption | apply Tr.al | apply Tr.drN | apply Tr.dr | (refine Tr.set ?_ (by first | omega | (simp; done) | (simp; omega)) _))) ?_; intro w6 hs6 K6 T6; (try simp at hs6); simp only [Keep] at K6
    clear Kb Kb' K0 T0 K1 T1
    go_upto_region 10 with (fail)
    refine wp_forget (w0 := w) [(⟨b, 0, none⟩, .int .u64 (Y / 18446744073709551616)), (⟨b, 1, none⟩, .int .u64 (Y % 18446744073709551616)), (⟨b', 0, none⟩, .int .u64 (X / 18446744073709551616)), (⟨b', 1, none⟩, .int .u64 (X % 18446744073709551616))] (by first | (simp [Keep, go_sem, *]; done) | (simp [Keep, go_sem, *]; omega) | (simp (disch := first | omega | (simp; omega) | (simp; done)) [Keep, go_sem, cell_far, cell_off, RowKit.frozen?_alloc_cells, frozen_new, *]; done) | (simp (disch := first | omega | (simp; omega) | (simp; done)) [Keep, go_sem, cell_far, cell_off, RowKit.frozen?_alloc_cells, frozen_new, *]; omega)) (by repeat (first | exact Tr.refl _ | assumption | apply Tr.al | apply Tr.drN | apply Tr.dr | (refine Tr.set ?_ (by first | omega | (simp; done) | (simp; omega)) _))) ?_; intro w7 hs7 K7 T7; (try simp at hs7); simp only [Keep] at K7
    clear K6 T6
    rcases hr with ⟨s3, s4, hr⟩ | ⟨s3, s4, hr⟩ | ⟨s3, s4, hr⟩
    all_goals
      go_wp2_with (go_at_call 44; (with_reducible refine (less_val _ _ (by omega) (by omega) _).mono ?_); rintro e w1 ⟨rfl, ht1⟩; have T1 : Tr w w1 := Tr.trans (by repeat (first | exact Tr.refl _ | assumption | apply Tr.al | apply Tr.drN | apply Tr.dr | (refine Tr.set ?_ (by first | omega | (simp; done) | (simp; omega)) _))) ht1; have K1 := Keep.tr (l := [(⟨b, 0, none⟩, .int .u64 (Y / 18446744073709551616)), (⟨b, 1, none⟩, .int .u64 (Y % 18446744073709551616)), (⟨b', 0, none⟩, .int .u64 (X / 18446744073709551616)), (⟨b', 1, none⟩, .int .u64 (X % 18446744073709551616))]) (by first | (simp [Keep, go_sem, *]; done) | (simp [Keep, go_sem, *]; omega) | (simp (disch := first | omega | (simp; omega) | (simp; done)) [Keep, go_sem, cell_far, cell_off, RowKit.frozen?_alloc_cells, frozen_new, *]; done) | (simp (disch := first | omega | (simp; omega) | (simp; done)) [Keep, go_sem, cell_far, cell_off, RowKit.frozen?_alloc_cells, frozen_new, *]; omega)) ht1; have hz1 := Below.size ht1; (try simp at hz1); clear ht1; simp only [Keep] at K1)
      go_ret2
      exact ⟨by rw [hr.out]; rfl, (by repeat (first | exact Tr.refl _ | assumption | apply Tr.al | apply Tr.drN | apply Tr.dr | (refine Tr.set ?_ (by first | omega | (simp; done) | (simp; omega)) _)))⟩
  · refine wp_forget (w0 := w) [(⟨w.heap.size, 0, none⟩, .int .i64 (an)), (⟨w.heap.size, 1, none⟩, .int .i64 (ad)), (⟨w.heap.size + 1, 0, none⟩, .int .i64 (bn)), (⟨w.heap.size + 1, 1, none⟩, .int .i64 (bd)), (⟨b, 0, none⟩, .int .u64 (X / 18446744073709551616)), (⟨b, 1, none⟩, .int .u64 (X % 18446744073709551616)), (⟨b', 0, none⟩, .int .u64 (Y / 18446744073709551616)), (⟨b', 1, none⟩, .int .u64 (Y % 18446744073709551616))] (by first | (simp [Keep, go_sem, *]; done) | (simp [Keep, go_sem, *]; omega) | (simp (disch := first | omega | (simp; omega) | (simp; done)) [Keep, go_sem, cell_far, cell_off, RowKit.frozen?_alloc_cells, frozen_new, *]; done) | (simp (disch := first | omega | (simp; omega) | (simp; done)) [Keep, go_sem, cell_far, cell_off, RowKit.frozen?_alloc_cells, frozen_new, *]; omega)) (by repeat (first | exact Tr.refl _ | assumption | apply Tr.al | apply Tr.drN | apply Tr.dr | (refine Tr.set ?_ (by first | omega | (simp; done) | (simp; omega)) _))) ?_; intro w6 hs6 K6 T6; (try simp at hs6); simp only [Keep] at K6
    clear Kb Kb' K0 T0 K1 T1
    rcases hr with ⟨s3, s4, hr⟩ | ⟨s3, s4, hr⟩ | ⟨s3, s4, hr⟩
    all_goals
      go_wp2_with (go_at_call 44; (with_reducible refine (less_val _ _ (by omega) (by omega) _).mono ?_); rintro e w1 ⟨rfl, ht1⟩; have T1 : Tr w w1 := Tr.trans (by repeat (first | exact Tr.refl _ | assumption | apply Tr.al | apply Tr.drN | apply Tr.dr | (refine Tr.set ?_ (by first | omega | (simp; done) | (simp; omega)) _))) ht1; have K1 := Keep.tr (l := [(⟨w.heap.size, 0, none⟩, .int .i64 (an)), (⟨w.heap.size, 1, none⟩, .int .i64 (ad)), (⟨w.heap.size + 1, 0, none⟩, .int .i64 (bn)), (⟨w.heap.size + 1, 1, none⟩, .int .i64 (bd)), (⟨b, 0, none⟩, .int .u64 (X / 18446744073709551616)), (⟨b, 1, none⟩, .int .u64 (X % 18446744073709551616)), (⟨b', 0, none⟩, .int .u64 (Y / 18446744073709551616)), (⟨b', 1, none⟩, .int .u64 (Y % 18446744073709551616))]) (by first | (simp [Keep, go_sem, *]; done) | (simp [Keep, go_sem, *]; omega) | (simp (disch := first | omega | (simp; omega) | (simp; done)) [Keep, go_sem, cell_far, cell_off, RowKit.frozen?_alloc_cells, frozen_new, *]; done) | (simp (disch := first | omega | (simp; omega) | (simp; done)) [Keep, go_sem, cell_far, cell_off, RowKit.frozen?_alloc_cells, frozen_new, *]; omega)) ht1; have hz1 := Below.size ht1; (try simp at hz1); clear ht1; simp only [Keep] at K1)
      go_ret2
      exact ⟨by rw [hr.out]; rfl, (by repeat (first | exact Tr.refl _ | assumption | apply Tr.al | apply Tr.drN | apply Tr.dr | (refine Tr.set ?_ (by first | omega | (simp; done) | (simp; omega)) _)))⟩

theorem cmp_any (an ad bn bd : Int) (w : World) :
    Calls Tryd.prog 25 #[.agg #[.int .i64 an, .int .i64 ad], .agg #[.int .i64 bn, .int .i64 bd]] w fun e w' =>
      e = .returned (.tuple #[.int .i64 (cmpS an ad bn bd).1, .int .i64 (cmpS an ad bn bd).2]) ∧ Tr w w' := by
  by_cases va : validB an ad = true
  · by_cases vb : validB bn bd = true
    · obtain ⟨a1, a2, a3, a4, _⟩ := validB_spec.1 va
      obtain ⟨b1, b2, b3, b4, _⟩ := validB_spec.1 vb
      rw [show cmpS an ad bn bd = (cmpQ (ratV an ad) (ratV bn bd), 0) by unfold cmpS; rw [if_pos ⟨va, vb⟩]]
      have x0 : 0 ≤ (an.natAbs : Int) * bd := Int.mul_nonneg (by omega) (by omega)
      have y0 : 0 ≤ (bn.natAbs : Int) * ad := Int.mul_nonneg (by omega) (by omega)
      refine cmp_core an ad bn bd _ _ _ w va vb a1 a2 a3 a4 b1 b2 b3 b4 rfl rfl x0 y0 ?_
      have l1 := lt_ratV va vb
      have l2 := lt_ratV vb va
      unfold cmpQ
      simp only [l1, l2]
      by_cases h1 : an < 0
      · have e1 : an * bd = -((an.natAbs : Int) * bd) := by rw [← Int.neg_mul]; congr 1; omega
        by_cases h2 : bn < 0
        · have e2 : bn * ad = -((bn.natAbs : Int) * ad) := by rw [← Int.neg_mul]; congr 1; omega
          rw [e1, e2]
          generalize (an.natAbs : Int) * bd = X at *
          generalize (bn.natAbs : Int) * ad = Y at *
          refine .inr (.inr (.inl ⟨by simp [h1], by simp [h2], ?_⟩))
          by_cases h3 : Y < X
          · exact .inl ⟨by simp [h3], by simp; omega, by show _ = _; rw [if_pos (by omega)]⟩
          · by_cases h4 : X < Y
            · exact .inr (.inl ⟨by simp [h3], by simp [h4], by show _ = _; rw [if_neg (by omega), if_pos (by omega)]⟩)
            · exact .inr (.inr ⟨by simp [h3], by simp [h4], by show _ = _; rw [if_neg (by omega), if_neg (by omega)]⟩)
        · have e2 : bn * ad = ((bn.natAbs : Int) * ad) := by congr 1; omega
          have e3 : 1 ≤ (an.natAbs : Int) * bd := Int.mul_pos (by omega) (by omega)
          rw [e1, e2]
          exact .inl ⟨by simp [h1], by simp [h2], by show _ = _; rw [if_pos (by omega)]⟩
      · have e1 : an * bd = ((an.natAbs : Int) * bd) := by congr 1; omega
        by_cases h2 : bn < 0
        · have e2 : bn * ad = -((bn.natAbs : Int) * ad) := by rw [← Int.neg_mul]; congr 1; omega
          have e3 : 1 ≤ (bn.natAbs : Int) * ad := Int.mul_pos (by omega) (by omega)
          rw [e1, e2]
          exact .inr (.inl ⟨by simp [h1], by simp [h2], by show _ = _; rw [if_neg (by omega), if_pos (by omega)]⟩)
        · have e2 : bn * ad = ((bn.natAbs : Int) * ad) := by congr 1; omega
          rw [e1, e2]
          generalize (an.natAbs : Int) * bd = X at *
          generalize (bn.natAbs : Int) * ad = Y at *
          refine .inr (.inr (.inr ⟨by simp [h1], by simp [h2], ?_⟩))
          by_cases h3 : X < Y
          · exact .inl ⟨by simp [h3], by simp; omega, by show _ = _; rw [if_pos (by omega)]⟩
          · by_cases h4 : Y < X
            · exact .inr (.inl ⟨by simp [h3], by simp [h4], by show _ = _; rw [if_neg (by omega), if_pos (by omega)]⟩)
            · exact .inr (.inr ⟨by simp [h3], by simp [h4], by show _ = _; rw [if_neg (by omega), if_neg (by omega)]⟩)
    · have vb' : validB bn bd = false := by simpa using vb
      rw [show cmpS an ad bn bd = (0, 1) by unfold cmpS; rw [if_neg (fun h => vb h.2)]]
      clear vb
      go_enter Tryd.func25, Tryd.ntmps25
      go_wp2_with (go_at_call 15; (with_reducible refine (valid_any _ _ _).mono ?_); rintro e w1 ⟨rfl, ht1⟩; have T1 : Tr w w1 := Tr.trans (by repeat (first | exact Tr.refl _ | assumption | apply Tr.al | apply Tr.drN | apply Tr.dr | (refine Tr.set ?_ (by first | omega | (simp; done) | (simp; omega)) _))) ht1; have K1 := Keep.tr (l := [(⟨w.heap.size, 0, none⟩, .int .i64 (an)), (⟨w.heap.size, 1, none⟩, .int .i64 (ad)), (⟨w.heap.size + 1, 0, none⟩, .int .i64 (bn)), (⟨w.heap.size + 1, 1, none⟩, .int .i64 (bd))]) (by first | (simp [Keep, go_sem, *]; done) | (simp [Keep, go_sem, *]; omega) | (simp (disch := first | omega | (simp; omega) | (simp; done)) [Keep, go_sem, cell_far, cell_off, RowKit.frozen?_alloc_cells, frozen_new, *]; done) | (simp (disch := first | omega | (simp; omega) | (simp; done)) [Keep, go_sem, cell_far, cell_off, RowKit.frozen?_alloc_cells, frozen_new, *]; omega)) ht1; have hz1 := Below.size ht1; (try simp at hz1); clear ht1; simp only [Keep] at K1)
      go_ret2
      exact ⟨rfl, (by repeat (first | exact Tr.refl _ | assumption | apply Tr.al | apply Tr.drN | apply Tr.dr | (refine Tr.set ?_ (by first | omega | (simp; done) | (simp; omega)) _)))⟩
  · have va' : validB an ad = false := by simpa using va
    rw [show cmpS an ad bn bd = (0, 1) by unfold cmpS; rw [if_neg (fun h => va h.1)]]
    clear va
    go_enter Tryd.func25, Tryd.ntmps25
    go_wp2_with (go_at_call 15; (with_reducible refine (valid_any _ _ _).mono ?_); rintro e w1 ⟨rfl, ht1⟩; have T1 : Tr w w1 := Tr.trans (by repeat (first | exact Tr.refl _ | assumption | apply Tr.al | apply Tr.drN | apply Tr.dr | (refine Tr.set ?_ (by first | omega | (simp; done) | (simp; omega)) _))) ht1; have K1 := Keep.tr (l := [(⟨w.heap.size, 0, none⟩, .int .i64 (an)), (⟨w.heap.size, 1, none⟩, .int .i64 (ad)), (⟨w.heap.size + 1, 0, none⟩, .int .i64 (bn)), (⟨w.heap.size + 1, 1, none⟩, .int .i64 (bd))]) (by first | (simp [Keep, go_sem, *]; done) | (simp [Keep, go_sem, *]; omega) | (simp (disch := first | omega | (simp; omega) | (simp; done)) [Keep, go_sem, cell_far, cell_off, RowKit.frozen?_alloc_cells, frozen_new, *]; done) | (simp (disch := first | omega | (simp; omega) | (simp; done)) [Keep, go_sem, cell_far, cell_off, RowKit.frozen?_alloc_cells, frozen_new, *]; omega)) ht1; have hz1 := Below.size ht1; (try simp at hz1); clear ht1; simp only [Keep] at K1)
    go_ret2
    exact ⟨rfl, (by repeat (first | exact Tr.refl _ | assumption | apply Tr.al | apply Tr.drN | apply Tr.dr | (refine Tr.set ?_ (by first | omega | (simp; done) | (simp; omega)) _)))⟩

theorem tdiv_neg_parts (n d : Int) (hn : n < 0) (hd : 1 ≤ d) : n.tdiv d = -(-n / d) ∧ n.tmod d = -(-n % d) := by
  obtain ⟨m, hm⟩ := Int.eq_ofNat_of_zero_le (show 0 ≤ -n by omega)
  obtain ⟨k, rfl⟩ := Int.eq_ofNat_of_zero_le (show 0 ≤ d by omega)
  have : n = -(m : Int) := by omega
  subst this
  rw [Int.neg_tdiv, Int.neg_tmod, Int.neg_neg]
  exact ⟨rfl, rfl⟩
/-- ratio.floor. -/
theorem floor_any (n d : Int) (w : World) (n1 : -1152921504606846976 ≤ n) (n2 : n ≤ 1152921504606846976) (d1 : 1 ≤ d) (d2 : d ≤ 1152921504606846976) :
    Calls Tryd.prog 50 #[.int .i64 n, .int .i64 d] w fun e w' => e = .returned (.int .i64 (n / d)) ∧ w = w' := by
  by_cases h : 0 ≤ n
  · have q0 : 0 ≤ n / d := Int.ediv_nonneg h (by omega)
    have q1 : n / d ≤ n := Int.ediv_le_self _ h
    have r0 : 0 ≤ n % d := Int.emod_nonneg _ (by omega)
    have r1 : n % d < d := Int.emod_lt_of_pos _ (by omega)
    go_enter Tryd.func50, Tryd.ntmps50
    go_wp2
    go_ret
    exact ⟨rfl, rfl⟩
  · obtain ⟨e1, e2⟩ := tdiv_neg_parts n d (by omega) d1
    have q0 : 0 ≤ -n / d := Int.ediv_nonneg (by omega) (by omega)
    have q1 : -n / d ≤ -n := Int.ediv_le_self _ (by omega)
    have r0 : 0 ≤ -n % d := Int.emod_nonneg _ (by omega)
    have r1 : -n % d < d := Int.emod_lt_of_pos _ (by omega)
    have key : -n = -n / d * d + -n % d := (quo_rem (-n) d (by omega)).1
    have res : n / d = if -n % d = 0 then -(-n / d) else -(-n / d) - 1 := by
      split
      · refine (div_unique n d (-(-n / d)) 0 ?_ (by omega) (by omega)).1
        rw [Int.neg_mul]; omega
      · refine (div_unique n d (-(-n / d) - 1) (d - -n % d) ?_ (by omega) (by omega)).1
        rw [Int.sub_mul, Int.neg_mul]; omega
    have HR := Lib.hid res
    clear res key
    have g4 : ¬ d = 0 := by omega
    generalize -n / d = q at *
    generalize -n % d = r at *
    by_cases hr : r = 0
    · subst hr
      go_enter Tryd.func50, Tryd.ntmps50
      go_wp2
      go_ret
      exact ⟨ret_int (by rw [HR.out]; simp), rfl⟩
    · go_enter Tryd.func50, Tryd.ntmps50
      go_wp2
      go_ret
      exact ⟨ret_int (by rw [HR.out, if_neg hr]), rfl⟩

/-- ratio.Floor. -/
theorem Floor_any (n d : Int) (w : World) :
    Calls Tryd.prog 19 #[.agg #[.int .i64 n, .int .i64 d]] w fun e w' => e = .returned (.tuple #[.int .i64 (floorS n d).1, .int .i64 (floorS n d).2]) ∧ Tr w w' := by
  by_cases va : validB n d = true
  · obtain ⟨a1, a2, a3, a4, _⟩ := validB_spec.1 va
    rw [show floorS n d = (n / d, 0) by unfold floorS; rw [if_pos va]]
    go_enter Tryd.func19, Tryd.ntmps19
    go_wp2_with (first
      | (go_at_call 15; (with_reducible refine (valid_any _ _ _).mono ?_); rintro e w1 ⟨rfl, ht1⟩; have T1 : Tr w w1 := Tr.trans (by repeat (first | exact Tr.refl _ | assumption | apply Tr.al | apply Tr.drN | apply Tr.dr | (refine Tr.set ?_ (by first | omega | (simp; done) | (simp; omega)) _))) ht1; have K1 := Keep.tr (l := [(⟨w.heap.size, 0, none⟩, .int .i64 (n)), (⟨w.heap.size, 1, none⟩, .int .i64 (d))]) (by first | (simp [Keep, go_sem, *]; done) | (simp [Keep, go_sem, *]; omega) | (simp (disch := first | omega | (simp; omega) | (simp; done)) [Keep, go_sem, cell_far, cell_off, RowKit.frozen?_alloc_cells, frozen_new, *]; done) | (simp (disch := first | omega | (simp; omega) | (simp; done)) [Keep, go_sem, cell_far, cell_off, RowKit.frozen?_alloc_cells, frozen_new, *]; omega)) ht1; have hz1 := Below.size ht1; (try simp at hz1); clear ht1; simp only [Keep] at K1)
      | (go_at_call 50; (with_reducible refine (floor_any _ _ _ (by omega) (by omega) (by omega) (by omega)).mono ?_); rintro e w3 ⟨rfl, rfl⟩))
    go_ret2
    exact ⟨rfl, (by repeat (first | exact Tr.refl _ | assumption | apply Tr.al | apply Tr.drN | apply Tr.dr | (refine Tr.set ?_ (by first | omega | (simp; done) | (simp; omega)) _)))⟩
  · have va' : validB n d = false := by simpa using va
    rw [show floorS n d = (0, 1) by unfold floorS; rw [if_neg va]]
    clear va
    go_enter Tryd.func19, Tryd.ntmps19
    go_wp2_with (go_at_call 15; (with_reducible refine (valid_any _ _ _).mono ?_); rintro e w1 ⟨rfl, ht1⟩; have T1 : Tr w w1 := Tr.trans (by repeat (first | exact Tr.refl _ | assumption | apply Tr.al | apply Tr.drN | apply Tr.dr | (refine Tr.set ?_ (by first | omega | (simp; done) | (simp; omega)) _))) ht1; have K1 := Keep.tr (l := [(⟨w.heap.size, 0, none⟩, .int .i64 (n)), (⟨w.heap.size, 1, none⟩, .int .i64 (d))]) (by first | (simp [Keep, go_sem, *]; done) | (simp [Keep, go_sem, *]; omega) | (simp (disch := first | omega | (simp; omega) | (simp; done)) [Keep, go_sem, cell_far, cell_off, RowKit.frozen?_alloc_cells, frozen_new, *]; done) | (simp (disch := first | omega | (simp; omega) | (simp; done)) [Keep, go_sem, cell_far, cell_off, RowKit.frozen?_alloc_cells, frozen_new, *]; omega)) ht1; have hz1 := Below.size ht1; (try simp at hz1); clear ht1; simp only [Keep] at K1)
    go_ret2
    exact ⟨rfl, (by repeat (first | exact Tr.refl _ | assumption | apply Tr.al | apply Tr.drN | apply Tr.dr | (refine Tr.set ?_ (by first | omega | (simp; done) | (simp; omega)) _)))⟩
/-- ratio.Ceil. -/
theorem Ceil_any (n d : Int) (w : World) :
    Calls Tryd.prog 20 #[.agg #[.int .i64 n, .int .i64 d]] w fun e w' => e = .returned (.tuple #[.int .i64 (ceilS n d).1, .int .i64 (ceilS n d).2]) ∧ Tr w w' := by
  by_cases va : validB n d = true
  · obtain ⟨a1, a2, a3, a4, _⟩ := validB_spec.1 va
    rw [show ceilS n d = (-(-n / d), 0) by unfold ceilS; rw [if_pos va]]
    have q0 : -1152921504606846976 ≤ -n / d := by
      by_cases h : 0 ≤ -n
      · have := Int.ediv_nonneg h (show 0 ≤ d by omega); omega
      · exact quo_le _ _ _ (by omega) (by omega)
    have q1 : -n / d ≤ 1152921504606846976 := by
      by_cases h : 0 ≤ -n
      · have := Int.ediv_le_self d h; omega
      · have := quo_lt (-n) d 0 (by omega) (by omega); omega
    go_enter Tryd.func20, Tryd.ntmps20
    go_wp2_with (first
      | (go_at_call 15; (with_reducible refine (valid_any _ _ _).mono ?_); rintro e w1 ⟨rfl, ht1⟩; have T1 : Tr w w1 := Tr.trans (by repeat (first | exact Tr.refl _ | assumption | apply Tr.al | apply Tr.drN | apply Tr.dr | (refine Tr.set ?_ (by first | omega | (simp; done) | (simp; omega)) _))) ht1; have K1 := Keep.tr (l := [(⟨w.heap.size, 0, none⟩, .int .i64 (n)), (⟨w.heap.size, 1, none⟩, .int .i64 (d))]) (by first | (simp [Keep, go_sem, *]; done) | (simp [Keep, go_sem, *]; omega) | (simp (disch := first | omega | (simp; omega) | (simp; done)) [Keep, go_sem, cell_far, cell_off, RowKit.frozen?_alloc_cells, frozen_new, *]; done) | (simp (disch := first | omega | (simp; omega) | (simp; done)) [Keep, go_sem, cell_far, cell_off, RowKit.frozen?_alloc_cells, frozen_new, *]; omega)) ht1; have hz1 := Below.size ht1; (try simp at hz1); clear ht1; simp only [Keep] at K1)
      | (go_at_call 50; (with_reducible refine (floor_any _ _ _ (by omega) (by omega) (by omega) (by omega)).mono ?_); rintro e w3 ⟨rfl, rfl⟩))
    go_ret2
    exact ⟨rfl, (by repeat (first | exact Tr.refl _ | assumption | apply Tr.al | apply Tr.drN | apply Tr.dr | (refine Tr.set ?_ (by first | omega | (simp; done) | (simp; omega)) _)))⟩
  · have va' : validB n d = false := by simpa using va
    rw [show ceilS n d = (0, 1) by unfold ceilS; rw [if_neg va]]
    clear va
    go_enter Tryd.func20, Tryd.ntmps20
    go_wp2_with (go_at_call 15; (with_reducible refine (valid_any _ _ _).mono ?_); rintro e w1 ⟨rfl, ht1⟩; have T1 : Tr w w1 := Tr.trans (by repeat (first | exact Tr.refl _ | assumption | apply Tr.al | apply Tr.drN | apply Tr.dr | (refine Tr.set ?_ (by first | omega | (simp; done) | (simp; omega)) _))) ht1; have K1 := Keep.tr (l := [(⟨w.heap.size, 0, none⟩, .int .i64 (n)), (⟨w.heap.size, 1, none⟩, .int .i64 (d))]) (by first | (simp [Keep, go_sem, *]; done) | (simp [Keep, go_sem, *]; omega) | (simp (disch := first | omega | (simp; omega) | (simp; done)) [Keep, go_sem, cell_far, cell_off, RowKit.frozen?_alloc_cells, frozen_new, *]; done) | (simp (disch := first | omega | (simp; omega) | (simp; done)) [Keep, go_sem, cell_far, cell_off, RowKit.frozen?_alloc_cells, frozen_new, *]; omega)) ht1; have hz1 := Below.size ht1; (try simp at hz1); clear ht1; simp only [Keep] at K1)
    go_ret2
    exact ⟨rfl, (by repeat (first | exact Tr.refl _ | assumption | apply Tr.al | apply Tr.drN | apply Tr.dr | (refine Tr.set ?_ (by first | omega | (simp; done) | (simp; omega)) _)))⟩
end Go.Proofs.YtpjkiljgccjemaaDoor
