/- RatioUndone returns true for all fractions: sums and products do not depend on the order; differences undo sums, and quotients products. Condition: the library's table of powers of ten is laid. -/
import Derived.Test.YtpjkiljgccjemaaDoorLaw02
namespace Go.Proofs.YtpjkiljgccjemaaDoor.ratioUndone
set_option linter.unusedVariables false
open Go.RowKit Go.Sort

theorem add_commS (an ad bn bd : Int) : addS bn bd an ad = addS an ad bn bd := by
  unfold addS
  rw [Rat.add_comm]
  by_cases h : validB an ad = true ∧ validB bn bd = true
  · rw [if_pos h, if_pos ⟨h.2, h.1⟩]
  · rw [if_neg h, if_neg (fun hh => h ⟨hh.2, hh.1⟩)]
theorem mul_commS (an ad bn bd : Int) : mulS bn bd an ad = mulS an ad bn bd := by
  unfold mulS
  rw [Rat.mul_comm]
  by_cases h : validB an ad = true ∧ validB bn bd = true
  · rw [if_pos h, if_pos ⟨h.2, h.1⟩]
  · rw [if_neg h, if_neg (fun hh => h ⟨hh.2, hh.1⟩)]
theorem sub_addS {an ad bn bd : Int} (h : (addS an ad bn bd).2.2 = 0) : subS (addS an ad bn bd).1 (addS an ad bn bd).2.1 bn bd = (an, ad, 0) := by
  obtain ⟨va, vb, vs, es⟩ := addS_ok h
  rw [subS_eq vs vb, es, Rat.add_sub_cancel, outQ_ratV va]
theorem add_err {an ad bn bd : Int} (h : (addS an ad bn bd).2.2 ≠ 0) : (addS an ad bn bd).1 = 0 ∧ (addS an ad bn bd).2.1 = 0 := by
  unfold addS at *
  split at h
  · rename_i hv
    rw [if_pos hv]
    rcases outQ_err (ratV an ad + ratV bn bd) with h' | h'
    · exact absurd h' h
    · rw [h']; exact ⟨rfl, rfl⟩
  · rename_i hv
    rw [if_neg hv]; exact ⟨rfl, rfl⟩
theorem mul_err {an ad bn bd : Int} (h : (mulS an ad bn bd).2.2 ≠ 0) : (mulS an ad bn bd).1 = 0 ∧ (mulS an ad bn bd).2.1 = 0 := by
  unfold mulS at *
  split at h
  · rename_i hv
    rw [if_pos hv]
    rcases outQ_err (ratV an ad * ratV bn bd) with h' | h'
    · exact absurd h' h
    · rw [h']; exact ⟨rfl, rfl⟩
  · rename_i hv
    rw [if_neg hv]; exact ⟨rfl, rfl⟩
theorem ratV_zero_iff {n d : Int} (h : validB n d = true) : ratV n d = 0 ↔ n = 0 := by
  rw [← Rat.num_eq_zero, (ratV_valid h).1]
theorem div_mulS {an ad bn bd : Int} (h : (mulS an ad bn bd).2.2 = 0) (hb : bn ≠ 0) : divS (mulS an ad bn bd).1 (mulS an ad bn bd).2.1 bn bd = (an, ad, 0) := by
  obtain ⟨va, vb, vs, es⟩ := mulS_ok h
  have hz : ratV bn bd ≠ 0 := fun hh => hb ((ratV_zero_iff vb).1 hh)
  rw [divS_eq vs vb hb, es, Rat.mul_assoc, Rat.mul_inv_cancel _ hz, Rat.mul_one, outQ_ratV va]
theorem div_zeroS {an ad bn bd : Int} (h : (mulS an ad bn bd).2.2 = 0) (hb : bn = 0) : divS (mulS an ad bn bd).1 (mulS an ad bn bd).2.1 bn bd = (0, 0, 16) ∧ (mulS an ad bn bd).1 = 0 := by
  obtain ⟨va, vb, vs, es⟩ := mulS_ok h
  refine ⟨by unfold divS; rw [if_pos ⟨vs, vb⟩, if_pos hb], ?_⟩
  rw [← ratV_zero_iff vs, es, (ratV_zero_iff vb).2 hb, Rat.mul_zero]

set_option maxRecDepth 100000 in
set_option maxHeartbeats 4000000 in
theorem walk (an ad bn bd : Int) (w : World) (hT : Tab w) :
    Calls Tryd.prog 4 #[.agg #[.int .i64 an, .int .i64 ad], .agg #[.int .i64 bn, .int .i64 bd]] w fun e w' => e = .returned (.bool true) ∧ Tr w w' := by
  have hc1 := add_commS an ad bn bd
  have hc2 := mul_commS an ad bn bd
  go_enter Tryd.func4, Tryd.ntmps4
  go_upto_region 3 with (go_at_call 11; (with_reducible refine (awake_any _ (hT.tr (by repeat (first | exact Tr.refl _ | assumption | apply Tr.al | apply Tr.drN | apply Tr.dr | (refine Tr.set ?_ (by first | omega | (simp; omega)) _))))).mono ?_); rintro e w1 ⟨rfl, ht1⟩; have T1 : Tr w w1 := Tr.trans (by repeat (first | exact Tr.refl _ | assumption | apply Tr.al | apply Tr.drN | apply Tr.dr | (refine Tr.set ?_ (by first | omega | (simp; omega)) _))) ht1; have K1 := Keep.tr (l := [(⟨w.heap.size, 0, none⟩, .int .i64 (an)), (⟨w.heap.size, 1, none⟩, .int .i64 (ad)), (⟨w.heap.size + 1, 0, none⟩, .int .i64 (bn)), (⟨w.heap.size + 1, 1, none⟩, .int .i64 (bd))]) (by first | (simp [Keep, go_sem, *]; done) | (simp [Keep, go_sem, *]; omega) | (simp (disch := first | omega | (simp; omega) | (simp; done)) [Keep, go_sem, cell_far, cell_off, RowKit.frozen?_alloc_cells, frozen_new, *]; done) | (simp (disch := first | omega | (simp; omega) | (simp; done)) [Keep, go_sem, cell_far, cell_off, RowKit.frozen?_alloc_cells, frozen_new, *]; omega)) ht1; have hz1 := Below.size ht1; (try simp at hz1); clear ht1; simp only [Keep] at K1)
  go_upto_region 4 with (go_at_call 12; (with_reducible refine (add_any _ _ _ _ _).mono ?_); rintro e w2 ⟨rfl, ht2⟩; have T2 : Tr w w2 := Tr.trans (by repeat (first | exact Tr.refl _ | assumption | apply Tr.al | apply Tr.drN | apply Tr.dr | (refine Tr.set ?_ (by first | omega | (simp; omega)) _))) ht2; have K2 := Keep.tr (l := [(⟨w.heap.size, 0, none⟩, .int .i64 (an)), (⟨w.heap.size, 1, none⟩, .int .i64 (ad)), (⟨w.heap.size + 1, 0, none⟩, .int .i64 (bn)), (⟨w.heap.size + 1, 1, none⟩, .int .i64 (bd))]) (by first | (simp [Keep, go_sem, *]; done) | (simp [Keep, go_sem, *]; omega) | (simp (disch := first | omega | (simp; omega) | (simp; done)) [Keep, go_sem, cell_far, cell_off, RowKit.frozen?_alloc_cells, frozen_new, *]; done) | (simp (disch := first | omega | (simp; omega) | (simp; done)) [Keep, go_sem, cell_far, cell_off, RowKit.frozen?_alloc_cells, frozen_new, *]; omega)) ht2; have hz2 := Below.size ht2; (try simp at hz2); clear ht2; simp only [Keep] at K2)
  clear K1 T1
  go_upto_region 5 with (go_at_call 12; (with_reducible refine (add_any _ _ _ _ _).mono ?_); rintro e w3 ⟨rfl, ht3⟩; have T3 : Tr w w3 := Tr.trans (by repeat (first | exact Tr.refl _ | assumption | apply Tr.al | apply Tr.drN | apply Tr.dr | (refine Tr.set ?_ (by first | omega | (simp; omega)) _))) ht3; have K3 := Keep.tr (l := [(⟨w.heap.size, 0, none⟩, .int .i64 (an)), (⟨w.heap.size, 1, none⟩, .int .i64 (ad)), (⟨w.heap.size + 1, 0, none⟩, .int .i64 (bn)), (⟨w.heap.size + 1, 1, none⟩, .int .i64 (bd)), (⟨w2.heap.size, 0, none⟩, .int .i64 ((addS an ad bn bd).1)), (⟨w2.heap.size, 1, none⟩, .int .i64 ((addS an ad bn bd).2.1))]) (by first | (simp [Keep, go_sem, *]; done) | (simp [Keep, go_sem, *]; omega) | (simp (disch := first | omega | (simp; omega) | (simp; done)) [Keep, go_sem, cell_far, cell_off, RowKit.frozen?_alloc_cells, frozen_new, *]; done) | (simp (disch := first | omega | (simp; omega) | (simp; done)) [Keep, go_sem, cell_far, cell_off, RowKit.frozen?_alloc_cells, frozen_new, *]; omega)) ht3; have hz3 := Below.size ht3; (try simp at hz3); clear ht3; simp only [Keep] at K3)
  clear K2 T2
  go_upto_region 6 with (go_at_call 13; (with_reducible refine (mul_any _ _ _ _ _).mono ?_); rintro e w4 ⟨rfl, ht4⟩; have T4 : Tr w w4 := Tr.trans (by repeat (first | exact Tr.refl _ | assumption | apply Tr.al | apply Tr.drN | apply Tr.dr | (refine Tr.set ?_ (by first | omega | (simp; omega)) _))) ht4; have K4 := Keep.tr (l := [(⟨w.heap.size, 0, none⟩, .int .i64 (an)), (⟨w.heap.size, 1, none⟩, .int .i64 (ad)), (⟨w.heap.size + 1, 0, none⟩, .int .i64 (bn)), (⟨w.heap.size + 1, 1, none⟩, .int .i64 (bd)), (⟨w2.heap.size, 0, none⟩, .int .i64 ((addS an ad bn bd).1)), (⟨w2.heap.size, 1, none⟩, .int .i64 ((addS an ad bn bd).2.1)), (⟨w3.heap.size, 0, none⟩, .int .i64 ((addS an ad bn bd).1)), (⟨w3.heap.size, 1, none⟩, .int .i64 ((addS an ad bn bd).2.1))]) (by first | (simp [Keep, go_sem, *]; done) | (simp [Keep, go_sem, *]; omega) | (simp (disch := first | omega | (simp; omega) | (simp; done)) [Keep, go_sem, cell_far, cell_off, RowKit.frozen?_alloc_cells, frozen_new, *]; done) | (simp (disch := first | omega | (simp; omega) | (simp; done)) [Keep, go_sem, cell_far, cell_off, RowKit.frozen?_alloc_cells, frozen_new, *]; omega)) ht4; have hz4 := Below.size ht4; (try simp at hz4); clear ht4; simp only [Keep] at K4)
  clear K3 T3
  go_upto_region 7 with (go_at_call 13; (with_reducible refine (mul_any _ _ _ _ _).mono ?_); rintro e w5 ⟨rfl, ht5⟩; have T5 : Tr w w5 := Tr.trans (by repeat (first | exact Tr.refl _ | assumption | apply Tr.al | apply Tr.drN | apply Tr.dr | (refine Tr.set ?_ (by first | omega | (simp; omega)) _))) ht5; have K5 := Keep.tr (l := [(⟨w.heap.size, 0, none⟩, .int .i64 (an)), (⟨w.heap.size, 1, none⟩, .int .i64 (ad)), (⟨w.heap.size + 1, 0, none⟩, .int .i64 (bn)), (⟨w.heap.size + 1, 1, none⟩, .int .i64 (bd)), (⟨w2.heap.size, 0, none⟩, .int .i64 ((addS an ad bn bd).1)), (⟨w2.heap.size, 1, none⟩, .int .i64 ((addS an ad bn bd).2.1)), (⟨w3.heap.size, 0, none⟩, .int .i64 ((addS an ad bn bd).1)), (⟨w3.heap.size, 1, none⟩, .int .i64 ((addS an ad bn bd).2.1)), (⟨w4.heap.size, 0, none⟩, .int .i64 ((mulS an ad bn bd).1)), (⟨w4.heap.size, 1, none⟩, .int .i64 ((mulS an ad bn bd).2.1))]) (by first | (simp [Keep, go_sem, *]; done) | (simp [Keep, go_sem, *]; omega) | (simp (disch := first | omega | (simp; omega) | (simp; done)) [Keep, go_sem, cell_far, cell_off, RowKit.frozen?_alloc_cells, frozen_new, *]; done) | (simp (disch := first | omega | (simp; omega) | (simp; done)) [Keep, go_sem, cell_far, cell_off, RowKit.frozen?_alloc_cells, frozen_new, *]; omega)) ht5; have hz5 := Below.size ht5; (try simp at hz5); clear ht5; simp only [Keep] at K5)
  clear K4 T4
  go_upto_if 62 with (fail)
  refine wp_forget (w0 := w) [(⟨w.heap.size, 0, none⟩, .int .i64 (an)), (⟨w.heap.size, 1, none⟩, .int .i64 (ad)), (⟨w.heap.size + 1, 0, none⟩, .int .i64 (bn)), (⟨w.heap.size + 1, 1, none⟩, .int .i64 (bd)), (⟨w2.heap.size, 0, none⟩, .int .i64 ((addS an ad bn bd).1)), (⟨w2.heap.size, 1, none⟩, .int .i64 ((addS an ad bn bd).2.1)), (⟨w4.heap.size, 0, none⟩, .int .i64 ((mulS an ad bn bd).1)), (⟨w4.heap.size, 1, none⟩, .int .i64 ((mulS an ad bn bd).2.1))] (by first | (simp [Keep, go_sem, *]; done) | (simp [Keep, go_sem, *]; omega) | (simp (disch := first | omega | (simp; omega) | (simp; done)) [Keep, go_sem, cell_far, cell_off, RowKit.frozen?_alloc_cells, frozen_new, *]; done) | (simp (disch := first | omega | (simp; omega) | (simp; done)) [Keep, go_sem, cell_far, cell_off, RowKit.frozen?_alloc_cells, frozen_new, *]; omega)) (by repeat (first | exact Tr.refl _ | assumption | apply Tr.al | apply Tr.drN | apply Tr.dr | (refine Tr.set ?_ (by first | omega | (simp; omega)) _))) ?_; intro w6 hs6 K6 T6; (try simp at hs6); simp only [Keep] at K6
  clear K5 T5 hc1 hc2
  go_cut [] (fun wx => Keep wx [(⟨w.heap.size, 0, none⟩, .int .i64 (an)), (⟨w.heap.size, 1, none⟩, .int .i64 (ad)), (⟨w.heap.size + 1, 0, none⟩, .int .i64 (bn)), (⟨w.heap.size + 1, 1, none⟩, .int .i64 (bd)), (⟨w4.heap.size, 0, none⟩, .int .i64 ((mulS an ad bn bd).1)), (⟨w4.heap.size, 1, none⟩, .int .i64 ((mulS an ad bn bd).2.1))] ∧ Tr w wx)
  case first =>
    rcases ok_or (addS an ad bn bd).2.2 with ⟨e1, e1'⟩ | ⟨e1, e1'⟩
    · have e0 : (addS an ad bn bd).2.2 = 0 := by simpa using e1
      have hx := sub_addS e0
      have hv := (addS_ok e0).2.2.1
      have E0 := Lib.hid e0
      clear e0
      go_upto_region 11 with (go_at_call 14; (with_reducible refine (sub_any _ _ _ _ _).mono ?_); rintro e w7 ⟨rfl, ht7⟩; have T7 : Tr w w7 := Tr.trans (by repeat (first | exact Tr.refl _ | assumption | apply Tr.al | apply Tr.drN | apply Tr.dr | (refine Tr.set ?_ (by first | omega | (simp; omega)) _))) ht7; have K7 := Keep.tr (l := [(⟨w.heap.size, 0, none⟩, .int .i64 (an)), (⟨w.heap.size, 1, none⟩, .int .i64 (ad)), (⟨w.heap.size + 1, 0, none⟩, .int .i64 (bn)), (⟨w.heap.size + 1, 1, none⟩, .int .i64 (bd)), (⟨w2.heap.size, 0, none⟩, .int .i64 ((addS an ad bn bd).1)), (⟨w2.heap.size, 1, none⟩, .int .i64 ((addS an ad bn bd).2.1)), (⟨w4.heap.size, 0, none⟩, .int .i64 ((mulS an ad bn bd).1)), (⟨w4.heap.size, 1, none⟩, .int .i64 ((mulS an ad bn bd).2.1))]) (by first | (simp [Keep, go_sem, *]; done) | (simp [Keep, go_sem, *]; omega) | (simp (disch := first | omega | (simp; omega) | (simp; done)) [Keep, go_sem, cell_far, cell_off, RowKit.frozen?_alloc_cells, frozen_new, *]; done) | (simp (disch := first | omega | (simp; omega) | (simp; done)) [Keep, go_sem, cell_far, cell_off, RowKit.frozen?_alloc_cells, frozen_new, *]; omega)) ht7; have hz7 := Below.size ht7; (try simp at hz7); clear ht7; simp only [Keep] at K7)
      go_wp2_with (go_at_call 15; (with_reducible refine (valid_any _ _ _).mono ?_); rintro e w8 ⟨rfl, ht8⟩; have T8 : Tr w w8 := Tr.trans (by repeat (first | exact Tr.refl _ | assumption | apply Tr.al | apply Tr.drN | apply Tr.dr | (refine Tr.set ?_ (by first | omega | (simp; omega)) _))) ht8; have K8 := Keep.tr (l := [(⟨w.heap.size, 0, none⟩, .int .i64 (an)), (⟨w.heap.size, 1, none⟩, .int .i64 (ad)), (⟨w.heap.size + 1, 0, none⟩, .int .i64 (bn)), (⟨w.heap.size + 1, 1, none⟩, .int .i64 (bd)), (⟨w4.heap.size, 0, none⟩, .int .i64 ((mulS an ad bn bd).1)), (⟨w4.heap.size, 1, none⟩, .int .i64 ((mulS an ad bn bd).2.1))]) (by first | (simp [Keep, go_sem, *]; done) | (simp [Keep, go_sem, *]; omega) | (simp (disch := first | omega | (simp; omega) | (simp; done)) [Keep, go_sem, cell_far, cell_off, RowKit.frozen?_alloc_cells, frozen_new, *]; done) | (simp (disch := first | omega | (simp; omega) | (simp; done)) [Keep, go_sem, cell_far, cell_off, RowKit.frozen?_alloc_cells, frozen_new, *]; omega)) ht8; have hz8 := Below.size ht8; (try simp at hz8); clear ht8; simp only [Keep] at K8)
      go_meet
      exact ⟨(by first | (simp [Keep, go_sem, *]; done) | (simp [Keep, go_sem, *]; omega) | (simp (disch := first | omega | (simp; omega) | (simp; done)) [Keep, go_sem, cell_far, cell_off, RowKit.frozen?_alloc_cells, frozen_new, *]; done) | (simp (disch := first | omega | (simp; omega) | (simp; done)) [Keep, go_sem, cell_far, cell_off, RowKit.frozen?_alloc_cells, frozen_new, *]; omega)), (by repeat (first | exact Tr.refl _ | assumption | apply Tr.al | apply Tr.drN | apply Tr.dr | (refine Tr.set ?_ (by first | omega | (simp; omega)) _)))⟩
    · obtain ⟨z1, z2⟩ := add_err (by simpa using e1)
      go_wp2_with fail
      go_meet
      exact ⟨(by first | (simp [Keep, go_sem, *]; done) | (simp [Keep, go_sem, *]; omega) | (simp (disch := first | omega | (simp; omega) | (simp; done)) [Keep, go_sem, cell_far, cell_off, RowKit.frozen?_alloc_cells, frozen_new, *]; done) | (simp (disch := first | omega | (simp; omega) | (simp; done)) [Keep, go_sem, cell_far, cell_off, RowKit.frozen?_alloc_cells, frozen_new, *]; omega)), (by repeat (first | exact Tr.refl _ | assumption | apply Tr.al | apply Tr.drN | apply Tr.dr | (refine Tr.set ?_ (by first | omega | (simp; omega)) _)))⟩
  case rest =>
    obtain ⟨K7, T7⟩ := hcut
    simp only [Keep] at K7
    clear K6 T6
    rcases ok_or (mulS an ad bn bd).2.2 with ⟨e1, e1'⟩ | ⟨e1, e1'⟩
    · have e0 : (mulS an ad bn bd).2.2 = 0 := by simpa using e1
      by_cases hb : bn = 0
      · obtain ⟨hx, hz⟩ := div_zeroS e0 hb
        rw [hz] at hx
        have hb' : (bn == 0) = true := by simp [hb]
        have E0 := Lib.hid e0
        clear e0 hb
        go_upto_region 18 with (go_at_call 16; (with_reducible refine (div_any _ _ _ _ _).mono ?_); rintro e w8 ⟨rfl, ht8⟩; have T8 : Tr w w8 := Tr.trans (by repeat (first | exact Tr.refl _ | assumption | apply Tr.al | apply Tr.drN | apply Tr.dr | (refine Tr.set ?_ (by first | omega | (simp; omega)) _))) ht8; have K8 := Keep.tr (l := [(⟨w.heap.size, 0, none⟩, .int .i64 (an)), (⟨w.heap.size, 1, none⟩, .int .i64 (ad)), (⟨w.heap.size + 1, 0, none⟩, .int .i64 (bn)), (⟨w.heap.size + 1, 1, none⟩, .int .i64 (bd)), (⟨w4.heap.size, 0, none⟩, .int .i64 ((mulS an ad bn bd).1)), (⟨w4.heap.size, 1, none⟩, .int .i64 ((mulS an ad bn bd).2.1))]) (by first | (simp [Keep, go_sem, *]; done) | (simp [Keep, go_sem, *]; omega) | (simp (disch := first | omega | (simp; omega) | (simp; done)) [Keep, go_sem, cell_far, cell_off, RowKit.frozen?_alloc_cells, frozen_new, *]; done) | (simp (disch := first | omega | (simp; omega) | (simp; done)) [Keep, go_sem, cell_far, cell_off, RowKit.frozen?_alloc_cells, frozen_new, *]; omega)) ht8; have hz8 := Below.size ht8; (try simp at hz8); clear ht8; simp only [Keep] at K8)
        go_wp2_with fail
        go_ret
        exact ⟨rfl, (by repeat (first | exact Tr.refl _ | assumption | apply Tr.al | apply Tr.drN | apply Tr.dr | (refine Tr.set ?_ (by first | omega | (simp; omega)) _)))⟩
      · have hx := div_mulS e0 hb
        have hb' : (bn == 0) = false := by simp [hb]
        have E0 := Lib.hid e0
        clear e0 hb
        go_upto_region 18 with (go_at_call 16; (with_reducible refine (div_any _ _ _ _ _).mono ?_); rintro e w8 ⟨rfl, ht8⟩; have T8 : Tr w w8 := Tr.trans (by repeat (first | exact Tr.refl _ | assumption | apply Tr.al | apply Tr.drN | apply Tr.dr | (refine Tr.set ?_ (by first | omega | (simp; omega)) _))) ht8; have K8 := Keep.tr (l := [(⟨w.heap.size, 0, none⟩, .int .i64 (an)), (⟨w.heap.size, 1, none⟩, .int .i64 (ad)), (⟨w.heap.size + 1, 0, none⟩, .int .i64 (bn)), (⟨w.heap.size + 1, 1, none⟩, .int .i64 (bd)), (⟨w4.heap.size, 0, none⟩, .int .i64 ((mulS an ad bn bd).1)), (⟨w4.heap.size, 1, none⟩, .int .i64 ((mulS an ad bn bd).2.1))]) (by first | (simp [Keep, go_sem, *]; done) | (simp [Keep, go_sem, *]; omega) | (simp (disch := first | omega | (simp; omega) | (simp; done)) [Keep, go_sem, cell_far, cell_off, RowKit.frozen?_alloc_cells, frozen_new, *]; done) | (simp (disch := first | omega | (simp; omega) | (simp; done)) [Keep, go_sem, cell_far, cell_off, RowKit.frozen?_alloc_cells, frozen_new, *]; omega)) ht8; have hz8 := Below.size ht8; (try simp at hz8); clear ht8; simp only [Keep] at K8)
        go_wp2_with fail
        go_ret
        exact ⟨rfl, (by repeat (first | exact Tr.refl _ | assumption | apply Tr.al | apply Tr.drN | apply Tr.dr | (refine Tr.set ?_ (by first | omega | (simp; omega)) _)))⟩
    · obtain ⟨z1, z2⟩ := mul_err (by simpa using e1)
      go_wp2_with fail
      go_ret
      exact ⟨rfl, (by repeat (first | exact Tr.refl _ | assumption | apply Tr.al | apply Tr.drN | apply Tr.dr | (refine Tr.set ?_ (by first | omega | (simp; omega)) _)))⟩
end Go.Proofs.YtpjkiljgccjemaaDoor.ratioUndone
