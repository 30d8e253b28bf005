/- RatioFloors returns true for all fractions: a fraction lies between its Floor and its Ceil, which differ by 1, or are both the fraction. Condition: the library's table of powers of ten is laid. -/
import Derived.Test.YtpjkiljgccjemaaDoorLaw02
namespace Go.Proofs.YtpjkiljgccjemaaDoor.ratioFloors
set_option linter.unusedVariables false
open Go.RowKit Go.Sort

theorem make_one {p : Int} (h1 : -1152921504606846976 ≤ p) (h2 : p ≤ 1152921504606846976) : validB p 1 = true ∧ makeS p 1 = (p, 1, 0) := by
  have hv : validB p 1 = true := by rw [validB_spec]; exact ⟨by omega, by omega, h1, h2, by simp⟩
  refine ⟨hv, ?_⟩
  unfold makeS
  rw [if_neg (by decide), outQ_ratV hv]
theorem cmp_lt {an ad bn bd : Int} (va : validB an ad = true) (vb : validB bn bd = true) (h : an * bd < bn * ad) : cmpS an ad bn bd = (-1, 0) := by
  unfold cmpS cmpQ
  rw [if_pos ⟨va, vb⟩, if_pos ((lt_ratV va vb).2 h)]
theorem cmp_same {an ad : Int} (va : validB an ad = true) : cmpS an ad an ad = (0, 0) := by
  unfold cmpS cmpQ
  rw [if_pos ⟨va, va⟩, if_neg Rat.lt_irrefl, if_neg Rat.lt_irrefl]
/-- The two roundings of a valid fraction. -/
theorem rounds {n d : Int} (h : validB n d = true) : ∃ F C : Int, floorS n d = (F, 0) ∧ ceilS n d = (C, 0) ∧ makeS F 1 = (F, 1, 0) ∧ makeS C 1 = (C, 1, 0) ∧ -1152921504606846976 ≤ F ∧ F ≤ 1152921504606846976 ∧ -1152921504606846976 ≤ C ∧ C ≤ 1152921504606846976 ∧
    (((d == 1) = true ∧ (F == C) = true ∧ F ≤ C ∧ C ≤ F ∧ cmpS F 1 n d = (0, 0) ∧ cmpS n d C 1 = (0, 0)) ∨ ((d == 1) = false ∧ (F == C) = false ∧ F ≤ C ∧ C ≤ F + 1 ∧ cmpS F 1 n d = (-1, 0) ∧ cmpS n d C 1 = (-1, 0))) := by
  obtain ⟨h1, h2, h3, h4, h5⟩ := validB_spec.1 h
  have hF : floorS n d = (n / d, 0) := by unfold floorS; rw [if_pos h]
  have hC : ceilS n d = (-(-n / d), 0) := by unfold ceilS; rw [if_pos h]
  by_cases hd : d = 1
  · subst hd
    obtain ⟨v, m⟩ := make_one h3 h4
    have e1 : n / 1 = n := by omega
    have e2 : -(-n / 1) = n := by omega
    refine ⟨n, n, by rw [hF, e1], by rw [hC, e2], m, m, h3, h4, h3, h4, .inl ⟨by simp, by simp, by omega, by omega, cmp_same h, cmp_same h⟩⟩
  · obtain ⟨a1, a2, a3⟩ := quo_rem n d (by omega)
    obtain ⟨b1, b2, b3⟩ := quo_rem (-n) d (by omega)
    have hr : n % d ≠ 0 := by
      intro hz
      have hdv : d ∣ n := Int.dvd_of_emod_eq_zero hz
      have : (Int.gcd n d : Int) = d := Int.gcd_eq_right (by omega) hdv
      omega
    have key : -n / d = -(n / d) - 1 := by
      refine (div_unique (-n) d (-(n / d) - 1) (d - n % d) ?_ (by omega) (by omega)).1
      rw [Int.sub_mul, Int.neg_mul]; omega
    have q0 : -1152921504606846976 ≤ n / d := quo_le _ _ _ (by omega) (by omega)
    have q1 : n / d < 1152921504606846976 := quo_lt _ _ _ (by omega) (by omega)
    have e2 : -(-n / d) = n / d + 1 := by omega
    generalize n / d = q at *
    obtain ⟨v1, m1⟩ := make_one (p := q) q0 (by omega)
    obtain ⟨v2, m2⟩ := make_one (p := q + 1) (by omega) (by omega)
    refine ⟨q, q + 1, hF, by rw [hC, e2], m1, m2, q0, by omega, by omega, by omega, .inr ⟨by simp [hd], by simp; omega, by omega, by omega, cmp_lt v1 h (by omega), cmp_lt h v2 (by rw [Int.add_mul]; omega)⟩⟩

set_option maxRecDepth 100000 in
set_option maxHeartbeats 4000000 in
theorem walk (n d : Int) (w : World) (hT : Tab w) :
    Calls Tryd.prog 8 #[.agg #[.int .i64 n, .int .i64 d]] w fun e w' => e = .returned (.bool true) ∧ Tr w w' := by
  by_cases hv : validB n d = true
  · obtain ⟨F, C, f1, f2, m1, m2, q1, q2, q3, q4, hc⟩ := rounds hv
    rcases hc with ⟨d1, d2, d3, d4, c1, c2⟩ | ⟨d1, d2, d3, d4, c1, c2⟩
    all_goals
      go_enter Tryd.func8, Tryd.ntmps8
      go_upto_region 3 with (go_at_call 11; (with_reducible refine (awake_any _ (hT.tr (by repeat (first | exact Tr.refl _ | assumption | apply Tr.al | apply Tr.drN | apply Tr.dr | (refine Tr.set ?_ (by first | omega | (simp; omega)) _))))).mono ?_); rintro e w1 ⟨rfl, ht1⟩; have T1 : Tr w w1 := Tr.trans (by repeat (first | exact Tr.refl _ | assumption | apply Tr.al | apply Tr.drN | apply Tr.dr | (refine Tr.set ?_ (by first | omega | (simp; omega)) _))) ht1; have K1 := Keep.tr (l := [(⟨w.heap.size, 0, none⟩, .int .i64 (n)), (⟨w.heap.size, 1, none⟩, .int .i64 (d))]) (by first | (simp [Keep, go_sem, *]; done) | (simp [Keep, go_sem, *]; omega) | (simp (disch := first | omega | (simp; omega) | (simp; done)) [Keep, go_sem, cell_far, cell_off, RowKit.frozen?_alloc_cells, frozen_new, *]; done) | (simp (disch := first | omega | (simp; omega) | (simp; done)) [Keep, go_sem, cell_far, cell_off, RowKit.frozen?_alloc_cells, frozen_new, *]; omega)) ht1; have hz1 := Below.size ht1; (try simp at hz1); clear ht1; simp only [Keep] at K1)
      go_upto_region 4 with (go_at_call 19; (with_reducible refine (Floor_any _ _ _).mono ?_); rintro e w2 ⟨rfl, ht2⟩; have T2 : Tr w w2 := Tr.trans (by repeat (first | exact Tr.refl _ | assumption | apply Tr.al | apply Tr.drN | apply Tr.dr | (refine Tr.set ?_ (by first | omega | (simp; omega)) _))) ht2; have K2 := Keep.tr (l := [(⟨w.heap.size, 0, none⟩, .int .i64 (n)), (⟨w.heap.size, 1, none⟩, .int .i64 (d))]) (by first | (simp [Keep, go_sem, *]; done) | (simp [Keep, go_sem, *]; omega) | (simp (disch := first | omega | (simp; omega) | (simp; done)) [Keep, go_sem, cell_far, cell_off, RowKit.frozen?_alloc_cells, frozen_new, *]; done) | (simp (disch := first | omega | (simp; omega) | (simp; done)) [Keep, go_sem, cell_far, cell_off, RowKit.frozen?_alloc_cells, frozen_new, *]; omega)) ht2; have hz2 := Below.size ht2; (try simp at hz2); clear ht2; simp only [Keep] at K2)
      clear K1 T1
      go_upto_region 5 with (go_at_call 20; (with_reducible refine (Ceil_any _ _ _).mono ?_); rintro e w3 ⟨rfl, ht3⟩; have T3 : Tr w w3 := Tr.trans (by repeat (first | exact Tr.refl _ | assumption | apply Tr.al | apply Tr.drN | apply Tr.dr | (refine Tr.set ?_ (by first | omega | (simp; omega)) _))) ht3; have K3 := Keep.tr (l := [(⟨w.heap.size, 0, none⟩, .int .i64 (n)), (⟨w.heap.size, 1, none⟩, .int .i64 (d))]) (by first | (simp [Keep, go_sem, *]; done) | (simp [Keep, go_sem, *]; omega) | (simp (disch := first | omega | (simp; omega) | (simp; done)) [Keep, go_sem, cell_far, cell_off, RowKit.frozen?_alloc_cells, frozen_new, *]; done) | (simp (disch := first | omega | (simp; omega) | (simp; done)) [Keep, go_sem, cell_far, cell_off, RowKit.frozen?_alloc_cells, frozen_new, *]; omega)) ht3; have hz3 := Below.size ht3; (try simp at hz3); clear ht3; simp only [Keep] at K3)
      clear K2 T2
      go_upto_region 8 with (go_at_call 17; (with_reducible refine (make_any F 1 _ (by omega) (by omega) (by decide) (by decide)).mono ?_); rintro e w4 ⟨rfl, ht4⟩; have T4 : Tr w w4 := Tr.trans (by repeat (first | exact Tr.refl _ | assumption | apply Tr.al | apply Tr.drN | apply Tr.dr | (refine Tr.set ?_ (by first | omega | (simp; omega)) _))) ht4; have K4 := Keep.tr (l := [(⟨w.heap.size, 0, none⟩, .int .i64 (n)), (⟨w.heap.size, 1, none⟩, .int .i64 (d))]) (by first | (simp [Keep, go_sem, *]; done) | (simp [Keep, go_sem, *]; omega) | (simp (disch := first | omega | (simp; omega) | (simp; done)) [Keep, go_sem, cell_far, cell_off, RowKit.frozen?_alloc_cells, frozen_new, *]; done) | (simp (disch := first | omega | (simp; omega) | (simp; done)) [Keep, go_sem, cell_far, cell_off, RowKit.frozen?_alloc_cells, frozen_new, *]; omega)) ht4; have hz4 := Below.size ht4; (try simp at hz4); clear ht4; simp only [Keep] at K4)
      clear K3 T3
      go_upto_region 9 with (go_at_call 17; (with_reducible refine (make_any C 1 _ (by omega) (by omega) (by decide) (by decide)).mono ?_); rintro e w5 ⟨rfl, ht5⟩; have T5 : Tr w w5 := Tr.trans (by repeat (first | exact Tr.refl _ | assumption | apply Tr.al | apply Tr.drN | apply Tr.dr | (refine Tr.set ?_ (by first | omega | (simp; omega)) _))) ht5; have K5 := Keep.tr (l := [(⟨w.heap.size, 0, none⟩, .int .i64 (n)), (⟨w.heap.size, 1, none⟩, .int .i64 (d)), (⟨w4.heap.size, 0, none⟩, .int .i64 (F)), (⟨w4.heap.size, 1, none⟩, .int .i64 (1))]) (by first | (simp [Keep, go_sem, *]; done) | (simp [Keep, go_sem, *]; omega) | (simp (disch := first | omega | (simp; omega) | (simp; done)) [Keep, go_sem, cell_far, cell_off, RowKit.frozen?_alloc_cells, frozen_new, *]; done) | (simp (disch := first | omega | (simp; omega) | (simp; done)) [Keep, go_sem, cell_far, cell_off, RowKit.frozen?_alloc_cells, frozen_new, *]; omega)) ht5; have hz5 := Below.size ht5; (try simp at hz5); clear ht5; simp only [Keep] at K5)
      clear K4 T4
      go_upto_region 12 with (go_at_call 25; (with_reducible refine (cmp_any _ _ _ _ _).mono ?_); rintro e w6 ⟨rfl, ht6⟩; have T6 : Tr w w6 := Tr.trans (by repeat (first | exact Tr.refl _ | assumption | apply Tr.al | apply Tr.drN | apply Tr.dr | (refine Tr.set ?_ (by first | omega | (simp; omega)) _))) ht6; have K6 := Keep.tr (l := [(⟨w.heap.size, 0, none⟩, .int .i64 (n)), (⟨w.heap.size, 1, none⟩, .int .i64 (d)), (⟨w5.heap.size, 0, none⟩, .int .i64 (C)), (⟨w5.heap.size, 1, none⟩, .int .i64 (1))]) (by first | (simp [Keep, go_sem, *]; done) | (simp [Keep, go_sem, *]; omega) | (simp (disch := first | omega | (simp; omega) | (simp; done)) [Keep, go_sem, cell_far, cell_off, RowKit.frozen?_alloc_cells, frozen_new, *]; done) | (simp (disch := first | omega | (simp; omega) | (simp; done)) [Keep, go_sem, cell_far, cell_off, RowKit.frozen?_alloc_cells, frozen_new, *]; omega)) ht6; have hz6 := Below.size ht6; (try simp at hz6); clear ht6; simp only [Keep] at K6)
      clear K5 T5
      go_upto_region 13 with (go_at_call 25; (with_reducible refine (cmp_any _ _ _ _ _).mono ?_); rintro e w7 ⟨rfl, ht7⟩; have T7 : Tr w w7 := Tr.trans (by repeat (first | exact Tr.refl _ | assumption | apply Tr.al | apply Tr.drN | apply Tr.dr | (refine Tr.set ?_ (by first | omega | (simp; omega)) _))) ht7; have K7 := Keep.tr (l := [(⟨w.heap.size, 0, none⟩, .int .i64 (n)), (⟨w.heap.size, 1, none⟩, .int .i64 (d))]) (by first | (simp [Keep, go_sem, *]; done) | (simp [Keep, go_sem, *]; omega) | (simp (disch := first | omega | (simp; omega) | (simp; done)) [Keep, go_sem, cell_far, cell_off, RowKit.frozen?_alloc_cells, frozen_new, *]; done) | (simp (disch := first | omega | (simp; omega) | (simp; done)) [Keep, go_sem, cell_far, cell_off, RowKit.frozen?_alloc_cells, frozen_new, *]; omega)) ht7; have hz7 := Below.size ht7; (try simp at hz7); clear ht7; simp only [Keep] at K7)
      clear K6 T6
      go_wp2_with fail
      go_ret
      exact ⟨ret_bool (decide_eq_true (by omega)), (by repeat (first | exact Tr.refl _ | assumption | apply Tr.al | apply Tr.drN | apply Tr.dr | (refine Tr.set ?_ (by first | omega | (simp; omega)) _)))⟩
  · have hv' : validB n d = false := by simpa using hv
    have f1 : floorS n d = (0, 1) := by unfold floorS; rw [if_neg hv]
    have f2 : ceilS n d = (0, 1) := by unfold ceilS; rw [if_neg hv]
    clear hv
    go_enter Tryd.func8, Tryd.ntmps8
    go_upto_region 3 with (go_at_call 11; (with_reducible refine (awake_any _ (hT.tr (by repeat (first | exact Tr.refl _ | assumption | apply Tr.al | apply Tr.drN | apply Tr.dr | (refine Tr.set ?_ (by first | omega | (simp; omega)) _))))).mono ?_); rintro e w1 ⟨rfl, ht1⟩; have T1 : Tr w w1 := Tr.trans (by repeat (first | exact Tr.refl _ | assumption | apply Tr.al | apply Tr.drN | apply Tr.dr | (refine Tr.set ?_ (by first | omega | (simp; omega)) _))) ht1; have K1 := Keep.tr (l := [(⟨w.heap.size, 0, none⟩, .int .i64 (n)), (⟨w.heap.size, 1, none⟩, .int .i64 (d))]) (by first | (simp [Keep, go_sem, *]; done) | (simp [Keep, go_sem, *]; omega) | (simp (disch := first | omega | (simp; omega) | (simp; done)) [Keep, go_sem, cell_far, cell_off, RowKit.frozen?_alloc_cells, frozen_new, *]; done) | (simp (disch := first | omega | (simp; omega) | (simp; done)) [Keep, go_sem, cell_far, cell_off, RowKit.frozen?_alloc_cells, frozen_new, *]; omega)) ht1; have hz1 := Below.size ht1; (try simp at hz1); clear ht1; simp only [Keep] at K1)
    go_upto_region 4 with (go_at_call 19; (with_reducible refine (Floor_any _ _ _).mono ?_); rintro e w2 ⟨rfl, ht2⟩; have T2 : Tr w w2 := Tr.trans (by repeat (first | exact Tr.refl _ | assumption | apply Tr.al | apply Tr.drN | apply Tr.dr | (refine Tr.set ?_ (by first | omega | (simp; omega)) _))) ht2; have K2 := Keep.tr (l := [(⟨w.heap.size, 0, none⟩, .int .i64 (n)), (⟨w.heap.size, 1, none⟩, .int .i64 (d))]) (by first | (simp [Keep, go_sem, *]; done) | (simp [Keep, go_sem, *]; omega) | (simp (disch := first | omega | (simp; omega) | (simp; done)) [Keep, go_sem, cell_far, cell_off, RowKit.frozen?_alloc_cells, frozen_new, *]; done) | (simp (disch := first | omega | (simp; omega) | (simp; done)) [Keep, go_sem, cell_far, cell_off, RowKit.frozen?_alloc_cells, frozen_new, *]; omega)) ht2; have hz2 := Below.size ht2; (try simp at hz2); clear ht2; simp only [Keep] at K2)
    clear K1 T1
    go_upto_region 5 with (go_at_call 20; (with_reducible refine (Ceil_any _ _ _).mono ?_); rintro e w3 ⟨rfl, ht3⟩; have T3 : Tr w w3 := Tr.trans (by repeat (first | exact Tr.refl _ | assumption | apply Tr.al | apply Tr.drN | apply Tr.dr | (refine Tr.set ?_ (by first | omega | (simp; omega)) _))) ht3; have K3 := Keep.tr (l := [(⟨w.heap.size, 0, none⟩, .int .i64 (n)), (⟨w.heap.size, 1, none⟩, .int .i64 (d))]) (by first | (simp [Keep, go_sem, *]; done) | (simp [Keep, go_sem, *]; omega) | (simp (disch := first | omega | (simp; omega) | (simp; done)) [Keep, go_sem, cell_far, cell_off, RowKit.frozen?_alloc_cells, frozen_new, *]; done) | (simp (disch := first | omega | (simp; omega) | (simp; done)) [Keep, go_sem, cell_far, cell_off, RowKit.frozen?_alloc_cells, frozen_new, *]; omega)) ht3; have hz3 := Below.size ht3; (try simp at hz3); clear ht3; simp only [Keep] at K3)
    clear K2 T2
    go_wp2_with (go_at_call 15; (with_reducible refine (valid_any _ _ _).mono ?_); rintro e w4 ⟨rfl, ht4⟩; have T4 : Tr w w4 := Tr.trans (by repeat (first | exact Tr.refl _ | assumption | apply Tr.al | apply Tr.drN | apply Tr.dr | (refine Tr.set ?_ (by first | omega | (simp; omega)) _))) ht4; have K4 := Keep.tr (l := [(⟨w.heap.size, 0, none⟩, .int .i64 (n)), (⟨w.heap.size, 1, none⟩, .int .i64 (d))]) (by first | (simp [Keep, go_sem, *]; done) | (simp [Keep, go_sem, *]; omega) | (simp (disch := first | omega | (simp; omega) | (simp; done)) [Keep, go_sem, cell_far, cell_off, RowKit.frozen?_alloc_cells, frozen_new, *]; done) | (simp (disch := first | omega | (simp; omega) | (simp; done)) [Keep, go_sem, cell_far, cell_off, RowKit.frozen?_alloc_cells, frozen_new, *]; omega)) ht4; have hz4 := Below.size ht4; (try simp at hz4); clear ht4; simp only [Keep] at K4)
    go_ret
    exact ⟨rfl, (by repeat (first | exact Tr.refl _ | assumption | apply Tr.al | apply Tr.drN | apply Tr.dr | (refine Tr.set ?_ (by first | omega | (simp; omega)) _)))⟩
end Go.Proofs.YtpjkiljgccjemaaDoor.ratioFloors
