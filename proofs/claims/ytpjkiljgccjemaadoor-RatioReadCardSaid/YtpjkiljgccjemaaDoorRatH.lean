/- Contract of ratio.Mul: the walks. -/
import Derived.Test.YtpjkiljgccjemaaDoorRatG
namespace Go.Proofs.YtpjkiljgccjemaaDoor
open Go.RowKit Go.Sort

set_option maxRecDepth 100000 in
set_option maxHeartbeats 2000000 in
theorem mul_core (an ad bn bd G H p q r t NC D : Int) (neg : Bool) (w : World) (va : validB an ad = true) (vb : validB bn bd = true)
    (a1 : 1 ≤ ad) (a2 : ad ≤ 1152921504606846976) (a3 : -1152921504606846976 ≤ an) (a4 : an ≤ 1152921504606846976)
    (b1 : 1 ≤ bd) (b2 : bd ≤ 1152921504606846976) (b3 : -1152921504606846976 ≤ bn) (b4 : bn ≤ 1152921504606846976)
    (hG : (Int.gcd (an.natAbs : Int) bd : Int) = G) (g1 : 1 ≤ G) (hH : (Int.gcd (bn.natAbs : Int) ad : Int) = H) (g2 : 1 ≤ H)
    (hp : (an.natAbs : Int) / G = p) (hq : (bn.natAbs : Int) / H = q) (hr : ad / H = r) (ht : bd / G = t)
    (p1 : 0 ≤ p) (p2 : p ≤ 1152921504606846976) (q1 : 0 ≤ q) (q2 : q ≤ 1152921504606846976) (r1 : 0 ≤ r) (r2 : r ≤ 1152921504606846976) (t1 : 0 ≤ t) (t2 : t ≤ 1152921504606846976)
    (hNC : p * q = NC) (n1 : 0 ≤ NC) (hD : r * t = D) (d1 : 1 ≤ D)
    (on od oe : Int) (hout : (0 < NC / 18446744073709551616 ∧ Hid (on = 0 ∧ od = 0 ∧ oe = 5)) ∨ (NC / 18446744073709551616 = 0 ∧ 0 < D / 18446744073709551616 ∧ Hid (on = 0 ∧ od = 0 ∧ oe = 5)) ∨
      (NC / 18446744073709551616 = 0 ∧ D / 18446744073709551616 = 0 ∧ (1152921504606846976 < NC ∨ 1152921504606846976 < D) ∧ (NC % 18446744073709551616 = NC ∧ D % 18446744073709551616 = D) ∧ Hid (on = 0 ∧ od = 0 ∧ oe = 5)) ∨
      (NC / 18446744073709551616 = 0 ∧ D / 18446744073709551616 = 0 ∧ NC ≤ 1152921504606846976 ∧ D ≤ 1152921504606846976 ∧ NC % 18446744073709551616 = NC ∧ D % 18446744073709551616 = D ∧ Hid (on = (if neg then -NC else NC) ∧ od = D ∧ oe = 0)))
    (hsign : (decide (0 < NC) = false ∧ neg = false) ∨ (decide (0 < NC) = true ∧ decide (an < 0) = true ∧ decide (bn < 0) = true ∧ neg = false) ∨ (decide (0 < NC) = true ∧ decide (an < 0) = true ∧ decide (bn < 0) = false ∧ neg = true) ∨
      (decide (0 < NC) = true ∧ decide (an < 0) = false ∧ decide (bn < 0) = true ∧ neg = true) ∨ (decide (0 < NC) = true ∧ decide (an < 0) = false ∧ decide (bn < 0) = false ∧ neg = false)) :
    Calls Tryd.prog 13 #[.agg #[.int .i64 an, .int .i64 ad], .agg #[.int .i64 bn, .int .i64 bd]] w fun e w' =>
      e = .returned (.tuple #[.agg #[.int .i64 on, .int .i64 od], .int .i64 oe]) ∧ Tr w w' := by
  go_enter Tryd.func13, Tryd.ntmps13
  go_wp2_with (go_at_call 15; (with_reducible refine (valid_any _ _ _).mono ?_); rintro e w1 ⟨rfl, ht1⟩; have T1 : Tr w w1 := Tr.trans (by repeat (first | exact Tr.refl _ | assumption | apply Tr.al | apply Tr.drN | apply Tr.dr | (refine Tr.set ?_ (by first | omega | (simp; done) | (simp; omega)) _))) ht1; have K1 := Keep.tr (l := [(⟨w.heap.size, 0, none⟩, .int .i64 an), (⟨w.heap.size, 1, none⟩, .int .i64 ad), (⟨w.heap.size + 1, 0, none⟩, .int .i64 bn), (⟨w.heap.size + 1, 1, none⟩, .int .i64 bd), (⟨w.heap.size + 1 + 1, 0, none⟩, .int .i64 0), (⟨w.heap.size + 1 + 1, 1, none⟩, .int .i64 0)]) (by first | (simp [Keep, go_sem, *]; done) | (simp [Keep, go_sem, *]; omega) | (simp (disch := first | omega | (simp; omega) | (simp; done)) [Keep, go_sem, cell_far, cell_off, RowKit.frozen?_alloc_cells, frozen_new, *]; done) | (simp (disch := first | omega | (simp; omega) | (simp; done)) [Keep, go_sem, cell_far, cell_off, RowKit.frozen?_alloc_cells, frozen_new, *]; omega)) ht1; have hz1 := Below.size ht1; (try simp at hz1); clear ht1; simp only [Keep] at K1)
  refine wp_region_mix0 16 (by kernel_rfl) (by kernel_rfl) ?_
  intro w3 hw3
  have k3 := Keep.cl (l := [(⟨w.heap.size, 0, none⟩, .int .i64 an), (⟨w.heap.size, 1, none⟩, .int .i64 ad), (⟨w.heap.size + 1, 0, none⟩, .int .i64 bn), (⟨w.heap.size + 1, 1, none⟩, .int .i64 bd), (⟨w.heap.size + 1 + 1, 0, none⟩, .int .i64 0), (⟨w.heap.size + 1 + 1, 1, none⟩, .int .i64 0)]) (by first | (simp [Keep, go_sem, *]; done) | (simp [Keep, go_sem, *]; omega) | (simp (disch := first | omega | (simp; omega) | (simp; done)) [Keep, go_sem, cell_far, cell_off, RowKit.frozen?_alloc_cells, frozen_new, *]; done) | (simp (disch := first | omega | (simp; omega) | (simp; done)) [Keep, go_sem, cell_far, cell_off, RowKit.frozen?_alloc_cells, frozen_new, *]; omega)) hw3
  simp only [KeepCl] at k3
  simp only [List.take_succ_cons, List.take_zero, List.drop_succ_cons, List.drop_zero]
  repeat (go_big_quiet_step (first
    | (go_at_call 42; exact calls_cl_same (size_any _ (by omega) (by omega) _))
    | (go_at_call 40; exact calls_cl_drew (gcd_any _ _ _ (by omega) (by omega) (by omega) (by omega)))))
  refine wpQuiet_nil ?_
  intro w4 ht4
  have K4 := Keep.tr (l := [(⟨w.heap.size, 0, none⟩, .int .i64 an), (⟨w.heap.size, 1, none⟩, .int .i64 ad), (⟨w.heap.size + 1, 0, none⟩, .int .i64 bn), (⟨w.heap.size + 1, 1, none⟩, .int .i64 bd), (⟨w.heap.size + 1 + 1, 0, none⟩, .int .i64 0), (⟨w.heap.size + 1 + 1, 1, none⟩, .int .i64 0)]) (by first | (simp [Keep, go_sem, *]; done) | (simp [Keep, go_sem, *]; omega) | (simp (disch := first | omega | (simp; omega) | (simp; done)) [Keep, go_sem, cell_far, cell_off, RowKit.frozen?_alloc_cells, frozen_new, *]; done) | (simp (disch := first | omega | (simp; omega) | (simp; done)) [Keep, go_sem, cell_far, cell_off, RowKit.frozen?_alloc_cells, frozen_new, *]; omega)) ht4
  have T4 : Tr w w4 := Tr.trans (by repeat (first | exact Tr.refl _ | assumption | apply Tr.al | apply Tr.drN | apply Tr.dr | (refine Tr.set ?_ (by first | omega | (simp; done) | (simp; omega)) _))) ht4
  have hs4 := Below.size ht4
  (try simp at hs4)
  simp only [Keep] at K4
  clear ht4 hw3 k3
  clear K1 T1
  go_upto_region 4 with (fail)
  refine wp_region_mix2 22 #[.int .u64 0, .int .u64 0] 59 _ #[.int .u64 0, .int .u64 0] 59 _ (by kernel_rfl) (by kernel_rfl) rfl (makesWide _ rfl rfl) rfl (makesWide _ rfl rfl) (by decide) ?_
  intro w5 hw5
  have k5 := Keep.cl (l := [(⟨w.heap.size, 0, none⟩, .int .i64 an), (⟨w.heap.size, 1, none⟩, .int .i64 ad), (⟨w.heap.size + 1, 0, none⟩, .int .i64 bn), (⟨w.heap.size + 1, 1, none⟩, .int .i64 bd), (⟨w.heap.size + 1 + 1, 0, none⟩, .int .i64 0), (⟨w.heap.size + 1 + 1, 1, none⟩, .int .i64 0)]) (by first | (simp [Keep, go_sem, *]; done) | (simp [Keep, go_sem, *]; omega) | (simp (disch := first | omega | (simp; omega) | (simp; done)) [Keep, go_sem, cell_far, cell_off, RowKit.frozen?_alloc_cells, frozen_new, *]; done) | (simp (disch := first | omega | (simp; omega) | (simp; done)) [Keep, go_sem, cell_far, cell_off, RowKit.frozen?_alloc_cells, frozen_new, *]; omega)) hw5
  simp only [KeepCl] at k5
  simp only [List.take_succ_cons, List.take_zero, List.drop_succ_cons, List.drop_zero]
  repeat (go_big_quiet_step (first
    | (go_at_call 42; exact calls_cl_same (size_any _ (by omega) (by omega) _))
    | (go_at_call 41; exact calls_cl (product_any _ _ _ (by omega) (by omega) (by omega) (by omega)))))
  refine wpQuiet_nil ?_
  intro b b' w' hb hb' hne ht hz hz'
  have Kb := Keep.at2 hz; have Kb' := Keep.at2 hz'; have K0 := Keep.tr (l := [(⟨w.heap.size, 0, none⟩, .int .i64 an), (⟨w.heap.size, 1, none⟩, .int .i64 ad), (⟨w.heap.size + 1, 0, none⟩, .int .i64 bn), (⟨w.heap.size + 1, 1, none⟩, .int .i64 bd), (⟨w.heap.size + 1 + 1, 0, none⟩, .int .i64 0), (⟨w.heap.size + 1 + 1, 1, none⟩, .int .i64 0)]) (by first | (simp [Keep, go_sem, *]; done) | (simp [Keep, go_sem, *]; omega) | (simp (disch := first | omega | (simp; omega) | (simp; done)) [Keep, go_sem, cell_far, cell_off, RowKit.frozen?_alloc_cells, frozen_new, *]; done) | (simp (disch := first | omega | (simp; omega) | (simp; done)) [Keep, go_sem, cell_far, cell_off, RowKit.frozen?_alloc_cells, frozen_new, *]; omega)) ht; have T0 : Tr w w' := Tr.trans (by repeat (first | exact Tr.refl _ | assumption | apply Tr.al | apply Tr.drN | apply Tr.dr | (refine Tr.set ?_ (by first | omega | (simp; done) | (simp; omega)) _))) ht; have hs0 := Below.size ht; have hbl := lt_of_block hz; have hbl' := lt_of_block hz'; (try simp at hb); (try simp at hb'); (try simp at hs0); simp only [Keep] at Kb Kb' K0; clear ht hz hz'
  clear hw5 k5
  simp only [Act.put, List.setIfInBounds_toArray, List.set_cons_succ, List.set_cons_zero]
  go_upto_region 5 with (fail)
  refine wp_forget (w0 := w) [(⟨w.heap.size, 0, none⟩, .int .i64 (an)), (⟨w.heap.size, 1, none⟩, .int .i64 (ad)), (⟨w.heap.size + 1, 0, none⟩, .int .i64 (bn)), (⟨w.heap.size + 1, 1, none⟩, .int .i64 (bd)), (⟨w.heap.size + 1 + 1, 0, none⟩, .int .i64 (0)), (⟨w.heap.size + 1 + 1, 1, none⟩, .int .i64 (0)), (⟨b, 0, none⟩, .int .u64 (NC / 18446744073709551616)), (⟨b, 1, none⟩, .int .u64 (NC % 18446744073709551616)), (⟨b', 0, none⟩, .int .u64 (D / 18446744073709551616)), (⟨b', 1, none⟩, .int .u64 (D % 18446744073709551616))] (by first | (simp [Keep, go_sem, *]; done) | (simp [Keep, go_sem, *]; omega) | (simp (disch := first | omega | (simp; omega) | (simp; done)) [Keep, go_sem, cell_far, cell_off, RowKit.frozen?_alloc_cells, frozen_new, *]; done) | (simp (disch := first | omega | (simp; omega) | (simp; done)) [Keep, go_sem, cell_far, cell_off, RowKit.frozen?_alloc_cells, frozen_new, *]; omega)) (by repeat (first | exact Tr.refl _ | assumption | apply Tr.al | apply Tr.drN | apply Tr.dr | (refine Tr.set ?_ (by first | omega | (simp; done) | (simp; omega)) _))) ?_; intro w6 hs6 K6 T6; (try simp at hs6); simp only [Keep] at K6
  clear Kb Kb' K0 T0 K4 T4
  rcases hout with ⟨o1, o2⟩ | ⟨o1, o3, o2⟩ | ⟨o1, o3, o4, o5, o2⟩ | ⟨o1, o3, o4, o5, o6, o7, o2⟩
  · clear hsign
    go_wp2_with fail
    obtain ⟨rfl, rfl, rfl⟩ := o2.out
    simp [bodyPost, results, Tryd.results13, go_sem, *]
    exact (by repeat (first | exact Tr.refl _ | assumption | apply Tr.al | apply Tr.drN | apply Tr.dr | (refine Tr.set ?_ (by first | omega | (simp; done) | (simp; omega)) _)))
  · clear hsign
    go_wp2_with fail
    obtain ⟨rfl, rfl, rfl⟩ := o2.out
    simp [bodyPost, results, Tryd.results13, go_sem, *]
    exact (by repeat (first | exact Tr.refl _ | assumption | apply Tr.al | apply Tr.drN | apply Tr.dr | (refine Tr.set ?_ (by first | omega | (simp; done) | (simp; omega)) _)))
  all_goals
    rcases hsign with ⟨s1, rfl⟩ | ⟨s1, s2, s3, rfl⟩ | ⟨s1, s2, s3, rfl⟩ | ⟨s1, s2, s3, rfl⟩ | ⟨s1, s2, s3, rfl⟩
    all_goals
      go_wp2_with (first
        | (go_at_call 47; (with_reducible refine (signed_big _ NC D _ o4).mono ?_); rintro e w1 ⟨rfl, ht1⟩; have T1 : Tr w w1 := Tr.trans (by repeat (first | exact Tr.refl _ | assumption | apply Tr.al | apply Tr.drN | apply Tr.dr | (refine Tr.set ?_ (by first | omega | (simp; done) | (simp; omega)) _))) ht1; have K1 := Keep.tr (l := [(⟨w.heap.size, 0, none⟩, .int .i64 (an)), (⟨w.heap.size, 1, none⟩, .int .i64 (ad)), (⟨w.heap.size + 1, 0, none⟩, .int .i64 (bn)), (⟨w.heap.size + 1, 1, none⟩, .int .i64 (bd)), (⟨w.heap.size + 1 + 1, 0, none⟩, .int .i64 (0)), (⟨w.heap.size + 1 + 1, 1, none⟩, .int .i64 (0)), (⟨b, 0, none⟩, .int .u64 (NC / 18446744073709551616)), (⟨b, 1, none⟩, .int .u64 (NC % 18446744073709551616)), (⟨b', 0, none⟩, .int .u64 (D / 18446744073709551616)), (⟨b', 1, none⟩, .int .u64 (D % 18446744073709551616))]) (by first | (simp [Keep, go_sem, *]; done) | (simp [Keep, go_sem, *]; omega) | (simp (disch := first | omega | (simp; omega) | (simp; done)) [Keep, go_sem, cell_far, cell_off, RowKit.frozen?_alloc_cells, frozen_new, *]; done) | (simp (disch := first | omega | (simp; omega) | (simp; done)) [Keep, go_sem, cell_far, cell_off, RowKit.frozen?_alloc_cells, frozen_new, *]; omega)) ht1; have hz1 := Below.size ht1; (try simp at hz1); clear ht1; simp only [Keep] at K1)
        | (go_at_call 47; (with_reducible refine (signed_fits _ NC D _ (by omega) (by omega) (by omega) (by omega)).mono ?_); rintro e w1 ⟨rfl, ht1⟩; have T1 : Tr w w1 := Tr.trans (by repeat (first | exact Tr.refl _ | assumption | apply Tr.al | apply Tr.drN | apply Tr.dr | (refine Tr.set ?_ (by first | omega | (simp; done) | (simp; omega)) _))) ht1; have K1 := Keep.tr (l := [(⟨w.heap.size, 0, none⟩, .int .i64 (an)), (⟨w.heap.size, 1, none⟩, .int .i64 (ad)), (⟨w.heap.size + 1, 0, none⟩, .int .i64 (bn)), (⟨w.heap.size + 1, 1, none⟩, .int .i64 (bd)), (⟨w.heap.size + 1 + 1, 0, none⟩, .int .i64 (0)), (⟨w.heap.size + 1 + 1, 1, none⟩, .int .i64 (0)), (⟨b, 0, none⟩, .int .u64 (NC / 18446744073709551616)), (⟨b, 1, none⟩, .int .u64 (NC % 18446744073709551616)), (⟨b', 0, none⟩, .int .u64 (D / 18446744073709551616)), (⟨b', 1, none⟩, .int .u64 (D % 18446744073709551616))]) (by first | (simp [Keep, go_sem, *]; done) | (simp [Keep, go_sem, *]; omega) | (simp (disch := first | omega | (simp; omega) | (simp; done)) [Keep, go_sem, cell_far, cell_off, RowKit.frozen?_alloc_cells, frozen_new, *]; done) | (simp (disch := first | omega | (simp; omega) | (simp; done)) [Keep, go_sem, cell_far, cell_off, RowKit.frozen?_alloc_cells, frozen_new, *]; omega)) ht1; have hz1 := Below.size ht1; (try simp at hz1); clear ht1; simp only [Keep] at K1))
      obtain ⟨rfl, rfl, rfl⟩ := o2.out
      simp [bodyPost, results, Tryd.results13, go_sem, *]
      exact (by repeat (first | exact Tr.refl _ | assumption | apply Tr.al | apply Tr.drN | apply Tr.dr | (refine Tr.set ?_ (by first | omega | (simp; done) | (simp; omega)) _)))

theorem mul_no1 (an ad bn bd : Int) (w : World) (va : validB an ad = false) :
    Calls Tryd.prog 13 #[.agg #[.int .i64 an, .int .i64 ad], .agg #[.int .i64 bn, .int .i64 bd]] w fun e w' =>
      e = .returned (.tuple #[.agg #[.int .i64 0, .int .i64 0], .int .i64 1]) ∧ Tr w w' := by
  go_enter Tryd.func13, Tryd.ntmps13
  go_wp2_with (go_at_call 15; (with_reducible refine (valid_any _ _ _).mono ?_); rintro e w1 ⟨rfl, ht1⟩; have T1 : Tr w w1 := Tr.trans (by repeat (first | exact Tr.refl _ | assumption | apply Tr.al | apply Tr.drN | apply Tr.dr | (refine Tr.set ?_ (by first | omega | (simp; done) | (simp; omega)) _))) ht1; have K1 := Keep.tr (l := [(⟨w.heap.size, 0, none⟩, .int .i64 an), (⟨w.heap.size, 1, none⟩, .int .i64 ad), (⟨w.heap.size + 1, 0, none⟩, .int .i64 bn), (⟨w.heap.size + 1, 1, none⟩, .int .i64 bd), (⟨w.heap.size + 1 + 1, 0, none⟩, .int .i64 0), (⟨w.heap.size + 1 + 1, 1, none⟩, .int .i64 0)]) (by first | (simp [Keep, go_sem, *]; done) | (simp [Keep, go_sem, *]; omega) | (simp (disch := first | omega | (simp; omega) | (simp; done)) [Keep, go_sem, cell_far, cell_off, RowKit.frozen?_alloc_cells, frozen_new, *]; done) | (simp (disch := first | omega | (simp; omega) | (simp; done)) [Keep, go_sem, cell_far, cell_off, RowKit.frozen?_alloc_cells, frozen_new, *]; omega)) ht1; have hz1 := Below.size ht1; (try simp at hz1); clear ht1; simp only [Keep] at K1)
  simp [bodyPost, results, Tryd.results13, go_sem, *]
  exact (by repeat (first | exact Tr.refl _ | assumption | apply Tr.al | apply Tr.drN | apply Tr.dr | (refine Tr.set ?_ (by first | omega | (simp; done) | (simp; omega)) _)))
theorem mul_no2 (an ad bn bd : Int) (w : World) (va : validB an ad = true) (vb : validB bn bd = false) :
    Calls Tryd.prog 13 #[.agg #[.int .i64 an, .int .i64 ad], .agg #[.int .i64 bn, .int .i64 bd]] w fun e w' =>
      e = .returned (.tuple #[.agg #[.int .i64 0, .int .i64 0], .int .i64 1]) ∧ Tr w w' := by
  go_enter Tryd.func13, Tryd.ntmps13
  go_wp2_with (go_at_call 15; (with_reducible refine (valid_any _ _ _).mono ?_); rintro e w1 ⟨rfl, ht1⟩; have T1 : Tr w w1 := Tr.trans (by repeat (first | exact Tr.refl _ | assumption | apply Tr.al | apply Tr.drN | apply Tr.dr | (refine Tr.set ?_ (by first | omega | (simp; done) | (simp; omega)) _))) ht1; have K1 := Keep.tr (l := [(⟨w.heap.size, 0, none⟩, .int .i64 an), (⟨w.heap.size, 1, none⟩, .int .i64 ad), (⟨w.heap.size + 1, 0, none⟩, .int .i64 bn), (⟨w.heap.size + 1, 1, none⟩, .int .i64 bd), (⟨w.heap.size + 1 + 1, 0, none⟩, .int .i64 0), (⟨w.heap.size + 1 + 1, 1, none⟩, .int .i64 0)]) (by first | (simp [Keep, go_sem, *]; done) | (simp [Keep, go_sem, *]; omega) | (simp (disch := first | omega | (simp; omega) | (simp; done)) [Keep, go_sem, cell_far, cell_off, RowKit.frozen?_alloc_cells, frozen_new, *]; done) | (simp (disch := first | omega | (simp; omega) | (simp; done)) [Keep, go_sem, cell_far, cell_off, RowKit.frozen?_alloc_cells, frozen_new, *]; omega)) ht1; have hz1 := Below.size ht1; (try simp at hz1); clear ht1; simp only [Keep] at K1)
  simp [bodyPost, results, Tryd.results13, go_sem, *]
  exact (by repeat (first | exact Tr.refl _ | assumption | apply Tr.al | apply Tr.drN | apply Tr.dr | (refine Tr.set ?_ (by first | omega | (simp; done) | (simp; omega)) _)))
end Go.Proofs.YtpjkiljgccjemaaDoor
