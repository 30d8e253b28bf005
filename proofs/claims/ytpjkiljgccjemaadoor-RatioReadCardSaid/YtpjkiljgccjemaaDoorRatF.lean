/- ratio.Add, where the sum is 0 and where an argument is not valid. -/
import Derived.Test.YtpjkiljgccjemaaDoorRatE
namespace Go.Proofs.YtpjkiljgccjemaaDoor
set_option linter.unusedVariables false
open Go.RowKit Go.Sort

set_option maxRecDepth 100000 in
set_option maxHeartbeats 2000000 in
theorem add_zero (an ad bn bd G bG aG X Y N R C NC bC D : Int) (neg : Bool) (w : World) (va : validB an ad = true) (vb : validB bn bd = true)
    (a1 : 1 ≤ ad) (a2 : ad ≤ 1152921504606846976) (a3 : -1152921504606846976 ≤ an) (a4 : an ≤ 1152921504606846976)
    (b1 : 1 ≤ bd) (b2 : bd ≤ 1152921504606846976) (b3 : -1152921504606846976 ≤ bn) (b4 : bn ≤ 1152921504606846976)
    (hG : (Int.gcd ad bd : Int) = G) (g1 : 1 ≤ G) (g2 : G ≤ 1152921504606846976) (hbG : bd / G = bG) (haG : ad / G = aG)
    (c1 : 1 ≤ bG) (c2 : bG ≤ 1152921504606846976) (c3 : 1 ≤ aG) (c4 : aG ≤ 1152921504606846976)
    (hX : (an.natAbs : Int) * bG = X) (hY : (bn.natAbs : Int) * aG = Y) (x1 : 0 ≤ X) (x2 : X ≤ 1329227995784915872903807060280344576) (y1 : 0 ≤ Y) (y2 : Y ≤ 1329227995784915872903807060280344576)
    (hpath : (decide (an < 0) = neg ∧ decide (bn < 0) = neg ∧ X + Y = N) ∨ (decide (an < 0) = (!neg) ∧ decide (bn < 0) = neg ∧ decide (X < Y) = true ∧ Y - X = N) ∨ (decide (an < 0) = neg ∧ decide (bn < 0) = (!neg) ∧ decide (X < Y) = false ∧ X - Y = N))
    (hN0 : N = 0) :
    Calls Tryd.prog 12 #[.agg #[.int .i64 an, .int .i64 ad], .agg #[.int .i64 bn, .int .i64 bd]] w fun e w' =>
      e = .returned (.tuple #[.agg #[.int .i64 0, .int .i64 1], .int .i64 0]) ∧ Tr w w' := by
  go_enter Tryd.func12, Tryd.ntmps12
  go_wp2_with (first
    | (go_at_call 15; (with_reducible refine (valid_any _ _ _).mono ?_); rintro e w1 ⟨rfl, ht1⟩; have T1 : Tr w w1 := Tr.trans (by repeat (first | exact Tr.refl _ | assumption | apply Tr.al | apply Tr.drN | apply Tr.dr | (refine Tr.set ?_ (by first | omega | (simp; done) | (simp; omega)) _))) ht1; have K1 := Keep.tr (l := [(⟨w.heap.size, 0, none⟩, .int .i64 an), (⟨w.heap.size, 1, none⟩, .int .i64 ad), (⟨w.heap.size + 1, 0, none⟩, .int .i64 bn), (⟨w.heap.size + 1, 1, none⟩, .int .i64 bd), (⟨w.heap.size + 1 + 1, 0, none⟩, .int .i64 0), (⟨w.heap.size + 1 + 1, 1, none⟩, .int .i64 0)]) (by first | (simp [Keep, go_sem, *]; done) | (simp [Keep, go_sem, *]; omega) | (simp (disch := first | omega | (simp; omega) | (simp; done)) [Keep, go_sem, cell_far, cell_off, RowKit.frozen?_alloc_cells, frozen_new, *]; done) | (simp (disch := first | omega | (simp; omega) | (simp; done)) [Keep, go_sem, cell_far, cell_off, RowKit.frozen?_alloc_cells, frozen_new, *]; omega)) ht1; have hz1 := Below.size ht1; (try simp at hz1); clear ht1; simp only [Keep] at K1)
    | (go_at_call 40; (with_reducible refine (gcd_any ad bd _ (by omega) (by omega) (by omega) (by omega)).mono ?_); rintro e w1 ⟨rfl, nn1, rfl⟩))
  refine wp_region_mix2 18 #[.int .u64 0, .int .u64 0] 59 _ #[.int .u64 0, .int .u64 0] 59 _ (by kernel_rfl) (by kernel_rfl) rfl (makesWide _ rfl rfl) rfl (makesWide _ rfl rfl) (by decide) ?_
  intro w1 hw1
  have k1 := Keep.cl (l := [(⟨w.heap.size, 0, none⟩, .int .i64 an), (⟨w.heap.size, 1, none⟩, .int .i64 ad), (⟨w.heap.size + 1, 0, none⟩, .int .i64 bn), (⟨w.heap.size + 1, 1, none⟩, .int .i64 bd), (⟨w.heap.size + 1 + 1, 0, none⟩, .int .i64 0), (⟨w.heap.size + 1 + 1, 1, none⟩, .int .i64 0)]) (by simp [Keep, go_sem, *]) hw1
  simp only [KeepCl] at k1
  simp only [List.take_succ_cons, List.take_zero, List.drop_succ_cons, List.drop_zero]
  repeat (go_big_quiet_step (first
    | (go_at_call 42; exact calls_cl_same (size_any _ (by omega) (by omega) _))
    | (go_at_call 41; exact calls_cl (product_any _ _ _ (by omega) (by omega) (by omega) (by omega)))))
  refine wpQuiet_nil ?_
  intro b b' w' hb hb' hne ht hz hz'
  have Kb := Keep.at2 hz
  have Kb' := Keep.at2 hz'
  have K0 := Keep.tr (l := [(⟨w.heap.size, 0, none⟩, .int .i64 an), (⟨w.heap.size, 1, none⟩, .int .i64 ad), (⟨w.heap.size + 1, 0, none⟩, .int .i64 bn), (⟨w.heap.size + 1, 1, none⟩, .int .i64 bd), (⟨w.heap.size + 1 + 1, 0, none⟩, .int .i64 0), (⟨w.heap.size + 1 + 1, 1, none⟩, .int .i64 0)]) (by first | (simp [Keep, go_sem, *]; done) | (simp [Keep, go_sem, *]; omega) | (simp (disch := first | omega | (simp; omega) | (simp; done)) [Keep, go_sem, cell_far, cell_off, RowKit.frozen?_alloc_cells, frozen_new, *]; done) | (simp (disch := first | omega | (simp; omega) | (simp; done)) [Keep, go_sem, cell_far, cell_off, RowKit.frozen?_alloc_cells, frozen_new, *]; omega)) ht
  have T0 : Tr w w' := Tr.trans (by repeat (first | exact Tr.refl _ | assumption | apply Tr.al | apply Tr.drN | apply Tr.dr | (refine Tr.set ?_ (by first | omega | (simp; done) | (simp; omega)) _))) ht
  have hs0 := Below.size ht
  have hbl := lt_of_block hz
  have hbl' := lt_of_block hz'
  simp at hb hb' hs0
  simp only [Keep] at Kb Kb' K0
  clear ht hz hz' hw1 k1
  simp only [Act.put, List.setIfInBounds_toArray, List.set_cons_succ, List.set_cons_zero]
  go_upto_region 5 with (fail)
  refine wp_forget (w0 := w) [(⟨w.heap.size, 0, none⟩, .int .i64 an), (⟨w.heap.size, 1, none⟩, .int .i64 ad), (⟨w.heap.size + 1, 0, none⟩, .int .i64 bn), (⟨w.heap.size + 1, 1, none⟩, .int .i64 bd), (⟨w.heap.size + 1 + 1, 0, none⟩, .int .i64 0), (⟨w.heap.size + 1 + 1, 1, none⟩, .int .i64 0), (⟨b, 0, none⟩, .int .u64 (X / 18446744073709551616)), (⟨b, 1, none⟩, .int .u64 (X % 18446744073709551616)), (⟨b', 0, none⟩, .int .u64 (Y / 18446744073709551616)), (⟨b', 1, none⟩, .int .u64 (Y % 18446744073709551616))] (by first | (simp [Keep, go_sem, *]; done) | (simp [Keep, go_sem, *]; omega) | (simp (disch := first | omega | (simp; omega) | (simp; done)) [Keep, go_sem, cell_far, cell_off, RowKit.frozen?_alloc_cells, frozen_new, *]; done) | (simp (disch := first | omega | (simp; omega) | (simp; done)) [Keep, go_sem, cell_far, cell_off, RowKit.frozen?_alloc_cells, frozen_new, *]; omega)) (by repeat (first | exact Tr.refl _ | assumption | apply Tr.al | apply Tr.drN | apply Tr.dr | (refine Tr.set ?_ (by first | omega | (simp; done) | (simp; omega)) _))) ?_; intro w2 hs2 K2 T2; (try simp at hs2); simp only [Keep] at K2
  clear Kb Kb' K0 T0
  clear K1 T1
  go_upto_block 0 with (fail)
  go_cut [9] (fun s9 wx => s9 = .bool neg ∧ Keep wx [(⟨w.heap.size, 0, none⟩, .int .i64 (an)), (⟨w.heap.size, 1, none⟩, .int .i64 (ad)), (⟨w.heap.size + 1, 0, none⟩, .int .i64 (bn)), (⟨w.heap.size + 1, 1, none⟩, .int .i64 (bd)), (⟨w.heap.size + 1 + 1, 0, none⟩, .int .i64 (0)), (⟨w.heap.size + 1 + 1, 1, none⟩, .int .i64 (0)), (⟨w2.heap.size, 0, none⟩, .int .u64 (N / 18446744073709551616)), (⟨w2.heap.size, 1, none⟩, .int .u64 (N % 18446744073709551616))] ∧ Tr w wx)
  case first =>
    rcases hpath with ⟨s1, s2, hN⟩ | ⟨s1, s2, s3, hN⟩ | ⟨s1, s2, s3, hN⟩ <;> cases neg <;> (try simp only [Bool.not_true, Bool.not_false] at s1 s2)
    all_goals
      go_wp2_with (first
        | (go_at_call 43; (with_reducible refine (plus_val X Y x1 y1 (by omega) _).mono ?_); rintro e w1 ⟨rfl, ht1⟩; have T1 : Tr w w1 := Tr.trans (by repeat (first | exact Tr.refl _ | assumption | apply Tr.al | apply Tr.drN | apply Tr.dr | (refine Tr.set ?_ (by first | omega | (simp; done) | (simp; omega)) _))) ht1; have K1 := Keep.tr (l := [(⟨w.heap.size, 0, none⟩, .int .i64 (an)), (⟨w.heap.size, 1, none⟩, .int .i64 (ad)), (⟨w.heap.size + 1, 0, none⟩, .int .i64 (bn)), (⟨w.heap.size + 1, 1, none⟩, .int .i64 (bd)), (⟨w.heap.size + 1 + 1, 0, none⟩, .int .i64 (0)), (⟨w.heap.size + 1 + 1, 1, none⟩, .int .i64 (0)), (⟨b, 0, none⟩, .int .u64 (X / 18446744073709551616)), (⟨b, 1, none⟩, .int .u64 (X % 18446744073709551616)), (⟨b', 0, none⟩, .int .u64 (Y / 18446744073709551616)), (⟨b', 1, none⟩, .int .u64 (Y % 18446744073709551616)), (⟨w2.heap.size, 0, none⟩, .int .u64 (0)), (⟨w2.heap.size, 1, none⟩, .int .u64 (0))]) (by first | (simp [Keep, go_sem, *]; done) | (simp [Keep, go_sem, *]; omega) | (simp (disch := first | omega | (simp; omega) | (simp; done)) [Keep, go_sem, cell_far, cell_off, RowKit.frozen?_alloc_cells, frozen_new, *]; done) | (simp (disch := first | omega | (simp; omega) | (simp; done)) [Keep, go_sem, cell_far, cell_off, RowKit.frozen?_alloc_cells, frozen_new, *]; omega)) ht1; have hz1 := Below.size ht1; (try simp at hz1); clear ht1; simp only [Keep] at K1)
        | (go_at_call 44; (with_reducible refine (less_val X Y x1 y1 _).mono ?_); rintro e w1 ⟨rfl, ht1⟩; have T1 : Tr w w1 := Tr.trans (by repeat (first | exact Tr.refl _ | assumption | apply Tr.al | apply Tr.drN | apply Tr.dr | (refine Tr.set ?_ (by first | omega | (simp; done) | (simp; omega)) _))) ht1; have K1 := Keep.tr (l := [(⟨w.heap.size, 0, none⟩, .int .i64 (an)), (⟨w.heap.size, 1, none⟩, .int .i64 (ad)), (⟨w.heap.size + 1, 0, none⟩, .int .i64 (bn)), (⟨w.heap.size + 1, 1, none⟩, .int .i64 (bd)), (⟨w.heap.size + 1 + 1, 0, none⟩, .int .i64 (0)), (⟨w.heap.size + 1 + 1, 1, none⟩, .int .i64 (0)), (⟨b, 0, none⟩, .int .u64 (X / 18446744073709551616)), (⟨b, 1, none⟩, .int .u64 (X % 18446744073709551616)), (⟨b', 0, none⟩, .int .u64 (Y / 18446744073709551616)), (⟨b', 1, none⟩, .int .u64 (Y % 18446744073709551616)), (⟨w2.heap.size, 0, none⟩, .int .u64 (0)), (⟨w2.heap.size, 1, none⟩, .int .u64 (0))]) (by first | (simp [Keep, go_sem, *]; done) | (simp [Keep, go_sem, *]; omega) | (simp (disch := first | omega | (simp; omega) | (simp; done)) [Keep, go_sem, cell_far, cell_off, RowKit.frozen?_alloc_cells, frozen_new, *]; done) | (simp (disch := first | omega | (simp; omega) | (simp; done)) [Keep, go_sem, cell_far, cell_off, RowKit.frozen?_alloc_cells, frozen_new, *]; omega)) ht1; have hz1 := Below.size ht1; (try simp at hz1); clear ht1; simp only [Keep] at K1)
        | (go_at_call 45; (with_reducible refine (minus_val _ _ (by omega) (by first | omega | (have := of_decide_eq_true s3; omega) | (have := of_decide_eq_false s3; omega)) (by omega) _).mono ?_); rintro e w1 ⟨rfl, ht1⟩; have T1 : Tr w w1 := Tr.trans (by repeat (first | exact Tr.refl _ | assumption | apply Tr.al | apply Tr.drN | apply Tr.dr | (refine Tr.set ?_ (by first | omega | (simp; done) | (simp; omega)) _))) ht1; have K1 := Keep.tr (l := [(⟨w.heap.size, 0, none⟩, .int .i64 (an)), (⟨w.heap.size, 1, none⟩, .int .i64 (ad)), (⟨w.heap.size + 1, 0, none⟩, .int .i64 (bn)), (⟨w.heap.size + 1, 1, none⟩, .int .i64 (bd)), (⟨w.heap.size + 1 + 1, 0, none⟩, .int .i64 (0)), (⟨w.heap.size + 1 + 1, 1, none⟩, .int .i64 (0)), (⟨b, 0, none⟩, .int .u64 (X / 18446744073709551616)), (⟨b, 1, none⟩, .int .u64 (X % 18446744073709551616)), (⟨b', 0, none⟩, .int .u64 (Y / 18446744073709551616)), (⟨b', 1, none⟩, .int .u64 (Y % 18446744073709551616)), (⟨w2.heap.size, 0, none⟩, .int .u64 (0)), (⟨w2.heap.size, 1, none⟩, .int .u64 (0))]) (by first | (simp [Keep, go_sem, *]; done) | (simp [Keep, go_sem, *]; omega) | (simp (disch := first | omega | (simp; omega) | (simp; done)) [Keep, go_sem, cell_far, cell_off, RowKit.frozen?_alloc_cells, frozen_new, *]; done) | (simp (disch := first | omega | (simp; omega) | (simp; done)) [Keep, go_sem, cell_far, cell_off, RowKit.frozen?_alloc_cells, frozen_new, *]; omega)) ht1; have hz1 := Below.size ht1; (try simp at hz1); clear ht1; simp only [Keep] at K1))
      go_meet
      exact ⟨rfl, (by first | (simp [Keep, go_sem, *]; done) | (simp [Keep, go_sem, *]; omega) | (simp (disch := first | omega | (simp; omega) | (simp; done)) [Keep, go_sem, cell_far, cell_off, RowKit.frozen?_alloc_cells, frozen_new, *]; done) | (simp (disch := first | omega | (simp; omega) | (simp; done)) [Keep, go_sem, cell_far, cell_off, RowKit.frozen?_alloc_cells, frozen_new, *]; omega)), (by repeat (first | exact Tr.refl _ | assumption | apply Tr.al | apply Tr.drN | apply Tr.dr | (refine Tr.set ?_ (by first | omega | (simp; done) | (simp; omega)) _)))⟩
  case rest =>
    obtain ⟨rfl, K3, T3⟩ := hcut
    simp only [Keep] at K3
    clear K2 T2 hpath
    subst hN0
    simp at K3
    go_wp2_with fail
    simp [bodyPost, results, Tryd.results12, go_sem, *]
    exact (by repeat (first | exact Tr.refl _ | assumption | apply Tr.al | apply Tr.drN | apply Tr.dr | (refine Tr.set ?_ (by first | omega | (simp; done) | (simp; omega)) _)))

theorem add_no1 (an ad bn bd : Int) (w : World) (va : validB an ad = false) :
    Calls Tryd.prog 12 #[.agg #[.int .i64 an, .int .i64 ad], .agg #[.int .i64 bn, .int .i64 bd]] w fun e w' =>
      e = .returned (.tuple #[.agg #[.int .i64 0, .int .i64 0], .int .i64 1]) ∧ Tr w w' := by
  go_enter Tryd.func12, Tryd.ntmps12
  go_wp2_with (go_at_call 15; (with_reducible refine (valid_any _ _ _).mono ?_); rintro e w1 ⟨rfl, ht1⟩; have T1 : Tr w w1 := Tr.trans (by repeat (first | exact Tr.refl _ | assumption | apply Tr.al | apply Tr.drN | apply Tr.dr | (refine Tr.set ?_ (by first | omega | (simp; done) | (simp; omega)) _))) ht1; have K1 := Keep.tr (l := [(⟨w.heap.size, 0, none⟩, .int .i64 an), (⟨w.heap.size, 1, none⟩, .int .i64 ad), (⟨w.heap.size + 1, 0, none⟩, .int .i64 bn), (⟨w.heap.size + 1, 1, none⟩, .int .i64 bd), (⟨w.heap.size + 1 + 1, 0, none⟩, .int .i64 0), (⟨w.heap.size + 1 + 1, 1, none⟩, .int .i64 0)]) (by first | (simp [Keep, go_sem, *]; done) | (simp [Keep, go_sem, *]; omega) | (simp (disch := first | omega | (simp; omega) | (simp; done)) [Keep, go_sem, cell_far, cell_off, RowKit.frozen?_alloc_cells, frozen_new, *]; done) | (simp (disch := first | omega | (simp; omega) | (simp; done)) [Keep, go_sem, cell_far, cell_off, RowKit.frozen?_alloc_cells, frozen_new, *]; omega)) ht1; have hz1 := Below.size ht1; (try simp at hz1); clear ht1; simp only [Keep] at K1)
  simp [bodyPost, results, Tryd.results12, go_sem, *]
  exact (by repeat (first | exact Tr.refl _ | assumption | apply Tr.al | apply Tr.drN | apply Tr.dr | (refine Tr.set ?_ (by first | omega | (simp; done) | (simp; omega)) _)))
theorem add_no2 (an ad bn bd : Int) (w : World) (va : validB an ad = true) (vb : validB bn bd = false) :
    Calls Tryd.prog 12 #[.agg #[.int .i64 an, .int .i64 ad], .agg #[.int .i64 bn, .int .i64 bd]] w fun e w' =>
      e = .returned (.tuple #[.agg #[.int .i64 0, .int .i64 0], .int .i64 1]) ∧ Tr w w' := by
  go_enter Tryd.func12, Tryd.ntmps12
  go_wp2_with (go_at_call 15; (with_reducible refine (valid_any _ _ _).mono ?_); rintro e w1 ⟨rfl, ht1⟩; have T1 : Tr w w1 := Tr.trans (by repeat (first | exact Tr.refl _ | assumption | apply Tr.al | apply Tr.drN | apply Tr.dr | (refine Tr.set ?_ (by first | omega | (simp; done) | (simp; omega)) _))) ht1; have K1 := Keep.tr (l := [(⟨w.heap.size, 0, none⟩, .int .i64 an), (⟨w.heap.size, 1, none⟩, .int .i64 ad), (⟨w.heap.size + 1, 0, none⟩, .int .i64 bn), (⟨w.heap.size + 1, 1, none⟩, .int .i64 bd), (⟨w.heap.size + 1 + 1, 0, none⟩, .int .i64 0), (⟨w.heap.size + 1 + 1, 1, none⟩, .int .i64 0)]) (by first | (simp [Keep, go_sem, *]; done) | (simp [Keep, go_sem, *]; omega) | (simp (disch := first | omega | (simp; omega) | (simp; done)) [Keep, go_sem, cell_far, cell_off, RowKit.frozen?_alloc_cells, frozen_new, *]; done) | (simp (disch := first | omega | (simp; omega) | (simp; done)) [Keep, go_sem, cell_far, cell_off, RowKit.frozen?_alloc_cells, frozen_new, *]; omega)) ht1; have hz1 := Below.size ht1; (try simp at hz1); clear ht1; simp only [Keep] at K1)
  simp [bodyPost, results, Tryd.results12, go_sem, *]
  exact (by repeat (first | exact Tr.refl _ | assumption | apply Tr.al | apply Tr.drN | apply Tr.dr | (refine Tr.set ?_ (by first | omega | (simp; done) | (simp; omega)) _)))
end Go.Proofs.YtpjkiljgccjemaaDoor
