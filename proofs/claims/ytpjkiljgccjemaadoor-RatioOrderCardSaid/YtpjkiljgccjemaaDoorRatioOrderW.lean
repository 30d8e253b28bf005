/- RatioOrder: the walk. -/
import Derived.Test.YtpjkiljgccjemaaDoorRatioOrder
namespace Go.Proofs.YtpjkiljgccjemaaDoor.ratioOrder
set_option linter.unusedVariables false
open Go.RowKit Go.Sort

set_option maxRecDepth 100000 in
set_option maxHeartbeats 4000000 in
theorem walk_no (an ad bn bd cn cd : Int) (w : World) (hT : Tab w) (h1 : cmpS an ad bn bd = (0, 1)) (h2 : cmpS bn bd an ad = (0, 1)) :
    Calls Tryd.prog 6 #[.agg #[.int .i64 an, .int .i64 ad], .agg #[.int .i64 bn, .int .i64 bd], .agg #[.int .i64 cn, .int .i64 cd]] w fun e w' => e = .returned (.bool true) ∧ Tr w w' := by
  go_enter Tryd.func6, Tryd.ntmps6
  go_upto_region 3 with (go_at_call 11; (with_reducible refine (awake_any _ (hT.tr (by repeat (first | exact Tr.refl _ | assumption | apply Tr.al | apply Tr.drN | apply Tr.dr | (refine Tr.set ?_ (by first | omega | (simp; omega)) _))))).mono ?_); rintro e w1 ⟨rfl, ht1⟩; have T1 : Tr w w1 := Tr.trans (by repeat (first | exact Tr.refl _ | assumption | apply Tr.al | apply Tr.drN | apply Tr.dr | (refine Tr.set ?_ (by first | omega | (simp; omega)) _))) ht1; have K1 := Keep.tr (l := [(⟨w.heap.size, 0, none⟩, .int .i64 (an)), (⟨w.heap.size, 1, none⟩, .int .i64 (ad)), (⟨w.heap.size + 1, 0, none⟩, .int .i64 (bn)), (⟨w.heap.size + 1, 1, none⟩, .int .i64 (bd)), (⟨w.heap.size + 1 + 1, 0, none⟩, .int .i64 (cn)), (⟨w.heap.size + 1 + 1, 1, none⟩, .int .i64 (cd))]) (by first | (simp [Keep, go_sem, *]; done) | (simp [Keep, go_sem, *]; omega) | (simp (disch := first | omega | (simp; omega) | (simp; done)) [Keep, go_sem, cell_far, cell_off, RowKit.frozen?_alloc_cells, frozen_new, *]; done) | (simp (disch := first | omega | (simp; omega) | (simp; done)) [Keep, go_sem, cell_far, cell_off, RowKit.frozen?_alloc_cells, frozen_new, *]; omega)) ht1; have hz1 := Below.size ht1; (try simp at hz1); clear ht1; simp only [Keep] at K1)
  go_upto_region 4 with (go_at_call 25; (with_reducible refine (cmp_any _ _ _ _ _).mono ?_); rintro e w2 ⟨rfl, ht2⟩; have T2 : Tr w w2 := Tr.trans (by repeat (first | exact Tr.refl _ | assumption | apply Tr.al | apply Tr.drN | apply Tr.dr | (refine Tr.set ?_ (by first | omega | (simp; omega)) _))) ht2; have K2 := Keep.tr (l := [(⟨w.heap.size, 0, none⟩, .int .i64 (an)), (⟨w.heap.size, 1, none⟩, .int .i64 (ad)), (⟨w.heap.size + 1, 0, none⟩, .int .i64 (bn)), (⟨w.heap.size + 1, 1, none⟩, .int .i64 (bd)), (⟨w.heap.size + 1 + 1, 0, none⟩, .int .i64 (cn)), (⟨w.heap.size + 1 + 1, 1, none⟩, .int .i64 (cd))]) (by first | (simp [Keep, go_sem, *]; done) | (simp [Keep, go_sem, *]; omega) | (simp (disch := first | omega | (simp; omega) | (simp; done)) [Keep, go_sem, cell_far, cell_off, RowKit.frozen?_alloc_cells, frozen_new, *]; done) | (simp (disch := first | omega | (simp; omega) | (simp; done)) [Keep, go_sem, cell_far, cell_off, RowKit.frozen?_alloc_cells, frozen_new, *]; omega)) ht2; have hz2 := Below.size ht2; (try simp at hz2); clear ht2; simp only [Keep] at K2)
  clear K1 T1
  go_upto_region 5 with (go_at_call 25; (with_reducible refine (cmp_any _ _ _ _ _).mono ?_); rintro e w3 ⟨rfl, ht3⟩; have T3 : Tr w w3 := Tr.trans (by repeat (first | exact Tr.refl _ | assumption | apply Tr.al | apply Tr.drN | apply Tr.dr | (refine Tr.set ?_ (by first | omega | (simp; omega)) _))) ht3; have K3 := Keep.tr (l := [(⟨w.heap.size, 0, none⟩, .int .i64 (an)), (⟨w.heap.size, 1, none⟩, .int .i64 (ad)), (⟨w.heap.size + 1, 0, none⟩, .int .i64 (bn)), (⟨w.heap.size + 1, 1, none⟩, .int .i64 (bd)), (⟨w.heap.size + 1 + 1, 0, none⟩, .int .i64 (cn)), (⟨w.heap.size + 1 + 1, 1, none⟩, .int .i64 (cd))]) (by first | (simp [Keep, go_sem, *]; done) | (simp [Keep, go_sem, *]; omega) | (simp (disch := first | omega | (simp; omega) | (simp; done)) [Keep, go_sem, cell_far, cell_off, RowKit.frozen?_alloc_cells, frozen_new, *]; done) | (simp (disch := first | omega | (simp; omega) | (simp; done)) [Keep, go_sem, cell_far, cell_off, RowKit.frozen?_alloc_cells, frozen_new, *]; omega)) ht3; have hz3 := Below.size ht3; (try simp at hz3); clear ht3; simp only [Keep] at K3)
  clear K2 T2
  go_wp2_with fail
  go_ret
  exact ⟨rfl, (by repeat (first | exact Tr.refl _ | assumption | apply Tr.al | apply Tr.drN | apply Tr.dr | (refine Tr.set ?_ (by first | omega | (simp; omega)) _)))⟩

set_option maxRecDepth 100000 in
set_option maxHeartbeats 8000000 in
theorem walk_yes (an ad bn bd cn cd k : Int) (w : World) (hT : Tab w) (h1 : cmpS an ad bn bd = (k, 0)) (h2 : cmpS bn bd an ad = (-k, 0)) (k1 : -1 ≤ k) (k2 : k ≤ 1)
    (hab : ((k == 0) = true ∧ an = bn ∧ ad = bd) ∨ ((k == 0) = false ∧ ¬ (an = bn ∧ ad = bd)))
    (hsub : Hid ((subS an ad bn bd).2.2 = 0 → decide (0 < (subS an ad bn bd).1) = decide (0 < k) ∧ decide ((subS an ad bn bd).1 < 0) = decide (k < 0)))
    (hadd : Hid ((addS an ad cn cd).2.2 = 0 → (addS bn bd cn cd).2.2 = 0 → cmpS (addS an ad cn cd).1 (addS an ad cn cd).2.1 (addS bn bd cn cd).1 (addS bn bd cn cd).2.1 = (k, 0)))
    (hmul : Hid ((mulS an ad cn cd).2.2 = 0 → (mulS bn bd cn cd).2.2 = 0 → cmpS (mulS an ad cn cd).1 (mulS an ad cn cd).2.1 (mulS bn bd cn cd).1 (mulS bn bd cn cd).2.1 = ((if 0 < cn then 1 else if cn < 0 then -1 else 0) * k, 0))) :
    Calls Tryd.prog 6 #[.agg #[.int .i64 an, .int .i64 ad], .agg #[.int .i64 bn, .int .i64 bd], .agg #[.int .i64 cn, .int .i64 cd]] w fun e w' => e = .returned (.bool true) ∧ Tr w w' := by
  go_enter Tryd.func6, Tryd.ntmps6
  go_upto_region 3 with (go_at_call 11; (with_reducible refine (awake_any _ (hT.tr (by repeat (first | exact Tr.refl _ | assumption | apply Tr.al | apply Tr.drN | apply Tr.dr | (refine Tr.set ?_ (by first | omega | (simp; omega)) _))))).mono ?_); rintro e w1 ⟨rfl, ht1⟩; have T1 : Tr w w1 := Tr.trans (by repeat (first | exact Tr.refl _ | assumption | apply Tr.al | apply Tr.drN | apply Tr.dr | (refine Tr.set ?_ (by first | omega | (simp; omega)) _))) ht1; have K1 := Keep.tr (l := [(⟨w.heap.size, 0, none⟩, .int .i64 (an)), (⟨w.heap.size, 1, none⟩, .int .i64 (ad)), (⟨w.heap.size + 1, 0, none⟩, .int .i64 (bn)), (⟨w.heap.size + 1, 1, none⟩, .int .i64 (bd)), (⟨w.heap.size + 1 + 1, 0, none⟩, .int .i64 (cn)), (⟨w.heap.size + 1 + 1, 1, none⟩, .int .i64 (cd))]) (by first | (simp [Keep, go_sem, *]; done) | (simp [Keep, go_sem, *]; omega) | (simp (disch := first | omega | (simp; omega) | (simp; done)) [Keep, go_sem, cell_far, cell_off, RowKit.frozen?_alloc_cells, frozen_new, *]; done) | (simp (disch := first | omega | (simp; omega) | (simp; done)) [Keep, go_sem, cell_far, cell_off, RowKit.frozen?_alloc_cells, frozen_new, *]; omega)) ht1; have hz1 := Below.size ht1; (try simp at hz1); clear ht1; simp only [Keep] at K1)
  go_upto_region 4 with (go_at_call 25; (with_reducible refine (cmp_any _ _ _ _ _).mono ?_); rintro e w2 ⟨rfl, ht2⟩; have T2 : Tr w w2 := Tr.trans (by repeat (first | exact Tr.refl _ | assumption | apply Tr.al | apply Tr.drN | apply Tr.dr | (refine Tr.set ?_ (by first | omega | (simp; omega)) _))) ht2; have K2 := Keep.tr (l := [(⟨w.heap.size, 0, none⟩, .int .i64 (an)), (⟨w.heap.size, 1, none⟩, .int .i64 (ad)), (⟨w.heap.size + 1, 0, none⟩, .int .i64 (bn)), (⟨w.heap.size + 1, 1, none⟩, .int .i64 (bd)), (⟨w.heap.size + 1 + 1, 0, none⟩, .int .i64 (cn)), (⟨w.heap.size + 1 + 1, 1, none⟩, .int .i64 (cd))]) (by first | (simp [Keep, go_sem, *]; done) | (simp [Keep, go_sem, *]; omega) | (simp (disch := first | omega | (simp; omega) | (simp; done)) [Keep, go_sem, cell_far, cell_off, RowKit.frozen?_alloc_cells, frozen_new, *]; done) | (simp (disch := first | omega | (simp; omega) | (simp; done)) [Keep, go_sem, cell_far, cell_off, RowKit.frozen?_alloc_cells, frozen_new, *]; omega)) ht2; have hz2 := Below.size ht2; (try simp at hz2); clear ht2; simp only [Keep] at K2)
  clear K1 T1
  go_upto_region 5 with (go_at_call 25; (with_reducible refine (cmp_any _ _ _ _ _).mono ?_); rintro e w3 ⟨rfl, ht3⟩; have T3 : Tr w w3 := Tr.trans (by repeat (first | exact Tr.refl _ | assumption | apply Tr.al | apply Tr.drN | apply Tr.dr | (refine Tr.set ?_ (by first | omega | (simp; omega)) _))) ht3; have K3 := Keep.tr (l := [(⟨w.heap.size, 0, none⟩, .int .i64 (an)), (⟨w.heap.size, 1, none⟩, .int .i64 (ad)), (⟨w.heap.size + 1, 0, none⟩, .int .i64 (bn)), (⟨w.heap.size + 1, 1, none⟩, .int .i64 (bd)), (⟨w.heap.size + 1 + 1, 0, none⟩, .int .i64 (cn)), (⟨w.heap.size + 1 + 1, 1, none⟩, .int .i64 (cd))]) (by first | (simp [Keep, go_sem, *]; done) | (simp [Keep, go_sem, *]; omega) | (simp (disch := first | omega | (simp; omega) | (simp; done)) [Keep, go_sem, cell_far, cell_off, RowKit.frozen?_alloc_cells, frozen_new, *]; done) | (simp (disch := first | omega | (simp; omega) | (simp; done)) [Keep, go_sem, cell_far, cell_off, RowKit.frozen?_alloc_cells, frozen_new, *]; omega)) ht3; have hz3 := Below.size ht3; (try simp at hz3); clear ht3; simp only [Keep] at K3)
  clear K2 T2
  go_upto_region 7 with (fail)
  go_cut [64] (fun s wx => s = .bool false ∧ w3 = wx)
  case first =>
    rcases hab with ⟨e1, rfl, rfl⟩ | ⟨e1, e2⟩
    · go_wp2_with fail
      go_meet
      exact ⟨rfl, rfl⟩
    · by_cases e3 : an = bn
      · have e4 : ¬ ad = bd := fun h => e2 ⟨e3, h⟩
        subst e3
        clear e2
        go_wp2_with fail
        go_meet
        exact ⟨rfl, rfl⟩
      · clear e2
        go_wp2_with fail
        go_meet
        exact ⟨rfl, rfl⟩
  case rest =>
    obtain ⟨rfl, rfl⟩ := hcut
    clear hab
    go_upto_region 10 with (go_at_call 14; (with_reducible refine (sub_any _ _ _ _ _).mono ?_); rintro e w4 ⟨rfl, ht4⟩; have T4 : Tr w w4 := Tr.trans (by repeat (first | exact Tr.refl _ | assumption | apply Tr.al | apply Tr.drN | apply Tr.dr | (refine Tr.set ?_ (by first | omega | (simp; omega)) _))) ht4; have K4 := Keep.tr (l := [(⟨w.heap.size, 0, none⟩, .int .i64 (an)), (⟨w.heap.size, 1, none⟩, .int .i64 (ad)), (⟨w.heap.size + 1, 0, none⟩, .int .i64 (bn)), (⟨w.heap.size + 1, 1, none⟩, .int .i64 (bd)), (⟨w.heap.size + 1 + 1, 0, none⟩, .int .i64 (cn)), (⟨w.heap.size + 1 + 1, 1, none⟩, .int .i64 (cd))]) (by first | (simp [Keep, go_sem, *]; done) | (simp [Keep, go_sem, *]; omega) | (simp (disch := first | omega | (simp; omega) | (simp; done)) [Keep, go_sem, cell_far, cell_off, RowKit.frozen?_alloc_cells, frozen_new, *]; done) | (simp (disch := first | omega | (simp; omega) | (simp; done)) [Keep, go_sem, cell_far, cell_off, RowKit.frozen?_alloc_cells, frozen_new, *]; omega)) ht4; have hz4 := Below.size ht4; (try simp at hz4); clear ht4; simp only [Keep] at K4)
    clear K3 T3
    refine wp_forget (w0 := w) [(⟨w.heap.size, 0, none⟩, .int .i64 (an)), (⟨w.heap.size, 1, none⟩, .int .i64 (ad)), (⟨w.heap.size + 1, 0, none⟩, .int .i64 (bn)), (⟨w.heap.size + 1, 1, none⟩, .int .i64 (bd)), (⟨w.heap.size + 1 + 1, 0, none⟩, .int .i64 (cn)), (⟨w.heap.size + 1 + 1, 1, none⟩, .int .i64 (cd)), (⟨w4.heap.size, 0, none⟩, .int .i64 ((subS an ad bn bd).1)), (⟨w4.heap.size, 1, none⟩, .int .i64 ((subS an ad bn bd).2.1))] (by first | (simp [Keep, go_sem, *]; done) | (simp [Keep, go_sem, *]; omega) | (simp (disch := first | omega | (simp; omega) | (simp; done)) [Keep, go_sem, cell_far, cell_off, RowKit.frozen?_alloc_cells, frozen_new, *]; done) | (simp (disch := first | omega | (simp; omega) | (simp; done)) [Keep, go_sem, cell_far, cell_off, RowKit.frozen?_alloc_cells, frozen_new, *]; omega)) (by repeat (first | exact Tr.refl _ | assumption | apply Tr.al | apply Tr.drN | apply Tr.dr | (refine Tr.set ?_ (by first | omega | (simp; omega)) _))) ?_; intro w5 hs5 K5 T5; (try simp at hs5); simp only [Keep] at K5
    clear K4 T4
    go_cut [88] (fun s wx => s = .bool false ∧ w5 = wx)
    case first =>
      rcases ok_or (subS an ad bn bd).2.2 with ⟨e1, _⟩ | ⟨e1, _⟩
      · obtain ⟨e2, e3⟩ := hsub.out (by simpa using e1)
        go_wp2_with fail
        go_meet
        exact ⟨rfl, rfl⟩
      · go_wp2_with fail
        go_meet
        exact ⟨rfl, rfl⟩
    case rest =>
      obtain ⟨rfl, rfl⟩ := hcut
      go_upto_region 13 with (go_at_call 12; (with_reducible refine (add_any _ _ _ _ _).mono ?_); rintro e w6 ⟨rfl, ht6⟩; have T6 : Tr w w6 := Tr.trans (by repeat (first | exact Tr.refl _ | assumption | apply Tr.al | apply Tr.drN | apply Tr.dr | (refine Tr.set ?_ (by first | omega | (simp; omega)) _))) ht6; have K6 := Keep.tr (l := [(⟨w.heap.size, 0, none⟩, .int .i64 (an)), (⟨w.heap.size, 1, none⟩, .int .i64 (ad)), (⟨w.heap.size + 1, 0, none⟩, .int .i64 (bn)), (⟨w.heap.size + 1, 1, none⟩, .int .i64 (bd)), (⟨w.heap.size + 1 + 1, 0, none⟩, .int .i64 (cn)), (⟨w.heap.size + 1 + 1, 1, none⟩, .int .i64 (cd))]) (by first | (simp [Keep, go_sem, *]; done) | (simp [Keep, go_sem, *]; omega) | (simp (disch := first | omega | (simp; omega) | (simp; done)) [Keep, go_sem, cell_far, cell_off, RowKit.frozen?_alloc_cells, frozen_new, *]; done) | (simp (disch := first | omega | (simp; omega) | (simp; done)) [Keep, go_sem, cell_far, cell_off, RowKit.frozen?_alloc_cells, frozen_new, *]; omega)) ht6; have hz6 := Below.size ht6; (try simp at hz6); clear ht6; simp only [Keep] at K6)
      clear K5 T5
      go_upto_region 14 with (go_at_call 12; (with_reducible refine (add_any _ _ _ _ _).mono ?_); rintro e w7 ⟨rfl, ht7⟩; have T7 : Tr w w7 := Tr.trans (by repeat (first | exact Tr.refl _ | assumption | apply Tr.al | apply Tr.drN | apply Tr.dr | (refine Tr.set ?_ (by first | omega | (simp; omega)) _))) ht7; have K7 := Keep.tr (l := [(⟨w.heap.size, 0, none⟩, .int .i64 (an)), (⟨w.heap.size, 1, none⟩, .int .i64 (ad)), (⟨w.heap.size + 1, 0, none⟩, .int .i64 (bn)), (⟨w.heap.size + 1, 1, none⟩, .int .i64 (bd)), (⟨w.heap.size + 1 + 1, 0, none⟩, .int .i64 (cn)), (⟨w.heap.size + 1 + 1, 1, none⟩, .int .i64 (cd)), (⟨w6.heap.size, 0, none⟩, .int .i64 ((addS an ad cn cd).1)), (⟨w6.heap.size, 1, none⟩, .int .i64 ((addS an ad cn cd).2.1))]) (by first | (simp [Keep, go_sem, *]; done) | (simp [Keep, go_sem, *]; omega) | (simp (disch := first | omega | (simp; omega) | (simp; done)) [Keep, go_sem, cell_far, cell_off, RowKit.frozen?_alloc_cells, frozen_new, *]; done) | (simp (disch := first | omega | (simp; omega) | (simp; done)) [Keep, go_sem, cell_far, cell_off, RowKit.frozen?_alloc_cells, frozen_new, *]; omega)) ht7; have hz7 := Below.size ht7; (try simp at hz7); clear ht7; simp only [Keep] at K7)
      clear K6 T6
      refine wp_forget (w0 := w) [(⟨w.heap.size, 0, none⟩, .int .i64 (an)), (⟨w.heap.size, 1, none⟩, .int .i64 (ad)), (⟨w.heap.size + 1, 0, none⟩, .int .i64 (bn)), (⟨w.heap.size + 1, 1, none⟩, .int .i64 (bd)), (⟨w.heap.size + 1 + 1, 0, none⟩, .int .i64 (cn)), (⟨w.heap.size + 1 + 1, 1, none⟩, .int .i64 (cd)), (⟨w6.heap.size, 0, none⟩, .int .i64 ((addS an ad cn cd).1)), (⟨w6.heap.size, 1, none⟩, .int .i64 ((addS an ad cn cd).2.1)), (⟨w7.heap.size, 0, none⟩, .int .i64 ((addS bn bd cn cd).1)), (⟨w7.heap.size, 1, none⟩, .int .i64 ((addS bn bd cn cd).2.1))] (by first | (simp [Keep, go_sem, *]; done) | (simp [Keep, go_sem, *]; omega) | (simp (disch := first | omega | (simp; omega) | (simp; done)) [Keep, go_sem, cell_far, cell_off, RowKit.frozen?_alloc_cells, frozen_new, *]; done) | (simp (disch := first | omega | (simp; omega) | (simp; done)) [Keep, go_sem, cell_far, cell_off, RowKit.frozen?_alloc_cells, frozen_new, *]; omega)) (by repeat (first | exact Tr.refl _ | assumption | apply Tr.al | apply Tr.drN | apply Tr.dr | (refine Tr.set ?_ (by first | omega | (simp; omega)) _))) ?_; intro w8 hs8 K8 T8; (try simp at hs8); simp only [Keep] at K8
      clear K7 T7
      go_cut [106] (fun s wx => ∃ B : Bool, s = .bool B ∧ Hid (B = (((addS an ad cn cd).2.2 == 0) && ((addS bn bd cn cd).2.2 == 0))) ∧ w8 = wx)
      case first =>
        rcases ok_or (addS an ad cn cd).2.2 with ⟨e1, _⟩ | ⟨e1, _⟩ <;> rcases ok_or (addS bn bd cn cd).2.2 with ⟨e2, _⟩ | ⟨e2, _⟩
        all_goals
          go_wp2_with fail
          go_meet
          exact ⟨_, rfl, by show _ = _; rw [e1, e2]; rfl, rfl⟩
      case rest =>
        obtain ⟨B, rfl, hB, rfl⟩ := hcut
        go_upto_if 106 with (fail)
        go_cut [] (fun wx => Keep wx [(⟨w.heap.size, 0, none⟩, .int .i64 (an)), (⟨w.heap.size, 1, none⟩, .int .i64 (ad)), (⟨w.heap.size + 1, 0, none⟩, .int .i64 (bn)), (⟨w.heap.size + 1, 1, none⟩, .int .i64 (bd)), (⟨w.heap.size + 1 + 1, 0, none⟩, .int .i64 (cn)), (⟨w.heap.size + 1 + 1, 1, none⟩, .int .i64 (cd)), (⟨w6.heap.size, 0, none⟩, .int .i64 ((addS an ad cn cd).1)), (⟨w6.heap.size, 1, none⟩, .int .i64 ((addS an ad cn cd).2.1)), (⟨w7.heap.size, 0, none⟩, .int .i64 ((addS bn bd cn cd).1)), (⟨w7.heap.size, 1, none⟩, .int .i64 ((addS bn bd cn cd).2.1))] ∧ Tr w wx)
        case first =>
          cases B
          · go_wp2_with fail
            go_meet
            exact ⟨(by first | (simp [Keep, go_sem, *]; done) | (simp [Keep, go_sem, *]; omega) | (simp (disch := first | omega | (simp; omega) | (simp; done)) [Keep, go_sem, cell_far, cell_off, RowKit.frozen?_alloc_cells, frozen_new, *]; done) | (simp (disch := first | omega | (simp; omega) | (simp; done)) [Keep, go_sem, cell_far, cell_off, RowKit.frozen?_alloc_cells, frozen_new, *]; omega)), (by repeat (first | exact Tr.refl _ | assumption | apply Tr.al | apply Tr.drN | apply Tr.dr | (refine Tr.set ?_ (by first | omega | (simp; omega)) _)))⟩
          · have hb := hB.out.symm
            rw [Bool.and_eq_true] at hb
            have hx := hadd.out (by simpa using hb.1) (by simpa using hb.2)
            clear hb
            go_upto_region 16 with (go_at_call 25; (with_reducible refine (cmp_any _ _ _ _ _).mono ?_); rintro e w9 ⟨rfl, ht9⟩; have T9 : Tr w w9 := Tr.trans (by repeat (first | exact Tr.refl _ | assumption | apply Tr.al | apply Tr.drN | apply Tr.dr | (refine Tr.set ?_ (by first | omega | (simp; omega)) _))) ht9; have K9 := Keep.tr (l := [(⟨w.heap.size, 0, none⟩, .int .i64 (an)), (⟨w.heap.size, 1, none⟩, .int .i64 (ad)), (⟨w.heap.size + 1, 0, none⟩, .int .i64 (bn)), (⟨w.heap.size + 1, 1, none⟩, .int .i64 (bd)), (⟨w.heap.size + 1 + 1, 0, none⟩, .int .i64 (cn)), (⟨w.heap.size + 1 + 1, 1, none⟩, .int .i64 (cd)), (⟨w6.heap.size, 0, none⟩, .int .i64 ((addS an ad cn cd).1)), (⟨w6.heap.size, 1, none⟩, .int .i64 ((addS an ad cn cd).2.1)), (⟨w7.heap.size, 0, none⟩, .int .i64 ((addS bn bd cn cd).1)), (⟨w7.heap.size, 1, none⟩, .int .i64 ((addS bn bd cn cd).2.1))]) (by first | (simp [Keep, go_sem, *]; done) | (simp [Keep, go_sem, *]; omega) | (simp (disch := first | omega | (simp; omega) | (simp; done)) [Keep, go_sem, cell_far, cell_off, RowKit.frozen?_alloc_cells, frozen_new, *]; done) | (simp (disch := first | omega | (simp; omega) | (simp; done)) [Keep, go_sem, cell_far, cell_off, RowKit.frozen?_alloc_cells, frozen_new, *]; omega)) ht9; have hz9 := Below.size ht9; (try simp at hz9); clear ht9; simp only [Keep] at K9)
            go_wp2_with fail
            go_meet
            exact ⟨(by first | (simp [Keep, go_sem, *]; done) | (simp [Keep, go_sem, *]; omega) | (simp (disch := first | omega | (simp; omega) | (simp; done)) [Keep, go_sem, cell_far, cell_off, RowKit.frozen?_alloc_cells, frozen_new, *]; done) | (simp (disch := first | omega | (simp; omega) | (simp; done)) [Keep, go_sem, cell_far, cell_off, RowKit.frozen?_alloc_cells, frozen_new, *]; omega)), (by repeat (first | exact Tr.refl _ | assumption | apply Tr.al | apply Tr.drN | apply Tr.dr | (refine Tr.set ?_ (by first | omega | (simp; omega)) _)))⟩
        case rest =>
          obtain ⟨K9, T9⟩ := hcut
          simp only [Keep] at K9
          clear K8 T8
          go_upto_region 19 with (go_at_call 13; (with_reducible refine (mul_any _ _ _ _ _).mono ?_); rintro e w10 ⟨rfl, ht10⟩; have T10 : Tr w w10 := Tr.trans (by repeat (first | exact Tr.refl _ | assumption | apply Tr.al | apply Tr.drN | apply Tr.dr | (refine Tr.set ?_ (by first | omega | (simp; omega)) _))) ht10; have K10 := Keep.tr (l := [(⟨w.heap.size, 0, none⟩, .int .i64 (an)), (⟨w.heap.size, 1, none⟩, .int .i64 (ad)), (⟨w.heap.size + 1, 0, none⟩, .int .i64 (bn)), (⟨w.heap.size + 1, 1, none⟩, .int .i64 (bd)), (⟨w.heap.size + 1 + 1, 0, none⟩, .int .i64 (cn)), (⟨w.heap.size + 1 + 1, 1, none⟩, .int .i64 (cd)), (⟨w6.heap.size, 0, none⟩, .int .i64 ((addS an ad cn cd).1)), (⟨w6.heap.size, 1, none⟩, .int .i64 ((addS an ad cn cd).2.1)), (⟨w7.heap.size, 0, none⟩, .int .i64 ((addS bn bd cn cd).1)), (⟨w7.heap.size, 1, none⟩, .int .i64 ((addS bn bd cn cd).2.1))]) (by first | (simp [Keep, go_sem, *]; done) | (simp [Keep, go_sem, *]; omega) | (simp (disch := first | omega | (simp; omega) | (simp; done)) [Keep, go_sem, cell_far, cell_off, RowKit.frozen?_alloc_cells, frozen_new, *]; done) | (simp (disch := first | omega | (simp; omega) | (simp; done)) [Keep, go_sem, cell_far, cell_off, RowKit.frozen?_alloc_cells, frozen_new, *]; omega)) ht10; have hz10 := Below.size ht10; (try simp at hz10); clear ht10; simp only [Keep] at K10)
          clear K9 T9
          refine wp_forget (w0 := w) [(⟨w.heap.size, 0, none⟩, .int .i64 (an)), (⟨w.heap.size, 1, none⟩, .int .i64 (ad)), (⟨w.heap.size + 1, 0, none⟩, .int .i64 (bn)), (⟨w.heap.size + 1, 1, none⟩, .int .i64 (bd)), (⟨w.heap.size + 1 + 1, 0, none⟩, .int .i64 (cn)), (⟨w.heap.size + 1 + 1, 1, none⟩, .int .i64 (cd)), (⟨w6.heap.size, 0, none⟩, .int .i64 ((mulS an ad cn cd).1)), (⟨w6.heap.size, 1, none⟩, .int .i64 ((mulS an ad cn cd).2.1)), (⟨w7.heap.size, 0, none⟩, .int .i64 ((addS bn bd cn cd).1)), (⟨w7.heap.size, 1, none⟩, .int .i64 ((addS bn bd cn cd).2.1))] (by first | (simp [Keep, go_sem, *]; done) | (simp [Keep, go_sem, *]; omega) | (simp (disch := first | omega | (simp; omega) | (simp; done)) [Keep, go_sem, cell_far, cell_off, RowKit.frozen?_alloc_cells, frozen_new, *]; done) | (simp (disch := first | omega | (simp; omega) | (simp; done)) [Keep, go_sem, cell_far, cell_off, RowKit.frozen?_alloc_cells, frozen_new, *]; omega)) (by repeat (first | exact Tr.refl _ | assumption | apply Tr.al | apply Tr.drN | apply Tr.dr | (refine Tr.set ?_ (by first | omega | (simp; omega)) _))) ?_; intro w11 hs11 K11 T11; (try simp at hs11); simp only [Keep] at K11
          clear K10 T10
          go_upto_region 20 with (go_at_call 13; (with_reducible refine (mul_any _ _ _ _ _).mono ?_); rintro e w12 ⟨rfl, ht12⟩; have T12 : Tr w w12 := Tr.trans (by repeat (first | exact Tr.refl _ | assumption | apply Tr.al | apply Tr.drN | apply Tr.dr | (refine Tr.set ?_ (by first | omega | (simp; omega)) _))) ht12; have K12 := Keep.tr (l := [(⟨w.heap.size, 0, none⟩, .int .i64 (an)), (⟨w.heap.size, 1, none⟩, .int .i64 (ad)), (⟨w.heap.size + 1, 0, none⟩, .int .i64 (bn)), (⟨w.heap.size + 1, 1, none⟩, .int .i64 (bd)), (⟨w.heap.size + 1 + 1, 0, none⟩, .int .i64 (cn)), (⟨w.heap.size + 1 + 1, 1, none⟩, .int .i64 (cd)), (⟨w6.heap.size, 0, none⟩, .int .i64 ((mulS an ad cn cd).1)), (⟨w6.heap.size, 1, none⟩, .int .i64 ((mulS an ad cn cd).2.1)), (⟨w7.heap.size, 0, none⟩, .int .i64 ((addS bn bd cn cd).1)), (⟨w7.heap.size, 1, none⟩, .int .i64 ((addS bn bd cn cd).2.1))]) (by first | (simp [Keep, go_sem, *]; done) | (simp [Keep, go_sem, *]; omega) | (simp (disch := first | omega | (simp; omega) | (simp; done)) [Keep, go_sem, cell_far, cell_off, RowKit.frozen?_alloc_cells, frozen_new, *]; done) | (simp (disch := first | omega | (simp; omega) | (simp; done)) [Keep, go_sem, cell_far, cell_off, RowKit.frozen?_alloc_cells, frozen_new, *]; omega)) ht12; have hz12 := Below.size ht12; (try simp at hz12); clear ht12; simp only [Keep] at K12)
          clear K11 T11
          refine wp_forget (w0 := w) [(⟨w.heap.size, 0, none⟩, .int .i64 (an)), (⟨w.heap.size, 1, none⟩, .int .i64 (ad)), (⟨w.heap.size + 1, 0, none⟩, .int .i64 (bn)), (⟨w.heap.size + 1, 1, none⟩, .int .i64 (bd)), (⟨w.heap.size + 1 + 1, 0, none⟩, .int .i64 (cn)), (⟨w.heap.size + 1 + 1, 1, none⟩, .int .i64 (cd)), (⟨w6.heap.size, 0, none⟩, .int .i64 ((mulS an ad cn cd).1)), (⟨w6.heap.size, 1, none⟩, .int .i64 ((mulS an ad cn cd).2.1)), (⟨w7.heap.size, 0, none⟩, .int .i64 ((mulS bn bd cn cd).1)), (⟨w7.heap.size, 1, none⟩, .int .i64 ((mulS bn bd cn cd).2.1))] (by first | (simp [Keep, go_sem, *]; done) | (simp [Keep, go_sem, *]; omega) | (simp (disch := first | omega | (simp; omega) | (simp; done)) [Keep, go_sem, cell_far, cell_off, RowKit.frozen?_alloc_cells, frozen_new, *]; done) | (simp (disch := first | omega | (simp; omega) | (simp; done)) [Keep, go_sem, cell_far, cell_off, RowKit.frozen?_alloc_cells, frozen_new, *]; omega)) (by repeat (first | exact Tr.refl _ | assumption | apply Tr.al | apply Tr.drN | apply Tr.dr | (refine Tr.set ?_ (by first | omega | (simp; omega)) _))) ?_; intro w13 hs13 K13 T13; (try simp at hs13); simp only [Keep] at K13
          clear K12 T12
          rcases ok_or (mulS an ad cn cd).2.2 with ⟨e0, e1⟩ | ⟨e0, e1⟩
          · rcases ok_or (mulS bn bd cn cd).2.2 with ⟨e2, e3⟩ | ⟨e2, e3⟩
            · have hx := hmul.out (by simpa using e0) (by simpa using e2)
              by_cases p1 : 0 < cn
              · rw [if_pos p1, Int.one_mul] at hx
                go_upto_region 23 with (go_at_call 25; (with_reducible refine (cmp_any _ _ _ _ _).mono ?_); rintro e w14 ⟨rfl, ht14⟩; have T14 : Tr w w14 := Tr.trans (by repeat (first | exact Tr.refl _ | assumption | apply Tr.al | apply Tr.drN | apply Tr.dr | (refine Tr.set ?_ (by first | omega | (simp; omega)) _))) ht14; have K14 := Keep.tr (l := [(⟨w.heap.size, 0, none⟩, .int .i64 (an)), (⟨w.heap.size, 1, none⟩, .int .i64 (ad)), (⟨w.heap.size + 1, 0, none⟩, .int .i64 (bn)), (⟨w.heap.size + 1, 1, none⟩, .int .i64 (bd)), (⟨w.heap.size + 1 + 1, 0, none⟩, .int .i64 (cn)), (⟨w.heap.size + 1 + 1, 1, none⟩, .int .i64 (cd))]) (by first | (simp [Keep, go_sem, *]; done) | (simp [Keep, go_sem, *]; omega) | (simp (disch := first | omega | (simp; omega) | (simp; done)) [Keep, go_sem, cell_far, cell_off, RowKit.frozen?_alloc_cells, frozen_new, *]; done) | (simp (disch := first | omega | (simp; omega) | (simp; done)) [Keep, go_sem, cell_far, cell_off, RowKit.frozen?_alloc_cells, frozen_new, *]; omega)) ht14; have hz14 := Below.size ht14; (try simp at hz14); clear ht14; simp only [Keep] at K14)
                go_wp2_with fail
                go_ret
                exact ⟨by simp, (by repeat (first | exact Tr.refl _ | assumption | apply Tr.al | apply Tr.drN | apply Tr.dr | (refine Tr.set ?_ (by first | omega | (simp; omega)) _)))⟩
              · by_cases p2 : cn < 0
                · rw [if_neg p1, if_pos p2] at hx
                  rw [show (-1 : Int) * k = -k by omega] at hx
                  go_upto_region 23 with (go_at_call 25; (with_reducible refine (cmp_any _ _ _ _ _).mono ?_); rintro e w14 ⟨rfl, ht14⟩; have T14 : Tr w w14 := Tr.trans (by repeat (first | exact Tr.refl _ | assumption | apply Tr.al | apply Tr.drN | apply Tr.dr | (refine Tr.set ?_ (by first | omega | (simp; omega)) _))) ht14; have K14 := Keep.tr (l := [(⟨w.heap.size, 0, none⟩, .int .i64 (an)), (⟨w.heap.size, 1, none⟩, .int .i64 (ad)), (⟨w.heap.size + 1, 0, none⟩, .int .i64 (bn)), (⟨w.heap.size + 1, 1, none⟩, .int .i64 (bd)), (⟨w.heap.size + 1 + 1, 0, none⟩, .int .i64 (cn)), (⟨w.heap.size + 1 + 1, 1, none⟩, .int .i64 (cd))]) (by first | (simp [Keep, go_sem, *]; done) | (simp [Keep, go_sem, *]; omega) | (simp (disch := first | omega | (simp; omega) | (simp; done)) [Keep, go_sem, cell_far, cell_off, RowKit.frozen?_alloc_cells, frozen_new, *]; done) | (simp (disch := first | omega | (simp; omega) | (simp; done)) [Keep, go_sem, cell_far, cell_off, RowKit.frozen?_alloc_cells, frozen_new, *]; omega)) ht14; have hz14 := Below.size ht14; (try simp at hz14); clear ht14; simp only [Keep] at K14)
                  go_wp2_with fail
                  go_ret
                  exact ⟨by simp, (by repeat (first | exact Tr.refl _ | assumption | apply Tr.al | apply Tr.drN | apply Tr.dr | (refine Tr.set ?_ (by first | omega | (simp; omega)) _)))⟩
                · rw [if_neg p1, if_neg p2, Int.zero_mul] at hx
                  go_upto_region 23 with (go_at_call 25; (with_reducible refine (cmp_any _ _ _ _ _).mono ?_); rintro e w14 ⟨rfl, ht14⟩; have T14 : Tr w w14 := Tr.trans (by repeat (first | exact Tr.refl _ | assumption | apply Tr.al | apply Tr.drN | apply Tr.dr | (refine Tr.set ?_ (by first | omega | (simp; omega)) _))) ht14; have K14 := Keep.tr (l := [(⟨w.heap.size, 0, none⟩, .int .i64 (an)), (⟨w.heap.size, 1, none⟩, .int .i64 (ad)), (⟨w.heap.size + 1, 0, none⟩, .int .i64 (bn)), (⟨w.heap.size + 1, 1, none⟩, .int .i64 (bd)), (⟨w.heap.size + 1 + 1, 0, none⟩, .int .i64 (cn)), (⟨w.heap.size + 1 + 1, 1, none⟩, .int .i64 (cd))]) (by first | (simp [Keep, go_sem, *]; done) | (simp [Keep, go_sem, *]; omega) | (simp (disch := first | omega | (simp; omega) | (simp; done)) [Keep, go_sem, cell_far, cell_off, RowKit.frozen?_alloc_cells, frozen_new, *]; done) | (simp (disch := first | omega | (simp; omega) | (simp; done)) [Keep, go_sem, cell_far, cell_off, RowKit.frozen?_alloc_cells, frozen_new, *]; omega)) ht14; have hz14 := Below.size ht14; (try simp at hz14); clear ht14; simp only [Keep] at K14)
                  go_wp2_with fail
                  go_ret
                  exact ⟨by simp, (by repeat (first | exact Tr.refl _ | assumption | apply Tr.al | apply Tr.drN | apply Tr.dr | (refine Tr.set ?_ (by first | omega | (simp; omega)) _)))⟩
            · go_wp2_with fail
              go_ret
              exact ⟨rfl, (by repeat (first | exact Tr.refl _ | assumption | apply Tr.al | apply Tr.drN | apply Tr.dr | (refine Tr.set ?_ (by first | omega | (simp; omega)) _)))⟩
          · go_wp2_with fail
            go_ret
            exact ⟨rfl, (by repeat (first | exact Tr.refl _ | assumption | apply Tr.al | apply Tr.drN | apply Tr.dr | (refine Tr.set ?_ (by first | omega | (simp; omega)) _)))⟩

theorem walk (an ad bn bd cn cd : Int) (w : World) (hT : Tab w) :
    Calls Tryd.prog 6 #[.agg #[.int .i64 an, .int .i64 ad], .agg #[.int .i64 bn, .int .i64 bd], .agg #[.int .i64 cn, .int .i64 cd]] w fun e w' => e = .returned (.bool true) ∧ Tr w w' := by
  by_cases hv : validB an ad = true ∧ validB bn bd = true
  · obtain ⟨va, vb⟩ := hv
    have e2 : cmpS bn bd an ad = (-cmpQ (ratV an ad) (ratV bn bd), 0) := by rw [cmpS_eq vb va, cmpQ_swap]
    have hs := fun h => sub_sign va vb (h : (subS an ad bn bd).2.2 = 0)
    have ha := @cmp_addS an ad bn bd cn cd
    have hm := @cmp_mulS an ad bn bd cn cd
    have e1 := cmpS_eq va vb
    rcases ways va vb with ⟨w1, w2, w3, w4⟩ | ⟨w1, w2, w3, w4⟩ | ⟨w1, w2, w3, w4⟩
    · rw [w2] at e1 e2 ha hm
      exact walk_yes an ad bn bd cn cd 0 w hT e1 e2 (by decide) (by decide) (.inl ⟨rfl, w1.1, w1.2⟩) (fun h => ⟨decide_eq_decide.2 (by rw [(hs h).1]; simpa using w4), decide_eq_decide.2 (by rw [(hs h).2]; simpa using w3)⟩) ha hm
    · rw [w2] at e1 e2 ha hm
      exact walk_yes an ad bn bd cn cd (-1) w hT e1 e2 (by decide) (by decide) (.inr ⟨rfl, w1⟩) (fun h => ⟨decide_eq_decide.2 (by rw [(hs h).1]; simpa using w4), decide_eq_decide.2 (by rw [(hs h).2]; simpa using w3)⟩) ha hm
    · rw [w2] at e1 e2 ha hm
      exact walk_yes an ad bn bd cn cd 1 w hT e1 e2 (by decide) (by decide) (.inr ⟨rfl, w1⟩) (fun h => ⟨decide_eq_decide.2 (by rw [(hs h).1]; simpa using w4), decide_eq_decide.2 (by rw [(hs h).2]; simpa using w3)⟩) ha hm
  · exact walk_no an ad bn bd cn cd w hT (by unfold cmpS; rw [if_neg hv]) (by unfold cmpS; rw [if_neg (fun h => hv ⟨h.2, h.1⟩)])
end Go.Proofs.YtpjkiljgccjemaaDoor.ratioOrder
