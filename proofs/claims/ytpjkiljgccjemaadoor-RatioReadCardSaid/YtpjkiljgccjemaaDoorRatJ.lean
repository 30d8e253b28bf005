/- ratio.Make, Cmp, Floor and Ceil: for every argument. -/
import Derived.Test.YtpjkiljgccjemaaDoorRatI
namespace Go.Proofs.YtpjkiljgccjemaaDoor
open Go.RowKit Go.Sort

theorem make_q (n d : Int) (hd : d ≠ 0) : ∃ neg : Bool, (ratV n d).num = (if neg then -((n.natAbs : Int) / (Int.gcd n d : Int)) else (n.natAbs : Int) / (Int.gcd n d : Int)) ∧ ((ratV n d).den : Int) = (d.natAbs : Int) / (Int.gcd n d : Int) ∧
    (((n != 0) = false ∧ neg = false) ∨ ((n != 0) = true ∧ decide (n < 0) = true ∧ decide (d < 0) = true ∧ neg = false) ∨ ((n != 0) = true ∧ decide (n < 0) = true ∧ decide (d < 0) = false ∧ neg = true) ∨
      ((n != 0) = true ∧ decide (n < 0) = false ∧ decide (d < 0) = true ∧ neg = true) ∨ ((n != 0) = true ∧ decide (n < 0) = false ∧ decide (d < 0) = false ∧ neg = false)) := by
  have e1 := Rat.num_divInt n d
  have e2 := Rat.den_divInt n d
  rw [if_neg hd, Int.gcd_comm] at e2
  rw [Int.gcd_comm] at e1
  have hden : ((ratV n d).den : Int) = (d.natAbs : Int) / (Int.gcd n d : Int) := by unfold ratV; rw [e2]; rfl
  have dv : (Int.gcd n d : Int) ∣ (n.natAbs : Int) := Int.dvd_natAbs.2 (Int.gcd_dvd_left ..)
  have hnum : (ratV n d).num = d.sign * n / (Int.gcd n d : Int) := e1
  by_cases hz : n = 0
  · subst hz
    exact ⟨false, by rw [hnum]; simp, hden, .inl ⟨by simp, rfl⟩⟩
  · have hz' : (n != 0) = true := by simp [hz]
    by_cases h1 : n < 0 <;> by_cases h2 : d < 0
    · refine ⟨false, ?_, hden, .inr (.inl ⟨hz', by simp [h1], by simp [h2], rfl⟩)⟩
      rw [hnum, Int.sign_eq_neg_one_of_neg h2]; simp; congr 1; omega
    · refine ⟨true, ?_, hden, .inr (.inr (.inl ⟨hz', by simp [h1], by simp [h2], rfl⟩))⟩
      rw [hnum, Int.sign_eq_one_of_pos (by omega), if_pos rfl, ← Int.neg_ediv_of_dvd dv]; congr 1; omega
    · refine ⟨true, ?_, hden, .inr (.inr (.inr (.inl ⟨hz', by simp [h1], by simp [h2], rfl⟩)))⟩
      rw [hnum, Int.sign_eq_neg_one_of_neg h2, if_pos rfl, ← Int.neg_ediv_of_dvd dv]; congr 1; omega
    · refine ⟨false, ?_, hden, .inr (.inr (.inr (.inr ⟨hz', by simp [h1], by simp [h2], rfl⟩)))⟩
      rw [hnum, Int.sign_eq_one_of_pos (by omega)]; simp; congr 1; omega

set_option maxRecDepth 100000 in
/-- ratio.Make. -/
theorem make_any (n d : Int) (w : World) (n1 : -9223372036854775808 ≤ n) (n2 : n ≤ 9223372036854775807) (d1 : -9223372036854775808 ≤ d) (d2 : d ≤ 9223372036854775807) :
    Calls Tryd.prog 17 #[.int .i64 n, .int .i64 d] w fun e w' =>
      e = .returned (.tuple #[.agg #[.int .i64 (makeS n d).1, .int .i64 (makeS n d).2.1], .int .i64 (makeS n d).2.2]) ∧ Tr w w' := by
  by_cases hd : d = 0
  · rw [show makeS n d = (0, 0, 16) by unfold makeS; rw [if_pos hd]]
    have hd' : (d == 0) = true := by simp [hd]
    clear hd
    go_enter Tryd.func17, Tryd.ntmps17
    go_wp2
    simp [bodyPost, results, Tryd.results17, go_sem, *]
    exact (by repeat (first | exact Tr.refl _ | assumption | apply Tr.al | apply Tr.drN | apply Tr.dr | (refine Tr.set ?_ (by first | omega | (simp; done) | (simp; omega)) _)))
  · rw [show makeS n d = outQ (ratV n d) by unfold makeS; rw [if_neg hd]]
    obtain ⟨neg, q1, q2, hsign⟩ := make_q n d hd
    have hg0 : 0 < Int.gcd n d := Int.gcd_pos_of_ne_zero_right n hd
    have hG : ((n.natAbs.gcd d.natAbs : Nat) : Int) = (Int.gcd n d : Int) := by simp [Int.gcd]
    have nc0 : 0 ≤ (n.natAbs : Int) / (Int.gcd n d : Int) := Int.ediv_nonneg (by omega) (by omega)
    have nc1 : (n.natAbs : Int) / (Int.gcd n d : Int) ≤ n.natAbs := Int.ediv_le_self _ (by omega)
    have dd1 : (d.natAbs : Int) / (Int.gcd n d : Int) ≤ d.natAbs := Int.ediv_le_self _ (by omega)
    have dd0 : 1 ≤ (d.natAbs : Int) / (Int.gcd n d : Int) := by rw [← q2]; have := (ratV n d).den_pos; omega
    have oc := out_cases (ratV n d) _ _ neg nc0 (by omega) dd0 q1 q2
    have hd' : (d == 0) = false := by simp [hd]
    clear q1 q2 hd
    generalize hN : (n.natAbs : Int) / (Int.gcd n d : Int) = NC at *
    generalize hD : (d.natAbs : Int) / (Int.gcd n d : Int) = D at *
    generalize hGG : (Int.gcd n d : Int) = G at *
    have g1 : 1 ≤ G := by omega
    clear hg0 hGG
    rcases oc with ⟨o1, _⟩ | ⟨_, o1, _⟩ | ⟨_, _, o4, _, o2⟩ | ⟨_, _, o4, o5, _, _, o2⟩
    · exfalso; omega
    · exfalso; omega
    all_goals
      rcases hsign with ⟨s1, rfl⟩ | ⟨s1, s2, s3, rfl⟩ | ⟨s1, s2, s3, rfl⟩ | ⟨s1, s2, s3, rfl⟩ | ⟨s1, s2, s3, rfl⟩
      all_goals
        go_enter Tryd.func17, Tryd.ntmps17
        go_wp2_with (first
          | (go_at_call 42; (with_reducible refine (size_any _ (by omega) (by omega) _).mono ?_); rintro e w1 ⟨rfl, rfl⟩)
          | (go_at_call 40; (with_reducible refine (gcd_any _ _ _ (by omega) (by omega) (by omega) (by omega)).mono ?_); rintro e w1 ⟨rfl, nn1, rfl⟩))
        refine wp_region_mix0 18 (by kernel_rfl) (by kernel_rfl) ?_
        intro w3 hw3
        simp only [List.take_succ_cons, List.take_zero, List.drop_succ_cons, List.drop_zero]
        repeat (go_big_quiet_step (first
          | (go_at_call 47; exact calls_cl (signed_big _ NC D _ o4))
          | (go_at_call 47; exact calls_cl (signed_fits _ NC D _ (by omega) (by omega) (by omega) (by omega)))))
        refine wpQuiet_nil ?_
        intro w4 ht4
        have K4 := Keep.tr (l := [(⟨w.heap.size, 0, none⟩, .int .i64 (0)), (⟨w.heap.size, 1, none⟩, .int .i64 (0))]) (by first | (simp [Keep, go_sem, *]; done) | (simp [Keep, go_sem, *]; omega) | (simp (disch := first | omega | (simp; omega) | (simp; done)) [Keep, go_sem, cell_far, cell_off, RowKit.frozen?_alloc_cells, frozen_new, *]; done) | (simp (disch := first | omega | (simp; omega) | (simp; done)) [Keep, go_sem, cell_far, cell_off, RowKit.frozen?_alloc_cells, frozen_new, *]; omega)) ht4
        have T4 : Tr w w4 := Tr.trans (by repeat (first | exact Tr.refl _ | apply Tr.al | apply Tr.drN | apply Tr.dr)) ht4
        simp only [Keep] at K4
        clear ht4 hw3
        go_wp2
        obtain ⟨x1, x2, x3⟩ := o2.out
        rw [x1, x2, x3]
        simp [bodyPost, results, Tryd.results17, go_sem, *]
        exact (T4.set (by simp) _).set (by simp) _
end Go.Proofs.YtpjkiljgccjemaaDoor
