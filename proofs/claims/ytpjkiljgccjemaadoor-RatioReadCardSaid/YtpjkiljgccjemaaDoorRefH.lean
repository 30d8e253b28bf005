/- Contracts of the reference's Make, Valid, Times, Over, Floor and Ceil. -/
import Derived.Test.YtpjkiljgccjemaaDoorRefG
namespace Go.Proofs.YtpjkiljgccjemaaDoor
set_option linter.unusedVariables false
open Go.RowKit Go.Sort

theorem makesU (o : Oper) (hg : o.guard = none) (ho : o.op = .alloc 69) : MakesBlock Tryd.prog o #[.int .u64 0, .int .u64 0] 69 :=
  ⟨hg, fun a w => by unfold execOp; simp [ho, go_sem]⟩
theorem wd0 {x : Int} (h0 : 0 ≤ x) (h1 : x < 18446744073709551616) : Wd x 0 x := ⟨by omega, by omega⟩
theorem ratV_signs (n d : Int) (hd : d ≠ 0) : ratV (sg (decide (n < 0) != decide (d < 0)) n.natAbs) (d.natAbs : Int) = ratV n d := by
  unfold ratV sg
  by_cases h1 : n < 0 <;> by_cases h2 : d < 0
  · simp only [h1, h2, decide_true, bne_self_eq_false, Bool.false_eq_true, if_false]
    rw [show ((n.natAbs : Nat) : Int) = -n by omega, show ((d.natAbs : Nat) : Int) = -d by omega, Rat.neg_divInt_neg]
  · simp only [h1, h2, decide_true, decide_false, Bool.bne_false, if_true]
    rw [show ((n.natAbs : Nat) : Int) = -n by omega, show ((d.natAbs : Nat) : Int) = d by omega, Int.neg_neg]
  · simp only [h1, h2, decide_true, decide_false, Bool.false_bne, if_true]
    rw [show ((n.natAbs : Nat) : Int) = n by omega, show ((d.natAbs : Nat) : Int) = -d by omega, Rat.neg_divInt_neg]
  · simp only [h1, h2, decide_false, bne_self_eq_false, Bool.false_eq_true, if_false]
    rw [show ((n.natAbs : Nat) : Int) = n by omega, show ((d.natAbs : Nat) : Int) = d by omega]
theorem makeS_signs (n d : Int) : makeS (sg (decide (n < 0) != decide (d < 0)) n.natAbs) (d.natAbs : Int) = makeS n d := by
  unfold makeS
  by_cases hd : d = 0
  · rw [if_pos hd, if_pos (by omega)]
  · rw [if_neg hd, if_neg (by omega), ratV_signs n d hd]
theorem sgn_cases (n d : Int) : (decide (n < 0) = true ∧ decide (d < 0) = true ∧ (decide (n < 0) != decide (d < 0)) = false) ∨ (decide (n < 0) = true ∧ decide (d < 0) = false ∧ (decide (n < 0) != decide (d < 0)) = true) ∨
    (decide (n < 0) = false ∧ decide (d < 0) = true ∧ (decide (n < 0) != decide (d < 0)) = true) ∨ (decide (n < 0) = false ∧ decide (d < 0) = false ∧ (decide (n < 0) != decide (d < 0)) = false) := by
  by_cases h1 : n < 0 <;> by_cases h2 : d < 0 <;> simp [h1, h2]
theorem big_of {x : Int} (h : x < 18446744073709551616) : x < Big := by unfold Big; omega
/-- The reference's Make. -/
theorem rmake_any (n d : Int) (w : World) (n1 : -9223372036854775808 ≤ n) (n2 : n ≤ 9223372036854775807) (d1 : -9223372036854775808 ≤ d) (d2 : d ≤ 9223372036854775807) :
    Calls Tryd.prog 18 #[.int .i64 n, .int .i64 d] w fun e w' =>
      e = .returned (.tuple #[.agg #[.int .i64 (makeS n d).1, .int .i64 (makeS n d).2.1], .int .i64 (makeS n d).2.2]) ∧ Tr w w' := by
  have c1 := fun W => made_wd (decide (n < 0) != decide (d < 0)) W (wd0 (x := n.natAbs) (by omega) (by omega)) (wd0 (x := d.natAbs) (by omega) (by omega)) (⟨by omega, big_of (by omega)⟩ : 0 ≤ (n.natAbs : Int) ∧ (n.natAbs : Int) < Big) (⟨by omega, big_of (by omega)⟩ : 0 ≤ (d.natAbs : Int) ∧ (d.natAbs : Int) < Big)
  rw [makeS_signs] at c1
  generalize (makeS n d).1 = o1 at *
  generalize (makeS n d).2.1 = o2 at *
  generalize (makeS n d).2.2 = o3 at *
  rcases sgn_cases n d with ⟨s1, s2, s3⟩ | ⟨s1, s2, s3⟩ | ⟨s1, s2, s3⟩ | ⟨s1, s2, s3⟩
  all_goals
    rw [s3] at c1
    have C1 := Lib.hid c1
    clear c1 s3
    go_enter Tryd.func18, Tryd.ntmps18
    go_wp2_with (first
      | (go_at_call 49; (with_reducible refine (rsize_any _ (by omega) (by omega) _).mono ?_); rintro e w1 ⟨rfl, rfl⟩)
      | (go_at_call 48; (with_reducible refine (C1.out _).mono ?_); rintro e w2 ⟨rfl, ht2⟩; have T2 : Tr w w2 := Tr.trans (by repeat (first | exact Tr.refl _ | assumption | apply Tr.al | apply Tr.drN | apply Tr.dr | (refine Tr.set ?_ (by first | omega | (simp; done) | (simp; omega)) _))) ht2; have K2 := Keep.tr (l := [(⟨w.heap.size, 0, none⟩, .int .i64 (0)), (⟨w.heap.size, 1, none⟩, .int .i64 (0))]) (by first | (simp [Keep, go_sem, *]; done) | (simp [Keep, go_sem, *]; omega) | (simp (disch := first | omega | (simp; omega) | (simp; done)) [Keep, go_sem, cell_far, cell_off, RowKit.frozen?_alloc_cells, frozen_new, *]; done) | (simp (disch := first | omega | (simp; omega) | (simp; done)) [Keep, go_sem, cell_far, cell_off, RowKit.frozen?_alloc_cells, frozen_new, *]; omega)) ht2; have hz2 := Below.size ht2; (try simp at hz2); clear ht2; simp only [Keep] at K2))
    simp [bodyPost, results, Tryd.results18, go_sem, *]
    exact (by repeat (first | exact Tr.refl _ | assumption | apply Tr.al | apply Tr.drN | apply Tr.dr | (refine Tr.set ?_ (by first | omega | (simp; done) | (simp; omega)) _)))

set_option maxHeartbeats 1000000 in
/-- The reference's Valid. -/
theorem rvalid_any (n d : Int) (w : World) :
    Calls Tryd.prog 22 #[.agg #[.int .i64 n, .int .i64 d]] w fun e w' => e = .returned (.bool (validB n d)) ∧ Tr w w' := by
  by_cases hv : 1 ≤ d ∧ d ≤ 1152921504606846976 ∧ -1152921504606846976 ≤ n ∧ n ≤ 1152921504606846976
  · obtain ⟨h1, h2, h3, h4⟩ := hv
    have e1 : validB n d = ((Int.gcd n d : Int) == 1) := by
      rw [Bool.eq_iff_iff, validB_spec]
      simp
      exact ⟨fun h => by omega, fun h => ⟨h1, h2, h3, h4, by omega⟩⟩
    rw [e1]
    have hg : (Int.gcd n.natAbs d.natAbs : Int) = Int.gcd n d := by simp [Int.gcd]
    have hgp := Int.gcd_pos_of_ne_zero_right n (b := d) (by omega)
    have hgl : (Int.gcd n d : Int) ≤ d := Int.gcd_le_right _ (by omega)
    have c1 := fun W => rgcd_wd (wd0 (x := n.natAbs) (by omega) (by omega)) (wd0 (x := d.natAbs) (by omega) (by omega)) (by rw [hg]; exact wd0 (x := Int.gcd n d) (by omega) (by omega)) (by omega) (big_of (by omega)) (by omega) (big_of (by omega)) W
    have C1 := Lib.hid c1
    clear c1 hg hgp hgl e1
    generalize (Int.gcd n d : Int) = G at *
    obtain ⟨B, hB⟩ : ∃ B : Bool, (G == 1) = B := ⟨_, rfl⟩
    rw [hB]
    cases B
    all_goals
      go_enter Tryd.func22, Tryd.ntmps22
      go_upto_region 3 with (fail)
      refine wp_region_mix0 12 (by kernel_rfl) (by kernel_rfl) ?_
      intro wq hwq
      have kq := Keep.cl (l := [(⟨w.heap.size, 0, none⟩, .int .i64 (n)), (⟨w.heap.size, 1, none⟩, .int .i64 (d))]) (by first | (simp [Keep, go_sem, *]; done) | (simp [Keep, go_sem, *]; omega) | (simp (disch := first | omega | (simp; omega) | (simp; done)) [Keep, go_sem, cell_far, cell_off, RowKit.frozen?_alloc_cells, frozen_new, *]; done) | (simp (disch := first | omega | (simp; omega) | (simp; done)) [Keep, go_sem, cell_far, cell_off, RowKit.frozen?_alloc_cells, frozen_new, *]; omega)) hwq
      simp only [KeepCl] at kq
      simp only [List.take_succ_cons, List.take_zero, List.drop_succ_cons, List.drop_zero]
      repeat (go_big_quiet_step (first | (go_at_call 49; exact calls_cl_same (rsize_any _ (by omega) (by omega) _)) | (go_at_call 51; with_reducible exact calls_cl (C1.out _))))
      refine wpQuiet_nil ?_
      intro w3 ht3
      have K3 := Keep.tr (l := [(⟨w.heap.size, 0, none⟩, .int .i64 (n)), (⟨w.heap.size, 1, none⟩, .int .i64 (d))]) (by first | (simp [Keep, go_sem, *]; done) | (simp [Keep, go_sem, *]; omega) | (simp (disch := first | omega | (simp; omega) | (simp; done)) [Keep, go_sem, cell_far, cell_off, RowKit.frozen?_alloc_cells, frozen_new, *]; done) | (simp (disch := first | omega | (simp; omega) | (simp; done)) [Keep, go_sem, cell_far, cell_off, RowKit.frozen?_alloc_cells, frozen_new, *]; omega)) ht3
      have T3 : Tr w w3 := Tr.trans (by repeat (first | exact Tr.refl _ | assumption | apply Tr.al | apply Tr.drN | apply Tr.dr | (refine Tr.set ?_ (by first | omega | (simp; done) | (simp; omega)) _))) ht3
      have hs3 := Below.size ht3
      (try simp at hs3)
      simp only [Keep] at K3
      clear ht3 hwq kq
      go_wp2
      go_ret
      exact ⟨rfl, (by repeat (first | exact Tr.refl _ | assumption | apply Tr.al | apply Tr.drN | apply Tr.dr | (refine Tr.set ?_ (by first | omega | (simp; done) | (simp; omega)) _)))⟩
  · rw [validB_not (fun h => hv ⟨h.1, h.2.1, h.2.2.1, h.2.2.2.1⟩)]
    have hc : d < 1 ∨ (1 ≤ d ∧ 1152921504606846976 < d) ∨ (1 ≤ d ∧ d ≤ 1152921504606846976 ∧ n < -1152921504606846976) ∨ (1 ≤ d ∧ d ≤ 1152921504606846976 ∧ -1152921504606846976 ≤ n ∧ 1152921504606846976 < n) := by omega
    clear hv
    rcases hc with h | ⟨h1, h2⟩ | ⟨h1, h2, h3⟩ | ⟨h1, h2, h3, h4⟩
    all_goals
      go_enter Tryd.func22, Tryd.ntmps22
      go_wp2
      go_ret
      exact ⟨rfl, (by repeat (first | exact Tr.refl _ | assumption | apply Tr.al | apply Tr.drN | apply Tr.dr | (refine Tr.set ?_ (by first | omega | (simp; done) | (simp; omega)) _)))⟩

theorem rmul_wd {a b h l : Int} (h1 : Wd (a * b) h l) (ha : 0 ≤ a) (ha' : a < 18446744073709551616) (hb : 0 ≤ b) (hb' : b < 18446744073709551616) (w : World) :
    Calls Tryd.prog 53 #[.int .u64 a, .int .u64 b] w fun e w' => e = .returned (.agg #[.int .u64 h, .int .u64 l]) ∧ Tr w w' := by
  obtain ⟨rfl, rfl⟩ := h1
  exact rmul_any a b w ha ha' hb hb'
theorem prod_big {a b : Int} (ha : 0 ≤ a) (ha' : a ≤ 1152921504606846976) (hb : 0 ≤ b) (hb' : b ≤ 1152921504606846976) : 0 ≤ a * b ∧ a * b < Big := by
  obtain ⟨h1, h2⟩ := mul_le60 a b ha ha' hb hb'
  exact ⟨h1, by unfold Big; omega⟩
theorem makeS_of {n d n' d' : Int} (h : d ≠ 0) (h' : d' ≠ 0) (e : ratV n d = ratV n' d') : makeS n d = makeS n' d' := by
  unfold makeS
  rw [if_neg h, if_neg h', e]
theorem times_q {an ad bn bd : Int} (va : validB an ad = true) (vb : validB bn bd = true) :
    makeS (sg (decide (an < 0) != decide (bn < 0)) ((an.natAbs : Int) * bn.natAbs)) ((ad.natAbs : Int) * bd.natAbs) = mulS an ad bn bd := by
  obtain ⟨a1, _⟩ := validB_spec.1 va
  obtain ⟨b1, _⟩ := validB_spec.1 vb
  rw [show ((ad.natAbs : Nat) : Int) = ad by omega, show ((bd.natAbs : Nat) : Int) = bd by omega]
  have hd : ad * bd ≠ 0 := by have := Int.mul_pos (a := ad) (b := bd) (by omega) (by omega); omega
  have e : sg (decide (an < 0) != decide (bn < 0)) ((an.natAbs : Int) * bn.natAbs) = an * bn := by
    unfold sg
    by_cases h1 : an < 0 <;> by_cases h2 : bn < 0
    · simp only [h1, h2, decide_true, bne_self_eq_false, Bool.false_eq_true, if_false]
      rw [show ((an.natAbs : Nat) : Int) = -an by omega, show ((bn.natAbs : Nat) : Int) = -bn by omega, Int.neg_mul_neg]
    · simp only [h1, h2, decide_true, decide_false, Bool.bne_false, if_true]
      rw [show ((an.natAbs : Nat) : Int) = -an by omega, show ((bn.natAbs : Nat) : Int) = bn by omega, Int.neg_mul, Int.neg_neg]
    · simp only [h1, h2, decide_true, decide_false, Bool.false_bne, if_true]
      rw [show ((an.natAbs : Nat) : Int) = an by omega, show ((bn.natAbs : Nat) : Int) = -bn by omega, Int.mul_neg, Int.neg_neg]
    · simp only [h1, h2, decide_false, bne_self_eq_false, Bool.false_eq_true, if_false]
      rw [show ((an.natAbs : Nat) : Int) = an by omega, show ((bn.natAbs : Nat) : Int) = bn by omega]
  rw [e]
  unfold makeS mulS
  rw [if_neg hd, if_pos ⟨va, vb⟩]
  unfold ratV
  rw [Rat.divInt_mul_divInt]
theorem over_q {an ad bn bd : Int} (va : validB an ad = true) (vb : validB bn bd = true) :
    makeS (sg (decide (an < 0) != decide (bn < 0)) ((an.natAbs : Int) * bd.natAbs)) ((ad.natAbs : Int) * bn.natAbs) = divS an ad bn bd := by
  obtain ⟨a1, _⟩ := validB_spec.1 va
  obtain ⟨b1, _⟩ := validB_spec.1 vb
  rw [show ((ad.natAbs : Nat) : Int) = ad by omega, show ((bd.natAbs : Nat) : Int) = bd by omega]
  by_cases hb : bn = 0
  · subst hb
    unfold makeS divS
    rw [if_pos (by simp), if_pos ⟨va, vb⟩, if_pos rfl]
  · have hd : ad * bn.natAbs ≠ 0 := by have := Int.mul_pos (a := ad) (b := bn.natAbs) (by omega) (by omega); omega
    unfold makeS divS
    rw [if_neg hd, if_pos ⟨va, vb⟩, if_neg hb]
    congr 1
    unfold ratV
    rw [Rat.inv_divInt, Rat.divInt_mul_divInt]
    have s1 : sg (decide (an < 0) != decide (bn < 0)) ((an.natAbs : Int) * bd) = if bn < 0 then -(an * bd) else an * bd := by
      unfold sg
      by_cases h1 : an < 0 <;> by_cases h2 : bn < 0
      · simp only [h1, h2, decide_true, bne_self_eq_false, Bool.false_eq_true, if_false, if_true]
        rw [show ((an.natAbs : Nat) : Int) = -an by omega, Int.neg_mul]
      · simp only [h1, h2, decide_true, decide_false, Bool.bne_false, if_true, if_false]
        rw [show ((an.natAbs : Nat) : Int) = -an by omega, Int.neg_mul, Int.neg_neg]
      · simp only [h1, h2, decide_true, decide_false, Bool.false_bne, if_true]
        rw [show ((an.natAbs : Nat) : Int) = an by omega]
      · simp only [h1, h2, decide_false, bne_self_eq_false, Bool.false_eq_true, if_false]
        rw [show ((an.natAbs : Nat) : Int) = an by omega]
    rw [s1]
    by_cases h2 : bn < 0
    · rw [if_pos h2, show ((bn.natAbs : Nat) : Int) = -bn by omega, Int.mul_neg, Rat.neg_divInt_neg]
    · rw [if_neg h2, show ((bn.natAbs : Nat) : Int) = bn by omega]

set_option maxRecDepth 100000 in
set_option maxHeartbeats 1000000 in
/-- The reference's Times. -/
theorem rtimes_any (an ad bn bd : Int) (w : World) (va : validB an ad = true) (vb : validB bn bd = true) :
    Calls Tryd.prog 28 #[.agg #[.int .i64 an, .int .i64 ad], .agg #[.int .i64 bn, .int .i64 bd]] w fun e w' =>
      e = .returned (.tuple #[.agg #[.int .i64 (mulS an ad bn bd).1, .int .i64 (mulS an ad bn bd).2.1], .int .i64 (mulS an ad bn bd).2.2]) ∧ Tr w w' := by
  obtain ⟨a1, a2, a3, a4, _⟩ := validB_spec.1 va
  obtain ⟨b1, b2, b3, b4, _⟩ := validB_spec.1 vb
  have c1 := fun W => made_wd (nh := _) (nl := _) (dh := _) (dl := _) (decide (an < 0) != decide (bn < 0)) W (⟨rfl, rfl⟩ : Wd ((an.natAbs : Int) * bn.natAbs) _ _) (⟨rfl, rfl⟩ : Wd ((ad.natAbs : Int) * bd.natAbs) _ _) (prod_big (by omega) (by omega) (by omega) (by omega)) (prod_big (by omega) (by omega) (by omega) (by omega))
  rw [times_q va vb] at c1
  have m1 := fun W => rmul_any an.natAbs bn.natAbs W (by omega) (by omega) (by omega) (by omega)
  have m2 := fun W => rmul_any ad.natAbs bd.natAbs W (by omega) (by omega) (by omega) (by omega)
  generalize ((an.natAbs : Int) * bn.natAbs) / 18446744073709551616 = xh at *
  generalize ((an.natAbs : Int) * bn.natAbs) % 18446744073709551616 = xl at *
  generalize ((ad.natAbs : Int) * bd.natAbs) / 18446744073709551616 = yh at *
  generalize ((ad.natAbs : Int) * bd.natAbs) % 18446744073709551616 = yl at *
  have M1 := Lib.hid m1
  have M2 := Lib.hid m2
  clear m1 m2
  generalize (mulS an ad bn bd).1 = o1 at *
  generalize (mulS an ad bn bd).2.1 = o2 at *
  generalize (mulS an ad bn bd).2.2 = o3 at *
  rcases sgn_cases an bn with ⟨s1, s2, s3⟩ | ⟨s1, s2, s3⟩ | ⟨s1, s2, s3⟩ | ⟨s1, s2, s3⟩
  all_goals
    rw [s3] at c1
    have C1 := Lib.hid c1
    clear c1 s3
    go_enter Tryd.func28, Tryd.ntmps28
    go_upto_region 1 with (fail)
    refine wp_region_mix0 24 (by kernel_rfl) (by kernel_rfl) ?_
    intro wq hwq
    have kq := Keep.cl (l := [(⟨w.heap.size, 0, none⟩, .int .i64 (an)), (⟨w.heap.size, 1, none⟩, .int .i64 (ad)), (⟨w.heap.size + 1, 0, none⟩, .int .i64 (bn)), (⟨w.heap.size + 1, 1, none⟩, .int .i64 (bd)), (⟨w.heap.size + 1 + 1, 0, none⟩, .int .i64 (0)), (⟨w.heap.size + 1 + 1, 1, none⟩, .int .i64 (0))]) (by first | (simp [Keep, go_sem, *]; done) | (simp [Keep, go_sem, *]; omega) | (simp (disch := first | omega | (simp; omega) | (simp; done)) [Keep, go_sem, cell_far, cell_off, RowKit.frozen?_alloc_cells, frozen_new, *]; done) | (simp (disch := first | omega | (simp; omega) | (simp; done)) [Keep, go_sem, cell_far, cell_off, RowKit.frozen?_alloc_cells, frozen_new, *]; omega)) hwq
    simp only [KeepCl] at kq
    simp only [List.take_succ_cons, List.take_zero, List.drop_succ_cons, List.drop_zero]
    repeat (go_big_quiet_step (first | (go_at_call 49; exact calls_cl_same (rsize_any _ (by omega) (by omega) _)) | (go_at_call 53; first | with_reducible exact calls_cl (M1.out _) | with_reducible exact calls_cl (M2.out _)) | (go_at_call 48; with_reducible exact calls_cl (C1.out _))))
    refine wpQuiet_nil ?_
    intro w3 ht3
    have K3 := Keep.tr (l := [(⟨w.heap.size, 0, none⟩, .int .i64 (an)), (⟨w.heap.size, 1, none⟩, .int .i64 (ad)), (⟨w.heap.size + 1, 0, none⟩, .int .i64 (bn)), (⟨w.heap.size + 1, 1, none⟩, .int .i64 (bd)), (⟨w.heap.size + 1 + 1, 0, none⟩, .int .i64 (0)), (⟨w.heap.size + 1 + 1, 1, none⟩, .int .i64 (0))]) (by first | (simp [Keep, go_sem, *]; done) | (simp [Keep, go_sem, *]; omega) | (simp (disch := first | omega | (simp; omega) | (simp; done)) [Keep, go_sem, cell_far, cell_off, RowKit.frozen?_alloc_cells, frozen_new, *]; done) | (simp (disch := first | omega | (simp; omega) | (simp; done)) [Keep, go_sem, cell_far, cell_off, RowKit.frozen?_alloc_cells, frozen_new, *]; omega)) ht3
    have T3 : Tr w w3 := Tr.trans (by repeat (first | exact Tr.refl _ | assumption | apply Tr.al | apply Tr.drN | apply Tr.dr | (refine Tr.set ?_ (by first | omega | (simp; done) | (simp; omega)) _))) ht3
    have hs3 := Below.size ht3
    (try simp at hs3)
    simp only [Keep] at K3
    clear ht3 hwq kq
    go_wp2
    simp [bodyPost, results, Tryd.results28, go_sem, *]
    exact (by repeat (first | exact Tr.refl _ | assumption | apply Tr.al | apply Tr.drN | apply Tr.dr | (refine Tr.set ?_ (by first | omega | (simp; done) | (simp; omega)) _)))
set_option maxRecDepth 100000 in
set_option maxHeartbeats 1000000 in
/-- The reference's Over. -/
theorem rover_any (an ad bn bd : Int) (w : World) (va : validB an ad = true) (vb : validB bn bd = true) :
    Calls Tryd.prog 29 #[.agg #[.int .i64 an, .int .i64 ad], .agg #[.int .i64 bn, .int .i64 bd]] w fun e w' =>
      e = .returned (.tuple #[.agg #[.int .i64 (divS an ad bn bd).1, .int .i64 (divS an ad bn bd).2.1], .int .i64 (divS an ad bn bd).2.2]) ∧ Tr w w' := by
  obtain ⟨a1, a2, a3, a4, _⟩ := validB_spec.1 va
  obtain ⟨b1, b2, b3, b4, _⟩ := validB_spec.1 vb
  have c1 := fun W => made_wd (nh := _) (nl := _) (dh := _) (dl := _) (decide (an < 0) != decide (bn < 0)) W (⟨rfl, rfl⟩ : Wd ((an.natAbs : Int) * bd.natAbs) _ _) (⟨rfl, rfl⟩ : Wd ((ad.natAbs : Int) * bn.natAbs) _ _) (prod_big (by omega) (by omega) (by omega) (by omega)) (prod_big (by omega) (by omega) (by omega) (by omega))
  rw [over_q va vb] at c1
  have m1 := fun W => rmul_any an.natAbs bd.natAbs W (by omega) (by omega) (by omega) (by omega)
  have m2 := fun W => rmul_any ad.natAbs bn.natAbs W (by omega) (by omega) (by omega) (by omega)
  generalize ((an.natAbs : Int) * bd.natAbs) / 18446744073709551616 = xh at *
  generalize ((an.natAbs : Int) * bd.natAbs) % 18446744073709551616 = xl at *
  generalize ((ad.natAbs : Int) * bn.natAbs) / 18446744073709551616 = yh at *
  generalize ((ad.natAbs : Int) * bn.natAbs) % 18446744073709551616 = yl at *
  have M1 := Lib.hid m1
  have M2 := Lib.hid m2
  clear m1 m2
  generalize (divS an ad bn bd).1 = o1 at *
  generalize (divS an ad bn bd).2.1 = o2 at *
  generalize (divS an ad bn bd).2.2 = o3 at *
  rcases sgn_cases an bn with ⟨s1, s2, s3⟩ | ⟨s1, s2, s3⟩ | ⟨s1, s2, s3⟩ | ⟨s1, s2, s3⟩
  all_goals
    rw [s3] at c1
    have C1 := Lib.hid c1
    clear c1 s3
    go_enter Tryd.func29, Tryd.ntmps29
    go_upto_region 1 with (fail)
    refine wp_region_mix0 24 (by kernel_rfl) (by kernel_rfl) ?_
    intro wq hwq
    have kq := Keep.cl (l := [(⟨w.heap.size, 0, none⟩, .int .i64 (an)), (⟨w.heap.size, 1, none⟩, .int .i64 (ad)), (⟨w.heap.size + 1, 0, none⟩, .int .i64 (bn)), (⟨w.heap.size + 1, 1, none⟩, .int .i64 (bd)), (⟨w.heap.size + 1 + 1, 0, none⟩, .int .i64 (0)), (⟨w.heap.size + 1 + 1, 1, none⟩, .int .i64 (0))]) (by first | (simp [Keep, go_sem, *]; done) | (simp [Keep, go_sem, *]; omega) | (simp (disch := first | omega | (simp; omega) | (simp; done)) [Keep, go_sem, cell_far, cell_off, RowKit.frozen?_alloc_cells, frozen_new, *]; done) | (simp (disch := first | omega | (simp; omega) | (simp; done)) [Keep, go_sem, cell_far, cell_off, RowKit.frozen?_alloc_cells, frozen_new, *]; omega)) hwq
    simp only [KeepCl] at kq
    simp only [List.take_succ_cons, List.take_zero, List.drop_succ_cons, List.drop_zero]
    repeat (go_big_quiet_step (first | (go_at_call 49; exact calls_cl_same (rsize_any _ (by omega) (by omega) _)) | (go_at_call 53; first | with_reducible exact calls_cl (M1.out _) | with_reducible exact calls_cl (M2.out _)) | (go_at_call 48; with_reducible exact calls_cl (C1.out _))))
    refine wpQuiet_nil ?_
    intro w3 ht3
    have K3 := Keep.tr (l := [(⟨w.heap.size, 0, none⟩, .int .i64 (an)), (⟨w.heap.size, 1, none⟩, .int .i64 (ad)), (⟨w.heap.size + 1, 0, none⟩, .int .i64 (bn)), (⟨w.heap.size + 1, 1, none⟩, .int .i64 (bd)), (⟨w.heap.size + 1 + 1, 0, none⟩, .int .i64 (0)), (⟨w.heap.size + 1 + 1, 1, none⟩, .int .i64 (0))]) (by first | (simp [Keep, go_sem, *]; done) | (simp [Keep, go_sem, *]; omega) | (simp (disch := first | omega | (simp; omega) | (simp; done)) [Keep, go_sem, cell_far, cell_off, RowKit.frozen?_alloc_cells, frozen_new, *]; done) | (simp (disch := first | omega | (simp; omega) | (simp; done)) [Keep, go_sem, cell_far, cell_off, RowKit.frozen?_alloc_cells, frozen_new, *]; omega)) ht3
    have T3 : Tr w w3 := Tr.trans (by repeat (first | exact Tr.refl _ | assumption | apply Tr.al | apply Tr.drN | apply Tr.dr | (refine Tr.set ?_ (by first | omega | (simp; done) | (simp; omega)) _))) ht3
    have hs3 := Below.size ht3
    (try simp at hs3)
    simp only [Keep] at K3
    clear ht3 hwq kq
    go_wp2
    simp [bodyPost, results, Tryd.results29, go_sem, *]
    exact (by repeat (first | exact Tr.refl _ | assumption | apply Tr.al | apply Tr.drN | apply Tr.dr | (refine Tr.set ?_ (by first | omega | (simp; done) | (simp; omega)) _)))
end Go.Proofs.YtpjkiljgccjemaaDoor
