/- Contracts of the reference's Add, Sub, Cmp, Floor and Ceil. -/
import Derived.Test.YtpjkiljgccjemaaDoorRefH
namespace Go.Proofs.YtpjkiljgccjemaaDoor
set_option linter.unusedVariables false
open Go.RowKit Go.Sort

theorem add_q {an ad bn bd n : Int} (va : validB an ad = true) (vb : validB bn bd = true) (hn : n = an * bd + bn * ad) : makeS n ((ad.natAbs : Int) * bd.natAbs) = addS an ad bn bd := by
  obtain ⟨a1, _⟩ := validB_spec.1 va
  obtain ⟨b1, _⟩ := validB_spec.1 vb
  rw [show ((ad.natAbs : Nat) : Int) = ad by omega, show ((bd.natAbs : Nat) : Int) = bd by omega]
  have hd : ad * bd ≠ 0 := by have := Int.mul_pos (a := ad) (b := bd) (by omega) (by omega); omega
  unfold makeS addS
  rw [if_neg hd, if_pos ⟨va, vb⟩, hn]
  unfold ratV
  rw [Rat.divInt_add_divInt _ _ (by omega) (by omega)]
theorem radd_made {an ad bn bd S dh dl sh sl : Int} (neg : Bool) (va : validB an ad = true) (vb : validB bn bd = true) (hS : sg neg S = an * bd + bn * ad) (h0 : 0 ≤ S) (hb : S < Big) (WS : Wd S sh sl)
    (WD : Wd ((ad.natAbs : Int) * bd.natAbs) dh dl) (w : World) :
    Calls Tryd.prog 48 #[.agg #[.int .u64 sh, .int .u64 sl], .bool neg, .agg #[.int .u64 dh, .int .u64 dl]] w fun e w' =>
      e = .returned (.tuple #[.agg #[.int .i64 (addS an ad bn bd).1, .int .i64 (addS an ad bn bd).2.1], .int .i64 (addS an ad bn bd).2.2]) ∧ Tr w w' := by
  obtain ⟨a1, a2, a3, a4, _⟩ := validB_spec.1 va
  obtain ⟨b1, b2, b3, b4, _⟩ := validB_spec.1 vb
  have := made_wd (N := S) (D := (ad.natAbs : Int) * bd.natAbs) neg w WS WD ⟨h0, hb⟩ (prod_big (by omega) (by omega) (by omega) (by omega))
  rw [add_q va vb hS] at this
  exact this
/-- The parts of the sum. -/
theorem sum_parts {an ad bn bd : Int} (va : validB an ad = true) (vb : validB bn bd = true) :
    (decide (an < 0) = true ∧ decide (bn < 0) = true ∧ sg true ((an.natAbs : Int) * bd.natAbs + (bn.natAbs : Int) * ad.natAbs) = an * bd + bn * ad) ∨
    (decide (an < 0) = false ∧ decide (bn < 0) = false ∧ sg false ((an.natAbs : Int) * bd.natAbs + (bn.natAbs : Int) * ad.natAbs) = an * bd + bn * ad) ∨
    (decide (an < 0) = true ∧ decide (bn < 0) = false ∧ sg false ((bn.natAbs : Int) * ad.natAbs - (an.natAbs : Int) * bd.natAbs) = an * bd + bn * ad ∧ sg true ((an.natAbs : Int) * bd.natAbs - (bn.natAbs : Int) * ad.natAbs) = an * bd + bn * ad) ∨
    (decide (an < 0) = false ∧ decide (bn < 0) = true ∧ sg true ((bn.natAbs : Int) * ad.natAbs - (an.natAbs : Int) * bd.natAbs) = an * bd + bn * ad ∧ sg false ((an.natAbs : Int) * bd.natAbs - (bn.natAbs : Int) * ad.natAbs) = an * bd + bn * ad) := by
  obtain ⟨a1, _⟩ := validB_spec.1 va
  obtain ⟨b1, _⟩ := validB_spec.1 vb
  rw [show ((ad.natAbs : Nat) : Int) = ad by omega, show ((bd.natAbs : Nat) : Int) = bd by omega]
  by_cases h1 : an < 0 <;> by_cases h2 : bn < 0
  · refine .inl ⟨by simp [h1], by simp [h2], ?_⟩
    rw [show ((an.natAbs : Nat) : Int) = -an by omega, show ((bn.natAbs : Nat) : Int) = -bn by omega]
    simp only [sg, if_true]; rw [Int.neg_mul, Int.neg_mul]; omega
  · refine .inr (.inr (.inl ⟨by simp [h1], by simp [h2], ?_, ?_⟩)) <;>
    rw [show ((an.natAbs : Nat) : Int) = -an by omega, show ((bn.natAbs : Nat) : Int) = bn by omega] <;>
    simp only [sg, if_true, Bool.false_eq_true, if_false] <;> rw [Int.neg_mul] <;> omega
  · refine .inr (.inr (.inr ⟨by simp [h1], by simp [h2], ?_, ?_⟩)) <;>
    rw [show ((an.natAbs : Nat) : Int) = an by omega, show ((bn.natAbs : Nat) : Int) = -bn by omega] <;>
    simp only [sg, if_true, Bool.false_eq_true, if_false] <;> rw [Int.neg_mul] <;> omega
  · refine .inr (.inl ⟨by simp [h1], by simp [h2], ?_⟩)
    rw [show ((an.natAbs : Nat) : Int) = an by omega, show ((bn.natAbs : Nat) : Int) = bn by omega]
    simp only [sg, Bool.false_eq_true, if_false]

set_option maxRecDepth 100000 in
set_option maxHeartbeats 4000000 in
/-- The reference's Add. -/
theorem radd_any (an ad bn bd : Int) (w : World) (va : validB an ad = true) (vb : validB bn bd = true) :
    Calls Tryd.prog 26 #[.agg #[.int .i64 an, .int .i64 ad], .agg #[.int .i64 bn, .int .i64 bd]] w fun e w' =>
      e = .returned (.tuple #[.agg #[.int .i64 (addS an ad bn bd).1, .int .i64 (addS an ad bn bd).2.1], .int .i64 (addS an ad bn bd).2.2]) ∧ Tr w w' := by
  obtain ⟨p1, p2, p3, p4, _⟩ := validB_spec.1 va
  obtain ⟨q1, q2, q3, q4, _⟩ := validB_spec.1 vb
  have m1 := fun W => rmul_any an.natAbs bd.natAbs W (by omega) (by omega) (by omega) (by omega)
  have m2 := fun W => rmul_any bn.natAbs ad.natAbs W (by omega) (by omega) (by omega) (by omega)
  have m3 := fun W => rmul_any ad.natAbs bd.natAbs W (by omega) (by omega) (by omega) (by omega)
  have cm := fun (neg : Bool) (S sh sl : Int) (hS : sg neg S = an * bd + bn * ad) (h0 : 0 ≤ S) (hb : S < Big) (WS : Wd S sh sl) W => radd_made neg va vb hS h0 hb WS ⟨rfl, rfl⟩ W
  have sp := sum_parts va vb
  have bx := mul_le60 (an.natAbs : Int) bd.natAbs (by omega) (by omega) (by omega) (by omega)
  have b_y := mul_le60 (bn.natAbs : Int) ad.natAbs (by omega) (by omega) (by omega) (by omega)
  generalize ((ad.natAbs : Int) * bd.natAbs) / 18446744073709551616 = dh at *
  generalize ((ad.natAbs : Int) * bd.natAbs) % 18446744073709551616 = dl at *
  generalize ((an.natAbs : Int) * bd.natAbs) = X at *
  generalize ((bn.natAbs : Int) * ad.natAbs) = Y at *
  obtain ⟨xh, hxh⟩ : ∃ z, z = X / 18446744073709551616 := ⟨_, rfl⟩
  obtain ⟨xl, hxl⟩ : ∃ z, z = X % 18446744073709551616 := ⟨_, rfl⟩
  obtain ⟨yh, hyh⟩ : ∃ z, z = Y / 18446744073709551616 := ⟨_, rfl⟩
  obtain ⟨yl, hyl⟩ : ∃ z, z = Y % 18446744073709551616 := ⟨_, rfl⟩
  rw [← hxh, ← hxl] at m1
  rw [← hyh, ← hyl] at m2
  have WX : Hid (Wd X xh xl) := ⟨hxh, hxl⟩
  have WY : Hid (Wd Y yh yl) := ⟨hyh, hyl⟩
  have BX := Lib.hid bx
  have BY := Lib.hid b_y
  have M1 := Lib.hid m1
  have M2 := Lib.hid m2
  have M3 := Lib.hid m3
  have CM := Lib.hid cm
  clear m1 m2 m3 cm hxh hxl hyh hyl bx b_y
  generalize (addS an ad bn bd).1 = o1 at *
  generalize (addS an ad bn bd).2.1 = o2 at *
  generalize (addS an ad bn bd).2.2 = o3 at *
  have cases : ∃ neg : Bool, ∃ S sh sl : Int, Hid (sg neg S = an * bd + bn * ad) ∧ Hid (0 ≤ S ∧ S < Big) ∧ Hid (Wd S sh sl) ∧
      ((decide (an < 0) = true ∧ decide (bn < 0) = true ∧ Hid (S = X + Y) ∧ neg = true) ∨ (decide (an < 0) = false ∧ decide (bn < 0) = false ∧ Hid (S = X + Y) ∧ neg = false) ∨
       (decide (an < 0) = true ∧ decide (bn < 0) = false ∧ Hid (X < Y) ∧ Hid (S = Y - X) ∧ neg = false) ∨ (decide (an < 0) = true ∧ decide (bn < 0) = false ∧ Hid (¬ X < Y) ∧ Hid (S = X - Y) ∧ neg = true) ∨
       (decide (an < 0) = false ∧ decide (bn < 0) = true ∧ Hid (X < Y) ∧ Hid (S = Y - X) ∧ neg = true) ∨ (decide (an < 0) = false ∧ decide (bn < 0) = true ∧ Hid (¬ X < Y) ∧ Hid (S = X - Y) ∧ neg = false)) := by
    obtain ⟨x0, x1⟩ := BX.out
    obtain ⟨y0, y1⟩ := BY.out
    have hBig : Big = 340282366920938463463374607431768211456 := rfl
    rcases sp with ⟨s1, s2, s3⟩ | ⟨s1, s2, s3⟩ | ⟨s1, s2, s3, s4⟩ | ⟨s1, s2, s3, s4⟩
    · exact ⟨true, X + Y, _, _, s3, (by omega : 0 ≤ X + Y ∧ X + Y < Big), (⟨rfl, rfl⟩ : Wd (X + Y) _ _), .inl ⟨s1, s2, (rfl : X + Y = X + Y), rfl⟩⟩
    · exact ⟨false, X + Y, _, _, s3, (by omega : 0 ≤ X + Y ∧ X + Y < Big), (⟨rfl, rfl⟩ : Wd (X + Y) _ _), .inr (.inl ⟨s1, s2, (rfl : X + Y = X + Y), rfl⟩)⟩
    · by_cases h : X < Y
      · exact ⟨false, Y - X, _, _, s3, (by omega : 0 ≤ Y - X ∧ Y - X < Big), (⟨rfl, rfl⟩ : Wd (Y - X) _ _), .inr (.inr (.inl ⟨s1, s2, h, (rfl : Y - X = Y - X), rfl⟩))⟩
      · exact ⟨true, X - Y, _, _, s4, (by omega : 0 ≤ X - Y ∧ X - Y < Big), (⟨rfl, rfl⟩ : Wd (X - Y) _ _), .inr (.inr (.inr (.inl ⟨s1, s2, h, (rfl : X - Y = X - Y), rfl⟩)))⟩
    · by_cases h : X < Y
      · exact ⟨true, Y - X, _, _, s3, (by omega : 0 ≤ Y - X ∧ Y - X < Big), (⟨rfl, rfl⟩ : Wd (Y - X) _ _), .inr (.inr (.inr (.inr (.inl ⟨s1, s2, h, (rfl : Y - X = Y - X), rfl⟩))))⟩
      · exact ⟨false, X - Y, _, _, s4, (by omega : 0 ≤ X - Y ∧ X - Y < Big), (⟨rfl, rfl⟩ : Wd (X - Y) _ _), .inr (.inr (.inr (.inr (.inr ⟨s1, s2, h, (rfl : X - Y = X - Y), rfl⟩))))⟩
  clear sp
  obtain ⟨neg, S, sh, sl, hS, hB, WS, hc⟩ := cases
  have CM1 : Hid (∀ W, Calls Tryd.prog 48 #[.agg #[.int .u64 sh, .int .u64 sl], .bool neg, .agg #[.int .u64 dh, .int .u64 dl]] W fun e w' =>
      e = .returned (.tuple #[.agg #[.int .i64 o1, .int .i64 o2], .int .i64 o3]) ∧ Tr W w') := fun W => CM.out neg S sh sl hS.out hB.out.1 hB.out.2 WS.out W
  have hx0 : Hid (0 ≤ X ∧ X < Big ∧ 0 ≤ Y ∧ Y < Big ∧ X + Y < Big) := (by
    obtain ⟨x0, x1⟩ := BX.out
    obtain ⟨y0, y1⟩ := BY.out
    have hBig : Big = 340282366920938463463374607431768211456 := rfl
    omega : 0 ≤ X ∧ X < Big ∧ 0 ≤ Y ∧ Y < Big ∧ X + Y < Big)
  clear CM hS hB BX BY
  go_enter Tryd.func26, Tryd.ntmps26
  go_upto_region 1 with (fail)
  refine wp_region_mix1 7 #[.int .u64 0, .int .u64 0] 69 _ (by kernel_rfl) (by kernel_rfl) rfl (makesU _ rfl rfl) ?_
  intro wq hwq
  have kq := Keep.cl (l := [(⟨w.heap.size, 0, none⟩, .int .i64 (an)), (⟨w.heap.size, 1, none⟩, .int .i64 (ad)), (⟨w.heap.size + 1, 0, none⟩, .int .i64 (bn)), (⟨w.heap.size + 1, 1, none⟩, .int .i64 (bd)), (⟨w.heap.size + 1 + 1, 0, none⟩, .int .i64 (0)), (⟨w.heap.size + 1 + 1, 1, none⟩, .int .i64 (0))]) (by first | (simp [Keep, go_sem, *]; done) | (simp [Keep, go_sem, *]; omega) | (simp (disch := first | omega | (simp; omega) | (simp; done)) [Keep, go_sem, cell_far, cell_off, RowKit.frozen?_alloc_cells, frozen_new, *]; done) | (simp (disch := first | omega | (simp; omega) | (simp; done)) [Keep, go_sem, cell_far, cell_off, RowKit.frozen?_alloc_cells, frozen_new, *]; omega)) hwq
  simp only [KeepCl] at kq
  
  simp only [List.take_succ_cons, List.take_zero, List.drop_succ_cons, List.drop_zero]
  repeat (go_big_quiet_step (first | (go_at_call 49; exact calls_cl_same (rsize_any _ (by omega) (by omega) _)) | (go_at_call 53; with_reducible exact calls_cl (M1.out _))))
  refine wpQuiet_nil ?_
  intro b1 w1 hb1 ht1 hz1
  have Kb1 := Keep.at2 hz1
  have K1 := Keep.tr (l := [(⟨w.heap.size, 0, none⟩, .int .i64 (an)), (⟨w.heap.size, 1, none⟩, .int .i64 (ad)), (⟨w.heap.size + 1, 0, none⟩, .int .i64 (bn)), (⟨w.heap.size + 1, 1, none⟩, .int .i64 (bd)), (⟨w.heap.size + 1 + 1, 0, none⟩, .int .i64 (0)), (⟨w.heap.size + 1 + 1, 1, none⟩, .int .i64 (0))]) (by first | (simp [Keep, go_sem, *]; done) | (simp [Keep, go_sem, *]; omega) | (simp (disch := first | omega | (simp; omega) | (simp; done)) [Keep, go_sem, cell_far, cell_off, RowKit.frozen?_alloc_cells, frozen_new, *]; done) | (simp (disch := first | omega | (simp; omega) | (simp; done)) [Keep, go_sem, cell_far, cell_off, RowKit.frozen?_alloc_cells, frozen_new, *]; omega)) ht1
  have T1 : Tr w w1 := Tr.trans (by repeat (first | exact Tr.refl _ | assumption | apply Tr.al | apply Tr.drN | apply Tr.dr | (refine Tr.set ?_ (by first | omega | (simp; done) | (simp; omega)) _))) ht1
  have hs1 := Below.size ht1
  have hbl1 := lt_of_block hz1
  (try simp at hb1)
  (try simp at hs1)
  simp only [Keep] at K1 Kb1
  clear ht1 hz1 hwq kq
  simp only [Act.put, List.setIfInBounds_toArray, List.set_cons_succ, List.set_cons_zero]
  go_upto_region 2 with (fail)
  refine wp_forget (w0 := w) [(⟨w.heap.size, 0, none⟩, .int .i64 (an)), (⟨w.heap.size, 1, none⟩, .int .i64 (ad)), (⟨w.heap.size + 1, 0, none⟩, .int .i64 (bn)), (⟨w.heap.size + 1, 1, none⟩, .int .i64 (bd)), (⟨w.heap.size + 1 + 1, 0, none⟩, .int .i64 (0)), (⟨w.heap.size + 1 + 1, 1, none⟩, .int .i64 (0)), (⟨b1, 0, none⟩, .int .u64 (xh)), (⟨b1, 1, none⟩, .int .u64 (xl))] (by first | (simp [Keep, go_sem, *]; done) | (simp [Keep, go_sem, *]; omega) | (simp (disch := first | omega | (simp; omega) | (simp; done)) [Keep, go_sem, cell_far, cell_off, RowKit.frozen?_alloc_cells, frozen_new, *]; done) | (simp (disch := first | omega | (simp; omega) | (simp; done)) [Keep, go_sem, cell_far, cell_off, RowKit.frozen?_alloc_cells, frozen_new, *]; omega)) (by repeat (first | exact Tr.refl _ | assumption | apply Tr.al | apply Tr.drN | apply Tr.dr | (refine Tr.set ?_ (by first | omega | (simp; done) | (simp; omega)) _))) ?_; intro w4 hs4 K4 T4; (try simp at hs4); simp only [Keep] at K4
  clear K1 Kb1 T1
  refine wp_region_mix1 7 #[.int .u64 0, .int .u64 0] 69 _ (by kernel_rfl) (by kernel_rfl) rfl (makesU _ rfl rfl) ?_
  intro wq hwq
  have kq := Keep.cl (l := [(⟨w.heap.size, 0, none⟩, .int .i64 (an)), (⟨w.heap.size, 1, none⟩, .int .i64 (ad)), (⟨w.heap.size + 1, 0, none⟩, .int .i64 (bn)), (⟨w.heap.size + 1, 1, none⟩, .int .i64 (bd)), (⟨w.heap.size + 1 + 1, 0, none⟩, .int .i64 (0)), (⟨w.heap.size + 1 + 1, 1, none⟩, .int .i64 (0)), (⟨b1, 0, none⟩, .int .u64 (xh)), (⟨b1, 1, none⟩, .int .u64 (xl))]) (by first | (simp [Keep, go_sem, *]; done) | (simp [Keep, go_sem, *]; omega) | (simp (disch := first | omega | (simp; omega) | (simp; done)) [Keep, go_sem, cell_far, cell_off, RowKit.frozen?_alloc_cells, frozen_new, *]; done) | (simp (disch := first | omega | (simp; omega) | (simp; done)) [Keep, go_sem, cell_far, cell_off, RowKit.frozen?_alloc_cells, frozen_new, *]; omega)) hwq
  simp only [KeepCl] at kq
  
  simp only [List.take_succ_cons, List.take_zero, List.drop_succ_cons, List.drop_zero]
  repeat (go_big_quiet_step (first | (go_at_call 49; exact calls_cl_same (rsize_any _ (by omega) (by omega) _)) | (go_at_call 53; with_reducible exact calls_cl (M2.out _))))
  refine wpQuiet_nil ?_
  intro b2 w2 hb2 ht2 hz2
  have Kb2 := Keep.at2 hz2
  have K2 := Keep.tr (l := [(⟨w.heap.size, 0, none⟩, .int .i64 (an)), (⟨w.heap.size, 1, none⟩, .int .i64 (ad)), (⟨w.heap.size + 1, 0, none⟩, .int .i64 (bn)), (⟨w.heap.size + 1, 1, none⟩, .int .i64 (bd)), (⟨w.heap.size + 1 + 1, 0, none⟩, .int .i64 (0)), (⟨w.heap.size + 1 + 1, 1, none⟩, .int .i64 (0)), (⟨b1, 0, none⟩, .int .u64 (xh)), (⟨b1, 1, none⟩, .int .u64 (xl))]) (by first | (simp [Keep, go_sem, *]; done) | (simp [Keep, go_sem, *]; omega) | (simp (disch := first | omega | (simp; omega) | (simp; done)) [Keep, go_sem, cell_far, cell_off, RowKit.frozen?_alloc_cells, frozen_new, *]; done) | (simp (disch := first | omega | (simp; omega) | (simp; done)) [Keep, go_sem, cell_far, cell_off, RowKit.frozen?_alloc_cells, frozen_new, *]; omega)) ht2
  have T2 : Tr w w2 := Tr.trans (by repeat (first | exact Tr.refl _ | assumption | apply Tr.al | apply Tr.drN | apply Tr.dr | (refine Tr.set ?_ (by first | omega | (simp; done) | (simp; omega)) _))) ht2
  have hs2 := Below.size ht2
  have hbl2 := lt_of_block hz2
  (try simp at hb2)
  (try simp at hs2)
  simp only [Keep] at K2 Kb2
  clear ht2 hz2 hwq kq
  simp only [Act.put, List.setIfInBounds_toArray, List.set_cons_succ, List.set_cons_zero]
  go_upto_region 3 with (fail)
  refine wp_forget (w0 := w) [(⟨w.heap.size, 0, none⟩, .int .i64 (an)), (⟨w.heap.size, 1, none⟩, .int .i64 (ad)), (⟨w.heap.size + 1, 0, none⟩, .int .i64 (bn)), (⟨w.heap.size + 1, 1, none⟩, .int .i64 (bd)), (⟨w.heap.size + 1 + 1, 0, none⟩, .int .i64 (0)), (⟨w.heap.size + 1 + 1, 1, none⟩, .int .i64 (0)), (⟨b1, 0, none⟩, .int .u64 (xh)), (⟨b1, 1, none⟩, .int .u64 (xl)), (⟨b2, 0, none⟩, .int .u64 (yh)), (⟨b2, 1, none⟩, .int .u64 (yl))] (by first | (simp [Keep, go_sem, *]; done) | (simp [Keep, go_sem, *]; omega) | (simp (disch := first | omega | (simp; omega) | (simp; done)) [Keep, go_sem, cell_far, cell_off, RowKit.frozen?_alloc_cells, frozen_new, *]; done) | (simp (disch := first | omega | (simp; omega) | (simp; done)) [Keep, go_sem, cell_far, cell_off, RowKit.frozen?_alloc_cells, frozen_new, *]; omega)) (by repeat (first | exact Tr.refl _ | assumption | apply Tr.al | apply Tr.drN | apply Tr.dr | (refine Tr.set ?_ (by first | omega | (simp; done) | (simp; omega)) _))) ?_; intro w5 hs5 K5 T5; (try simp at hs5); simp only [Keep] at K5
  clear K2 Kb2 T2 K4 T4
  refine wp_region_mix1 7 #[.int .u64 0, .int .u64 0] 69 _ (by kernel_rfl) (by kernel_rfl) rfl (makesU _ rfl rfl) ?_
  intro wq hwq
  have kq := Keep.cl (l := [(⟨w.heap.size, 0, none⟩, .int .i64 (an)), (⟨w.heap.size, 1, none⟩, .int .i64 (ad)), (⟨w.heap.size + 1, 0, none⟩, .int .i64 (bn)), (⟨w.heap.size + 1, 1, none⟩, .int .i64 (bd)), (⟨w.heap.size + 1 + 1, 0, none⟩, .int .i64 (0)), (⟨w.heap.size + 1 + 1, 1, none⟩, .int .i64 (0)), (⟨b1, 0, none⟩, .int .u64 (xh)), (⟨b1, 1, none⟩, .int .u64 (xl)), (⟨b2, 0, none⟩, .int .u64 (yh)), (⟨b2, 1, none⟩, .int .u64 (yl))]) (by first | (simp [Keep, go_sem, *]; done) | (simp [Keep, go_sem, *]; omega) | (simp (disch := first | omega | (simp; omega) | (simp; done)) [Keep, go_sem, cell_far, cell_off, RowKit.frozen?_alloc_cells, frozen_new, *]; done) | (simp (disch := first | omega | (simp; omega) | (simp; done)) [Keep, go_sem, cell_far, cell_off, RowKit.frozen?_alloc_cells, frozen_new, *]; omega)) hwq
  simp only [KeepCl] at kq
  
  simp only [List.take_succ_cons, List.take_zero, List.drop_succ_cons, List.drop_zero]
  repeat (go_big_quiet_step (first | (go_at_call 49; exact calls_cl_same (rsize_any _ (by omega) (by omega) _)) | (go_at_call 53; with_reducible exact calls_cl (M3.out _))))
  refine wpQuiet_nil ?_
  intro b3 w3 hb3 ht3 hz3
  have Kb3 := Keep.at2 hz3
  have K3 := Keep.tr (l := [(⟨w.heap.size, 0, none⟩, .int .i64 (an)), (⟨w.heap.size, 1, none⟩, .int .i64 (ad)), (⟨w.heap.size + 1, 0, none⟩, .int .i64 (bn)), (⟨w.heap.size + 1, 1, none⟩, .int .i64 (bd)), (⟨w.heap.size + 1 + 1, 0, none⟩, .int .i64 (0)), (⟨w.heap.size + 1 + 1, 1, none⟩, .int .i64 (0)), (⟨b1, 0, none⟩, .int .u64 (xh)), (⟨b1, 1, none⟩, .int .u64 (xl)), (⟨b2, 0, none⟩, .int .u64 (yh)), (⟨b2, 1, none⟩, .int .u64 (yl))]) (by first | (simp [Keep, go_sem, *]; done) | (simp [Keep, go_sem, *]; omega) | (simp (disch := first | omega | (simp; omega) | (simp; done)) [Keep, go_sem, cell_far, cell_off, RowKit.frozen?_alloc_cells, frozen_new, *]; done) | (simp (disch := first | omega | (simp; omega) | (simp; done)) [Keep, go_sem, cell_far, cell_off, RowKit.frozen?_alloc_cells, frozen_new, *]; omega)) ht3
  have T3 : Tr w w3 := Tr.trans (by repeat (first | exact Tr.refl _ | assumption | apply Tr.al | apply Tr.drN | apply Tr.dr | (refine Tr.set ?_ (by first | omega | (simp; done) | (simp; omega)) _))) ht3
  have hs3 := Below.size ht3
  have hbl3 := lt_of_block hz3
  (try simp at hb3)
  (try simp at hs3)
  simp only [Keep] at K3 Kb3
  clear ht3 hz3 hwq kq
  simp only [Act.put, List.setIfInBounds_toArray, List.set_cons_succ, List.set_cons_zero]
  go_upto_region 4 with (fail)
  refine wp_forget (w0 := w) [(⟨w.heap.size, 0, none⟩, .int .i64 (an)), (⟨w.heap.size, 1, none⟩, .int .i64 (ad)), (⟨w.heap.size + 1, 0, none⟩, .int .i64 (bn)), (⟨w.heap.size + 1, 1, none⟩, .int .i64 (bd)), (⟨w.heap.size + 1 + 1, 0, none⟩, .int .i64 (0)), (⟨w.heap.size + 1 + 1, 1, none⟩, .int .i64 (0)), (⟨b1, 0, none⟩, .int .u64 (xh)), (⟨b1, 1, none⟩, .int .u64 (xl)), (⟨b2, 0, none⟩, .int .u64 (yh)), (⟨b2, 1, none⟩, .int .u64 (yl)), (⟨b3, 0, none⟩, .int .u64 (dh)), (⟨b3, 1, none⟩, .int .u64 (dl))] (by first | (simp [Keep, go_sem, *]; done) | (simp [Keep, go_sem, *]; omega) | (simp (disch := first | omega | (simp; omega) | (simp; done)) [Keep, go_sem, cell_far, cell_off, RowKit.frozen?_alloc_cells, frozen_new, *]; done) | (simp (disch := first | omega | (simp; omega) | (simp; done)) [Keep, go_sem, cell_far, cell_off, RowKit.frozen?_alloc_cells, frozen_new, *]; omega)) (by repeat (first | exact Tr.refl _ | assumption | apply Tr.al | apply Tr.drN | apply Tr.dr | (refine Tr.set ?_ (by first | omega | (simp; done) | (simp; omega)) _))) ?_; intro w6 hs6 K6 T6; (try simp at hs6); simp only [Keep] at K6
  clear K3 Kb3 T3 K5 T5
  clear M1 M2 M3
  rcases hc with ⟨s1, s2, s3, rfl⟩ | ⟨s1, s2, s3, rfl⟩ | ⟨s1, s2, s5, s3, rfl⟩ | ⟨s1, s2, s5, s3, rfl⟩ | ⟨s1, s2, s5, s3, rfl⟩ | ⟨s1, s2, s5, s3, rfl⟩
  · have CP := Lib.hid fun W => rplus_wd WX.out WY.out (s3.out ▸ WS.out) hx0.out.1 hx0.out.2.2.1 hx0.out.2.2.2.2 W
    go_upto_region 5 with (fail)
    refine wp_region_mix0 10 (by kernel_rfl) (by kernel_rfl) ?_
    intro wq hwq
    have kq := Keep.cl (l := [(⟨w.heap.size, 0, none⟩, .int .i64 (an)), (⟨w.heap.size, 1, none⟩, .int .i64 (ad)), (⟨w.heap.size + 1, 0, none⟩, .int .i64 (bn)), (⟨w.heap.size + 1, 1, none⟩, .int .i64 (bd)), (⟨w.heap.size + 1 + 1, 0, none⟩, .int .i64 (0)), (⟨w.heap.size + 1 + 1, 1, none⟩, .int .i64 (0)), (⟨b1, 0, none⟩, .int .u64 (xh)), (⟨b1, 1, none⟩, .int .u64 (xl)), (⟨b2, 0, none⟩, .int .u64 (yh)), (⟨b2, 1, none⟩, .int .u64 (yl)), (⟨b3, 0, none⟩, .int .u64 (dh)), (⟨b3, 1, none⟩, .int .u64 (dl))]) (by first | (simp [Keep, go_sem, *]; done) | (simp [Keep, go_sem, *]; omega) | (simp (disch := first | omega | (simp; omega) | (simp; done)) [Keep, go_sem, cell_far, cell_off, RowKit.frozen?_alloc_cells, frozen_new, *]; done) | (simp (disch := first | omega | (simp; omega) | (simp; done)) [Keep, go_sem, cell_far, cell_off, RowKit.frozen?_alloc_cells, frozen_new, *]; omega)) hwq
    simp only [KeepCl] at kq
    simp only [List.take_succ_cons, List.take_zero, List.drop_succ_cons, List.drop_zero]
    repeat (go_big_quiet_step (first | (go_at_call 54; with_reducible exact calls_cl (CP.out _)) | (go_at_call 48; with_reducible exact calls_cl (CM1.out _))))
    refine wpQuiet_nil ?_
    intro w7 ht7
    have K7 := Keep.tr (l := [(⟨w.heap.size, 0, none⟩, .int .i64 (an)), (⟨w.heap.size, 1, none⟩, .int .i64 (ad)), (⟨w.heap.size + 1, 0, none⟩, .int .i64 (bn)), (⟨w.heap.size + 1, 1, none⟩, .int .i64 (bd)), (⟨w.heap.size + 1 + 1, 0, none⟩, .int .i64 (0)), (⟨w.heap.size + 1 + 1, 1, none⟩, .int .i64 (0)), (⟨b1, 0, none⟩, .int .u64 (xh)), (⟨b1, 1, none⟩, .int .u64 (xl)), (⟨b2, 0, none⟩, .int .u64 (yh)), (⟨b2, 1, none⟩, .int .u64 (yl)), (⟨b3, 0, none⟩, .int .u64 (dh)), (⟨b3, 1, none⟩, .int .u64 (dl))]) (by first | (simp [Keep, go_sem, *]; done) | (simp [Keep, go_sem, *]; omega) | (simp (disch := first | omega | (simp; omega) | (simp; done)) [Keep, go_sem, cell_far, cell_off, RowKit.frozen?_alloc_cells, frozen_new, *]; done) | (simp (disch := first | omega | (simp; omega) | (simp; done)) [Keep, go_sem, cell_far, cell_off, RowKit.frozen?_alloc_cells, frozen_new, *]; omega)) ht7
    have T7 : Tr w w7 := Tr.trans (by repeat (first | exact Tr.refl _ | assumption | apply Tr.al | apply Tr.drN | apply Tr.dr | (refine Tr.set ?_ (by first | omega | (simp; done) | (simp; omega)) _))) ht7
    have hs7 := Below.size ht7
    (try simp at hs7)
    simp only [Keep] at K7
    clear ht7 hwq kq
    go_wp2
    simp [bodyPost, results, Tryd.results26, go_sem, *]
    exact (by repeat (first | exact Tr.refl _ | assumption | apply Tr.al | apply Tr.drN | apply Tr.dr | (refine Tr.set ?_ (by first | omega | (simp; done) | (simp; omega)) _)))
  · have CP := Lib.hid fun W => rplus_wd WX.out WY.out (s3.out ▸ WS.out) hx0.out.1 hx0.out.2.2.1 hx0.out.2.2.2.2 W
    go_upto_region 5 with (fail)
    refine wp_region_mix0 10 (by kernel_rfl) (by kernel_rfl) ?_
    intro wq hwq
    have kq := Keep.cl (l := [(⟨w.heap.size, 0, none⟩, .int .i64 (an)), (⟨w.heap.size, 1, none⟩, .int .i64 (ad)), (⟨w.heap.size + 1, 0, none⟩, .int .i64 (bn)), (⟨w.heap.size + 1, 1, none⟩, .int .i64 (bd)), (⟨w.heap.size + 1 + 1, 0, none⟩, .int .i64 (0)), (⟨w.heap.size + 1 + 1, 1, none⟩, .int .i64 (0)), (⟨b1, 0, none⟩, .int .u64 (xh)), (⟨b1, 1, none⟩, .int .u64 (xl)), (⟨b2, 0, none⟩, .int .u64 (yh)), (⟨b2, 1, none⟩, .int .u64 (yl)), (⟨b3, 0, none⟩, .int .u64 (dh)), (⟨b3, 1, none⟩, .int .u64 (dl))]) (by first | (simp [Keep, go_sem, *]; done) | (simp [Keep, go_sem, *]; omega) | (simp (disch := first | omega | (simp; omega) | (simp; done)) [Keep, go_sem, cell_far, cell_off, RowKit.frozen?_alloc_cells, frozen_new, *]; done) | (simp (disch := first | omega | (simp; omega) | (simp; done)) [Keep, go_sem, cell_far, cell_off, RowKit.frozen?_alloc_cells, frozen_new, *]; omega)) hwq
    simp only [KeepCl] at kq
    simp only [List.take_succ_cons, List.take_zero, List.drop_succ_cons, List.drop_zero]
    repeat (go_big_quiet_step (first | (go_at_call 54; with_reducible exact calls_cl (CP.out _)) | (go_at_call 48; with_reducible exact calls_cl (CM1.out _))))
    refine wpQuiet_nil ?_
    intro w7 ht7
    have K7 := Keep.tr (l := [(⟨w.heap.size, 0, none⟩, .int .i64 (an)), (⟨w.heap.size, 1, none⟩, .int .i64 (ad)), (⟨w.heap.size + 1, 0, none⟩, .int .i64 (bn)), (⟨w.heap.size + 1, 1, none⟩, .int .i64 (bd)), (⟨w.heap.size + 1 + 1, 0, none⟩, .int .i64 (0)), (⟨w.heap.size + 1 + 1, 1, none⟩, .int .i64 (0)), (⟨b1, 0, none⟩, .int .u64 (xh)), (⟨b1, 1, none⟩, .int .u64 (xl)), (⟨b2, 0, none⟩, .int .u64 (yh)), (⟨b2, 1, none⟩, .int .u64 (yl)), (⟨b3, 0, none⟩, .int .u64 (dh)), (⟨b3, 1, none⟩, .int .u64 (dl))]) (by first | (simp [Keep, go_sem, *]; done) | (simp [Keep, go_sem, *]; omega) | (simp (disch := first | omega | (simp; omega) | (simp; done)) [Keep, go_sem, cell_far, cell_off, RowKit.frozen?_alloc_cells, frozen_new, *]; done) | (simp (disch := first | omega | (simp; omega) | (simp; done)) [Keep, go_sem, cell_far, cell_off, RowKit.frozen?_alloc_cells, frozen_new, *]; omega)) ht7
    have T7 : Tr w w7 := Tr.trans (by repeat (first | exact Tr.refl _ | assumption | apply Tr.al | apply Tr.drN | apply Tr.dr | (refine Tr.set ?_ (by first | omega | (simp; done) | (simp; omega)) _))) ht7
    have hs7 := Below.size ht7
    (try simp at hs7)
    simp only [Keep] at K7
    clear ht7 hwq kq
    go_wp2
    simp [bodyPost, results, Tryd.results26, go_sem, *]
    exact (by repeat (first | exact Tr.refl _ | assumption | apply Tr.al | apply Tr.drN | apply Tr.dr | (refine Tr.set ?_ (by first | omega | (simp; done) | (simp; omega)) _)))
  · skip
    go_upto_region 7 with (go_at_call 55; (with_reducible refine (rless_lt WX.out WY.out hx0.out.1 hx0.out.2.2.1 s5.out _).mono ?_); rintro e w7 ⟨rfl, ht7⟩; have T7 : Tr w w7 := Tr.trans (by repeat (first | exact Tr.refl _ | assumption | apply Tr.al | apply Tr.drN | apply Tr.dr | (refine Tr.set ?_ (by first | omega | (simp; done) | (simp; omega)) _))) ht7; have K7 := Keep.tr (l := [(⟨w.heap.size, 0, none⟩, .int .i64 (an)), (⟨w.heap.size, 1, none⟩, .int .i64 (ad)), (⟨w.heap.size + 1, 0, none⟩, .int .i64 (bn)), (⟨w.heap.size + 1, 1, none⟩, .int .i64 (bd)), (⟨w.heap.size + 1 + 1, 0, none⟩, .int .i64 (0)), (⟨w.heap.size + 1 + 1, 1, none⟩, .int .i64 (0)), (⟨b1, 0, none⟩, .int .u64 (xh)), (⟨b1, 1, none⟩, .int .u64 (xl)), (⟨b2, 0, none⟩, .int .u64 (yh)), (⟨b2, 1, none⟩, .int .u64 (yl)), (⟨b3, 0, none⟩, .int .u64 (dh)), (⟨b3, 1, none⟩, .int .u64 (dl))]) (by first | (simp [Keep, go_sem, *]; done) | (simp [Keep, go_sem, *]; omega) | (simp (disch := first | omega | (simp; omega) | (simp; done)) [Keep, go_sem, cell_far, cell_off, RowKit.frozen?_alloc_cells, frozen_new, *]; done) | (simp (disch := first | omega | (simp; omega) | (simp; done)) [Keep, go_sem, cell_far, cell_off, RowKit.frozen?_alloc_cells, frozen_new, *]; omega)) ht7; have hz7 := Below.size ht7; (try simp at hz7); clear ht7; simp only [Keep] at K7)
    have hmd : Hid ((Y - X) % 340282366920938463463374607431768211456 = S) := (by have := hx0.out; have := s3.out; have := s5.out; unfold Big at *; omega : (Y - X) % 340282366920938463463374607431768211456 = S)
    have CN := Lib.hid fun W => rminus_wd WY.out WX.out WS.out hx0.out.2.2.1 hx0.out.1 hx0.out.2.2.2.1 hx0.out.2.1 hmd.out W
    clear K6
    refine wp_region_mix0 10 (by kernel_rfl) (by kernel_rfl) ?_
    intro wq hwq
    have kq := Keep.cl (l := [(⟨w.heap.size, 0, none⟩, .int .i64 (an)), (⟨w.heap.size, 1, none⟩, .int .i64 (ad)), (⟨w.heap.size + 1, 0, none⟩, .int .i64 (bn)), (⟨w.heap.size + 1, 1, none⟩, .int .i64 (bd)), (⟨w.heap.size + 1 + 1, 0, none⟩, .int .i64 (0)), (⟨w.heap.size + 1 + 1, 1, none⟩, .int .i64 (0)), (⟨b1, 0, none⟩, .int .u64 (xh)), (⟨b1, 1, none⟩, .int .u64 (xl)), (⟨b2, 0, none⟩, .int .u64 (yh)), (⟨b2, 1, none⟩, .int .u64 (yl)), (⟨b3, 0, none⟩, .int .u64 (dh)), (⟨b3, 1, none⟩, .int .u64 (dl))]) (by first | (simp [Keep, go_sem, *]; done) | (simp [Keep, go_sem, *]; omega) | (simp (disch := first | omega | (simp; omega) | (simp; done)) [Keep, go_sem, cell_far, cell_off, RowKit.frozen?_alloc_cells, frozen_new, *]; done) | (simp (disch := first | omega | (simp; omega) | (simp; done)) [Keep, go_sem, cell_far, cell_off, RowKit.frozen?_alloc_cells, frozen_new, *]; omega)) hwq
    simp only [KeepCl] at kq
    simp only [List.take_succ_cons, List.take_zero, List.drop_succ_cons, List.drop_zero]
    repeat (go_big_quiet_step (first | (go_at_call 56; with_reducible exact calls_cl (CN.out _)) | (go_at_call 48; with_reducible exact calls_cl (CM1.out _))))
    refine wpQuiet_nil ?_
    intro w8 ht8
    have K8 := Keep.tr (l := [(⟨w.heap.size, 0, none⟩, .int .i64 (an)), (⟨w.heap.size, 1, none⟩, .int .i64 (ad)), (⟨w.heap.size + 1, 0, none⟩, .int .i64 (bn)), (⟨w.heap.size + 1, 1, none⟩, .int .i64 (bd)), (⟨w.heap.size + 1 + 1, 0, none⟩, .int .i64 (0)), (⟨w.heap.size + 1 + 1, 1, none⟩, .int .i64 (0)), (⟨b1, 0, none⟩, .int .u64 (xh)), (⟨b1, 1, none⟩, .int .u64 (xl)), (⟨b2, 0, none⟩, .int .u64 (yh)), (⟨b2, 1, none⟩, .int .u64 (yl)), (⟨b3, 0, none⟩, .int .u64 (dh)), (⟨b3, 1, none⟩, .int .u64 (dl))]) (by first | (simp [Keep, go_sem, *]; done) | (simp [Keep, go_sem, *]; omega) | (simp (disch := first | omega | (simp; omega) | (simp; done)) [Keep, go_sem, cell_far, cell_off, RowKit.frozen?_alloc_cells, frozen_new, *]; done) | (simp (disch := first | omega | (simp; omega) | (simp; done)) [Keep, go_sem, cell_far, cell_off, RowKit.frozen?_alloc_cells, frozen_new, *]; omega)) ht8
    have T8 : Tr w w8 := Tr.trans (by repeat (first | exact Tr.refl _ | assumption | apply Tr.al | apply Tr.drN | apply Tr.dr | (refine Tr.set ?_ (by first | omega | (simp; done) | (simp; omega)) _))) ht8
    have hs8 := Below.size ht8
    (try simp at hs8)
    simp only [Keep] at K8
    clear ht8 hwq kq
    go_wp2
    simp [bodyPost, results, Tryd.results26, go_sem, *]
    exact (by repeat (first | exact Tr.refl _ | assumption | apply Tr.al | apply Tr.drN | apply Tr.dr | (refine Tr.set ?_ (by first | omega | (simp; done) | (simp; omega)) _)))
  · skip
    go_upto_region 8 with (go_at_call 55; (with_reducible refine (rless_ge WX.out WY.out hx0.out.1 hx0.out.2.2.1 s5.out _).mono ?_); rintro e w7 ⟨rfl, ht7⟩; have T7 : Tr w w7 := Tr.trans (by repeat (first | exact Tr.refl _ | assumption | apply Tr.al | apply Tr.drN | apply Tr.dr | (refine Tr.set ?_ (by first | omega | (simp; done) | (simp; omega)) _))) ht7; have K7 := Keep.tr (l := [(⟨w.heap.size, 0, none⟩, .int .i64 (an)), (⟨w.heap.size, 1, none⟩, .int .i64 (ad)), (⟨w.heap.size + 1, 0, none⟩, .int .i64 (bn)), (⟨w.heap.size + 1, 1, none⟩, .int .i64 (bd)), (⟨w.heap.size + 1 + 1, 0, none⟩, .int .i64 (0)), (⟨w.heap.size + 1 + 1, 1, none⟩, .int .i64 (0)), (⟨b1, 0, none⟩, .int .u64 (xh)), (⟨b1, 1, none⟩, .int .u64 (xl)), (⟨b2, 0, none⟩, .int .u64 (yh)), (⟨b2, 1, none⟩, .int .u64 (yl)), (⟨b3, 0, none⟩, .int .u64 (dh)), (⟨b3, 1, none⟩, .int .u64 (dl))]) (by first | (simp [Keep, go_sem, *]; done) | (simp [Keep, go_sem, *]; omega) | (simp (disch := first | omega | (simp; omega) | (simp; done)) [Keep, go_sem, cell_far, cell_off, RowKit.frozen?_alloc_cells, frozen_new, *]; done) | (simp (disch := first | omega | (simp; omega) | (simp; done)) [Keep, go_sem, cell_far, cell_off, RowKit.frozen?_alloc_cells, frozen_new, *]; omega)) ht7; have hz7 := Below.size ht7; (try simp at hz7); clear ht7; simp only [Keep] at K7)
    have hmd : Hid ((X - Y) % 340282366920938463463374607431768211456 = S) := (by have := hx0.out; have := s3.out; have := s5.out; unfold Big at *; omega : (X - Y) % 340282366920938463463374607431768211456 = S)
    have CN := Lib.hid fun W => rminus_wd WX.out WY.out WS.out hx0.out.1 hx0.out.2.2.1 hx0.out.2.1 hx0.out.2.2.2.1 hmd.out W
    clear K6
    refine wp_region_mix0 10 (by kernel_rfl) (by kernel_rfl) ?_
    intro wq hwq
    have kq := Keep.cl (l := [(⟨w.heap.size, 0, none⟩, .int .i64 (an)), (⟨w.heap.size, 1, none⟩, .int .i64 (ad)), (⟨w.heap.size + 1, 0, none⟩, .int .i64 (bn)), (⟨w.heap.size + 1, 1, none⟩, .int .i64 (bd)), (⟨w.heap.size + 1 + 1, 0, none⟩, .int .i64 (0)), (⟨w.heap.size + 1 + 1, 1, none⟩, .int .i64 (0)), (⟨b1, 0, none⟩, .int .u64 (xh)), (⟨b1, 1, none⟩, .int .u64 (xl)), (⟨b2, 0, none⟩, .int .u64 (yh)), (⟨b2, 1, none⟩, .int .u64 (yl)), (⟨b3, 0, none⟩, .int .u64 (dh)), (⟨b3, 1, none⟩, .int .u64 (dl))]) (by first | (simp [Keep, go_sem, *]; done) | (simp [Keep, go_sem, *]; omega) | (simp (disch := first | omega | (simp; omega) | (simp; done)) [Keep, go_sem, cell_far, cell_off, RowKit.frozen?_alloc_cells, frozen_new, *]; done) | (simp (disch := first | omega | (simp; omega) | (simp; done)) [Keep, go_sem, cell_far, cell_off, RowKit.frozen?_alloc_cells, frozen_new, *]; omega)) hwq
    simp only [KeepCl] at kq
    simp only [List.take_succ_cons, List.take_zero, List.drop_succ_cons, List.drop_zero]
    repeat (go_big_quiet_step (first | (go_at_call 56; with_reducible exact calls_cl (CN.out _)) | (go_at_call 48; with_reducible exact calls_cl (CM1.out _))))
    refine wpQuiet_nil ?_
    intro w8 ht8
    have K8 := Keep.tr (l := [(⟨w.heap.size, 0, none⟩, .int .i64 (an)), (⟨w.heap.size, 1, none⟩, .int .i64 (ad)), (⟨w.heap.size + 1, 0, none⟩, .int .i64 (bn)), (⟨w.heap.size + 1, 1, none⟩, .int .i64 (bd)), (⟨w.heap.size + 1 + 1, 0, none⟩, .int .i64 (0)), (⟨w.heap.size + 1 + 1, 1, none⟩, .int .i64 (0)), (⟨b1, 0, none⟩, .int .u64 (xh)), (⟨b1, 1, none⟩, .int .u64 (xl)), (⟨b2, 0, none⟩, .int .u64 (yh)), (⟨b2, 1, none⟩, .int .u64 (yl)), (⟨b3, 0, none⟩, .int .u64 (dh)), (⟨b3, 1, none⟩, .int .u64 (dl))]) (by first | (simp [Keep, go_sem, *]; done) | (simp [Keep, go_sem, *]; omega) | (simp (disch := first | omega | (simp; omega) | (simp; done)) [Keep, go_sem, cell_far, cell_off, RowKit.frozen?_alloc_cells, frozen_new, *]; done) | (simp (disch := first | omega | (simp; omega) | (simp; done)) [Keep, go_sem, cell_far, cell_off, RowKit.frozen?_alloc_cells, frozen_new, *]; omega)) ht8
    have T8 : Tr w w8 := Tr.trans (by repeat (first | exact Tr.refl _ | assumption | apply Tr.al | apply Tr.drN | apply Tr.dr | (refine Tr.set ?_ (by first | omega | (simp; done) | (simp; omega)) _))) ht8
    have hs8 := Below.size ht8
    (try simp at hs8)
    simp only [Keep] at K8
    clear ht8 hwq kq
    go_wp2
    simp [bodyPost, results, Tryd.results26, go_sem, *]
    exact (by repeat (first | exact Tr.refl _ | assumption | apply Tr.al | apply Tr.drN | apply Tr.dr | (refine Tr.set ?_ (by first | omega | (simp; done) | (simp; omega)) _)))
  · skip
    go_upto_region 7 with (go_at_call 55; (with_reducible refine (rless_lt WX.out WY.out hx0.out.1 hx0.out.2.2.1 s5.out _).mono ?_); rintro e w7 ⟨rfl, ht7⟩; have T7 : Tr w w7 := Tr.trans (by repeat (first | exact Tr.refl _ | assumption | apply Tr.al | apply Tr.drN | apply Tr.dr | (refine Tr.set ?_ (by first | omega | (simp; done) | (simp; omega)) _))) ht7; have K7 := Keep.tr (l := [(⟨w.heap.size, 0, none⟩, .int .i64 (an)), (⟨w.heap.size, 1, none⟩, .int .i64 (ad)), (⟨w.heap.size + 1, 0, none⟩, .int .i64 (bn)), (⟨w.heap.size + 1, 1, none⟩, .int .i64 (bd)), (⟨w.heap.size + 1 + 1, 0, none⟩, .int .i64 (0)), (⟨w.heap.size + 1 + 1, 1, none⟩, .int .i64 (0)), (⟨b1, 0, none⟩, .int .u64 (xh)), (⟨b1, 1, none⟩, .int .u64 (xl)), (⟨b2, 0, none⟩, .int .u64 (yh)), (⟨b2, 1, none⟩, .int .u64 (yl)), (⟨b3, 0, none⟩, .int .u64 (dh)), (⟨b3, 1, none⟩, .int .u64 (dl))]) (by first | (simp [Keep, go_sem, *]; done) | (simp [Keep, go_sem, *]; omega) | (simp (disch := first | omega | (simp; omega) | (simp; done)) [Keep, go_sem, cell_far, cell_off, RowKit.frozen?_alloc_cells, frozen_new, *]; done) | (simp (disch := first | omega | (simp; omega) | (simp; done)) [Keep, go_sem, cell_far, cell_off, RowKit.frozen?_alloc_cells, frozen_new, *]; omega)) ht7; have hz7 := Below.size ht7; (try simp at hz7); clear ht7; simp only [Keep] at K7)
    have hmd : Hid ((Y - X) % 340282366920938463463374607431768211456 = S) := (by have := hx0.out; have := s3.out; have := s5.out; unfold Big at *; omega : (Y - X) % 340282366920938463463374607431768211456 = S)
    have CN := Lib.hid fun W => rminus_wd WY.out WX.out WS.out hx0.out.2.2.1 hx0.out.1 hx0.out.2.2.2.1 hx0.out.2.1 hmd.out W
    clear K6
    refine wp_region_mix0 10 (by kernel_rfl) (by kernel_rfl) ?_
    intro wq hwq
    have kq := Keep.cl (l := [(⟨w.heap.size, 0, none⟩, .int .i64 (an)), (⟨w.heap.size, 1, none⟩, .int .i64 (ad)), (⟨w.heap.size + 1, 0, none⟩, .int .i64 (bn)), (⟨w.heap.size + 1, 1, none⟩, .int .i64 (bd)), (⟨w.heap.size + 1 + 1, 0, none⟩, .int .i64 (0)), (⟨w.heap.size + 1 + 1, 1, none⟩, .int .i64 (0)), (⟨b1, 0, none⟩, .int .u64 (xh)), (⟨b1, 1, none⟩, .int .u64 (xl)), (⟨b2, 0, none⟩, .int .u64 (yh)), (⟨b2, 1, none⟩, .int .u64 (yl)), (⟨b3, 0, none⟩, .int .u64 (dh)), (⟨b3, 1, none⟩, .int .u64 (dl))]) (by first | (simp [Keep, go_sem, *]; done) | (simp [Keep, go_sem, *]; omega) | (simp (disch := first | omega | (simp; omega) | (simp; done)) [Keep, go_sem, cell_far, cell_off, RowKit.frozen?_alloc_cells, frozen_new, *]; done) | (simp (disch := first | omega | (simp; omega) | (simp; done)) [Keep, go_sem, cell_far, cell_off, RowKit.frozen?_alloc_cells, frozen_new, *]; omega)) hwq
    simp only [KeepCl] at kq
    simp only [List.take_succ_cons, List.take_zero, List.drop_succ_cons, List.drop_zero]
    repeat (go_big_quiet_step (first | (go_at_call 56; with_reducible exact calls_cl (CN.out _)) | (go_at_call 48; with_reducible exact calls_cl (CM1.out _))))
    refine wpQuiet_nil ?_
    intro w8 ht8
    have K8 := Keep.tr (l := [(⟨w.heap.size, 0, none⟩, .int .i64 (an)), (⟨w.heap.size, 1, none⟩, .int .i64 (ad)), (⟨w.heap.size + 1, 0, none⟩, .int .i64 (bn)), (⟨w.heap.size + 1, 1, none⟩, .int .i64 (bd)), (⟨w.heap.size + 1 + 1, 0, none⟩, .int .i64 (0)), (⟨w.heap.size + 1 + 1, 1, none⟩, .int .i64 (0)), (⟨b1, 0, none⟩, .int .u64 (xh)), (⟨b1, 1, none⟩, .int .u64 (xl)), (⟨b2, 0, none⟩, .int .u64 (yh)), (⟨b2, 1, none⟩, .int .u64 (yl)), (⟨b3, 0, none⟩, .int .u64 (dh)), (⟨b3, 1, none⟩, .int .u64 (dl))]) (by first | (simp [Keep, go_sem, *]; done) | (simp [Keep, go_sem, *]; omega) | (simp (disch := first | omega | (simp; omega) | (simp; done)) [Keep, go_sem, cell_far, cell_off, RowKit.frozen?_alloc_cells, frozen_new, *]; done) | (simp (disch := first | omega | (simp; omega) | (simp; done)) [Keep, go_sem, cell_far, cell_off, RowKit.frozen?_alloc_cells, frozen_new, *]; omega)) ht8
    have T8 : Tr w w8 := Tr.trans (by repeat (first | exact Tr.refl _ | assumption | apply Tr.al | apply Tr.drN | apply Tr.dr | (refine Tr.set ?_ (by first | omega | (simp; done) | (simp; omega)) _))) ht8
    have hs8 := Below.size ht8
    (try simp at hs8)
    simp only [Keep] at K8
    clear ht8 hwq kq
    go_wp2
    simp [bodyPost, results, Tryd.results26, go_sem, *]
    exact (by repeat (first | exact Tr.refl _ | assumption | apply Tr.al | apply Tr.drN | apply Tr.dr | (refine Tr.set ?_ (by first | omega | (simp; done) | (simp; omega)) _)))
  · skip
    go_upto_region 8 with (go_at_call 55; (with_reducible refine (rless_ge WX.out WY.out hx0.out.1 hx0.out.2.2.1 s5.out _).mono ?_); rintro e w7 ⟨rfl, ht7⟩; have T7 : Tr w w7 := Tr.trans (by repeat (first | exact Tr.refl _ | assumption | apply Tr.al | apply Tr.drN | apply Tr.dr | (refine Tr.set ?_ (by first | omega | (simp; done) | (simp; omega)) _))) ht7; have K7 := Keep.tr (l := [(⟨w.heap.size, 0, none⟩, .int .i64 (an)), (⟨w.heap.size, 1, none⟩, .int .i64 (ad)), (⟨w.heap.size + 1, 0, none⟩, .int .i64 (bn)), (⟨w.heap.size + 1, 1, none⟩, .int .i64 (bd)), (⟨w.heap.size + 1 + 1, 0, none⟩, .int .i64 (0)), (⟨w.heap.size + 1 + 1, 1, none⟩, .int .i64 (0)), (⟨b1, 0, none⟩, .int .u64 (xh)), (⟨b1, 1, none⟩, .int .u64 (xl)), (⟨b2, 0, none⟩, .int .u64 (yh)), (⟨b2, 1, none⟩, .int .u64 (yl)), (⟨b3, 0, none⟩, .int .u64 (dh)), (⟨b3, 1, none⟩, .int .u64 (dl))]) (by first | (simp [Keep, go_sem, *]; done) | (simp [Keep, go_sem, *]; omega) | (simp (disch := first | omega | (simp; omega) | (simp; done)) [Keep, go_sem, cell_far, cell_off, RowKit.frozen?_alloc_cells, frozen_new, *]; done) | (simp (disch := first | omega | (simp; omega) | (simp; done)) [Keep, go_sem, cell_far, cell_off, RowKit.frozen?_alloc_cells, frozen_new, *]; omega)) ht7; have hz7 := Below.size ht7; (try simp at hz7); clear ht7; simp only [Keep] at K7)
    have hmd : Hid ((X - Y) % 340282366920938463463374607431768211456 = S) := (by have := hx0.out; have := s3.out; have := s5.out; unfold Big at *; omega : (X - Y) % 340282366920938463463374607431768211456 = S)
    have CN := Lib.hid fun W => rminus_wd WX.out WY.out WS.out hx0.out.1 hx0.out.2.2.1 hx0.out.2.1 hx0.out.2.2.2.1 hmd.out W
    clear K6
    refine wp_region_mix0 10 (by kernel_rfl) (by kernel_rfl) ?_
    intro wq hwq
    have kq := Keep.cl (l := [(⟨w.heap.size, 0, none⟩, .int .i64 (an)), (⟨w.heap.size, 1, none⟩, .int .i64 (ad)), (⟨w.heap.size + 1, 0, none⟩, .int .i64 (bn)), (⟨w.heap.size + 1, 1, none⟩, .int .i64 (bd)), (⟨w.heap.size + 1 + 1, 0, none⟩, .int .i64 (0)), (⟨w.heap.size + 1 + 1, 1, none⟩, .int .i64 (0)), (⟨b1, 0, none⟩, .int .u64 (xh)), (⟨b1, 1, none⟩, .int .u64 (xl)), (⟨b2, 0, none⟩, .int .u64 (yh)), (⟨b2, 1, none⟩, .int .u64 (yl)), (⟨b3, 0, none⟩, .int .u64 (dh)), (⟨b3, 1, none⟩, .int .u64 (dl))]) (by first | (simp [Keep, go_sem, *]; done) | (simp [Keep, go_sem, *]; omega) | (simp (disch := first | omega | (simp; omega) | (simp; done)) [Keep, go_sem, cell_far, cell_off, RowKit.frozen?_alloc_cells, frozen_new, *]; done) | (simp (disch := first | omega | (simp; omega) | (simp; done)) [Keep, go_sem, cell_far, cell_off, RowKit.frozen?_alloc_cells, frozen_new, *]; omega)) hwq
    simp only [KeepCl] at kq
    simp only [List.take_succ_cons, List.take_zero, List.drop_succ_cons, List.drop_zero]
    repeat (go_big_quiet_step (first | (go_at_call 56; with_reducible exact calls_cl (CN.out _)) | (go_at_call 48; with_reducible exact calls_cl (CM1.out _))))
    refine wpQuiet_nil ?_
    intro w8 ht8
    have K8 := Keep.tr (l := [(⟨w.heap.size, 0, none⟩, .int .i64 (an)), (⟨w.heap.size, 1, none⟩, .int .i64 (ad)), (⟨w.heap.size + 1, 0, none⟩, .int .i64 (bn)), (⟨w.heap.size + 1, 1, none⟩, .int .i64 (bd)), (⟨w.heap.size + 1 + 1, 0, none⟩, .int .i64 (0)), (⟨w.heap.size + 1 + 1, 1, none⟩, .int .i64 (0)), (⟨b1, 0, none⟩, .int .u64 (xh)), (⟨b1, 1, none⟩, .int .u64 (xl)), (⟨b2, 0, none⟩, .int .u64 (yh)), (⟨b2, 1, none⟩, .int .u64 (yl)), (⟨b3, 0, none⟩, .int .u64 (dh)), (⟨b3, 1, none⟩, .int .u64 (dl))]) (by first | (simp [Keep, go_sem, *]; done) | (simp [Keep, go_sem, *]; omega) | (simp (disch := first | omega | (simp; omega) | (simp; done)) [Keep, go_sem, cell_far, cell_off, RowKit.frozen?_alloc_cells, frozen_new, *]; done) | (simp (disch := first | omega | (simp; omega) | (simp; done)) [Keep, go_sem, cell_far, cell_off, RowKit.frozen?_alloc_cells, frozen_new, *]; omega)) ht8
    have T8 : Tr w w8 := Tr.trans (by repeat (first | exact Tr.refl _ | assumption | apply Tr.al | apply Tr.drN | apply Tr.dr | (refine Tr.set ?_ (by first | omega | (simp; done) | (simp; omega)) _))) ht8
    have hs8 := Below.size ht8
    (try simp at hs8)
    simp only [Keep] at K8
    clear ht8 hwq kq
    go_wp2
    simp [bodyPost, results, Tryd.results26, go_sem, *]
    exact (by repeat (first | exact Tr.refl _ | assumption | apply Tr.al | apply Tr.drN | apply Tr.dr | (refine Tr.set ?_ (by first | omega | (simp; done) | (simp; omega)) _)))
end Go.Proofs.YtpjkiljgccjemaaDoor
