/- ratio.text and Text: for every fraction, where the table of powers of ten is laid. -/
import Derived.Test.YtpjkiljgccjemaaDoorRatK
import Derived.WalkSmall
import Derived.Lib.LaidTab
import Derived.Lib.ItoaLen
namespace Go.Proofs.YtpjkiljgccjemaaDoor
open Go.RowKit Go.Sort

/-- The library's table of powers of ten is laid. -/
def Tab (w : World) : Prop := Lib.TabIs Tryd.prog w "internal/strconv.uint64pow10" .u64 Lib.pow10Tab
theorem gTab : Tryd.prog.globalNamed "internal/strconv.uint64pow10" = some 5 := by kernel_rfl
theorem Tab.tr {w w' : World} (h : Tab w) (ht : Tr w w') : Tab w' := by
  have hb := block_lt_of_cell (Lib.TabIs.cell h gTab 0 (by decide))
  exact var?_below ht gTab hb h
theorem itoa_any (n : Int) (h0 : -9223372036854775808 ≤ n) (h1 : n ≤ 9223372036854775807) (w : World) (ht : Tab w) :
    Calls Tryd.prog 72 #[.int .i64 n] w fun e w' => e = .returned (.string ⟨(Lib.itoa n).toArray⟩) ∧ Tr w w' :=
  (Tryd.strconv_Itoa n h0 h1 w ht).mono fun e w' ⟨he, k, os, hw⟩ => ⟨he, by
    subst hw
    exact ⟨rfl, rfl, rfl, by simp [grow], fun i hi => by simp [grow, Array.getElem?_append, hi]⟩⟩
def textL (n d : Int) : List UInt8 := if d = 1 then Lib.itoa n else Lib.itoa n ++ 47 :: Lib.itoa d
def textS (n d : Int) : List UInt8 × Int := if validB n d = true then (textL n d, 0) else ([], 1)

theorem text_any (n d : Int) (w : World) (n1 : -9223372036854775808 ≤ n) (n2 : n ≤ 9223372036854775807) (d1 : -9223372036854775808 ≤ d) (d2 : d ≤ 9223372036854775807) (hT : Tab w) :
    Calls Tryd.prog 60 #[.agg #[.int .i64 n, .int .i64 d]] w fun e w' => e = .returned (.string ⟨(textL n d).toArray⟩) ∧ Tr w w' := by
  by_cases hd : d = 1
  · rw [show textL n d = Lib.itoa n by unfold textL; rw [if_pos hd]]
    have hd' : (d == 1) = true := by simp [hd]
    clear hd
    generalize hs : Lib.itoa n = s
    have HS := Lib.hid hs
    clear hs
    go_enter Tryd.func60, Tryd.ntmps60
    go_wp2_with (go_at_call 72; (with_reducible refine (itoa_any n n1 n2 _ (hT.tr (by repeat (first | exact Tr.refl _ | assumption | apply Tr.al | apply Tr.drN | apply Tr.dr | (refine Tr.set ?_ (by first | omega | (simp; done) | (simp; omega)) _))))).mono ?_); rintro e w1 ⟨rfl, ht1⟩; rw [HS.out]; have T1 : Tr w w1 := Tr.trans (by repeat (first | exact Tr.refl _ | assumption | apply Tr.al | apply Tr.drN | apply Tr.dr | (refine Tr.set ?_ (by first | omega | (simp; done) | (simp; omega)) _))) ht1)
    go_ret
    exact ⟨rfl, T1⟩
  · rw [show textL n d = Lib.itoa n ++ 47 :: Lib.itoa d by unfold textL; rw [if_neg hd]]
    have hd' : (d == 1) = false := by simp [hd]
    clear hd
    have l1 := Lib.itoa_length_le n n1 n2
    have l2 := Lib.itoa_length_le d d1 d2
    go_enter Tryd.func60, Tryd.ntmps60
    go_wp2
    refine wp_region_mix0 9 (by kernel_rfl) (by kernel_rfl) ?_
    intro w3 hw3
    have k3 := Keep.cl (l := [(⟨w.heap.size, 0, none⟩, .int .i64 (n)), (⟨w.heap.size, 1, none⟩, .int .i64 (d))]) (by first | (simp [Keep, go_sem, *]; done) | (simp [Keep, go_sem, *]; omega) | (simp (disch := first | omega | (simp; omega) | (simp; done)) [Keep, go_sem, cell_far, cell_off, RowKit.frozen?_alloc_cells, frozen_new, *]; done) | (simp (disch := first | omega | (simp; omega) | (simp; done)) [Keep, go_sem, cell_far, cell_off, RowKit.frozen?_alloc_cells, frozen_new, *]; omega)) hw3
    simp only [KeepCl] at k3
    simp only [List.take_succ_cons, List.take_zero, List.drop_succ_cons, List.drop_zero]
    repeat (go_big_quiet_step ((go_at_call 72; exact calls_cl (itoa_any _ (by omega) (by omega) _ (hT.tr (((Tr.refl _).al _).trans (hw3.trans (below_regrown _ _ _)))))))) 
    refine wpQuiet_nil ?_
    intro w4 ht4
    have T4 : Tr w w4 := Tr.trans (by repeat (first | exact Tr.refl _ | assumption | apply Tr.al | apply Tr.drN | apply Tr.dr | (refine Tr.set ?_ (by first | omega | (simp; done) | (simp; omega)) _))) ht4
    go_wp2
    go_ret
    refine ⟨?_, T4⟩
    show Ending.returned (.string _) = _
    congr 2
    show ByteArray.mk _ ++ ByteArray.mk ([47] : List UInt8).toArray ++ ByteArray.mk _ = _
    rw [ByteArray.mk_append_mk, ByteArray.mk_append_mk]
    simp
/-- ratio.Text. -/
theorem Text_any (n d : Int) (w : World) (hT : Tab w) :
    Calls Tryd.prog 34 #[.agg #[.int .i64 n, .int .i64 d]] w fun e w' => e = .returned (.tuple #[.string ⟨(textS n d).1.toArray⟩, .int .i64 (textS n d).2]) ∧ Tr w w' := by
  by_cases va : validB n d = true
  · obtain ⟨a1, a2, a3, a4, _⟩ := validB_spec.1 va
    rw [show textS n d = (textL n d, 0) by unfold textS; rw [if_pos va]]
    generalize hs : textL n d = s
    have HS := Lib.hid hs
    clear hs
    go_enter Tryd.func34, Tryd.ntmps34
    go_wp2_with (first
      | (go_at_call 15; (with_reducible refine (valid_any _ _ _).mono ?_); rintro e w1 ⟨rfl, ht1⟩; have T1 : Tr w w1 := Tr.trans (by repeat (first | exact Tr.refl _ | assumption | apply Tr.al | apply Tr.drN | apply Tr.dr | (refine Tr.set ?_ (by first | omega | (simp; done) | (simp; omega)) _))) ht1; have K1 := Keep.tr (l := [(⟨w.heap.size, 0, none⟩, .int .i64 (n)), (⟨w.heap.size, 1, none⟩, .int .i64 (d))]) (by first | (simp [Keep, go_sem, *]; done) | (simp [Keep, go_sem, *]; omega) | (simp (disch := first | omega | (simp; omega) | (simp; done)) [Keep, go_sem, cell_far, cell_off, RowKit.frozen?_alloc_cells, frozen_new, *]; done) | (simp (disch := first | omega | (simp; omega) | (simp; done)) [Keep, go_sem, cell_far, cell_off, RowKit.frozen?_alloc_cells, frozen_new, *]; omega)) ht1; have hz1 := Below.size ht1; (try simp at hz1); clear ht1; simp only [Keep] at K1)
      | (go_at_call 60; (with_reducible refine (text_any n d _ (by omega) (by omega) (by omega) (by omega) (hT.tr (by repeat (first | exact Tr.refl _ | assumption | apply Tr.al | apply Tr.drN | apply Tr.dr | (refine Tr.set ?_ (by first | omega | (simp; done) | (simp; omega)) _))))).mono ?_); rintro e w3 ⟨rfl, ht3⟩; rw [HS.out]; have T3 : Tr w w3 := Tr.trans (by repeat (first | exact Tr.refl _ | assumption | apply Tr.al | apply Tr.drN | apply Tr.dr | (refine Tr.set ?_ (by first | omega | (simp; done) | (simp; omega)) _))) ht3))
    go_ret2
    exact ⟨rfl, T3⟩
  · have va' : validB n d = false := by simpa using va
    rw [show textS n d = ([], 1) by unfold textS; rw [if_neg va]]
    clear va
    go_enter Tryd.func34, Tryd.ntmps34
    go_wp2_with (go_at_call 15; (with_reducible refine (valid_any _ _ _).mono ?_); rintro e w1 ⟨rfl, ht1⟩; have T1 : Tr w w1 := Tr.trans (by repeat (first | exact Tr.refl _ | assumption | apply Tr.al | apply Tr.drN | apply Tr.dr | (refine Tr.set ?_ (by first | omega | (simp; done) | (simp; omega)) _))) ht1; have K1 := Keep.tr (l := [(⟨w.heap.size, 0, none⟩, .int .i64 (n)), (⟨w.heap.size, 1, none⟩, .int .i64 (d))]) (by first | (simp [Keep, go_sem, *]; done) | (simp [Keep, go_sem, *]; omega) | (simp (disch := first | omega | (simp; omega) | (simp; done)) [Keep, go_sem, cell_far, cell_off, RowKit.frozen?_alloc_cells, frozen_new, *]; done) | (simp (disch := first | omega | (simp; omega) | (simp; done)) [Keep, go_sem, cell_far, cell_off, RowKit.frozen?_alloc_cells, frozen_new, *]; omega)) ht1; have hz1 := Below.size ht1; (try simp at hz1); clear ht1; simp only [Keep] at K1)
    go_ret2
    exact ⟨rfl, (by repeat (first | exact Tr.refl _ | assumption | apply Tr.al | apply Tr.drN | apply Tr.dr | (refine Tr.set ?_ (by first | omega | (simp; done) | (simp; omega)) _)))⟩

theorem aw1 : addS 1 6 1 10 = (4, 15, 0) := by decide +kernel
theorem aw2 : mulS 1152921504606846976 1 1 1152921504606846976 = (1, 1, 0) := by decide +kernel
theorem aw3 : makeS (-6) 4 = (-3, 2, 0) := by decide +kernel
theorem aw4 : textS (-3) 2 = ([45, 51, 47, 50], 0) := by decide +kernel
theorem aw5 : validB 4 15 = true := by decide +kernel
/-- The law's examples hold. -/
theorem awake_any (w : World) (hT : Tab w) :
    Calls Tryd.prog 11 #[] w fun e w' => e = .returned (.bool true) ∧ Tr w w' := by
  have c1 := fun W => add_any 1 6 1 10 W
  have c2 := fun W => mul_any 1152921504606846976 1 1 1152921504606846976 W
  have c3 := fun W => make_any (-6) 4 W (by decide) (by decide) (by decide) (by decide)
  have c4 := fun W hW => Text_any (-3) 2 W hW
  have c5 := fun W => valid_any 4 15 W
  rw [aw1] at c1
  rw [aw2] at c2
  rw [aw3] at c3
  rw [aw4] at c4
  rw [aw5] at c5
  have C1 := Lib.hid c1
  have C2 := Lib.hid c2
  have C3 := Lib.hid c3
  have C4 := Lib.hid c4
  have C5 := Lib.hid c5
  clear c1 c2 c3 c4 c5
  go_enter Tryd.func11, Tryd.ntmps11
  go_upto_region 2 with (go_at_call 12; (with_reducible refine (C1.out _).mono ?_); rintro e w1 ⟨rfl, ht1⟩; have T1 : Tr w w1 := Tr.trans (by repeat (first | exact Tr.refl _ | assumption | apply Tr.al | apply Tr.drN | apply Tr.dr | (refine Tr.set ?_ (by first | omega | (simp; done) | (simp; omega)) _))) ht1; have K1 := Keep.tr (l := []) (by first | (simp [Keep, go_sem, *]; done) | (simp [Keep, go_sem, *]; omega) | (simp (disch := first | omega | (simp; omega) | (simp; done)) [Keep, go_sem, cell_far, cell_off, RowKit.frozen?_alloc_cells, frozen_new, *]; done) | (simp (disch := first | omega | (simp; omega) | (simp; done)) [Keep, go_sem, cell_far, cell_off, RowKit.frozen?_alloc_cells, frozen_new, *]; omega)) ht1; have hz1 := Below.size ht1; (try simp at hz1); clear ht1; simp only [Keep] at K1)
  go_upto_region 3 with (go_at_call 13; (with_reducible refine (C2.out _).mono ?_); rintro e w2 ⟨rfl, ht2⟩; have T2 : Tr w w2 := Tr.trans (by repeat (first | exact Tr.refl _ | assumption | apply Tr.al | apply Tr.drN | apply Tr.dr | (refine Tr.set ?_ (by first | omega | (simp; done) | (simp; omega)) _))) ht2; have K2 := Keep.tr (l := [(⟨w1.heap.size, 0, none⟩, .int .i64 (4)), (⟨w1.heap.size, 1, none⟩, .int .i64 (15))]) (by first | (simp [Keep, go_sem, *]; done) | (simp [Keep, go_sem, *]; omega) | (simp (disch := first | omega | (simp; omega) | (simp; done)) [Keep, go_sem, cell_far, cell_off, RowKit.frozen?_alloc_cells, frozen_new, *]; done) | (simp (disch := first | omega | (simp; omega) | (simp; done)) [Keep, go_sem, cell_far, cell_off, RowKit.frozen?_alloc_cells, frozen_new, *]; omega)) ht2; have hz2 := Below.size ht2; (try simp at hz2); clear ht2; simp only [Keep] at K2)
  go_upto_region 4 with (go_at_call 17; (with_reducible refine (C3.out _).mono ?_); rintro e w3 ⟨rfl, ht3⟩; have T3 : Tr w w3 := Tr.trans (by repeat (first | exact Tr.refl _ | assumption | apply Tr.al | apply Tr.drN | apply Tr.dr | (refine Tr.set ?_ (by first | omega | (simp; done) | (simp; omega)) _))) ht3; have K3 := Keep.tr (l := [(⟨w1.heap.size, 0, none⟩, .int .i64 (4)), (⟨w1.heap.size, 1, none⟩, .int .i64 (15)), (⟨w2.heap.size, 0, none⟩, .int .i64 (1)), (⟨w2.heap.size, 1, none⟩, .int .i64 (1))]) (by first | (simp [Keep, go_sem, *]; done) | (simp [Keep, go_sem, *]; omega) | (simp (disch := first | omega | (simp; omega) | (simp; done)) [Keep, go_sem, cell_far, cell_off, RowKit.frozen?_alloc_cells, frozen_new, *]; done) | (simp (disch := first | omega | (simp; omega) | (simp; done)) [Keep, go_sem, cell_far, cell_off, RowKit.frozen?_alloc_cells, frozen_new, *]; omega)) ht3; have hz3 := Below.size ht3; (try simp at hz3); clear ht3; simp only [Keep] at K3)
  go_upto_region 5 with (go_at_call 34; (with_reducible refine (C4.out _ (hT.tr (by repeat (first | exact Tr.refl _ | assumption | apply Tr.al | apply Tr.drN | apply Tr.dr | (refine Tr.set ?_ (by first | omega | (simp; done) | (simp; omega)) _))))).mono ?_); rintro e w4 ⟨rfl, ht4⟩; have T4 : Tr w w4 := Tr.trans (by repeat (first | exact Tr.refl _ | assumption | apply Tr.al | apply Tr.drN | apply Tr.dr | (refine Tr.set ?_ (by first | omega | (simp; done) | (simp; omega)) _))) ht4; have K4 := Keep.tr (l := [(⟨w1.heap.size, 0, none⟩, .int .i64 (4)), (⟨w1.heap.size, 1, none⟩, .int .i64 (15)), (⟨w2.heap.size, 0, none⟩, .int .i64 (1)), (⟨w2.heap.size, 1, none⟩, .int .i64 (1))]) (by first | (simp [Keep, go_sem, *]; done) | (simp [Keep, go_sem, *]; omega) | (simp (disch := first | omega | (simp; omega) | (simp; done)) [Keep, go_sem, cell_far, cell_off, RowKit.frozen?_alloc_cells, frozen_new, *]; done) | (simp (disch := first | omega | (simp; omega) | (simp; done)) [Keep, go_sem, cell_far, cell_off, RowKit.frozen?_alloc_cells, frozen_new, *]; omega)) ht4; have hz4 := Below.size ht4; (try simp at hz4); clear ht4; simp only [Keep] at K4)
  go_wp2_with (go_at_call 15; (with_reducible refine (C5.out _).mono ?_); rintro e w5 ⟨rfl, ht5⟩; have T5 : Tr w w5 := Tr.trans (by repeat (first | exact Tr.refl _ | assumption | apply Tr.al | apply Tr.drN | apply Tr.dr | (refine Tr.set ?_ (by first | omega | (simp; done) | (simp; omega)) _))) ht5; have K5 := Keep.tr (l := []) (by first | (simp [Keep, go_sem, *]; done) | (simp [Keep, go_sem, *]; omega) | (simp (disch := first | omega | (simp; omega) | (simp; done)) [Keep, go_sem, cell_far, cell_off, RowKit.frozen?_alloc_cells, frozen_new, *]; done) | (simp (disch := first | omega | (simp; omega) | (simp; done)) [Keep, go_sem, cell_far, cell_off, RowKit.frozen?_alloc_cells, frozen_new, *]; omega)) ht5; have hz5 := Below.size ht5; (try simp at hz5); clear ht5; simp only [Keep] at K5)
  go_ret
  exact ⟨rfl, T5⟩
end Go.Proofs.YtpjkiljgccjemaaDoor
