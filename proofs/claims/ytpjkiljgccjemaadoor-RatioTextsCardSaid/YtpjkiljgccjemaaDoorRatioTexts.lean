/- RatioTexts returns true for all lists, fractions and strings: Sum, Text and Parse return what the reference says. Condition: the library's variables hold what they should. -/
import Derived.Test.YtpjkiljgccjemaaDoorListB
import Derived.Test.YtpjkiljgccjemaaDoorTextC
import Derived.Test.YtpjkiljgccjemaaDoorTextD
set_option linter.unusedSimpArgs false
namespace Go.Proofs.YtpjkiljgccjemaaDoor.ratioTexts
set_option linter.unusedVariables false
open Go.RowKit Go.Sort

theorem parse_cases (s : List UInt8) : (∃ n d, parseS s = (n, d, 0)) ∨ parseS s = (0, 0, 7) := by
  unfold parseS
  split
  · exact .inl ⟨_, _, rfl⟩
  · exact .inr rfl

set_option maxRecDepth 100000 in
set_option maxHeartbeats 4000000 in
theorem walk (l : List (Int × Int)) (a : Option Addr) (cap b o : Nat) (n d : Int) (s : List UInt8) (w : World) (ha : l ≠ [] → a = some ⟨b, o, none⟩) (hl : l.length ≤ 4611686018427387904) (hs : s.length ≤ 4611686018427387904) (hF : FrAt w b o l) (hE : Env w) :
    Calls Tryd.prog 9 #[.slice a l.length cap, .agg #[.int .i64 n, .int .i64 d], .string ⟨s.toArray⟩] w fun e w' => e = .returned (.bool true) ∧ Tr w w' := by
  have hlen : (⟨s.toArray⟩ : ByteArray).size = s.length := by simp [ByteArray.size]
  have hcase : (40 < l.length ∧ l.length ≤ 1000) ∨ 1005 < l.length ∨ (l.length ≤ 40 ∧ 100 < s.length) ∨ (1000 < l.length ∧ l.length ≤ 1005 ∧ 100 < s.length) ∨ (l.length ≤ 40 ∧ s.length ≤ 100) ∨ (1000 < l.length ∧ l.length ≤ 1005 ∧ s.length ≤ 100) := by omega
  have early : ∀ (c : (40 < l.length ∧ l.length ≤ 1000) ∨ 1005 < l.length ∨ (l.length ≤ 40 ∧ 100 < s.length) ∨ (1000 < l.length ∧ l.length ≤ 1005 ∧ 100 < s.length)), Calls Tryd.prog 9 #[.slice a l.length cap, .agg #[.int .i64 n, .int .i64 d], .string ⟨s.toArray⟩] w fun e w' => e = .returned (.bool true) ∧ Tr w w' := by
    intro c
    rcases c with ⟨c1, c2⟩ | c1 | ⟨c1, c2⟩ | ⟨c1, c2, c3⟩
    all_goals
      go_enter Tryd.func9, Tryd.ntmps9
      go_wp2_with (go_at_call 11; (with_reducible refine (awake_any _ (hE.tab.tr (by repeat (first | exact Tr.refl _ | assumption | apply Tr.al | apply Tr.drN | apply Tr.dr | (refine Tr.set ?_ (by first | omega | (simp; done) | (simp; omega)) _))))).mono ?_); rintro e w1 ⟨rfl, ht1⟩; have T1 : Tr w w1 := Tr.trans (by repeat (first | exact Tr.refl _ | assumption | apply Tr.al | apply Tr.drN | apply Tr.dr | (refine Tr.set ?_ (by first | omega | (simp; done) | (simp; omega)) _))) ht1; have K1 := Keep.tr (l := [(⟨w.heap.size, 0, none⟩, .int .i64 (n)), (⟨w.heap.size, 1, none⟩, .int .i64 (d))]) (by first | (simp [Keep, go_sem, *]; done) | (simp [Keep, go_sem, *]; omega) | (simp (disch := first | omega | (simp; omega) | (simp; done)) [Keep, go_sem, cell_far, cell_off, RowKit.frozen?_alloc_cells, frozen_new, *]; done) | (simp (disch := first | omega | (simp; omega) | (simp; done)) [Keep, go_sem, cell_far, cell_off, RowKit.frozen?_alloc_cells, frozen_new, *]; omega)) ht1; have hz1 := Below.size ht1; (try simp at hz1); clear ht1; simp only [Keep] at K1)
      go_ret
      exact ⟨rfl, (by repeat (first | exact Tr.refl _ | assumption | apply Tr.al | apply Tr.drN | apply Tr.dr | (refine Tr.set ?_ (by first | omega | (simp; done) | (simp; omega)) _)))⟩
  have main : ∀ (c : (l.length ≤ 40 ∧ s.length ≤ 100) ∨ (1000 < l.length ∧ l.length ≤ 1005 ∧ s.length ≤ 100)), Calls Tryd.prog 9 #[.slice a l.length cap, .agg #[.int .i64 n, .int .i64 d], .string ⟨s.toArray⟩] w fun e w' => e = .returned (.bool true) ∧ Tr w w' := by
    intro c
    have HF := Lib.hid hF
    have HA := Lib.hid ha
    clear early hcase hF ha
    have CS := Lib.hid fun W (hW : FrAt W b o l) => sum_any l a cap b o W HA.out hl hW
    have CA := Lib.hid fun W (hW : FrAt W b o l) => rall_any l a cap b o W HA.out hl hW
    have CR := Lib.hid fun W (hW : FrAt W b o l) (hv : allV l = true) => rsum_any l a cap b o W HA.out hl hW hv
    obtain ⟨x, y, z, hx⟩ : ∃ x y z, sumS l = (x, y, z) := ⟨_, _, _, rfl⟩
    have HX := Lib.hid hx
    simp only [hx] at CS CR
    clear hx
    obtain ⟨c3, c4⟩ : s.length ≤ 100 ∧ l.length ≤ 4611686018427387904 := by omega
    have C1 := Lib.hid fun W (hW : Env W) => parse_any s W c3 hW
    have C2 := Lib.hid fun W => rparse_any s W c3
    go_enter Tryd.func9, Tryd.ntmps9
    rcases c with ⟨c1, c2⟩ | ⟨c1, c2, c5⟩
    all_goals
      go_upto_region 5 with (go_at_call 11; (with_reducible refine (awake_any _ (hE.tab.tr (by repeat (first | exact Tr.refl _ | assumption | apply Tr.al | apply Tr.drN | apply Tr.dr | (refine Tr.set ?_ (by first | omega | (simp; done) | (simp; omega)) _))))).mono ?_); rintro e w1 ⟨rfl, ht1⟩; have T1 : Tr w w1 := Tr.trans (by repeat (first | exact Tr.refl _ | assumption | apply Tr.al | apply Tr.drN | apply Tr.dr | (refine Tr.set ?_ (by first | omega | (simp; done) | (simp; omega)) _))) ht1; have K1 := Keep.tr (l := [(⟨w.heap.size, 0, none⟩, .int .i64 (n)), (⟨w.heap.size, 1, none⟩, .int .i64 (d))]) (by first | (simp [Keep, go_sem, *]; done) | (simp [Keep, go_sem, *]; omega) | (simp (disch := first | omega | (simp; omega) | (simp; done)) [Keep, go_sem, cell_far, cell_off, RowKit.frozen?_alloc_cells, frozen_new, *]; done) | (simp (disch := first | omega | (simp; omega) | (simp; done)) [Keep, go_sem, cell_far, cell_off, RowKit.frozen?_alloc_cells, frozen_new, *]; omega)) ht1; have hz1 := Below.size ht1; (try simp at hz1); clear ht1; simp only [Keep] at K1)
      refine wp_forget (w0 := w) [(⟨w.heap.size, 0, none⟩, .int .i64 (n)), (⟨w.heap.size, 1, none⟩, .int .i64 (d))] (by first | (simp [Keep, go_sem, *]; done) | (simp [Keep, go_sem, *]; omega) | (simp (disch := first | omega | (simp; omega) | (simp; done)) [Keep, go_sem, cell_far, cell_off, RowKit.frozen?_alloc_cells, frozen_new, *]; done) | (simp (disch := first | omega | (simp; omega) | (simp; done)) [Keep, go_sem, cell_far, cell_off, RowKit.frozen?_alloc_cells, frozen_new, *]; omega)) (by repeat (first | exact Tr.refl _ | assumption | apply Tr.al | apply Tr.drN | apply Tr.dr | (refine Tr.set ?_ (by first | omega | (simp; done) | (simp; omega)) _))) ?_; intro w2 hs2 K2 T2; (try simp at hs2); simp only [Keep] at K2
      clear K1 T1
      clear c1 c2
      (try clear c5)
      go_upto_region 6 with (go_at_call 31; (with_reducible refine (CS.out _ (HF.out.tr (by repeat (first | exact Tr.refl _ | assumption | apply Tr.al | apply Tr.drN | apply Tr.dr | (refine Tr.set ?_ (by first | omega | (simp; done) | (simp; omega)) _))))).mono ?_); rintro e w3 ⟨rfl, ht3⟩; have T3 : Tr w w3 := Tr.trans (by repeat (first | exact Tr.refl _ | assumption | apply Tr.al | apply Tr.drN | apply Tr.dr | (refine Tr.set ?_ (by first | omega | (simp; done) | (simp; omega)) _))) ht3; have K3 := Keep.tr (l := [(⟨w.heap.size, 0, none⟩, .int .i64 (n)), (⟨w.heap.size, 1, none⟩, .int .i64 (d))]) (by first | (simp [Keep, go_sem, *]; done) | (simp [Keep, go_sem, *]; omega) | (simp (disch := first | omega | (simp; omega) | (simp; done)) [Keep, go_sem, cell_far, cell_off, RowKit.frozen?_alloc_cells, frozen_new, *]; done) | (simp (disch := first | omega | (simp; omega) | (simp; done)) [Keep, go_sem, cell_far, cell_off, RowKit.frozen?_alloc_cells, frozen_new, *]; omega)) ht3; have hz3 := Below.size ht3; (try simp at hz3); clear ht3; simp only [Keep] at K3)
      refine wp_forget (w0 := w) [(⟨w.heap.size, 0, none⟩, .int .i64 (n)), (⟨w.heap.size, 1, none⟩, .int .i64 (d)), (⟨w3.heap.size, 0, none⟩, .int .i64 (x)), (⟨w3.heap.size, 1, none⟩, .int .i64 (y))] (by first | (simp [Keep, go_sem, *]; done) | (simp [Keep, go_sem, *]; omega) | (simp (disch := first | omega | (simp; omega) | (simp; done)) [Keep, go_sem, cell_far, cell_off, RowKit.frozen?_alloc_cells, frozen_new, *]; done) | (simp (disch := first | omega | (simp; omega) | (simp; done)) [Keep, go_sem, cell_far, cell_off, RowKit.frozen?_alloc_cells, frozen_new, *]; omega)) (by repeat (first | exact Tr.refl _ | assumption | apply Tr.al | apply Tr.drN | apply Tr.dr | (refine Tr.set ?_ (by first | omega | (simp; done) | (simp; omega)) _))) ?_; intro w4 hs4 K4 T4; (try simp at hs4); simp only [Keep] at K4
      clear K2 T2 K3 T3
      go_upto_if 44 with (go_at_call 32; (with_reducible refine (CA.out _ (HF.out.tr (by repeat (first | exact Tr.refl _ | assumption | apply Tr.al | apply Tr.drN | apply Tr.dr | (refine Tr.set ?_ (by first | omega | (simp; done) | (simp; omega)) _))))).mono ?_); rintro e w5 ⟨rfl, ht5⟩; have T5 : Tr w w5 := Tr.trans (by repeat (first | exact Tr.refl _ | assumption | apply Tr.al | apply Tr.drN | apply Tr.dr | (refine Tr.set ?_ (by first | omega | (simp; done) | (simp; omega)) _))) ht5; have K5 := Keep.tr (l := [(⟨w.heap.size, 0, none⟩, .int .i64 (n)), (⟨w.heap.size, 1, none⟩, .int .i64 (d)), (⟨w3.heap.size, 0, none⟩, .int .i64 (x)), (⟨w3.heap.size, 1, none⟩, .int .i64 (y))]) (by first | (simp [Keep, go_sem, *]; done) | (simp [Keep, go_sem, *]; omega) | (simp (disch := first | omega | (simp; omega) | (simp; done)) [Keep, go_sem, cell_far, cell_off, RowKit.frozen?_alloc_cells, frozen_new, *]; done) | (simp (disch := first | omega | (simp; omega) | (simp; done)) [Keep, go_sem, cell_far, cell_off, RowKit.frozen?_alloc_cells, frozen_new, *]; omega)) ht5; have hz5 := Below.size ht5; (try simp at hz5); clear ht5; simp only [Keep] at K5)
      go_cut [] (fun wx => Keep wx [(⟨w.heap.size, 0, none⟩, .int .i64 (n)), (⟨w.heap.size, 1, none⟩, .int .i64 (d))] ∧ Tr w wx)
      case first =>
        cases hv : allV l
        · obtain ⟨rfl, rfl, rfl⟩ : x = 0 ∧ y = 0 ∧ z = 1 := by
            have := HX.out
            unfold sumS at this
            rw [hv] at this
            simp at this
            exact ⟨this.1.symm, this.2.1.symm, this.2.2.symm⟩
          go_wp2_with (go_at_call 21; (with_reducible refine (same_yes _ _ _ _).mono ?_); rintro e w6 ⟨rfl, ht6⟩; have T6 : Tr w w6 := Tr.trans (by repeat (first | exact Tr.refl _ | assumption | apply Tr.al | apply Tr.drN | apply Tr.dr | (refine Tr.set ?_ (by first | omega | (simp; done) | (simp; omega)) _))) ht6; have K6 := Keep.tr (l := [(⟨w.heap.size, 0, none⟩, .int .i64 (n)), (⟨w.heap.size, 1, none⟩, .int .i64 (d))]) (by first | (simp [Keep, go_sem, *]; done) | (simp [Keep, go_sem, *]; omega) | (simp (disch := first | omega | (simp; omega) | (simp; done)) [Keep, go_sem, cell_far, cell_off, RowKit.frozen?_alloc_cells, frozen_new, *]; done) | (simp (disch := first | omega | (simp; omega) | (simp; done)) [Keep, go_sem, cell_far, cell_off, RowKit.frozen?_alloc_cells, frozen_new, *]; omega)) ht6; have hz6 := Below.size ht6; (try simp at hz6); clear ht6; simp only [Keep] at K6)
          go_meet
          exact ⟨(by first | (simp [Keep, go_sem, *]; done) | (simp [Keep, go_sem, *]; omega) | (simp (disch := first | omega | (simp; omega) | (simp; done)) [Keep, go_sem, cell_far, cell_off, RowKit.frozen?_alloc_cells, frozen_new, *]; done) | (simp (disch := first | omega | (simp; omega) | (simp; done)) [Keep, go_sem, cell_far, cell_off, RowKit.frozen?_alloc_cells, frozen_new, *]; omega)), (by repeat (first | exact Tr.refl _ | assumption | apply Tr.al | apply Tr.drN | apply Tr.dr | (refine Tr.set ?_ (by first | omega | (simp; done) | (simp; omega)) _)))⟩
        · have HV := Lib.hid hv
          go_wp2_with (first
            | (go_at_call 33; (with_reducible refine (CR.out _ (HF.out.tr (by repeat (first | exact Tr.refl _ | assumption | apply Tr.al | apply Tr.drN | apply Tr.dr | (refine Tr.set ?_ (by first | omega | (simp; done) | (simp; omega)) _)))) HV.out).mono ?_); rintro e w6 ⟨rfl, ht6⟩; have T6 : Tr w w6 := Tr.trans (by repeat (first | exact Tr.refl _ | assumption | apply Tr.al | apply Tr.drN | apply Tr.dr | (refine Tr.set ?_ (by first | omega | (simp; done) | (simp; omega)) _))) ht6; have K6 := Keep.tr (l := [(⟨w.heap.size, 0, none⟩, .int .i64 (n)), (⟨w.heap.size, 1, none⟩, .int .i64 (d)), (⟨w3.heap.size, 0, none⟩, .int .i64 (x)), (⟨w3.heap.size, 1, none⟩, .int .i64 (y))]) (by first | (simp [Keep, go_sem, *]; done) | (simp [Keep, go_sem, *]; omega) | (simp (disch := first | omega | (simp; omega) | (simp; done)) [Keep, go_sem, cell_far, cell_off, RowKit.frozen?_alloc_cells, frozen_new, *]; done) | (simp (disch := first | omega | (simp; omega) | (simp; done)) [Keep, go_sem, cell_far, cell_off, RowKit.frozen?_alloc_cells, frozen_new, *]; omega)) ht6; have hz6 := Below.size ht6; (try simp at hz6); clear ht6; simp only [Keep] at K6)
            | (go_at_call 21; (with_reducible refine (same_yes _ _ _ _).mono ?_); rintro e w7 ⟨rfl, ht7⟩; have T7 : Tr w w7 := Tr.trans (by repeat (first | exact Tr.refl _ | assumption | apply Tr.al | apply Tr.drN | apply Tr.dr | (refine Tr.set ?_ (by first | omega | (simp; done) | (simp; omega)) _))) ht7; have K7 := Keep.tr (l := [(⟨w.heap.size, 0, none⟩, .int .i64 (n)), (⟨w.heap.size, 1, none⟩, .int .i64 (d))]) (by first | (simp [Keep, go_sem, *]; done) | (simp [Keep, go_sem, *]; omega) | (simp (disch := first | omega | (simp; omega) | (simp; done)) [Keep, go_sem, cell_far, cell_off, RowKit.frozen?_alloc_cells, frozen_new, *]; done) | (simp (disch := first | omega | (simp; omega) | (simp; done)) [Keep, go_sem, cell_far, cell_off, RowKit.frozen?_alloc_cells, frozen_new, *]; omega)) ht7; have hz7 := Below.size ht7; (try simp at hz7); clear ht7; simp only [Keep] at K7))
          go_meet
          exact ⟨(by first | (simp [Keep, go_sem, *]; done) | (simp [Keep, go_sem, *]; omega) | (simp (disch := first | omega | (simp; omega) | (simp; done)) [Keep, go_sem, cell_far, cell_off, RowKit.frozen?_alloc_cells, frozen_new, *]; done) | (simp (disch := first | omega | (simp; omega) | (simp; done)) [Keep, go_sem, cell_far, cell_off, RowKit.frozen?_alloc_cells, frozen_new, *]; omega)), (by repeat (first | exact Tr.refl _ | assumption | apply Tr.al | apply Tr.drN | apply Tr.dr | (refine Tr.set ?_ (by first | omega | (simp; done) | (simp; omega)) _)))⟩
      obtain ⟨K6, T6⟩ := hcut
      have hz6 := Below.size T6
      simp only [Keep] at K6
      clear K4 T4 K5 T5
      obtain ⟨w6, rfl⟩ : ∃ w6, w6 = wc := ⟨_, rfl⟩
      obtain ⟨t, g, ht⟩ : ∃ t g, textS n d = (t, g) := ⟨_, _, rfl⟩
      have CT := Lib.hid fun W (hW : Tab W) => Text_any n d W hW
      simp only [ht] at CT
      have HT := Lib.hid ht
      clear ht
      go_upto_if 68 with (first
        | (go_at_call 34; (with_reducible refine (CT.out _ (hE.tab.tr (by repeat (first | exact Tr.refl _ | assumption | apply Tr.al | apply Tr.drN | apply Tr.dr | (refine Tr.set ?_ (by first | omega | (simp; done) | (simp; omega)) _))))).mono ?_); rintro e w7 ⟨rfl, ht7⟩; have T7 : Tr w w7 := Tr.trans (by repeat (first | exact Tr.refl _ | assumption | apply Tr.al | apply Tr.drN | apply Tr.dr | (refine Tr.set ?_ (by first | omega | (simp; done) | (simp; omega)) _))) ht7; have K7 := Keep.tr (l := [(⟨w.heap.size, 0, none⟩, .int .i64 (n)), (⟨w.heap.size, 1, none⟩, .int .i64 (d))]) (by first | (simp [Keep, go_sem, *]; done) | (simp [Keep, go_sem, *]; omega) | (simp (disch := first | omega | (simp; omega) | (simp; done)) [Keep, go_sem, cell_far, cell_off, RowKit.frozen?_alloc_cells, frozen_new, *]; done) | (simp (disch := first | omega | (simp; omega) | (simp; done)) [Keep, go_sem, cell_far, cell_off, RowKit.frozen?_alloc_cells, frozen_new, *]; omega)) ht7; have hz7 := Below.size ht7; (try simp at hz7); clear ht7; simp only [Keep] at K7)
        | (go_at_call 22; (with_reducible refine (rvalid_any _ _ _).mono ?_); rintro e w8 ⟨rfl, ht8⟩; have T8 : Tr w w8 := Tr.trans (by repeat (first | exact Tr.refl _ | assumption | apply Tr.al | apply Tr.drN | apply Tr.dr | (refine Tr.set ?_ (by first | omega | (simp; done) | (simp; omega)) _))) ht8; have K8 := Keep.tr (l := [(⟨w.heap.size, 0, none⟩, .int .i64 (n)), (⟨w.heap.size, 1, none⟩, .int .i64 (d))]) (by first | (simp [Keep, go_sem, *]; done) | (simp [Keep, go_sem, *]; omega) | (simp (disch := first | omega | (simp; omega) | (simp; done)) [Keep, go_sem, cell_far, cell_off, RowKit.frozen?_alloc_cells, frozen_new, *]; done) | (simp (disch := first | omega | (simp; omega) | (simp; done)) [Keep, go_sem, cell_far, cell_off, RowKit.frozen?_alloc_cells, frozen_new, *]; omega)) ht8; have hz8 := Below.size ht8; (try simp at hz8); clear ht8; simp only [Keep] at K8))
      go_cut [] (fun wx => Tr w wx)
      case first =>
        cases hv : validB n d
        · obtain ⟨rfl, rfl⟩ : t = [] ∧ g = 1 := by
            have := HT.out
            unfold textS at this
            rw [hv] at this
            simp at this
            exact ⟨this.1, this.2.symm⟩
          go_wp2_with fail
          go_meet
          exact (by repeat (first | exact Tr.refl _ | assumption | apply Tr.al | apply Tr.drN | apply Tr.dr | (refine Tr.set ?_ (by first | omega | (simp; done) | (simp; omega)) _)))
        · obtain ⟨e1, rfl⟩ : t = textL n d ∧ g = 0 := by
            have := HT.out
            unfold textS at this
            rw [hv] at this
            simp at this
            exact ⟨this.1.symm, this.2.symm⟩
          have CT2 := Lib.hid fun W => rtext_any n d W hv
          simp only [← e1] at CT2
          clear e1
          go_wp2_with (go_at_call 35; (with_reducible refine (CT2.out _).mono ?_); rintro e w9 ⟨rfl, ht9⟩; have T9 : Tr w w9 := Tr.trans (by repeat (first | exact Tr.refl _ | assumption | apply Tr.al | apply Tr.drN | apply Tr.dr | (refine Tr.set ?_ (by first | omega | (simp; done) | (simp; omega)) _))) ht9; have K9 := Keep.tr (l := [(⟨w.heap.size, 0, none⟩, .int .i64 (n)), (⟨w.heap.size, 1, none⟩, .int .i64 (d))]) (by first | (simp [Keep, go_sem, *]; done) | (simp [Keep, go_sem, *]; omega) | (simp (disch := first | omega | (simp; omega) | (simp; done)) [Keep, go_sem, cell_far, cell_off, RowKit.frozen?_alloc_cells, frozen_new, *]; done) | (simp (disch := first | omega | (simp; omega) | (simp; done)) [Keep, go_sem, cell_far, cell_off, RowKit.frozen?_alloc_cells, frozen_new, *]; omega)) ht9; have hz9 := Below.size ht9; (try simp at hz9); clear ht9; simp only [Keep] at K9)
          go_meet
          exact (by repeat (first | exact Tr.refl _ | assumption | apply Tr.al | apply Tr.drN | apply Tr.dr | (refine Tr.set ?_ (by first | omega | (simp; done) | (simp; omega)) _)))
      have T9 : Tr w wc := hcut
      have hz9 := Below.size T9
      clear hcut K6 T6 K7 T7 K8 T8
      obtain ⟨w9, rfl⟩ : ∃ w9, w9 = wc := ⟨_, rfl⟩
      rcases parse_cases s with ⟨p, q, hp⟩ | hp
      all_goals
        simp only [hp] at C1 C2
        clear hp
        go_upto_region 19 with (go_at_call 36; (with_reducible refine (C1.out _ (hE.tr (by repeat (first | exact Tr.refl _ | assumption | apply Tr.al | apply Tr.drN | apply Tr.dr | (refine Tr.set ?_ (by first | omega | (simp; done) | (simp; omega)) _))))).mono ?_); rintro e w10 ⟨rfl, ht10⟩; have T10 : Tr w w10 := Tr.trans (by repeat (first | exact Tr.refl _ | assumption | apply Tr.al | apply Tr.drN | apply Tr.dr | (refine Tr.set ?_ (by first | omega | (simp; done) | (simp; omega)) _))) ht10; have K10 := Keep.tr (l := []) (by first | (simp [Keep, go_sem, *]; done) | (simp [Keep, go_sem, *]; omega) | (simp (disch := first | omega | (simp; omega) | (simp; done)) [Keep, go_sem, cell_far, cell_off, RowKit.frozen?_alloc_cells, frozen_new, *]; done) | (simp (disch := first | omega | (simp; omega) | (simp; done)) [Keep, go_sem, cell_far, cell_off, RowKit.frozen?_alloc_cells, frozen_new, *]; omega)) ht10; have hz10 := Below.size ht10; (try simp at hz10); clear ht10; simp only [Keep] at K10)
        go_wp2_with (first
          | (go_at_call 37; (with_reducible refine (C2.out _).mono ?_); rintro e w11 ⟨rfl, ht11⟩; have T11 : Tr w w11 := Tr.trans (by repeat (first | exact Tr.refl _ | assumption | apply Tr.al | apply Tr.drN | apply Tr.dr | (refine Tr.set ?_ (by first | omega | (simp; done) | (simp; omega)) _))) ht11; have K11 := Keep.tr (l := [(⟨w10.heap.size, 0, none⟩, .int .i64 (p)), (⟨w10.heap.size, 1, none⟩, .int .i64 (q))]) (by first | (simp [Keep, go_sem, *]; done) | (simp [Keep, go_sem, *]; omega) | (simp (disch := first | omega | (simp; omega) | (simp; done)) [Keep, go_sem, cell_far, cell_off, RowKit.frozen?_alloc_cells, frozen_new, *]; done) | (simp (disch := first | omega | (simp; omega) | (simp; done)) [Keep, go_sem, cell_far, cell_off, RowKit.frozen?_alloc_cells, frozen_new, *]; omega)) ht11; have hz11 := Below.size ht11; (try simp at hz11); clear ht11; simp only [Keep] at K11)
          | (go_at_call 37; (with_reducible refine (C2.out _).mono ?_); rintro e w11 ⟨rfl, ht11⟩; have T11 : Tr w w11 := Tr.trans (by repeat (first | exact Tr.refl _ | assumption | apply Tr.al | apply Tr.drN | apply Tr.dr | (refine Tr.set ?_ (by first | omega | (simp; done) | (simp; omega)) _))) ht11; have K11 := Keep.tr (l := [(⟨w10.heap.size, 0, none⟩, .int .i64 (0)), (⟨w10.heap.size, 1, none⟩, .int .i64 (0))]) (by first | (simp [Keep, go_sem, *]; done) | (simp [Keep, go_sem, *]; omega) | (simp (disch := first | omega | (simp; omega) | (simp; done)) [Keep, go_sem, cell_far, cell_off, RowKit.frozen?_alloc_cells, frozen_new, *]; done) | (simp (disch := first | omega | (simp; omega) | (simp; done)) [Keep, go_sem, cell_far, cell_off, RowKit.frozen?_alloc_cells, frozen_new, *]; omega)) ht11; have hz11 := Below.size ht11; (try simp at hz11); clear ht11; simp only [Keep] at K11))
        go_ret
        exact ⟨rfl, (by repeat (first | exact Tr.refl _ | assumption | apply Tr.al | apply Tr.drN | apply Tr.dr | (refine Tr.set ?_ (by first | omega | (simp; done) | (simp; omega)) _)))⟩
  rcases hcase with c | c | c | c | c | c
  · exact early (.inl c)
  · exact early (.inr (.inl c))
  · exact early (.inr (.inr (.inl c)))
  · exact early (.inr (.inr (.inr c)))
  · exact main (.inl c)
  · exact main (.inr c)
end Go.Proofs.YtpjkiljgccjemaaDoor.ratioTexts
