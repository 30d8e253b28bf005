/- RatioRead returns true for all fractions, strings, lists and cuts: fractions are read from their texts, and a sum is that of its parts. Condition: the library's variables hold what they should. -/
import Derived.Test.YtpjkiljgccjemaaDoorListC
import Derived.Test.YtpjkiljgccjemaaDoorListD
import Derived.Test.YtpjkiljgccjemaaDoorTextD
set_option linter.unusedSimpArgs false
namespace Go.Proofs.YtpjkiljgccjemaaDoor.ratioRead
set_option linter.unusedVariables false
open Go.RowKit Go.Sort

theorem parse_cases (s : List UInt8) : (∃ n d, parseS s = (n, d, 0) ∧ validB n d = true ∧ textS n d = (s, 0)) ∨ parseS s = (0, 0, 7) := by
  by_cases h : ∃ p : Int × Int, validB p.1 p.2 = true ∧ textL p.1 p.2 = s
  · obtain ⟨⟨n, d⟩, h1, h2⟩ := h
    exact .inl ⟨n, d, parseS_yes h1 h2, h1, by unfold textS; rw [if_pos h1, h2]⟩
  · exact .inr (parseS_no fun n d hv ht => h ⟨(n, d), hv, ht⟩)

set_option maxRecDepth 100000 in
set_option maxHeartbeats 4000000 in
theorem walk (n d : Int) (s : List UInt8) (l : List (Int × Int)) (a : Option Addr) (cap b o c : Nat) (w : World) (ha : l ≠ [] → a = some ⟨b, o, none⟩) (hn : a = none → cap = 0) (hcap : l.length ≤ cap) (hmax : cap ≤ 4611686018427387904) (hs : s.length ≤ 4611686018427387904) (hc : c < 256) (hF : FrAt w b o l) (hE : Env w) :
    Calls Tryd.prog 10 #[.agg #[.int .i64 n, .int .i64 d], .string ⟨s.toArray⟩, .slice a l.length cap, .int .u8 c] w fun e w' => e = .returned (.bool true) ∧ Tr w w' := by
  have hlen : (⟨s.toArray⟩ : ByteArray).size = s.length := by simp [ByteArray.size]
  have HF := Lib.hid hF
  have HA := Lib.hid ha
  have HN := Lib.hid hn
  clear hF ha hn
  by_cases c1 : s.length ≤ 100
  case neg =>
    go_enter Tryd.func10, Tryd.ntmps10
    go_wp2_with (go_at_call 11; (with_reducible refine (awake_any _ (hE.tab.tr (by repeat (first | exact Tr.refl _ | assumption | apply Tr.al | apply Tr.drN | apply Tr.dr | (refine Tr.set ?_ (by first | omega | (simp; done) | (simp; omega)) _))))).mono ?_); rintro e w1 ⟨rfl, ht1⟩; have T1 : Tr w w1 := Tr.trans (by repeat (first | exact Tr.refl _ | assumption | apply Tr.al | apply Tr.drN | apply Tr.dr | (refine Tr.set ?_ (by first | omega | (simp; done) | (simp; omega)) _))) ht1; have K1 := Keep.tr (l := [(⟨w.heap.size, 0, none⟩, .int .i64 (n)), (⟨w.heap.size, 1, none⟩, .int .i64 (d))]) (by first | (simp [Keep, go_sem, *]; done) | (simp [Keep, go_sem, *]; omega) | (simp (disch := first | omega | (simp; omega) | (simp; done)) [Keep, go_sem, cell_far, cell_off, RowKit.frozen?_alloc_cells, frozen_new, *]; done) | (simp (disch := first | omega | (simp; omega) | (simp; done)) [Keep, go_sem, cell_far, cell_off, RowKit.frozen?_alloc_cells, frozen_new, *]; omega)) ht1; have hz1 := Below.size ht1; (try simp at hz1); clear ht1; simp only [Keep] at K1)
    go_ret
    exact ⟨rfl, (by repeat (first | exact Tr.refl _ | assumption | apply Tr.al | apply Tr.drN | apply Tr.dr | (refine Tr.set ?_ (by first | omega | (simp; done) | (simp; omega)) _)))⟩
  by_cases c2 : l.length ≤ 40
  case neg =>
    go_enter Tryd.func10, Tryd.ntmps10
    go_wp2_with (go_at_call 11; (with_reducible refine (awake_any _ (hE.tab.tr (by repeat (first | exact Tr.refl _ | assumption | apply Tr.al | apply Tr.drN | apply Tr.dr | (refine Tr.set ?_ (by first | omega | (simp; done) | (simp; omega)) _))))).mono ?_); rintro e w1 ⟨rfl, ht1⟩; have T1 : Tr w w1 := Tr.trans (by repeat (first | exact Tr.refl _ | assumption | apply Tr.al | apply Tr.drN | apply Tr.dr | (refine Tr.set ?_ (by first | omega | (simp; done) | (simp; omega)) _))) ht1; have K1 := Keep.tr (l := [(⟨w.heap.size, 0, none⟩, .int .i64 (n)), (⟨w.heap.size, 1, none⟩, .int .i64 (d))]) (by first | (simp [Keep, go_sem, *]; done) | (simp [Keep, go_sem, *]; omega) | (simp (disch := first | omega | (simp; omega) | (simp; done)) [Keep, go_sem, cell_far, cell_off, RowKit.frozen?_alloc_cells, frozen_new, *]; done) | (simp (disch := first | omega | (simp; omega) | (simp; done)) [Keep, go_sem, cell_far, cell_off, RowKit.frozen?_alloc_cells, frozen_new, *]; omega)) ht1; have hz1 := Below.size ht1; (try simp at hz1); clear ht1; simp only [Keep] at K1)
    go_ret
    exact ⟨rfl, (by repeat (first | exact Tr.refl _ | assumption | apply Tr.al | apply Tr.drN | apply Tr.dr | (refine Tr.set ?_ (by first | omega | (simp; done) | (simp; omega)) _)))⟩
  have C1 := Lib.hid fun W (hW : Env W) => parse_any s W c1 hW
  go_enter Tryd.func10, Tryd.ntmps10
  go_upto_region 5 with (go_at_call 11; (with_reducible refine (awake_any _ (hE.tab.tr (by repeat (first | exact Tr.refl _ | assumption | apply Tr.al | apply Tr.drN | apply Tr.dr | (refine Tr.set ?_ (by first | omega | (simp; done) | (simp; omega)) _))))).mono ?_); rintro e w1 ⟨rfl, ht1⟩; have T1 : Tr w w1 := Tr.trans (by repeat (first | exact Tr.refl _ | assumption | apply Tr.al | apply Tr.drN | apply Tr.dr | (refine Tr.set ?_ (by first | omega | (simp; done) | (simp; omega)) _))) ht1; have K1 := Keep.tr (l := [(⟨w.heap.size, 0, none⟩, .int .i64 (n)), (⟨w.heap.size, 1, none⟩, .int .i64 (d))]) (by first | (simp [Keep, go_sem, *]; done) | (simp [Keep, go_sem, *]; omega) | (simp (disch := first | omega | (simp; omega) | (simp; done)) [Keep, go_sem, cell_far, cell_off, RowKit.frozen?_alloc_cells, frozen_new, *]; done) | (simp (disch := first | omega | (simp; omega) | (simp; done)) [Keep, go_sem, cell_far, cell_off, RowKit.frozen?_alloc_cells, frozen_new, *]; omega)) ht1; have hz1 := Below.size ht1; (try simp at hz1); clear ht1; simp only [Keep] at K1)
  refine wp_forget (w0 := w) [(⟨w.heap.size, 0, none⟩, .int .i64 (n)), (⟨w.heap.size, 1, none⟩, .int .i64 (d))] (by first | (simp [Keep, go_sem, *]; done) | (simp [Keep, go_sem, *]; omega) | (simp (disch := first | omega | (simp; omega) | (simp; done)) [Keep, go_sem, cell_far, cell_off, RowKit.frozen?_alloc_cells, frozen_new, *]; done) | (simp (disch := first | omega | (simp; omega) | (simp; done)) [Keep, go_sem, cell_far, cell_off, RowKit.frozen?_alloc_cells, frozen_new, *]; omega)) (by repeat (first | exact Tr.refl _ | assumption | apply Tr.al | apply Tr.drN | apply Tr.dr | (refine Tr.set ?_ (by first | omega | (simp; done) | (simp; omega)) _))) ?_; intro w2 hs2 K2 T2; (try simp at hs2); simp only [Keep] at K2
  clear K1 T1
  obtain ⟨p, q, r, hpar⟩ : ∃ p q r, parseS s = (p, q, r) := ⟨_, _, _, rfl⟩
  simp only [hpar] at C1
  have HP := Lib.hid hpar
  clear hpar
  go_upto_if 44 with (go_at_call 36; (with_reducible refine (C1.out _ (hE.tr (by repeat (first | exact Tr.refl _ | assumption | apply Tr.al | apply Tr.drN | apply Tr.dr | (refine Tr.set ?_ (by first | omega | (simp; done) | (simp; omega)) _))))).mono ?_); rintro e w3 ⟨rfl, ht3⟩; have T3 : Tr w w3 := Tr.trans (by repeat (first | exact Tr.refl _ | assumption | apply Tr.al | apply Tr.drN | apply Tr.dr | (refine Tr.set ?_ (by first | omega | (simp; done) | (simp; omega)) _))) ht3; have K3 := Keep.tr (l := [(⟨w.heap.size, 0, none⟩, .int .i64 (n)), (⟨w.heap.size, 1, none⟩, .int .i64 (d))]) (by first | (simp [Keep, go_sem, *]; done) | (simp [Keep, go_sem, *]; omega) | (simp (disch := first | omega | (simp; omega) | (simp; done)) [Keep, go_sem, cell_far, cell_off, RowKit.frozen?_alloc_cells, frozen_new, *]; done) | (simp (disch := first | omega | (simp; omega) | (simp; done)) [Keep, go_sem, cell_far, cell_off, RowKit.frozen?_alloc_cells, frozen_new, *]; omega)) ht3; have hz3 := Below.size ht3; (try simp at hz3); clear ht3; simp only [Keep] at K3)
  refine wp_forget (w0 := w) [(⟨w.heap.size, 0, none⟩, .int .i64 (n)), (⟨w.heap.size, 1, none⟩, .int .i64 (d)), (⟨w3.heap.size, 0, none⟩, .int .i64 (p)), (⟨w3.heap.size, 1, none⟩, .int .i64 (q))] (by first | (simp [Keep, go_sem, *]; done) | (simp [Keep, go_sem, *]; omega) | (simp (disch := first | omega | (simp; omega) | (simp; done)) [Keep, go_sem, cell_far, cell_off, RowKit.frozen?_alloc_cells, frozen_new, *]; done) | (simp (disch := first | omega | (simp; omega) | (simp; done)) [Keep, go_sem, cell_far, cell_off, RowKit.frozen?_alloc_cells, frozen_new, *]; omega)) (by repeat (first | exact Tr.refl _ | assumption | apply Tr.al | apply Tr.drN | apply Tr.dr | (refine Tr.set ?_ (by first | omega | (simp; done) | (simp; omega)) _))) ?_; intro w4 hs4 K4 T4; (try simp at hs4); simp only [Keep] at K4
  clear K2 T2 K3 T3
  go_cut [] (fun wx => Keep wx [(⟨w.heap.size, 0, none⟩, .int .i64 (n)), (⟨w.heap.size, 1, none⟩, .int .i64 (d))] ∧ Tr w wx)
  case first =>
    rcases parse_cases s with ⟨p', q', e1, e2, e3⟩ | e1
    · obtain ⟨rfl, rfl, rfl⟩ : p' = p ∧ q' = q ∧ r = 0 := by have := HP.out; rw [e1] at this; simp only [Prod.mk.injEq] at this; exact ⟨this.1, this.2.1, this.2.2.symm⟩
      have CT := Lib.hid fun W (hW : Tab W) => Text_any p' q' W hW
      simp only [e3] at CT
      clear e1 e3
      go_wp2_with (first
        | (go_at_call 34; (with_reducible refine (CT.out _ (hE.tab.tr (by repeat (first | exact Tr.refl _ | assumption | apply Tr.al | apply Tr.drN | apply Tr.dr | (refine Tr.set ?_ (by first | omega | (simp; done) | (simp; omega)) _))))).mono ?_); rintro e w5 ⟨rfl, ht5⟩; have T5 : Tr w w5 := Tr.trans (by repeat (first | exact Tr.refl _ | assumption | apply Tr.al | apply Tr.drN | apply Tr.dr | (refine Tr.set ?_ (by first | omega | (simp; done) | (simp; omega)) _))) ht5; have K5 := Keep.tr (l := [(⟨w.heap.size, 0, none⟩, .int .i64 (n)), (⟨w.heap.size, 1, none⟩, .int .i64 (d)), (⟨w3.heap.size, 0, none⟩, .int .i64 (p')), (⟨w3.heap.size, 1, none⟩, .int .i64 (q'))]) (by first | (simp [Keep, go_sem, *]; done) | (simp [Keep, go_sem, *]; omega) | (simp (disch := first | omega | (simp; omega) | (simp; done)) [Keep, go_sem, cell_far, cell_off, RowKit.frozen?_alloc_cells, frozen_new, *]; done) | (simp (disch := first | omega | (simp; omega) | (simp; done)) [Keep, go_sem, cell_far, cell_off, RowKit.frozen?_alloc_cells, frozen_new, *]; omega)) ht5; have hz5 := Below.size ht5; (try simp at hz5); clear ht5; simp only [Keep] at K5)
        | (go_at_call 15; (with_reducible refine (valid_any _ _ _).mono ?_); rintro e w6 ⟨rfl, ht6⟩; have T6 : Tr w w6 := Tr.trans (by repeat (first | exact Tr.refl _ | assumption | apply Tr.al | apply Tr.drN | apply Tr.dr | (refine Tr.set ?_ (by first | omega | (simp; done) | (simp; omega)) _))) ht6; have K6 := Keep.tr (l := [(⟨w.heap.size, 0, none⟩, .int .i64 (n)), (⟨w.heap.size, 1, none⟩, .int .i64 (d)), (⟨w3.heap.size, 0, none⟩, .int .i64 (p')), (⟨w3.heap.size, 1, none⟩, .int .i64 (q'))]) (by first | (simp [Keep, go_sem, *]; done) | (simp [Keep, go_sem, *]; omega) | (simp (disch := first | omega | (simp; omega) | (simp; done)) [Keep, go_sem, cell_far, cell_off, RowKit.frozen?_alloc_cells, frozen_new, *]; done) | (simp (disch := first | omega | (simp; omega) | (simp; done)) [Keep, go_sem, cell_far, cell_off, RowKit.frozen?_alloc_cells, frozen_new, *]; omega)) ht6; have hz6 := Below.size ht6; (try simp at hz6); clear ht6; simp only [Keep] at K6))
      go_meet
      exact ⟨(by first | (simp [Keep, go_sem, *]; done) | (simp [Keep, go_sem, *]; omega) | (simp (disch := first | omega | (simp; omega) | (simp; done)) [Keep, go_sem, cell_far, cell_off, RowKit.frozen?_alloc_cells, frozen_new, *]; done) | (simp (disch := first | omega | (simp; omega) | (simp; done)) [Keep, go_sem, cell_far, cell_off, RowKit.frozen?_alloc_cells, frozen_new, *]; omega)), (by repeat (first | exact Tr.refl _ | assumption | apply Tr.al | apply Tr.drN | apply Tr.dr | (refine Tr.set ?_ (by first | omega | (simp; done) | (simp; omega)) _)))⟩
    · obtain ⟨rfl, rfl, rfl⟩ : p = 0 ∧ q = 0 ∧ r = 7 := by have := HP.out; rw [e1] at this; simp only [Prod.mk.injEq] at this; exact ⟨this.1.symm, this.2.1.symm, this.2.2.symm⟩
      clear e1
      go_wp2_with fail
      go_meet
      exact ⟨(by first | (simp [Keep, go_sem, *]; done) | (simp [Keep, go_sem, *]; omega) | (simp (disch := first | omega | (simp; omega) | (simp; done)) [Keep, go_sem, cell_far, cell_off, RowKit.frozen?_alloc_cells, frozen_new, *]; done) | (simp (disch := first | omega | (simp; omega) | (simp; done)) [Keep, go_sem, cell_far, cell_off, RowKit.frozen?_alloc_cells, frozen_new, *]; omega)), (by repeat (first | exact Tr.refl _ | assumption | apply Tr.al | apply Tr.drN | apply Tr.dr | (refine Tr.set ?_ (by first | omega | (simp; done) | (simp; omega)) _)))⟩
  obtain ⟨K6, T6⟩ := hcut
  have hz6 := Below.size T6
  simp only [Keep] at K6
  clear K4 T4 HP C1
  obtain ⟨w6, rfl⟩ : ∃ w6, w6 = wc := ⟨_, rfl⟩
  cases hv : validB n d
  · have e : textS n d = ([], 1) := by unfold textS; rw [hv]; rfl
    have CT := Lib.hid fun W (hW : Tab W) => Text_any n d W hW
    simp only [e] at CT
    clear e
    go_wp2_with (first
      | (go_at_call 34; (with_reducible refine (CT.out _ (hE.tab.tr (by repeat (first | exact Tr.refl _ | assumption | apply Tr.al | apply Tr.drN | apply Tr.dr | (refine Tr.set ?_ (by first | omega | (simp; done) | (simp; omega)) _))))).mono ?_); rintro e w7 ⟨rfl, ht7⟩; have T7 : Tr w w7 := Tr.trans (by repeat (first | exact Tr.refl _ | assumption | apply Tr.al | apply Tr.drN | apply Tr.dr | (refine Tr.set ?_ (by first | omega | (simp; done) | (simp; omega)) _))) ht7; have K7 := Keep.tr (l := [(⟨w.heap.size, 0, none⟩, .int .i64 (n)), (⟨w.heap.size, 1, none⟩, .int .i64 (d))]) (by first | (simp [Keep, go_sem, *]; done) | (simp [Keep, go_sem, *]; omega) | (simp (disch := first | omega | (simp; omega) | (simp; done)) [Keep, go_sem, cell_far, cell_off, RowKit.frozen?_alloc_cells, frozen_new, *]; done) | (simp (disch := first | omega | (simp; omega) | (simp; done)) [Keep, go_sem, cell_far, cell_off, RowKit.frozen?_alloc_cells, frozen_new, *]; omega)) ht7; have hz7 := Below.size ht7; (try simp at hz7); clear ht7; simp only [Keep] at K7)
      | (go_at_call 15; (with_reducible refine (valid_any _ _ _).mono ?_); rintro e w8 ⟨rfl, ht8⟩; have T8 : Tr w w8 := Tr.trans (by repeat (first | exact Tr.refl _ | assumption | apply Tr.al | apply Tr.drN | apply Tr.dr | (refine Tr.set ?_ (by first | omega | (simp; done) | (simp; omega)) _))) ht8; have K8 := Keep.tr (l := [(⟨w.heap.size, 0, none⟩, .int .i64 (n)), (⟨w.heap.size, 1, none⟩, .int .i64 (d))]) (by first | (simp [Keep, go_sem, *]; done) | (simp [Keep, go_sem, *]; omega) | (simp (disch := first | omega | (simp; omega) | (simp; done)) [Keep, go_sem, cell_far, cell_off, RowKit.frozen?_alloc_cells, frozen_new, *]; done) | (simp (disch := first | omega | (simp; omega) | (simp; done)) [Keep, go_sem, cell_far, cell_off, RowKit.frozen?_alloc_cells, frozen_new, *]; omega)) ht8; have hz8 := Below.size ht8; (try simp at hz8); clear ht8; simp only [Keep] at K8))
    go_ret
    exact ⟨rfl, (by repeat (first | exact Tr.refl _ | assumption | apply Tr.al | apply Tr.drN | apply Tr.dr | (refine Tr.set ?_ (by first | omega | (simp; done) | (simp; omega)) _)))⟩
  · obtain ⟨t, ht⟩ : ∃ t, textL n d = t := ⟨_, rfl⟩
    have e : textS n d = (t, 0) := by unfold textS; rw [if_pos hv, ht]
    have htl : t.length ≤ 100 := ht ▸ textL_len hv
    have CT := Lib.hid fun W (hW : Tab W) => Text_any n d W hW
    simp only [e] at CT
    have CP := Lib.hid fun W (hW : Env W) => parse_any t W htl hW
    simp only [parseS_yes hv ht] at CP
    clear e ht hv
    obtain ⟨k, hk⟩ : ∃ k : Nat, k = c % (l.length + 1) := ⟨_, rfl⟩
    have hkl : k ≤ l.length := by have := Nat.mod_lt c (show 0 < l.length + 1 by omega); omega
    have hkI : (c : Int) % ((l.length : Int) + 1) = (k : Int) := by rw [hk]; simp
    have hkI' : (c : Int).tmod ((l.length : Int) + 1) = (k : Int) := by rw [Int.tmod_eq_emod_of_nonneg (by omega)]; exact hkI
    clear hk
    go_upto_region 13 with (go_at_call 34; (with_reducible refine (CT.out _ (hE.tab.tr (by repeat (first | exact Tr.refl _ | assumption | apply Tr.al | apply Tr.drN | apply Tr.dr | (refine Tr.set ?_ (by first | omega | (simp; done) | (simp; omega)) _))))).mono ?_); rintro e w7 ⟨rfl, ht7⟩; have T7 : Tr w w7 := Tr.trans (by repeat (first | exact Tr.refl _ | assumption | apply Tr.al | apply Tr.drN | apply Tr.dr | (refine Tr.set ?_ (by first | omega | (simp; done) | (simp; omega)) _))) ht7; have K7 := Keep.tr (l := [(⟨w.heap.size, 0, none⟩, .int .i64 (n)), (⟨w.heap.size, 1, none⟩, .int .i64 (d))]) (by first | (simp [Keep, go_sem, *]; done) | (simp [Keep, go_sem, *]; omega) | (simp (disch := first | omega | (simp; omega) | (simp; done)) [Keep, go_sem, cell_far, cell_off, RowKit.frozen?_alloc_cells, frozen_new, *]; done) | (simp (disch := first | omega | (simp; omega) | (simp; done)) [Keep, go_sem, cell_far, cell_off, RowKit.frozen?_alloc_cells, frozen_new, *]; omega)) ht7; have hz7 := Below.size ht7; (try simp at hz7); clear ht7; simp only [Keep] at K7)
    go_upto_region 14 with (go_at_call 36; (with_reducible refine (CP.out _ (hE.tr (by repeat (first | exact Tr.refl _ | assumption | apply Tr.al | apply Tr.drN | apply Tr.dr | (refine Tr.set ?_ (by first | omega | (simp; done) | (simp; omega)) _))))).mono ?_); rintro e w8 ⟨rfl, ht8⟩; have T8 : Tr w w8 := Tr.trans (by repeat (first | exact Tr.refl _ | assumption | apply Tr.al | apply Tr.drN | apply Tr.dr | (refine Tr.set ?_ (by first | omega | (simp; done) | (simp; omega)) _))) ht8; have K8 := Keep.tr (l := [(⟨w.heap.size, 0, none⟩, .int .i64 (n)), (⟨w.heap.size, 1, none⟩, .int .i64 (d))]) (by first | (simp [Keep, go_sem, *]; done) | (simp [Keep, go_sem, *]; omega) | (simp (disch := first | omega | (simp; omega) | (simp; done)) [Keep, go_sem, cell_far, cell_off, RowKit.frozen?_alloc_cells, frozen_new, *]; done) | (simp (disch := first | omega | (simp; omega) | (simp; done)) [Keep, go_sem, cell_far, cell_off, RowKit.frozen?_alloc_cells, frozen_new, *]; omega)) ht8; have hz8 := Below.size ht8; (try simp at hz8); clear ht8; simp only [Keep] at K8)
    go_upto_region 17 with (fail)
    refine wp_forget (w0 := w) [] (by first | (simp [Keep, go_sem, *]; done) | (simp [Keep, go_sem, *]; omega) | (simp (disch := first | omega | (simp; omega) | (simp; done)) [Keep, go_sem, cell_far, cell_off, RowKit.frozen?_alloc_cells, frozen_new, *]; done) | (simp (disch := first | omega | (simp; omega) | (simp; done)) [Keep, go_sem, cell_far, cell_off, RowKit.frozen?_alloc_cells, frozen_new, *]; omega)) (by repeat (first | exact Tr.refl _ | assumption | apply Tr.al | apply Tr.drN | apply Tr.dr | (refine Tr.set ?_ (by first | omega | (simp; done) | (simp; omega)) _))) ?_; intro w9 hs9 K9 T9; (try simp at hs9); simp only [Keep] at K9
    clear K6 T6 K7 T7 K8 T8 hkI hkI' CT CP
    have CS := Lib.hid fun W (hW : FrAt W b o l) => sum_any l a cap b o W HA.out (by omega) hW
    obtain ⟨x, y, z, hx⟩ : ∃ x y z, sumS l = (x, y, z) := ⟨_, _, _, rfl⟩
    have HX := Lib.hid hx
    simp only [hx] at CS
    clear hx
    go_upto_region 18 with (go_at_call 31; (with_reducible refine (CS.out _ (HF.out.tr (by repeat (first | exact Tr.refl _ | assumption | apply Tr.al | apply Tr.drN | apply Tr.dr | (refine Tr.set ?_ (by first | omega | (simp; done) | (simp; omega)) _))))).mono ?_); rintro e w10 ⟨rfl, ht10⟩; have T10 : Tr w w10 := Tr.trans (by repeat (first | exact Tr.refl _ | assumption | apply Tr.al | apply Tr.drN | apply Tr.dr | (refine Tr.set ?_ (by first | omega | (simp; done) | (simp; omega)) _))) ht10; have K10 := Keep.tr (l := []) (by first | (simp [Keep, go_sem, *]; done) | (simp [Keep, go_sem, *]; omega) | (simp (disch := first | omega | (simp; omega) | (simp; done)) [Keep, go_sem, cell_far, cell_off, RowKit.frozen?_alloc_cells, frozen_new, *]; done) | (simp (disch := first | omega | (simp; omega) | (simp; done)) [Keep, go_sem, cell_far, cell_off, RowKit.frozen?_alloc_cells, frozen_new, *]; omega)) ht10; have hz10 := Below.size ht10; (try simp at hz10); clear ht10; simp only [Keep] at K10)
    refine wp_forget (w0 := w) [(⟨w10.heap.size, 0, none⟩, .int .i64 (x)), (⟨w10.heap.size, 1, none⟩, .int .i64 (y))] (by first | (simp [Keep, go_sem, *]; done) | (simp [Keep, go_sem, *]; omega) | (simp (disch := first | omega | (simp; omega) | (simp; done)) [Keep, go_sem, cell_far, cell_off, RowKit.frozen?_alloc_cells, frozen_new, *]; done) | (simp (disch := first | omega | (simp; omega) | (simp; done)) [Keep, go_sem, cell_far, cell_off, RowKit.frozen?_alloc_cells, frozen_new, *]; omega)) (by repeat (first | exact Tr.refl _ | assumption | apply Tr.al | apply Tr.drN | apply Tr.dr | (refine Tr.set ?_ (by first | omega | (simp; done) | (simp; omega)) _))) ?_; intro w11 hs11 K11 T11; (try simp at hs11); simp only [Keep] at K11
    clear K10 T10 K9 T9
    obtain ⟨x1, y1, z1, hx1⟩ : ∃ x y z, sumS (l.take k) = (x, y, z) := ⟨_, _, _, rfl⟩
    obtain ⟨x2, y2, z2, hx2⟩ : ∃ x y z, sumS (l.drop k) = (x, y, z) := ⟨_, _, _, rfl⟩
    obtain ⟨x3, y3, z3, hx3⟩ : ∃ x y z, sumS l.reverse = (x, y, z) := ⟨_, _, _, rfl⟩
    have CF : Hid (∀ (W : World), FrAt W b o l → Calls Tryd.prog 31 #[.slice a k cap] W fun e w' => e = .returned (.tuple #[.agg #[.int .i64 x1, .int .i64 y1], .int .i64 z1]) ∧ Tr W w') := fun W hW => by
      have := sum_any (l.take k) a cap b o W (fun h => HA.out (by rintro rfl; simp at h)) (by simp; omega) (hW.take k)
      rw [show (l.take k).length = k by simp; omega, hx1] at this
      exact this
    have CG : Hid (∀ (W : World) (a' : Option Addr) (cap' : Nat), (l.drop k ≠ [] → a' = some ⟨b, o + k * 2, none⟩) → FrAt W b o l → Calls Tryd.prog 31 #[.slice a' (l.length - k) cap'] W fun e w' => e = .returned (.tuple #[.agg #[.int .i64 x2, .int .i64 y2], .int .i64 z2]) ∧ Tr W w') := fun W a' cap' ha' hW => by
      have := sum_any (l.drop k) a' cap' b (o + k * 2) W ha' (by simp; omega) (hW.drop k)
      rw [show (l.drop k).length = l.length - k by simp, hx2] at this
      exact this
    have HX1 := Lib.hid hx1
    have HX2 := Lib.hid hx2
    have HX3 := Lib.hid hx3
    clear hx1 hx2 hx3
    have hform : (a = none ∧ l = [] ∧ k = 0 ∧ cap = 0) ∨ ∃ ad, a = some ad ∧ (k = cap ∨ k < cap) := by
      cases a with
      | none =>
        have h1 : l = [] := by
          by_cases h : l = []
          · exact h
          · have := HA.out h; cases this
        subst h1
        exact .inl ⟨rfl, rfl, by simpa using hkl, HN.out rfl⟩
      | some ad => exact .inr ⟨ad, rfl, by omega⟩
    rcases ok_or z with ⟨h1, h2⟩ | ⟨h1, h2⟩
    · obtain rfl : z = 0 := by simpa using h1
      obtain ⟨n1, d1, e1, e2, e3⟩ := sum_split (k := k) (by omega) HX.out
      obtain ⟨rfl, rfl, rfl⟩ : x1 = n1 ∧ y1 = d1 ∧ z1 = 0 := by rw [HX1.out] at e1; simp only [Prod.mk.injEq] at e1; exact e1
      have HG : Hid (∀ ad, a = some ad → l.drop k ≠ [] → ad.add (k * 2) = ⟨b, o + k * 2, none⟩) := fun ad he hne => by
        have h : l ≠ [] := by rintro rfl; simp at hne
        have e := HA.out h
        rw [he] at e
        obtain rfl := Option.some.inj e
        unfold Addr.add
        split
        · rename_i h0; simp [h0]
        · rfl
      have CZ : Hid (∀ (W : World) (a' : Option Addr), FrAt W b o l → l.length = k → Calls Tryd.prog 31 #[.slice a' 0 0] W fun e w' => e = .returned (.tuple #[.agg #[.int .i64 x2, .int .i64 y2], .int .i64 z2]) ∧ Tr W w') := fun W a' hW hk => by
        have := CG.out W a' 0 (fun h => absurd (List.drop_eq_nil_of_le (by omega)) h) hW
        rw [show l.length - k = 0 by omega] at this
        exact this
      have CC : Hid (∀ (W : World), FrAt W b o l → Calls Tryd.prog 38 #[.slice a l.length cap] W (CloneEnds l W)) := fun W hW => clone_any l a cap b o W HA.out (by omega) hW
      have CR : Hid (∀ (W : World) (base : Nat) (v : Value), OwnFr W base v l → Calls Tryd.prog 39 #[v] W (RevV l base v W)) := fun W base v hW => reverseV_any l base v W (by omega) hW
      have CO : Hid (∀ (W : World) (base : Nat) (v : Value), OwnFr W base v l.reverse → Calls Tryd.prog 31 #[v] W fun e w' => e = .returned (.tuple #[.agg #[.int .i64 x3, .int .i64 y3], .int .i64 z3]) ∧ Tr W w') := fun W base v hW => by
        have := sumOwn_any l.reverse base v W (by simp; omega) hW
        rw [HX3.out] at this
        exact this
      have HE3 : Hid (x3 = 0 ∧ y3 = 0 ∧ z3 = 5 ∨ x = x3 ∧ y = y3 ∧ z3 = 0) := by
        show x3 = 0 ∧ y3 = 0 ∧ z3 = 5 ∨ x = x3 ∧ y = y3 ∧ z3 = 0
        rcases e3 with e | e
        · rw [HX3.out] at e; simp only [Prod.mk.injEq] at e; exact .inl e
        · rw [HX3.out] at e; simp only [Prod.mk.injEq] at e; exact .inr ⟨e.1.symm, e.2.1.symm, e.2.2⟩
      clear e1 e3 h1 h2
      rcases e2 with ⟨n2, d2, f1, f2⟩ | f1
      · obtain ⟨rfl, rfl, rfl⟩ : x2 = n2 ∧ y2 = d2 ∧ z2 = 0 := by rw [HX2.out] at f1; simp only [Prod.mk.injEq] at f1; exact f1
        have CA : Hid (∀ (W : World), Calls Tryd.prog 12 #[.agg #[.int .i64 x1, .int .i64 y1], .agg #[.int .i64 x2, .int .i64 y2]] W fun e w' => e = .returned (.tuple #[.agg #[.int .i64 x, .int .i64 y], .int .i64 0]) ∧ Tr W w') := fun W => by
          have := add_any x1 y1 x2 y2 W
          rw [f2] at this
          exact this
        clear f1 f2
        rcases hform with ⟨rfl, rfl, rfl, rfl⟩ | ⟨ad, rfl, rfl | hkc⟩
        all_goals
          (try simp only [List.length_nil] at CC)
          go_upto_region 19 with (go_at_call 31; (with_reducible refine (CF.out _ (HF.out.tr (by repeat (first | exact Tr.refl _ | assumption | apply Tr.al | apply Tr.drN | apply Tr.dr | (refine Tr.set ?_ (by first | omega | (simp; done) | (simp; omega)) _))))).mono ?_); rintro e w12 ⟨rfl, ht12⟩; have T12 : Tr w w12 := Tr.trans (by repeat (first | exact Tr.refl _ | assumption | apply Tr.al | apply Tr.drN | apply Tr.dr | (refine Tr.set ?_ (by first | omega | (simp; done) | (simp; omega)) _))) ht12; have K12 := Keep.tr (l := [(⟨w10.heap.size, 0, none⟩, .int .i64 (x)), (⟨w10.heap.size, 1, none⟩, .int .i64 (y))]) (by first | (simp [Keep, go_sem, *]; done) | (simp [Keep, go_sem, *]; omega) | (simp (disch := first | omega | (simp; omega) | (simp; done)) [Keep, go_sem, cell_far, cell_off, RowKit.frozen?_alloc_cells, frozen_new, *]; done) | (simp (disch := first | omega | (simp; omega) | (simp; done)) [Keep, go_sem, cell_far, cell_off, RowKit.frozen?_alloc_cells, frozen_new, *]; omega)) ht12; have hz12 := Below.size ht12; (try simp at hz12); clear ht12; simp only [Keep] at K12)
          clear K11 T11
          go_upto_region 22 with (first
            | (go_at_call 31; (with_reducible refine (CZ.out _ _ (HF.out.tr (by repeat (first | exact Tr.refl _ | assumption | apply Tr.al | apply Tr.drN | apply Tr.dr | (refine Tr.set ?_ (by first | omega | (simp; done) | (simp; omega)) _)))) (by first | rfl | omega)).mono ?_); rintro e w13 ⟨rfl, ht13⟩; have T13 : Tr w w13 := Tr.trans (by repeat (first | exact Tr.refl _ | assumption | apply Tr.al | apply Tr.drN | apply Tr.dr | (refine Tr.set ?_ (by first | omega | (simp; done) | (simp; omega)) _))) ht13; have K13 := Keep.tr (l := [(⟨w10.heap.size, 0, none⟩, .int .i64 (x)), (⟨w10.heap.size, 1, none⟩, .int .i64 (y)), (⟨w12.heap.size, 0, none⟩, .int .i64 (x1)), (⟨w12.heap.size, 1, none⟩, .int .i64 (y1))]) (by first | (simp [Keep, go_sem, *]; done) | (simp [Keep, go_sem, *]; omega) | (simp (disch := first | omega | (simp; omega) | (simp; done)) [Keep, go_sem, cell_far, cell_off, RowKit.frozen?_alloc_cells, frozen_new, *]; done) | (simp (disch := first | omega | (simp; omega) | (simp; done)) [Keep, go_sem, cell_far, cell_off, RowKit.frozen?_alloc_cells, frozen_new, *]; omega)) ht13; have hz13 := Below.size ht13; (try simp at hz13); clear ht13; simp only [Keep] at K13)
            | (go_at_call 31; (with_reducible refine (CG.out _ _ _ (fun h => congrArg some (HG.out _ rfl h)) (HF.out.tr (by repeat (first | exact Tr.refl _ | assumption | apply Tr.al | apply Tr.drN | apply Tr.dr | (refine Tr.set ?_ (by first | omega | (simp; done) | (simp; omega)) _))))).mono ?_); rintro e w13 ⟨rfl, ht13⟩; have T13 : Tr w w13 := Tr.trans (by repeat (first | exact Tr.refl _ | assumption | apply Tr.al | apply Tr.drN | apply Tr.dr | (refine Tr.set ?_ (by first | omega | (simp; done) | (simp; omega)) _))) ht13; have K13 := Keep.tr (l := [(⟨w10.heap.size, 0, none⟩, .int .i64 (x)), (⟨w10.heap.size, 1, none⟩, .int .i64 (y)), (⟨w12.heap.size, 0, none⟩, .int .i64 (x1)), (⟨w12.heap.size, 1, none⟩, .int .i64 (y1))]) (by first | (simp [Keep, go_sem, *]; done) | (simp [Keep, go_sem, *]; omega) | (simp (disch := first | omega | (simp; omega) | (simp; done)) [Keep, go_sem, cell_far, cell_off, RowKit.frozen?_alloc_cells, frozen_new, *]; done) | (simp (disch := first | omega | (simp; omega) | (simp; done)) [Keep, go_sem, cell_far, cell_off, RowKit.frozen?_alloc_cells, frozen_new, *]; omega)) ht13; have hz13 := Below.size ht13; (try simp at hz13); clear ht13; simp only [Keep] at K13))
          clear K12 T12
          go_upto_region 25 with (go_at_call 12; (with_reducible refine (CA.out _).mono ?_); rintro e w14 ⟨rfl, ht14⟩; have T14 : Tr w w14 := Tr.trans (by repeat (first | exact Tr.refl _ | assumption | apply Tr.al | apply Tr.drN | apply Tr.dr | (refine Tr.set ?_ (by first | omega | (simp; done) | (simp; omega)) _))) ht14; have K14 := Keep.tr (l := [(⟨w10.heap.size, 0, none⟩, .int .i64 (x)), (⟨w10.heap.size, 1, none⟩, .int .i64 (y))]) (by first | (simp [Keep, go_sem, *]; done) | (simp [Keep, go_sem, *]; omega) | (simp (disch := first | omega | (simp; omega) | (simp; done)) [Keep, go_sem, cell_far, cell_off, RowKit.frozen?_alloc_cells, frozen_new, *]; done) | (simp (disch := first | omega | (simp; omega) | (simp; done)) [Keep, go_sem, cell_far, cell_off, RowKit.frozen?_alloc_cells, frozen_new, *]; omega)) ht14; have hz14 := Below.size ht14; (try simp at hz14); clear ht14; simp only [Keep] at K14)
          refine wp_forget (w0 := w) [(⟨w10.heap.size, 0, none⟩, .int .i64 (x)), (⟨w10.heap.size, 1, none⟩, .int .i64 (y)), (⟨w14.heap.size, 0, none⟩, .int .i64 (x)), (⟨w14.heap.size, 1, none⟩, .int .i64 (y))] (by first | (simp [Keep, go_sem, *]; done) | (simp [Keep, go_sem, *]; omega) | (simp (disch := first | omega | (simp; omega) | (simp; done)) [Keep, go_sem, cell_far, cell_off, RowKit.frozen?_alloc_cells, frozen_new, *]; done) | (simp (disch := first | omega | (simp; omega) | (simp; done)) [Keep, go_sem, cell_far, cell_off, RowKit.frozen?_alloc_cells, frozen_new, *]; omega)) (by repeat (first | exact Tr.refl _ | assumption | apply Tr.al | apply Tr.drN | apply Tr.dr | (refine Tr.set ?_ (by first | omega | (simp; done) | (simp; omega)) _))) ?_; intro w20 hs20 K20 T20; (try simp at hs20); simp only [Keep] at K20
          clear K13 T13 K14 T14
          go_upto_region 26 with (go_at_call 38; (with_reducible refine (CC.out _ (HF.out.tr (by repeat (first | exact Tr.refl _ | assumption | apply Tr.al | apply Tr.drN | apply Tr.dr | (refine Tr.set ?_ (by first | omega | (simp; done) | (simp; omega)) _))))).mono ?_); rintro e w15 ⟨v, rfl, hown, ht15⟩; have HO := Lib.hid hown; clear hown)
          have HT15 := Lib.hid ht15
          clear ht15
          go_upto_region 27 with (go_at_call 39; (with_reducible refine (CR.out _ _ _ HO.out).mono ?_); rintro e w16 ⟨⟨xv, rfl⟩, hown, hb16⟩; have HO2 := Lib.hid hown; have HT16 := Lib.hid hb16; clear hown hb16)
          have ht16 : Tr w20 w16 := Below.trans HT15.out HT16.out
          have K16 := Keep.tr (l := [(⟨w10.heap.size, 0, none⟩, .int .i64 (x)), (⟨w10.heap.size, 1, none⟩, .int .i64 (y)), (⟨w14.heap.size, 0, none⟩, .int .i64 (x)), (⟨w14.heap.size, 1, none⟩, .int .i64 (y))]) (by first | (simp [Keep, go_sem, *]; done) | (simp [Keep, go_sem, *]; omega) | (simp (disch := first | omega | (simp; omega) | (simp; done)) [Keep, go_sem, cell_far, cell_off, RowKit.frozen?_alloc_cells, frozen_new, *]; done) | (simp (disch := first | omega | (simp; omega) | (simp; done)) [Keep, go_sem, cell_far, cell_off, RowKit.frozen?_alloc_cells, frozen_new, *]; omega)) ht16
          have T16 : Tr w w16 := Tr.trans T20 ht16
          have hs16 := Below.size ht16
          simp only [Keep] at K16
          clear ht16 K20 T20 HT15 HT16 HO
          rcases HE3.out with ⟨rfl, rfl, rfl⟩ | ⟨rfl, rfl, rfl⟩
          all_goals
            go_wp2_with (go_at_call 31; (with_reducible refine (CO.out _ _ _ HO2.out).mono ?_); rintro e w17 ⟨rfl, ht17⟩; have T17 : Tr w w17 := Tr.trans (by repeat (first | exact Tr.refl _ | assumption | apply Tr.al | apply Tr.drN | apply Tr.dr | (refine Tr.set ?_ (by first | omega | (simp; done) | (simp; omega)) _))) ht17; have K17 := Keep.tr (l := [(⟨w10.heap.size, 0, none⟩, .int .i64 (x)), (⟨w10.heap.size, 1, none⟩, .int .i64 (y)), (⟨w14.heap.size, 0, none⟩, .int .i64 (x)), (⟨w14.heap.size, 1, none⟩, .int .i64 (y))]) (by first | (simp [Keep, go_sem, *]; done) | (simp [Keep, go_sem, *]; omega) | (simp (disch := first | omega | (simp; omega) | (simp; done)) [Keep, go_sem, cell_far, cell_off, RowKit.frozen?_alloc_cells, frozen_new, *]; done) | (simp (disch := first | omega | (simp; omega) | (simp; done)) [Keep, go_sem, cell_far, cell_off, RowKit.frozen?_alloc_cells, frozen_new, *]; omega)) ht17; have hz17 := Below.size ht17; (try simp at hz17); clear ht17; simp only [Keep] at K17)
            go_ret
            exact ⟨rfl, (by repeat (first | exact Tr.refl _ | assumption | apply Tr.al | apply Tr.drN | apply Tr.dr | (refine Tr.set ?_ (by first | omega | (simp; done) | (simp; omega)) _)))⟩
      · obtain ⟨rfl, rfl, rfl⟩ : x2 = 0 ∧ y2 = 0 ∧ z2 = 5 := by rw [HX2.out] at f1; simp only [Prod.mk.injEq] at f1; exact f1
        clear f1
        rcases hform with ⟨rfl, rfl, rfl, rfl⟩ | ⟨ad, rfl, rfl | hkc⟩
        all_goals
          go_upto_region 19 with (go_at_call 31; (with_reducible refine (CF.out _ (HF.out.tr (by repeat (first | exact Tr.refl _ | assumption | apply Tr.al | apply Tr.drN | apply Tr.dr | (refine Tr.set ?_ (by first | omega | (simp; done) | (simp; omega)) _))))).mono ?_); rintro e w12 ⟨rfl, ht12⟩; have T12 : Tr w w12 := Tr.trans (by repeat (first | exact Tr.refl _ | assumption | apply Tr.al | apply Tr.drN | apply Tr.dr | (refine Tr.set ?_ (by first | omega | (simp; done) | (simp; omega)) _))) ht12; have K12 := Keep.tr (l := [(⟨w10.heap.size, 0, none⟩, .int .i64 (x)), (⟨w10.heap.size, 1, none⟩, .int .i64 (y))]) (by first | (simp [Keep, go_sem, *]; done) | (simp [Keep, go_sem, *]; omega) | (simp (disch := first | omega | (simp; omega) | (simp; done)) [Keep, go_sem, cell_far, cell_off, RowKit.frozen?_alloc_cells, frozen_new, *]; done) | (simp (disch := first | omega | (simp; omega) | (simp; done)) [Keep, go_sem, cell_far, cell_off, RowKit.frozen?_alloc_cells, frozen_new, *]; omega)) ht12; have hz12 := Below.size ht12; (try simp at hz12); clear ht12; simp only [Keep] at K12)
          clear K11 T11
          go_wp2_with (first
            | (go_at_call 31; (with_reducible refine (CZ.out _ _ (HF.out.tr (by repeat (first | exact Tr.refl _ | assumption | apply Tr.al | apply Tr.drN | apply Tr.dr | (refine Tr.set ?_ (by first | omega | (simp; done) | (simp; omega)) _)))) (by first | rfl | omega)).mono ?_); rintro e w13 ⟨rfl, ht13⟩; have T13 : Tr w w13 := Tr.trans (by repeat (first | exact Tr.refl _ | assumption | apply Tr.al | apply Tr.drN | apply Tr.dr | (refine Tr.set ?_ (by first | omega | (simp; done) | (simp; omega)) _))) ht13; have K13 := Keep.tr (l := [(⟨w10.heap.size, 0, none⟩, .int .i64 (x)), (⟨w10.heap.size, 1, none⟩, .int .i64 (y)), (⟨w12.heap.size, 0, none⟩, .int .i64 (x1)), (⟨w12.heap.size, 1, none⟩, .int .i64 (y1))]) (by first | (simp [Keep, go_sem, *]; done) | (simp [Keep, go_sem, *]; omega) | (simp (disch := first | omega | (simp; omega) | (simp; done)) [Keep, go_sem, cell_far, cell_off, RowKit.frozen?_alloc_cells, frozen_new, *]; done) | (simp (disch := first | omega | (simp; omega) | (simp; done)) [Keep, go_sem, cell_far, cell_off, RowKit.frozen?_alloc_cells, frozen_new, *]; omega)) ht13; have hz13 := Below.size ht13; (try simp at hz13); clear ht13; simp only [Keep] at K13)
            | (go_at_call 31; (with_reducible refine (CG.out _ _ _ (fun h => congrArg some (HG.out _ rfl h)) (HF.out.tr (by repeat (first | exact Tr.refl _ | assumption | apply Tr.al | apply Tr.drN | apply Tr.dr | (refine Tr.set ?_ (by first | omega | (simp; done) | (simp; omega)) _))))).mono ?_); rintro e w13 ⟨rfl, ht13⟩; have T13 : Tr w w13 := Tr.trans (by repeat (first | exact Tr.refl _ | assumption | apply Tr.al | apply Tr.drN | apply Tr.dr | (refine Tr.set ?_ (by first | omega | (simp; done) | (simp; omega)) _))) ht13; have K13 := Keep.tr (l := [(⟨w10.heap.size, 0, none⟩, .int .i64 (x)), (⟨w10.heap.size, 1, none⟩, .int .i64 (y)), (⟨w12.heap.size, 0, none⟩, .int .i64 (x1)), (⟨w12.heap.size, 1, none⟩, .int .i64 (y1))]) (by first | (simp [Keep, go_sem, *]; done) | (simp [Keep, go_sem, *]; omega) | (simp (disch := first | omega | (simp; omega) | (simp; done)) [Keep, go_sem, cell_far, cell_off, RowKit.frozen?_alloc_cells, frozen_new, *]; done) | (simp (disch := first | omega | (simp; omega) | (simp; done)) [Keep, go_sem, cell_far, cell_off, RowKit.frozen?_alloc_cells, frozen_new, *]; omega)) ht13; have hz13 := Below.size ht13; (try simp at hz13); clear ht13; simp only [Keep] at K13))
          go_ret
          exact ⟨rfl, (by repeat (first | exact Tr.refl _ | assumption | apply Tr.al | apply Tr.drN | apply Tr.dr | (refine Tr.set ?_ (by first | omega | (simp; done) | (simp; omega)) _)))⟩
    · obtain ⟨rfl, rfl⟩ : x = 0 ∧ y = 0 := by
        rcases sumS_ends (l := l) (by omega) with ⟨_, _, e, _⟩ | ⟨_, e⟩ | ⟨_, e⟩
        · rw [HX.out] at e; simp only [Prod.mk.injEq] at e; rw [e.2.2] at h1; simp at h1
        · rw [HX.out] at e; simp only [Prod.mk.injEq] at e; exact ⟨e.1, e.2.1⟩
        · rw [HX.out] at e; simp only [Prod.mk.injEq] at e; exact ⟨e.1, e.2.1⟩
      rcases hform with ⟨rfl, rfl, rfl, rfl⟩ | ⟨ad, rfl, rfl | hkc⟩
      all_goals
        go_wp2_with (go_at_call 31; (with_reducible refine (CF.out _ (HF.out.tr (by repeat (first | exact Tr.refl _ | assumption | apply Tr.al | apply Tr.drN | apply Tr.dr | (refine Tr.set ?_ (by first | omega | (simp; done) | (simp; omega)) _))))).mono ?_); rintro e w12 ⟨rfl, ht12⟩; have T12 : Tr w w12 := Tr.trans (by repeat (first | exact Tr.refl _ | assumption | apply Tr.al | apply Tr.drN | apply Tr.dr | (refine Tr.set ?_ (by first | omega | (simp; done) | (simp; omega)) _))) ht12; have K12 := Keep.tr (l := [(⟨w10.heap.size, 0, none⟩, .int .i64 (0)), (⟨w10.heap.size, 1, none⟩, .int .i64 (0))]) (by first | (simp [Keep, go_sem, *]; done) | (simp [Keep, go_sem, *]; omega) | (simp (disch := first | omega | (simp; omega) | (simp; done)) [Keep, go_sem, cell_far, cell_off, RowKit.frozen?_alloc_cells, frozen_new, *]; done) | (simp (disch := first | omega | (simp; omega) | (simp; done)) [Keep, go_sem, cell_far, cell_off, RowKit.frozen?_alloc_cells, frozen_new, *]; omega)) ht12; have hz12 := Below.size ht12; (try simp at hz12); clear ht12; simp only [Keep] at K12)
        go_ret
        exact ⟨rfl, (by repeat (first | exact Tr.refl _ | assumption | apply Tr.al | apply Tr.drN | apply Tr.dr | (refine Tr.set ?_ (by first | omega | (simp; done) | (simp; omega)) _)))⟩
end Go.Proofs.YtpjkiljgccjemaaDoor.ratioRead
