/- ratio.Parse: the fraction with a text. Condition: the library's variables hold what they should. -/
import Derived.Test.YtpjkiljgccjemaaDoorTextP
import Derived.Test.YtpjkiljgccjemaaDoorShelf2
import Derived.WalkSpells
import Derived.Lib.UnsafeStr
set_option linter.unusedSimpArgs false
namespace Go.Proofs.YtpjkiljgccjemaaDoor
set_option linter.unusedVariables false
open Go.RowKit Go.Sort

/-- A cell holds an error or none. -/
def ErrAt (w : World) (b : Nat) : Prop := ∃ v, w.cell? ⟨b, 0, none⟩ = some v ∧ (v = .nilIface ∨ ∃ te pe, v = .iface te pe)
theorem ErrAt.tr {w w' : World} {b : Nat} (h : ErrAt w b) (ht : Tr w w') : ErrAt w' b := by
  obtain ⟨v, hc, hv⟩ := h
  exact ⟨v, ht.cell hc, hv⟩
/-- What the library's variables hold. -/
structure Env (w : World) : Prop where
  tab : Tab w
  len : ∃ m : Int, w.cell? ⟨2, 0, none⟩ = some (.int .i64 m)
  syn : ErrAt w 3
  ran : ErrAt w 4
theorem Env.tr {w w' : World} (h : Env w) (ht : Tr w w') : Env w' :=
  ⟨h.tab.tr ht, by obtain ⟨m, hm⟩ := h.len; exact ⟨m, ht.cell hm⟩, h.syn.tr ht, h.ran.tr ht⟩

theorem cut_any (s : List UInt8) (w : World) (hl : s.length ≤ 100) (hE : Env w) :
    Calls Tryd.prog 62 #[.string ⟨s.toArray⟩, .string ⟨#[47]⟩] w fun e w' => e = .returned (.tuple #[.string ⟨(Lib.cut s [47]).1.toArray⟩, .string ⟨(Lib.cut s [47]).2.1.toArray⟩, .bool (Lib.cut s [47]).2.2]) ∧ Tr w w' := by
  obtain ⟨m, hm⟩ := hE.len
  refine (Tryd.strings_Cut ⟨s.toArray⟩ ⟨#[47]⟩ m w (by simp [ByteArray.size]; omega) hm).mono ?_
  rintro e w' ⟨he, n, rfl⟩
  exact ⟨he, (Tr.refl _).drN n⟩
def AtoiEnds (s : List UInt8) (w : World) (e : Ending) (w' : World) : Prop :=
  ∃ (n : Int) (er : Value), e = .returned (.tuple #[.int .i64 n, er]) ∧ ((er = .nilIface ∧ Hid (Lib.atoiAll s = .ok n)) ∨ ((∃ t p, er = .iface t (.pointer p)) ∧ Hid (∀ v, Lib.atoiAll s ≠ .ok v))) ∧ -9223372036854775808 ≤ n ∧ n ≤ 9223372036854775807 ∧ Tr w w'
theorem atoi_range {s : List UInt8} {n : Int} (h : Lib.atoiAll s = .ok n) : -9223372036854775808 ≤ n ∧ n ≤ 9223372036854775807 := by
  unfold Lib.atoiAll at h
  split at h
  · cases h
  · simp only [] at h
    split at h
    · cases h
    · cases h
    · split at h
      · cases h
      · split at h
        · cases h
        · injection h with h
          subst h
          split <;> omega
theorem atoiS_any (s : List UInt8) (w : World) (hl : s.length ≤ 100) (hE : Env w) : Calls Tryd.prog 63 #[.string ⟨s.toArray⟩] w (AtoiEnds s w) := by
  have hz : (⟨s.toArray⟩ : ByteArray).size = s.length := by simp [ByteArray.size]
  cases h : Lib.atoiAll s with
  | ok v =>
    refine (Tryd.strconv_Atoi_ok ⟨s.toArray⟩ (by omega) v (by simpa using h) w).mono ?_
    rintro e w' ⟨rfl, hw⟩
    obtain ⟨r1, r2⟩ := atoi_range h
    refine ⟨v, _, rfl, .inl ⟨rfl, h⟩, r1, r2, ?_⟩
    rcases hw with rfl | ⟨t, rfl⟩
    · exact Tr.refl _
    · exact Lib.below_freeze (((Tr.refl _).dr).al _) (Nat.le_refl _) _
  | range =>
    obtain ⟨ev, h1, h2⟩ := hE.ran
    refine (Tryd.strconv_Atoi_range ⟨s.toArray⟩ (by omega) (by simpa using h) ev w h1 h2).mono ?_
    rintro e w' ⟨N, rfl, _, _, hb⟩
    refine ⟨_, _, rfl, .inr ⟨⟨_, _, rfl⟩, (show ∀ v, Lib.atoiAll s ≠ .ok v from fun v hv => by rw [h] at hv; cases hv)⟩, ?_, ?_, hb⟩ <;> (unfold Lib.atoiSat; split <;> omega)
  | _ =>
    obtain ⟨ev, h1, h2⟩ := hE.syn
    refine (Tryd.strconv_Atoi_syntax ⟨s.toArray⟩ (by omega) (h.trans rfl) ev w h1 h2).mono ?_
    rintro e w' ⟨N, rfl, _, _, hb⟩
    exact ⟨_, _, rfl, .inr ⟨⟨_, _, rfl⟩, (show ∀ v, Lib.atoiAll s ≠ .ok v from fun v hv => by rw [h] at hv; cases hv)⟩, by omega, by omega, hb⟩

theorem cut_len (s : List UInt8) : (Lib.cut s [47]).1.length ≤ s.length ∧ (Lib.cut s [47]).2.1.length ≤ s.length := by
  unfold Lib.cut
  split <;> simp <;> omega
/-- The parts of the text of a valid fraction. -/
theorem cut_text {n d : Int} (hv : validB n d = true) : Lib.atoiAll (Lib.cut (textL n d) [47]).1 = .ok n ∧ Lib.atoiAll (if (Lib.cut (textL n d) [47]).2.2 = true then (Lib.cut (textL n d) [47]).2.1 else [49]) = .ok d := by
  obtain ⟨a1, a2, a3, a4, _⟩ := validB_spec.1 hv
  unfold textL
  by_cases hd : d = 1
  · rw [if_pos hd, cut_no (itoa_no n)]
    exact ⟨atoi_itoa n (by omega) (by omega), by rw [hd]; exact (show Lib.atoiAll [49] = .ok 1 by decide)⟩
  · rw [if_neg hd, cut_at (itoa_no n)]
    exact ⟨atoi_itoa n (by omega) (by omega), atoi_itoa d (by omega) (by omega)⟩
theorem parse_bad1 {s f g : List UInt8} {two : Bool} (hc : Lib.cut s [47] = (f, g, two)) (h : ∀ v, Lib.atoiAll f ≠ .ok v) : parseS s = (0, 0, 7) :=
  parseS_no fun n d hv ht => by
    have := (cut_text hv).1
    rw [ht, hc] at this
    exact h _ this
theorem parse_bad2 {s f g g2 : List UInt8} {two : Bool} (hc : Lib.cut s [47] = (f, g, two)) (h2 : g2 = if two = true then g else [49]) (h : ∀ v, Lib.atoiAll g2 ≠ .ok v) : parseS s = (0, 0, 7) :=
  parseS_no fun n d hv ht => by
    have := (cut_text hv).2
    rw [ht, hc] at this
    rw [h2] at h
    exact h _ this
theorem parse_bad3 {s f g g2 : List UInt8} {two : Bool} {n d : Int} (hc : Lib.cut s [47] = (f, g, two)) (h2 : g2 = if two = true then g else [49]) (h1 : Lib.atoiAll f = .ok n) (h3 : Lib.atoiAll g2 = .ok d) (h : ¬ (validB n d = true ∧ textL n d = s)) : parseS s = (0, 0, 7) :=
  parseS_no fun n' d' hv ht => by
    have e1 := (cut_text hv).1
    have e2 := (cut_text hv).2
    rw [ht, hc] at e1 e2
    rw [h2] at h3
    injection h1.symm.trans e1 with e1
    injection h3.symm.trans e2 with e2
    subst e1 e2
    exact h ⟨hv, ht⟩

set_option maxRecDepth 100000 in
set_option maxHeartbeats 2000000 in
theorem parse_any (s : List UInt8) (w : World) (hl : s.length ≤ 100) (hE : Env w) :
    Calls Tryd.prog 36 #[.string ⟨s.toArray⟩] w fun e w' => e = .returned (.tuple #[.agg #[.int .i64 (parseS s).1, .int .i64 (parseS s).2.1], .int .i64 (parseS s).2.2]) ∧ Tr w w' := by
  obtain ⟨f, g, two, hc⟩ : ∃ f g two, Lib.cut s [47] = (f, g, two) := ⟨_, _, _, rfl⟩
  have hfl : f.length ≤ 100 := by have := (cut_len s).1; rw [hc] at this; simp at this; omega
  have hgl : g.length ≤ 100 := by have := (cut_len s).2; rw [hc] at this; simp at this; omega
  obtain ⟨g2, hg2⟩ : ∃ g2, g2 = if two = true then g else [49] := ⟨_, rfl⟩
  have hgl2 : g2.length ≤ 100 := by rw [hg2]; split; exact hgl; simp
  have CC : Hid (∀ W, Env W → Calls Tryd.prog 62 #[.string ⟨s.toArray⟩, .string ⟨#[47]⟩] W fun e w' => e = .returned (.tuple #[.string ⟨f.toArray⟩, .string ⟨g.toArray⟩, .bool two]) ∧ Tr W w') := fun W hW => by
    have := cut_any s W hl hW
    rw [hc] at this
    exact this
  have HC := Lib.hid hc
  have HG := Lib.hid hg2
  clear hc hg2
  generalize hP : parseS s = P
  have HP := Lib.hid hP
  clear hP
  go_enter Tryd.func36, Tryd.ntmps36
  go_upto_if 19 with (go_at_call 62; (with_reducible refine (CC.out _ (hE.tr (by repeat (first | exact Tr.refl _ | assumption | apply Tr.al | apply Tr.drN | apply Tr.dr | (refine Tr.set ?_ (by first | omega | (simp; done) | (simp; omega)) _))))).mono ?_); rintro e w1 ⟨rfl, ht1⟩; have T1 : Tr w w1 := Tr.trans (by repeat (first | exact Tr.refl _ | assumption | apply Tr.al | apply Tr.drN | apply Tr.dr | (refine Tr.set ?_ (by first | omega | (simp; done) | (simp; omega)) _))) ht1; have K1 := Keep.tr (l := [(⟨w.heap.size, 0, none⟩, .int .i64 (0)), (⟨w.heap.size, 1, none⟩, .int .i64 (0))]) (by first | (simp [Keep, go_sem, *]; done) | (simp [Keep, go_sem, *]; omega) | (simp (disch := first | omega | (simp; omega) | (simp; done)) [Keep, go_sem, cell_far, cell_off, RowKit.frozen?_alloc_cells, frozen_new, *]; done) | (simp (disch := first | omega | (simp; omega) | (simp; done)) [Keep, go_sem, cell_far, cell_off, RowKit.frozen?_alloc_cells, frozen_new, *]; omega)) ht1; have hz1 := Below.size ht1; (try simp at hz1); clear ht1; simp only [Keep] at K1)
  go_cut [5] (fun a wx => a = .string ⟨g2.toArray⟩ ∧ w1 = wx)
  case first =>
    cases two
    · have e : Hid (g2 = [49]) := HG.out
      go_wp2_with fail
      go_meet
      exact ⟨by rw [e.out], rfl⟩
    · have e : Hid (g2 = g) := HG.out
      go_wp2_with fail
      go_meet
      exact ⟨by rw [e.out], rfl⟩
  obtain ⟨rfl, rfl⟩ := hcut
  go_upto_region 5 with (go_at_call 63; (with_reducible refine (atoiS_any f _ hfl (hE.tr (by repeat (first | exact Tr.refl _ | assumption | apply Tr.al | apply Tr.drN | apply Tr.dr | (refine Tr.set ?_ (by first | omega | (simp; done) | (simp; omega)) _))))).mono ?_); rintro e w2 ⟨n, er, rfl, hn, n1, n2, ht2⟩; have T2 : Tr w w2 := Tr.trans (by repeat (first | exact Tr.refl _ | assumption | apply Tr.al | apply Tr.drN | apply Tr.dr | (refine Tr.set ?_ (by first | omega | (simp; done) | (simp; omega)) _))) ht2; have K2 := Keep.tr (l := [(⟨w.heap.size, 0, none⟩, .int .i64 (0)), (⟨w.heap.size, 1, none⟩, .int .i64 (0))]) (by first | (simp [Keep, go_sem, *]; done) | (simp [Keep, go_sem, *]; omega) | (simp (disch := first | omega | (simp; omega) | (simp; done)) [Keep, go_sem, cell_far, cell_off, RowKit.frozen?_alloc_cells, frozen_new, *]; done) | (simp (disch := first | omega | (simp; omega) | (simp; done)) [Keep, go_sem, cell_far, cell_off, RowKit.frozen?_alloc_cells, frozen_new, *]; omega)) ht2; have hz2 := Below.size ht2; (try simp at hz2); clear ht2; simp only [Keep] at K2)
  clear K1 T1
  go_upto_region 6 with (go_at_call 63; (with_reducible refine (atoiS_any g2 _ hgl2 (hE.tr (by repeat (first | exact Tr.refl _ | assumption | apply Tr.al | apply Tr.drN | apply Tr.dr | (refine Tr.set ?_ (by first | omega | (simp; done) | (simp; omega)) _))))).mono ?_); rintro e w3 ⟨d, er2, rfl, hd, d1, d2, ht3⟩; have T3 : Tr w w3 := Tr.trans (by repeat (first | exact Tr.refl _ | assumption | apply Tr.al | apply Tr.drN | apply Tr.dr | (refine Tr.set ?_ (by first | omega | (simp; done) | (simp; omega)) _))) ht3; have K3 := Keep.tr (l := [(⟨w.heap.size, 0, none⟩, .int .i64 (0)), (⟨w.heap.size, 1, none⟩, .int .i64 (0))]) (by first | (simp [Keep, go_sem, *]; done) | (simp [Keep, go_sem, *]; omega) | (simp (disch := first | omega | (simp; omega) | (simp; done)) [Keep, go_sem, cell_far, cell_off, RowKit.frozen?_alloc_cells, frozen_new, *]; done) | (simp (disch := first | omega | (simp; omega) | (simp; done)) [Keep, go_sem, cell_far, cell_off, RowKit.frozen?_alloc_cells, frozen_new, *]; omega)) ht3; have hz3 := Below.size ht3; (try simp at hz3); clear ht3; simp only [Keep] at K3)
  clear K2 T2
  go_upto_region 7 with (fail)
  refine wp_forget (w0 := w) [(⟨w.heap.size, 0, none⟩, .int .i64 (0)), (⟨w.heap.size, 1, none⟩, .int .i64 (0)), (⟨w3.heap.size, 0, none⟩, .int .i64 (n)), (⟨w3.heap.size, 1, none⟩, .int .i64 (d))] (by first | (simp [Keep, go_sem, *]; done) | (simp [Keep, go_sem, *]; omega) | (simp (disch := first | omega | (simp; omega) | (simp; done)) [Keep, go_sem, cell_far, cell_off, RowKit.frozen?_alloc_cells, frozen_new, *]; done) | (simp (disch := first | omega | (simp; omega) | (simp; done)) [Keep, go_sem, cell_far, cell_off, RowKit.frozen?_alloc_cells, frozen_new, *]; omega)) (by repeat (first | exact Tr.refl _ | assumption | apply Tr.al | apply Tr.drN | apply Tr.dr | (refine Tr.set ?_ (by first | omega | (simp; done) | (simp; omega)) _))) ?_; intro w4 hs4 K4 T4; (try simp at hs4); simp only [Keep] at K4
  clear K3 T3
  rcases hn with ⟨rfl, HN⟩ | ⟨⟨t, p, rfl⟩, HN⟩
  · rcases hd with ⟨rfl, HD⟩ | ⟨⟨t, p, rfl⟩, HD⟩
    · cases hv : validB n d
      · obtain rfl : P = (0, 0, 7) := by rw [← HP.out]; exact parse_bad3 HC.out HG.out HN.out HD.out (by simp [hv])
        go_wp2_with (go_at_call 15; (with_reducible refine (valid_any _ _ _).mono ?_); rintro e w7 ⟨rfl, ht7⟩; have T7 : Tr w w7 := Tr.trans (by repeat (first | exact Tr.refl _ | assumption | apply Tr.al | apply Tr.drN | apply Tr.dr | (refine Tr.set ?_ (by first | omega | (simp; done) | (simp; omega)) _))) ht7; have K7 := Keep.tr (l := [(⟨w.heap.size, 0, none⟩, .int .i64 (0)), (⟨w.heap.size, 1, none⟩, .int .i64 (0)), (⟨w3.heap.size, 0, none⟩, .int .i64 (n)), (⟨w3.heap.size, 1, none⟩, .int .i64 (d))]) (by first | (simp [Keep, go_sem, *]; done) | (simp [Keep, go_sem, *]; omega) | (simp (disch := first | omega | (simp; omega) | (simp; done)) [Keep, go_sem, cell_far, cell_off, RowKit.frozen?_alloc_cells, frozen_new, *]; done) | (simp (disch := first | omega | (simp; omega) | (simp; done)) [Keep, go_sem, cell_far, cell_off, RowKit.frozen?_alloc_cells, frozen_new, *]; omega)) ht7; have hz7 := Below.size ht7; (try simp at hz7); clear ht7; simp only [Keep] at K7)
        simp [bodyPost, results, Tryd.results36, go_sem, *]
        exact (by repeat (first | exact Tr.refl _ | assumption | apply Tr.al | apply Tr.drN | apply Tr.dr | (refine Tr.set ?_ (by first | omega | (simp; done) | (simp; omega)) _)))
      · have CT := Lib.hid fun W hW => text_any n d W n1 n2 d1 d2 hW
        by_cases ht : textL n d = s
        · obtain rfl : P = (n, d, 0) := by rw [← HP.out]; exact parseS_yes hv ht
          simp only [ht] at CT
          go_wp2_with (first
            | (go_at_call 15; (with_reducible refine (valid_any _ _ _).mono ?_); rintro e w7 ⟨rfl, ht7⟩; have T7 : Tr w w7 := Tr.trans (by repeat (first | exact Tr.refl _ | assumption | apply Tr.al | apply Tr.drN | apply Tr.dr | (refine Tr.set ?_ (by first | omega | (simp; done) | (simp; omega)) _))) ht7; have K7 := Keep.tr (l := [(⟨w.heap.size, 0, none⟩, .int .i64 (0)), (⟨w.heap.size, 1, none⟩, .int .i64 (0)), (⟨w3.heap.size, 0, none⟩, .int .i64 (n)), (⟨w3.heap.size, 1, none⟩, .int .i64 (d))]) (by first | (simp [Keep, go_sem, *]; done) | (simp [Keep, go_sem, *]; omega) | (simp (disch := first | omega | (simp; omega) | (simp; done)) [Keep, go_sem, cell_far, cell_off, RowKit.frozen?_alloc_cells, frozen_new, *]; done) | (simp (disch := first | omega | (simp; omega) | (simp; done)) [Keep, go_sem, cell_far, cell_off, RowKit.frozen?_alloc_cells, frozen_new, *]; omega)) ht7; have hz7 := Below.size ht7; (try simp at hz7); clear ht7; simp only [Keep] at K7)
            | (go_at_call 60; (with_reducible refine (CT.out _ (hE.tab.tr (by repeat (first | exact Tr.refl _ | assumption | apply Tr.al | apply Tr.drN | apply Tr.dr | (refine Tr.set ?_ (by first | omega | (simp; done) | (simp; omega)) _))))).mono ?_); rintro e w8 ⟨rfl, ht8⟩; have T8 : Tr w w8 := Tr.trans (by repeat (first | exact Tr.refl _ | assumption | apply Tr.al | apply Tr.drN | apply Tr.dr | (refine Tr.set ?_ (by first | omega | (simp; done) | (simp; omega)) _))) ht8; have K8 := Keep.tr (l := [(⟨w.heap.size, 0, none⟩, .int .i64 (0)), (⟨w.heap.size, 1, none⟩, .int .i64 (0)), (⟨w3.heap.size, 0, none⟩, .int .i64 (n)), (⟨w3.heap.size, 1, none⟩, .int .i64 (d))]) (by first | (simp [Keep, go_sem, *]; done) | (simp [Keep, go_sem, *]; omega) | (simp (disch := first | omega | (simp; omega) | (simp; done)) [Keep, go_sem, cell_far, cell_off, RowKit.frozen?_alloc_cells, frozen_new, *]; done) | (simp (disch := first | omega | (simp; omega) | (simp; done)) [Keep, go_sem, cell_far, cell_off, RowKit.frozen?_alloc_cells, frozen_new, *]; omega)) ht8; have hz8 := Below.size ht8; (try simp at hz8); clear ht8; simp only [Keep] at K8))
          simp [bodyPost, results, Tryd.results36, go_sem, *]
          exact (by repeat (first | exact Tr.refl _ | assumption | apply Tr.al | apply Tr.drN | apply Tr.dr | (refine Tr.set ?_ (by first | omega | (simp; done) | (simp; omega)) _)))
        · obtain rfl : P = (0, 0, 7) := by rw [← HP.out]; exact parse_bad3 HC.out HG.out HN.out HD.out (by simp [ht])
          generalize textL n d = r at *
          have hne : (r == s) = false := by rw [beq_eq_false_iff_ne]; exact ht
          go_wp2_with (first
            | (go_at_call 15; (with_reducible refine (valid_any _ _ _).mono ?_); rintro e w7 ⟨rfl, ht7⟩; have T7 : Tr w w7 := Tr.trans (by repeat (first | exact Tr.refl _ | assumption | apply Tr.al | apply Tr.drN | apply Tr.dr | (refine Tr.set ?_ (by first | omega | (simp; done) | (simp; omega)) _))) ht7; have K7 := Keep.tr (l := [(⟨w.heap.size, 0, none⟩, .int .i64 (0)), (⟨w.heap.size, 1, none⟩, .int .i64 (0)), (⟨w3.heap.size, 0, none⟩, .int .i64 (n)), (⟨w3.heap.size, 1, none⟩, .int .i64 (d))]) (by first | (simp [Keep, go_sem, *]; done) | (simp [Keep, go_sem, *]; omega) | (simp (disch := first | omega | (simp; omega) | (simp; done)) [Keep, go_sem, cell_far, cell_off, RowKit.frozen?_alloc_cells, frozen_new, *]; done) | (simp (disch := first | omega | (simp; omega) | (simp; done)) [Keep, go_sem, cell_far, cell_off, RowKit.frozen?_alloc_cells, frozen_new, *]; omega)) ht7; have hz7 := Below.size ht7; (try simp at hz7); clear ht7; simp only [Keep] at K7)
            | (go_at_call 60; (with_reducible refine (CT.out _ (hE.tab.tr (by repeat (first | exact Tr.refl _ | assumption | apply Tr.al | apply Tr.drN | apply Tr.dr | (refine Tr.set ?_ (by first | omega | (simp; done) | (simp; omega)) _))))).mono ?_); rintro e w8 ⟨rfl, ht8⟩; have T8 : Tr w w8 := Tr.trans (by repeat (first | exact Tr.refl _ | assumption | apply Tr.al | apply Tr.drN | apply Tr.dr | (refine Tr.set ?_ (by first | omega | (simp; done) | (simp; omega)) _))) ht8; have K8 := Keep.tr (l := [(⟨w.heap.size, 0, none⟩, .int .i64 (0)), (⟨w.heap.size, 1, none⟩, .int .i64 (0)), (⟨w3.heap.size, 0, none⟩, .int .i64 (n)), (⟨w3.heap.size, 1, none⟩, .int .i64 (d))]) (by first | (simp [Keep, go_sem, *]; done) | (simp [Keep, go_sem, *]; omega) | (simp (disch := first | omega | (simp; omega) | (simp; done)) [Keep, go_sem, cell_far, cell_off, RowKit.frozen?_alloc_cells, frozen_new, *]; done) | (simp (disch := first | omega | (simp; omega) | (simp; done)) [Keep, go_sem, cell_far, cell_off, RowKit.frozen?_alloc_cells, frozen_new, *]; omega)) ht8; have hz8 := Below.size ht8; (try simp at hz8); clear ht8; simp only [Keep] at K8))
          simp [bodyPost, results, Tryd.results36, go_sem, *]
          exact (by repeat (first | exact Tr.refl _ | assumption | apply Tr.al | apply Tr.drN | apply Tr.dr | (refine Tr.set ?_ (by first | omega | (simp; done) | (simp; omega)) _)))
    · obtain rfl : P = (0, 0, 7) := by rw [← HP.out]; exact parse_bad2 HC.out HG.out HD.out
      go_wp2
      simp [bodyPost, results, Tryd.results36, go_sem, *]
      exact (by repeat (first | exact Tr.refl _ | assumption | apply Tr.al | apply Tr.drN | apply Tr.dr | (refine Tr.set ?_ (by first | omega | (simp; done) | (simp; omega)) _)))
  · obtain rfl : P = (0, 0, 7) := by rw [← HP.out]; exact parse_bad1 HC.out HN.out
    clear hd
    go_wp2
    simp [bodyPost, results, Tryd.results36, go_sem, *]
    exact (by repeat (first | exact Tr.refl _ | assumption | apply Tr.al | apply Tr.drN | apply Tr.dr | (refine Tr.set ?_ (by first | omega | (simp; done) | (simp; omega)) _)))
end Go.Proofs.YtpjkiljgccjemaaDoor
