/- The reference's decimal and Text: the text of each fraction. -/
import Derived.Test.YtpjkiljgccjemaaDoorTextP
import Derived.Test.YtpjkiljgccjemaaDoorRefJ
import Derived.Laws.IdiomStrings
namespace Go.Proofs.YtpjkiljgccjemaaDoor
set_option linter.unusedVariables false
open Go.RowKit Go.Sort

theorem conv1 (w : World) (z : Int) (d : Nat) (hz : z = d) (hd : d < 10) :
    (convert 95 9 (.slice (some ⟨w.heap.size, 0, none⟩) 1 1)).run Tryd.prog (w.alloc (.cells #[.int .u8 (48 + z)] 5)) = .ok (.string ⟨#[UInt8.ofNat (48 + d)]⟩) (w.alloc (.cells #[.int .u8 (48 + z)] 5)) := by
  have h := run_convert_bytes_back (P := Tryd.prog) (w.alloc (.cells #[.int .u8 (48 + z)] 5)) 95 9 5 ⟨w.heap.size, 0, none⟩ 1 [UInt8.ofNat (48 + d)] Tryd.underlying95 Tryd.underlying5 Tryd.underlying9 (fun j hj => by
    obtain rfl : j = 0 := by simpa using hj
    simp only [List.getElem_cons_zero, digit_toNat hd, Addr.add]
    rw [hz]
    simp [go_sem])
  exact h

theorem str_cons (k : Nat) (t : List UInt8) : Value.string (({ data := #[48 + UInt8.ofNat k] } : ByteArray) ++ { data := t.toArray }) = .string ⟨(UInt8.ofNat (48 + k) :: t).toArray⟩ := by
  rw [show (48 : UInt8) + UInt8.ofNat k = UInt8.ofNat (48 + k) by rw [UInt8.ofNat_add]; rfl]
  congr 1
theorem str_app (s t : List UInt8) : (({ data := s.toArray } : ByteArray) ++ { data := t.toArray }) = ⟨(s ++ t).toArray⟩ := by
  show ByteArray.mk s.toArray ++ ByteArray.mk t.toArray = _
  rw [ByteArray.mk_append_mk]
theorem nDigits_le : ∀ (k u : Nat), u < 10 ^ (k + 1) → Lib.nDigits u ≤ k + 1
  | 0, u, h => by rw [Lib.nDigits_small (by simpa using h)]; omega
  | k + 1, u, h => by
    by_cases h1 : u < 10
    · rw [Lib.nDigits_small h1]; omega
    · rw [Lib.nDigits_big h1]
      have := nDigits_le k (u / 10) (by rw [Nat.pow_succ] at h; omega)
      omega
theorem dec_len {u : Nat} (hu : u < 18446744073709551616) : (Lib.decDigits u).length ≤ 20 := by
  rw [Lib.decDigits_length]
  exact nDigits_le 19 u (by omega)
theorem dec_step {m u : Nat} {t : List UInt8} (h : Lib.decDigits m ++ t = Lib.decDigits u) (h9 : 9 < m) : Lib.decDigits (m / 10) ++ (UInt8.ofNat (48 + m % 10) :: t) = Lib.decDigits u := by
  rw [← h, dec_big (u := m) (by omega)]; simp
theorem dec_last {m u : Nat} {t : List UInt8} (h : Lib.decDigits m ++ t = Lib.decDigits u) (h9 : ¬ 9 < m) : UInt8.ofNat (48 + m) :: t = Lib.decDigits u := by
  rw [← h, Lib.decDigits_one (i := m) (by omega)]; simp

set_option maxRecDepth 100000 in
theorem decimal_any (u : Nat) (hu : u < 18446744073709551616) (w : World) :
    Calls Tryd.prog 61 #[.int .u64 u] w fun e w' => e = .returned (.string ⟨(Lib.decDigits u).toArray⟩) ∧ Tr w w' := by
  go_enter Tryd.func61, Tryd.ntmps61
  go_wp2
  go_loopw [0, 3] (fun n s wr => ∃ (m : Nat) (t : List UInt8), n = .int .u64 m ∧ s = .string ⟨t.toArray⟩ ∧ m ≤ u ∧ Hid (Lib.decDigits m ++ t = Lib.decDigits u) ∧ Tr w wr) (fun n _ _ => (intOf n).toNat)
  case atStart => exact ⟨u, [], rfl, rfl, by omega, (by simp : Lib.decDigits u ++ [] = Lib.decDigits u), (by repeat (first | exact Tr.refl _ | assumption | apply Tr.al | apply Tr.drN | apply Tr.dr | (refine Tr.set ?_ (by first | omega | (simp; done) | (simp; omega)) _)))⟩
  case round =>
    obtain ⟨m, t, rfl, rfl, hm, HD, T⟩ := hrel
    have hzz := Below.size T
    have hl : t.length ≤ 20 := by
      have h1 := congrArg List.length HD.out
      have h2 := dec_len hu
      simp at h1
      omega
    by_cases h9 : 9 < m
    · have hc := conv1 wr ((m : Int) % 10) (m % 10) (by omega) (by omega)
      have HB := Lib.hid (dec_step HD.out h9)
      go_wp2
      go_roundw
      case rel => exact ⟨m / 10, UInt8.ofNat (48 + m % 10) :: t, by go_num, str_cons _ _, by omega, HB, (by repeat (first | exact Tr.refl _ | assumption | apply Tr.al | apply Tr.drN | apply Tr.dr | (refine Tr.set ?_ (by first | omega | (simp; done) | (simp; omega)) _)))⟩
      case measure => simp [intOf]; omega
    · have hc := conv1 wr (m : Int) m (by omega) (by omega)
      have HB := Lib.hid (dec_last HD.out h9)
      go_wp2
      go_ret
      refine ⟨?_, (by repeat (first | exact Tr.refl _ | assumption | apply Tr.al | apply Tr.drN | apply Tr.dr | (refine Tr.set ?_ (by first | omega | (simp; done) | (simp; omega)) _)))⟩
      rw [← HB.out, ← str_cons]
      rfl

theorem textL_case (n d : Int) (h1 : 1 ≤ d) : textL n d = (if n < 0 then [45] else []) ++ Lib.decDigits n.natAbs ++ (if d = 1 then [] else 47 :: Lib.decDigits d.natAbs) := by
  unfold textL Lib.itoa
  have e : ¬ d < 0 := by omega
  have e2 : d.toNat = d.natAbs := by omega
  by_cases hn : n < 0 <;> by_cases hd : d = 1
  · simp [hn, hd]
  · simp [hn, hd, e, e2]
  · have e3 : n.toNat = n.natAbs := by omega
    simp [hn, hd, e3]
  · have e3 : n.toNat = n.natAbs := by omega
    simp [hn, hd, e, e2, e3]

set_option maxRecDepth 100000 in
theorem rtext_any (n d : Int) (w : World) (hv : validB n d = true) :
    Calls Tryd.prog 35 #[.agg #[.int .i64 n, .int .i64 d]] w fun e w' => e = .returned (.string ⟨(textL n d).toArray⟩) ∧ Tr w w' := by
  obtain ⟨a1, a2, a3, a4, _⟩ := validB_spec.1 hv
  rw [textL_case n d a1]
  clear hv
  have l1 := dec_len (u := n.natAbs) (by omega)
  have l2 := dec_len (u := d.natAbs) (by omega)
  have C1 := Lib.hid fun W => decimal_any n.natAbs (by omega) W
  have C2 := Lib.hid fun W => decimal_any d.natAbs (by omega) W
  generalize Lib.decDigits n.natAbs = s at *
  generalize Lib.decDigits d.natAbs = t at *
  by_cases hn : n < 0 <;> by_cases hd : d = 1
  all_goals
    have hd' : (d == 1) = decide (d = 1) := rfl
    go_enter Tryd.func35, Tryd.ntmps35
    go_wp2_with (first
      | (go_at_call 49; (with_reducible refine (rsize_any _ (by omega) (by omega) _).mono ?_); rintro e wS ⟨rfl, rfl⟩)
      | (go_at_call 61; (with_reducible refine (C1.out _).mono ?_); rintro e w2 ⟨rfl, ht2⟩; have T2 : Tr w w2 := Tr.trans (by repeat (first | exact Tr.refl _ | assumption | apply Tr.al | apply Tr.drN | apply Tr.dr | (refine Tr.set ?_ (by first | omega | (simp; done) | (simp; omega)) _))) ht2; have K2 := Keep.tr (l := [(⟨w.heap.size, 0, none⟩, .int .i64 (n)), (⟨w.heap.size, 1, none⟩, .int .i64 (d))]) (by first | (simp [Keep, go_sem, *]; done) | (simp [Keep, go_sem, *]; omega) | (simp (disch := first | omega | (simp; omega) | (simp; done)) [Keep, go_sem, cell_far, cell_off, RowKit.frozen?_alloc_cells, frozen_new, *]; done) | (simp (disch := first | omega | (simp; omega) | (simp; done)) [Keep, go_sem, cell_far, cell_off, RowKit.frozen?_alloc_cells, frozen_new, *]; omega)) ht2; have hz2 := Below.size ht2; (try simp at hz2); clear ht2; simp only [Keep] at K2)
      | (go_at_call 61; (with_reducible refine (C2.out _).mono ?_); rintro e w3 ⟨rfl, ht3⟩; have T3 : Tr w w3 := Tr.trans (by repeat (first | exact Tr.refl _ | assumption | apply Tr.al | apply Tr.drN | apply Tr.dr | (refine Tr.set ?_ (by first | omega | (simp; done) | (simp; omega)) _))) ht3; have K3 := Keep.tr (l := [(⟨w.heap.size, 0, none⟩, .int .i64 (n)), (⟨w.heap.size, 1, none⟩, .int .i64 (d))]) (by first | (simp [Keep, go_sem, *]; done) | (simp [Keep, go_sem, *]; omega) | (simp (disch := first | omega | (simp; omega) | (simp; done)) [Keep, go_sem, cell_far, cell_off, RowKit.frozen?_alloc_cells, frozen_new, *]; done) | (simp (disch := first | omega | (simp; omega) | (simp; done)) [Keep, go_sem, cell_far, cell_off, RowKit.frozen?_alloc_cells, frozen_new, *]; omega)) ht3; have hz3 := Below.size ht3; (try simp at hz3); clear ht3; simp only [Keep] at K3))
    go_ret
    refine ⟨?_, (by repeat (first | exact Tr.refl _ | assumption | apply Tr.al | apply Tr.drN | apply Tr.dr | (refine Tr.set ?_ (by first | omega | (simp; done) | (simp; omega)) _)))⟩
    simp [str_app, *]
end Go.Proofs.YtpjkiljgccjemaaDoor
