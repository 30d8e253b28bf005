/- The reference's Parse: the fraction with a text. -/
import Derived.Test.YtpjkiljgccjemaaDoorTextB
namespace Go.Proofs.YtpjkiljgccjemaaDoor
set_option linter.unusedVariables false
open Go.RowKit Go.Sort

theorem sign_case (s : List UInt8) : ∃ (neg : Bool) (t : List UInt8), (neg = true ∧ s = 45 :: t) ∨ (neg = false ∧ s = t ∧ ∀ r, s ≠ 45 :: r) := by
  cases s with
  | nil => exact ⟨false, [], .inr ⟨rfl, rfl, fun r h => by cases h⟩⟩
  | cons c r =>
    by_cases h : c = 45
    · exact ⟨true, r, .inl ⟨rfl, by rw [h]⟩⟩
    · exact ⟨false, c :: r, .inr ⟨rfl, rfl, fun r' h' => h (by injection h')⟩⟩

def slash (t : List UInt8) : Nat := t.findIdx (· == 47)
theorem slash_le (t : List UInt8) : slash t ≤ t.length := List.findIdx_le_length
theorem slash_no {l : List UInt8} (h : (47 : UInt8) ∉ l) : slash l = l.length := by
  unfold slash
  rw [List.findIdx_eq_length]
  intro x hx
  rw [beq_eq_false_iff_ne]
  exact fun e => h (e ▸ hx)
theorem slash_at {l r : List UInt8} (h : (47 : UInt8) ∉ l) : slash (l ++ 47 :: r) = l.length := by
  have h1 := slash_no h
  unfold slash at *
  rw [List.findIdx_append, h1, if_neg (by omega)]
  simp [List.findIdx_cons]
theorem slash_hit {t : List UInt8} {i : Nat} (h : slash t = i) (hi : i < t.length) : t[i] = 47 := by
  have := List.findIdx_getElem (xs := t) (p := (· == 47)) (w := by unfold slash at h; omega)
  unfold slash at h
  simpa [h] using this
theorem slash_miss {t : List UInt8} {i : Nat} (h : i < slash t) (hi : i < t.length) : t[i] ≠ 47 := by
  have := List.not_of_lt_findIdx (p := (· == 47)) (xs := t) (i := i) h
  simpa using this
theorem dec_no (u : Nat) : (47 : UInt8) ∉ Lib.decDigits u := fun h => by
  have := dec_digit u _ h
  simp at this
/-- The parts of the text of a valid fraction. -/
theorem text_parts {s t : List UInt8} {neg : Bool} (hs : (neg = true ∧ s = 45 :: t) ∨ (neg = false ∧ s = t ∧ ∀ r, s ≠ 45 :: r)) {n d : Int} (hv : validB n d = true) (ht : textL n d = s) :
    neg = decide (n < 0) ∧ slash t = (Lib.decDigits n.natAbs).length ∧ t.take (slash t) = Lib.decDigits n.natAbs ∧ ((d = 1 ∧ slash t = t.length) ∨ (d ≠ 1 ∧ slash t < t.length ∧ t.drop (slash t + 1) = Lib.decDigits d.natAbs)) := by
  obtain ⟨a1, a2, a3, a4, _⟩ := validB_spec.1 hv
  rw [textL_case n d a1] at ht
  have key : neg = decide (n < 0) ∧ t = Lib.decDigits n.natAbs ++ (if d = 1 then [] else 47 :: Lib.decDigits d.natAbs) := by
    by_cases hn : n < 0
    · rw [if_pos hn] at ht
      rcases hs with ⟨h1, h2⟩ | ⟨h1, h2, h3⟩
      · rw [h2] at ht
        simp only [List.cons_append, List.nil_append, List.cons.injEq, true_and] at ht
        exact ⟨by rw [h1]; simp [hn], ht.symm⟩
      · exact absurd ht.symm (by simpa using h3 _)
    · rw [if_neg hn] at ht
      obtain ⟨c, r, e, c1, c2⟩ := head_dec n.natAbs
      rcases hs with ⟨h1, h2⟩ | ⟨h1, h2, h3⟩
      · rw [h2, e] at ht
        simp only [List.nil_append, List.cons_append, List.cons.injEq] at ht
        rw [ht.1] at c1
        exact absurd c1 (by decide)
      · exact ⟨by rw [h1]; simp [hn], by rw [← h2, ← ht]; simp⟩
  obtain ⟨k1, k2⟩ := key
  refine ⟨k1, ?_⟩
  by_cases hd : d = 1
  · rw [if_pos hd, List.append_nil] at k2
    subst k2
    rw [slash_no (dec_no _)]
    exact ⟨rfl, List.take_length, .inl ⟨hd, rfl⟩⟩
  · rw [if_neg hd] at k2
    subst k2
    rw [slash_at (dec_no _)]
    exact ⟨rfl, by simp, .inr ⟨hd, by simp, by simp⟩⟩

def QPost (s : List UInt8) (neg ok : Bool) (v1 d2 : Int) : Prop := 0 ≤ d2 ∧ d2 ≤ 9223372036854775807 ∧ ∀ n d, validB n d = true → textL n d = s → ok = true ∧ neg = decide (n < 0) ∧ v1 = n.natAbs ∧ d2 = d
theorem q_one {s t : List UInt8} {neg ok1 : Bool} {v1 : Int} {A : Nat} (hs : (neg = true ∧ s = 45 :: t) ∨ (neg = false ∧ s = t ∧ ∀ r, s ≠ 45 :: r)) (hA : slash t = A) (n1 : NumPost (t.take A) v1 ok1) (h : ¬ A < t.length) : QPost s neg ok1 v1 1 := by
  refine ⟨by omega, by omega, fun n d hv ht => ?_⟩
  obtain ⟨p1, p2, p3, p4⟩ := text_parts hs hv ht
  obtain ⟨a1, a2, a3, a4, _⟩ := validB_spec.1 hv
  rw [hA] at p3 p4
  obtain ⟨e1, e2⟩ := n1.2.2 n.natAbs p3 (by omega)
  rcases p4 with ⟨e3, _⟩ | ⟨_, e3, _⟩
  · exact ⟨e2, p1, e1, e3.symm⟩
  · exact absurd e3 h
theorem q_two {s t : List UInt8} {neg ok1 ok2 : Bool} {v1 v2 : Int} {A : Nat} (hs : (neg = true ∧ s = 45 :: t) ∨ (neg = false ∧ s = t ∧ ∀ r, s ≠ 45 :: r)) (hA : slash t = A) (n1 : NumPost (t.take A) v1 ok1) (n2 : NumPost (t.drop (A + 1)) v2 ok2) (h : A < t.length) : QPost s neg (ok1 && ok2) v1 v2 := by
  refine ⟨n2.1, n2.2.1, fun n d hv ht => ?_⟩
  obtain ⟨p1, p2, p3, p4⟩ := text_parts hs hv ht
  obtain ⟨a1, a2, a3, a4, _⟩ := validB_spec.1 hv
  rw [hA] at p3 p4
  obtain ⟨e1, e2⟩ := n1.2.2 n.natAbs p3 (by omega)
  rcases p4 with ⟨_, e3⟩ | ⟨_, _, e3⟩
  · omega
  · obtain ⟨e4, e5⟩ := n2.2.2 d.natAbs e3 (by omega)
    exact ⟨by rw [e2, e5]; rfl, p1, e1, by omega⟩
theorem q_no {s : List UInt8} {neg ok : Bool} {v1 d2 x : Int} (h : QPost s neg ok v1 d2) (hx : x = if neg = true then -v1 else v1) (hno : ¬ (ok = true ∧ validB x d2 = true ∧ textL x d2 = s)) : parseS s = (0, 0, 7) := by
  refine parseS_no fun n d hv ht => hno ?_
  obtain ⟨e1, e2, e3, e4⟩ := h.2.2 n d hv ht
  have e5 : x = n := by
    rw [hx, e2, e3]
    by_cases hn : n < 0
    · simp [hn]; omega
    · simp [hn]; omega
  rw [e5, e4]
  exact ⟨e1, hv, ht⟩

set_option maxRecDepth 100000 in
set_option maxHeartbeats 2000000 in
theorem rparse_any (s : List UInt8) (w : World) (hl : s.length ≤ 100) :
    Calls Tryd.prog 37 #[.string ⟨s.toArray⟩] w fun e w' => e = .returned (.tuple #[.agg #[.int .i64 (parseS s).1, .int .i64 (parseS s).2.1], .bool (decide ((parseS s).2.2 = 0))]) ∧ Tr w w' := by
  have hlen : (⟨s.toArray⟩ : ByteArray).size = s.length := by simp [ByteArray.size]
  obtain ⟨neg, t, hs⟩ := sign_case s
  have HS := Lib.hid hs
  have hcase : (s.length = 0 ∧ neg = false) ∨ ∃ (c : UInt8) (h : 0 < s.length), (({ data := s.toArray } : ByteArray)[0]'(by rw [hlen]; exact h)) = c ∧ ((((c.toNat : Int) == 45) = true ∧ neg = true) ∨ (((c.toNat : Int) == 45) = false ∧ neg = false)) := by
    rcases hs with ⟨h1, h2⟩ | ⟨h1, h2, h3⟩
    · subst h2
      exact .inr ⟨45, by simp, rfl, .inl ⟨rfl, h1⟩⟩
    · cases s with
      | nil => exact .inl ⟨rfl, h1⟩
      | cons c r =>
        refine .inr ⟨c, by simp, rfl, .inr ⟨?_, h1⟩⟩
        rw [beq_eq_false_iff_ne]
        intro h
        exact h3 r (by congr 1; exact UInt8.toNat_inj.1 (by simpa using Int.ofNat_inj.1 h))
  clear hs
  generalize hP : parseS s = P
  have HP := Lib.hid hP
  clear hP
  go_enter Tryd.func37, Tryd.ntmps37
  go_upto_region 2 with (fail)
  refine wp_forget (w0 := w) [(⟨w.heap.size, 0, none⟩, .int .i64 (0)), (⟨w.heap.size, 1, none⟩, .int .i64 (0))] (by first | (simp [Keep, go_sem, *]; done) | (simp [Keep, go_sem, *]; omega) | (simp (disch := first | omega | (simp; omega) | (simp; done)) [Keep, go_sem, cell_far, cell_off, RowKit.frozen?_alloc_cells, frozen_new, *]; done) | (simp (disch := first | omega | (simp; omega) | (simp; done)) [Keep, go_sem, cell_far, cell_off, RowKit.frozen?_alloc_cells, frozen_new, *]; omega)) (by repeat (first | exact Tr.refl _ | assumption | apply Tr.al | apply Tr.drN | apply Tr.dr | (refine Tr.set ?_ (by first | omega | (simp; done) | (simp; omega)) _))) ?_; intro w1 hs1 K1 T1; (try simp at hs1); simp only [Keep] at K1
  go_cut [5] (fun s wx => s = .bool neg ∧ w1 = wx)
  case first =>
    rcases hcase with ⟨e1, rfl⟩ | ⟨c, e1, e2, ⟨e3, rfl⟩ | ⟨e3, rfl⟩⟩
    all_goals
      go_wp2_with fail
      go_meet
      exact ⟨rfl, rfl⟩
  obtain ⟨rfl, rfl⟩ := hcut
  clear hcase
  go_upto_if 22 with (fail)
  have htl : t.length ≤ 100 := by
    rcases HS.out with ⟨_, h2⟩ | ⟨_, h2, _⟩
    · rw [h2] at hl; simp at hl; omega
    · rw [h2] at hl; exact hl
  have htlen : (⟨t.toArray⟩ : ByteArray).size = t.length := by simp [ByteArray.size]
  have hex : Hid (neg = true → ({ data := s.toArray } : ByteArray).extract 1 s.length = { data := t.toArray }) := (by
    intro h
    rcases HS.out with ⟨_, h2⟩ | ⟨h1, _⟩
    · subst h2
      simp [ByteArray.ext_iff]
    · rw [h] at h1; exact absurd h1 (by decide) : neg = true → ({ data := s.toArray } : ByteArray).extract 1 s.length = { data := t.toArray })
  have hno : Hid (neg = false → s = t) := (by
    intro h
    rcases HS.out with ⟨h1, h2⟩ | ⟨_, h2, _⟩
    · rw [h] at h1; exact absurd h1 (by decide)
    · exact h2 : neg = false → s = t)
  have hpos : Hid (neg = true → 1 ≤ s.length) := (by
    intro h
    rcases HS.out with ⟨h1, h2⟩ | ⟨h1, h2, _⟩
    · rw [h2]; simp
    · rw [h] at h1; exact absurd h1 (by decide) : neg = true → 1 ≤ s.length)
  go_cut [4] (fun a wx => a = .string ⟨t.toArray⟩ ∧ w1 = wx)
  case first =>
    cases neg
    · have e := Lib.hid (hno.out rfl)
      go_wp2_with fail
      go_meet
      exact ⟨by rw [e.out], rfl⟩
    · have e := hex.out rfl
      have e2 := hpos.out rfl
      go_wp2_with fail
      go_meet
      exact ⟨rfl, rfl⟩
  obtain ⟨rfl, rfl⟩ := hcut
  clear hex hno hpos
  generalize hF : slash t = F
  have hF1 : F ≤ t.length := hF ▸ slash_le t
  have HF := Lib.hid hF
  clear hF
  go_wp2
  go_loopw [6, 7] (fun a b wr => ∃ A i : Nat, a = .int .i64 A ∧ b = .int .i64 i ∧ i ≤ t.length ∧ A ≤ t.length ∧ Hid ((F < i ∧ A = F) ∨ (i ≤ F ∧ A = t.length)) ∧ w1 = wr) (fun _ b _ => t.length - (intOf b).toNat)
  case atStart => exact ⟨t.length, 0, rfl, rfl, by omega, by omega, (.inr ⟨by omega, rfl⟩ : (F < 0 ∧ t.length = F) ∨ (0 ≤ F ∧ t.length = t.length)), rfl⟩
  case round =>
    obtain ⟨A, i, rfl, rfl, hi, hA, HI, rfl⟩ := hrel
    by_cases hlt : i < t.length
    · obtain ⟨c, hc⟩ : ∃ c, t[i] = c := ⟨_, rfl⟩
      have HC := Lib.hid hc
      have hcc : (({ data := t.toArray } : ByteArray)[i]'(by rw [htlen]; exact hlt)) = c := hc
      clear hc
      have hw : IntKind.i64.wrap ((i : Int) + 1) = (i : Int) + 1 := IntWalk.i64_in _ (by omega)
      have hk : (((c.toNat : Int) == 47) = false ∧ Hid (F ≠ i)) ∨ (((c.toNat : Int) == 47) = true ∧ ((A : Int) == (t.length : Int)) = false ∧ Hid (F < i ∧ A = F)) ∨ (((c.toNat : Int) == 47) = true ∧ A = t.length ∧ Hid (F = i)) := by
        by_cases h47 : c = 47
        · have e : ((c.toNat : Int) == 47) = true := by rw [h47]; rfl
          rcases HI.out with ⟨h1, h2⟩ | ⟨h1, h2⟩
          · exact .inr (.inl ⟨e, by rw [beq_eq_false_iff_ne]; omega, (⟨h1, h2⟩ : F < i ∧ A = F)⟩)
          · refine .inr (.inr ⟨e, h2, (?_ : F = i)⟩)
            rcases Nat.lt_or_ge i F with h3 | h3
            · exact absurd (HC.out.trans h47) (slash_miss (HF.out.symm ▸ h3) hlt)
            · omega
        · refine .inl ⟨?_, (?_ : F ≠ i)⟩
          · rw [beq_eq_false_iff_ne]
            intro h
            exact h47 (UInt8.toNat_inj.1 (by simpa using Int.ofNat_inj.1 h))
          · intro h
            exact h47 (HC.out.symm.trans (slash_hit (HF.out.trans h) hlt))
      rcases hk with ⟨k1, k2⟩ | ⟨k1, k2, k3⟩ | ⟨k1, rfl, k3⟩
      · go_wp2
        go_roundw
        case rel => exact ⟨A, i + 1, rfl, by go_num, by omega, hA, (by have := HI.out; have := k2.out; omega : (F < i + 1 ∧ A = F) ∨ (i + 1 ≤ F ∧ A = t.length)), trivial⟩
        case measure => simp [intOf]; omega
      · go_wp2
        go_roundw
        case rel => exact ⟨A, i + 1, rfl, by go_num, by omega, hA, (by have := k3.out; omega : (F < i + 1 ∧ A = F) ∨ (i + 1 ≤ F ∧ A = t.length)), trivial⟩
        case measure => simp [intOf]; omega
      · go_wp2
        go_roundw
        case rel => exact ⟨i, i + 1, rfl, by go_num, by omega, by omega, (by have := k3.out; omega : (F < i + 1 ∧ i = F) ∨ (i + 1 ≤ F ∧ i = t.length)), trivial⟩
        case measure => simp [intOf]; omega
    · obtain rfl : i = t.length := by omega
      obtain rfl : A = F := by have := HI.out; omega
      clear HI hi hA
      have hx1 : ({ data := t.toArray } : ByteArray).extract 0 A = { data := (t.take A).toArray } := by
        simp [ByteArray.ext_iff]
      go_upto_if 56 with (go_at_call 64; (with_reducible refine (number_any (t.take A) _ (by simp; omega)).mono ?_); rintro e w2 ⟨v1, ok1, rfl, N1, ht2⟩; have T2 : Tr w w2 := Tr.trans (by repeat (first | exact Tr.refl _ | assumption | apply Tr.al | apply Tr.drN | apply Tr.dr | (refine Tr.set ?_ (by first | omega | (simp; done) | (simp; omega)) _))) ht2; have K2 := Keep.tr (l := [(⟨w.heap.size, 0, none⟩, .int .i64 (0)), (⟨w.heap.size, 1, none⟩, .int .i64 (0))]) (by first | (simp [Keep, go_sem, *]; done) | (simp [Keep, go_sem, *]; omega) | (simp (disch := first | omega | (simp; omega) | (simp; done)) [Keep, go_sem, cell_far, cell_off, RowKit.frozen?_alloc_cells, frozen_new, *]; done) | (simp (disch := first | omega | (simp; omega) | (simp; done)) [Keep, go_sem, cell_far, cell_off, RowKit.frozen?_alloc_cells, frozen_new, *]; omega)) ht2; have hz2 := Below.size ht2; (try simp at hz2); clear ht2; simp only [Keep] at K2)
      have b1 := N1.out.1
      have b2 := N1.out.2.1
      refine wp_forget (w0 := w) [(⟨w.heap.size, 0, none⟩, .int .i64 (0)), (⟨w.heap.size, 1, none⟩, .int .i64 (0)), (⟨w2.heap.size, 0, none⟩, .int .i64 (v1)), (⟨w2.heap.size, 1, none⟩, .int .i64 (1))] (by first | (simp [Keep, go_sem, *]; done) | (simp [Keep, go_sem, *]; omega) | (simp (disch := first | omega | (simp; omega) | (simp; done)) [Keep, go_sem, cell_far, cell_off, RowKit.frozen?_alloc_cells, frozen_new, *]; done) | (simp (disch := first | omega | (simp; omega) | (simp; done)) [Keep, go_sem, cell_far, cell_off, RowKit.frozen?_alloc_cells, frozen_new, *]; omega)) (by repeat (first | exact Tr.refl _ | assumption | apply Tr.al | apply Tr.drN | apply Tr.dr | (refine Tr.set ?_ (by first | omega | (simp; done) | (simp; omega)) _))) ?_; intro w3 hs3 K3 T3; (try simp at hs3); simp only [Keep] at K3
      clear K1 K2 T2 hx1
      go_cut [9, 11, 12] (fun a _ _ wx => ∃ (ok : Bool) (d2 : Int), a = .bool ok ∧ Keep wx [(⟨w.heap.size, 0, none⟩, .int .i64 (0)), (⟨w.heap.size, 1, none⟩, .int .i64 (0)), (⟨w2.heap.size, 0, none⟩, .int .i64 (v1)), (⟨w2.heap.size, 1, none⟩, .int .i64 (d2))] ∧ Tr w wx ∧ Hid (QPost s neg ok v1 d2))
      case first =>
        by_cases h2 : A < t.length
        · have hx2 : ({ data := t.toArray } : ByteArray).extract (A + 1) t.length = { data := (t.drop (A + 1)).toArray } := by
            simp [ByteArray.ext_iff]
            exact List.take_of_length_le (by simp)
          have hw : IntKind.i64.wrap ((A : Int) + 1) = (A : Int) + 1 := IntWalk.i64_in _ (by omega)
          have HN := Lib.hid N1.out
          clear N1
          cases ok1
          all_goals
            go_wp2_with (go_at_call 64; (with_reducible refine (number_any (t.drop (A + 1)) _ (by simp; omega)).mono ?_); rintro e w4 ⟨v2, ok2, rfl, N2, ht4⟩; have T4 : Tr w w4 := Tr.trans (by repeat (first | exact Tr.refl _ | assumption | apply Tr.al | apply Tr.drN | apply Tr.dr | (refine Tr.set ?_ (by first | omega | (simp; done) | (simp; omega)) _))) ht4; have K4 := Keep.tr (l := [(⟨w.heap.size, 0, none⟩, .int .i64 (0)), (⟨w.heap.size, 1, none⟩, .int .i64 (0)), (⟨w2.heap.size, 0, none⟩, .int .i64 (v1)), (⟨w2.heap.size, 1, none⟩, .int .i64 (1))]) (by first | (simp [Keep, go_sem, *]; done) | (simp [Keep, go_sem, *]; omega) | (simp (disch := first | omega | (simp; omega) | (simp; done)) [Keep, go_sem, cell_far, cell_off, RowKit.frozen?_alloc_cells, frozen_new, *]; done) | (simp (disch := first | omega | (simp; omega) | (simp; done)) [Keep, go_sem, cell_far, cell_off, RowKit.frozen?_alloc_cells, frozen_new, *]; omega)) ht4; have hz4 := Below.size ht4; (try simp at hz4); clear ht4; simp only [Keep] at K4)
            go_meet
            exact ⟨_, v2, rfl, (by first | (simp [Keep, go_sem, *]; done) | (simp [Keep, go_sem, *]; omega) | (simp (disch := first | omega | (simp; omega) | (simp; done)) [Keep, go_sem, cell_far, cell_off, RowKit.frozen?_alloc_cells, frozen_new, *]; done) | (simp (disch := first | omega | (simp; omega) | (simp; done)) [Keep, go_sem, cell_far, cell_off, RowKit.frozen?_alloc_cells, frozen_new, *]; omega)), (by repeat (first | exact Tr.refl _ | assumption | apply Tr.al | apply Tr.drN | apply Tr.dr | (refine Tr.set ?_ (by first | omega | (simp; done) | (simp; omega)) _))), q_two HS.out HF.out HN.out N2.out h2⟩
        · go_wp2_with fail
          go_meet
          exact ⟨ok1, 1, rfl, (by first | (simp [Keep, go_sem, *]; done) | (simp [Keep, go_sem, *]; omega) | (simp (disch := first | omega | (simp; omega) | (simp; done)) [Keep, go_sem, cell_far, cell_off, RowKit.frozen?_alloc_cells, frozen_new, *]; done) | (simp (disch := first | omega | (simp; omega) | (simp; done)) [Keep, go_sem, cell_far, cell_off, RowKit.frozen?_alloc_cells, frozen_new, *]; omega)), (by repeat (first | exact Tr.refl _ | assumption | apply Tr.al | apply Tr.drN | apply Tr.dr | (refine Tr.set ?_ (by first | omega | (simp; done) | (simp; omega)) _))), q_one HS.out HF.out N1.out h2⟩
      obtain ⟨ok, d2, rfl, K5, T5, HQ⟩ := hcut
      have hz5 := Below.size T5
      simp only [Keep] at K5
      clear K3 T3 N1 HF hF1
      obtain ⟨x, hx⟩ : ∃ x, x = if neg = true then -v1 else v1 := ⟨_, rfl⟩
      have HX := Lib.hid hx
      clear hx
      obtain ⟨w5, rfl⟩ : ∃ w5, w5 = wc := ⟨_, rfl⟩
      go_upto_if 71 with (fail)
      go_cut [] (fun wx => Keep wx [(⟨w.heap.size, 0, none⟩, .int .i64 (0)), (⟨w.heap.size, 1, none⟩, .int .i64 (0)), (⟨w2.heap.size, 0, none⟩, .int .i64 (x)), (⟨w2.heap.size, 1, none⟩, .int .i64 (d2))] ∧ Tr w wx)
      case first =>
        cases neg
        · obtain rfl : x = v1 := HX.out
          go_wp2_with fail
          go_meet
          exact ⟨(by first | (simp [Keep, go_sem, *]; done) | (simp [Keep, go_sem, *]; omega) | (simp (disch := first | omega | (simp; omega) | (simp; done)) [Keep, go_sem, cell_far, cell_off, RowKit.frozen?_alloc_cells, frozen_new, *]; done) | (simp (disch := first | omega | (simp; omega) | (simp; done)) [Keep, go_sem, cell_far, cell_off, RowKit.frozen?_alloc_cells, frozen_new, *]; omega)), (by repeat (first | exact Tr.refl _ | assumption | apply Tr.al | apply Tr.drN | apply Tr.dr | (refine Tr.set ?_ (by first | omega | (simp; done) | (simp; omega)) _)))⟩
        · have e : IntKind.i64.wrap (-v1) = x := (IntWalk.i64_in _ (by omega)).trans HX.out.symm
          have e' : IntKind.i64.wrap (0 - v1) = x := by rw [Int.zero_sub]; exact e
          go_wp2_with fail
          go_meet
          exact ⟨(by first | (simp [Keep, go_sem, *]; done) | (simp [Keep, go_sem, *]; omega) | (simp (disch := first | omega | (simp; omega) | (simp; done)) [Keep, go_sem, cell_far, cell_off, RowKit.frozen?_alloc_cells, frozen_new, *]; done) | (simp (disch := first | omega | (simp; omega) | (simp; done)) [Keep, go_sem, cell_far, cell_off, RowKit.frozen?_alloc_cells, frozen_new, *]; omega)), (by repeat (first | exact Tr.refl _ | assumption | apply Tr.al | apply Tr.drN | apply Tr.dr | (refine Tr.set ?_ (by first | omega | (simp; done) | (simp; omega)) _)))⟩
      obtain ⟨K6, T6⟩ := hcut
      have hz6 := Below.size T6
      simp only [Keep] at K6
      clear K5 T5
      cases ok
      · obtain rfl : P = (0, 0, 7) := by rw [← HP.out]; exact q_no HQ.out HX.out (by simp)
        go_wp2
        simp [bodyPost, results, Tryd.results37, go_sem, *]
        exact (by repeat (first | exact Tr.refl _ | assumption | apply Tr.al | apply Tr.drN | apply Tr.dr | (refine Tr.set ?_ (by first | omega | (simp; done) | (simp; omega)) _)))
      · cases hv : validB x d2
        · obtain rfl : P = (0, 0, 7) := by rw [← HP.out]; exact q_no HQ.out HX.out (by simp [hv])
          go_wp2_with (go_at_call 22; (with_reducible refine (rvalid_any _ _ _).mono ?_); rintro e w7 ⟨rfl, ht7⟩; have T7 : Tr w w7 := Tr.trans (by repeat (first | exact Tr.refl _ | assumption | apply Tr.al | apply Tr.drN | apply Tr.dr | (refine Tr.set ?_ (by first | omega | (simp; done) | (simp; omega)) _))) ht7; have K7 := Keep.tr (l := [(⟨w.heap.size, 0, none⟩, .int .i64 (0)), (⟨w.heap.size, 1, none⟩, .int .i64 (0)), (⟨w2.heap.size, 0, none⟩, .int .i64 (x)), (⟨w2.heap.size, 1, none⟩, .int .i64 (d2))]) (by first | (simp [Keep, go_sem, *]; done) | (simp [Keep, go_sem, *]; omega) | (simp (disch := first | omega | (simp; omega) | (simp; done)) [Keep, go_sem, cell_far, cell_off, RowKit.frozen?_alloc_cells, frozen_new, *]; done) | (simp (disch := first | omega | (simp; omega) | (simp; done)) [Keep, go_sem, cell_far, cell_off, RowKit.frozen?_alloc_cells, frozen_new, *]; omega)) ht7; have hz7 := Below.size ht7; (try simp at hz7); clear ht7; simp only [Keep] at K7)
          simp [bodyPost, results, Tryd.results37, go_sem, *]
          exact (by repeat (first | exact Tr.refl _ | assumption | apply Tr.al | apply Tr.drN | apply Tr.dr | (refine Tr.set ?_ (by first | omega | (simp; done) | (simp; omega)) _)))
        · have CT := Lib.hid fun W => rtext_any x d2 W hv
          by_cases ht : textL x d2 = s
          · obtain rfl : P = (x, d2, 0) := by rw [← HP.out]; exact parseS_yes hv ht
            simp only [ht] at CT
            go_wp2_with (first
              | (go_at_call 22; (with_reducible refine (rvalid_any _ _ _).mono ?_); rintro e w7 ⟨rfl, ht7⟩; have T7 : Tr w w7 := Tr.trans (by repeat (first | exact Tr.refl _ | assumption | apply Tr.al | apply Tr.drN | apply Tr.dr | (refine Tr.set ?_ (by first | omega | (simp; done) | (simp; omega)) _))) ht7; have K7 := Keep.tr (l := [(⟨w.heap.size, 0, none⟩, .int .i64 (0)), (⟨w.heap.size, 1, none⟩, .int .i64 (0)), (⟨w2.heap.size, 0, none⟩, .int .i64 (x)), (⟨w2.heap.size, 1, none⟩, .int .i64 (d2))]) (by first | (simp [Keep, go_sem, *]; done) | (simp [Keep, go_sem, *]; omega) | (simp (disch := first | omega | (simp; omega) | (simp; done)) [Keep, go_sem, cell_far, cell_off, RowKit.frozen?_alloc_cells, frozen_new, *]; done) | (simp (disch := first | omega | (simp; omega) | (simp; done)) [Keep, go_sem, cell_far, cell_off, RowKit.frozen?_alloc_cells, frozen_new, *]; omega)) ht7; have hz7 := Below.size ht7; (try simp at hz7); clear ht7; simp only [Keep] at K7)
              | (go_at_call 35; (with_reducible refine (CT.out _).mono ?_); rintro e w8 ⟨rfl, ht8⟩; have T8 : Tr w w8 := Tr.trans (by repeat (first | exact Tr.refl _ | assumption | apply Tr.al | apply Tr.drN | apply Tr.dr | (refine Tr.set ?_ (by first | omega | (simp; done) | (simp; omega)) _))) ht8; have K8 := Keep.tr (l := [(⟨w.heap.size, 0, none⟩, .int .i64 (0)), (⟨w.heap.size, 1, none⟩, .int .i64 (0)), (⟨w2.heap.size, 0, none⟩, .int .i64 (x)), (⟨w2.heap.size, 1, none⟩, .int .i64 (d2))]) (by first | (simp [Keep, go_sem, *]; done) | (simp [Keep, go_sem, *]; omega) | (simp (disch := first | omega | (simp; omega) | (simp; done)) [Keep, go_sem, cell_far, cell_off, RowKit.frozen?_alloc_cells, frozen_new, *]; done) | (simp (disch := first | omega | (simp; omega) | (simp; done)) [Keep, go_sem, cell_far, cell_off, RowKit.frozen?_alloc_cells, frozen_new, *]; omega)) ht8; have hz8 := Below.size ht8; (try simp at hz8); clear ht8; simp only [Keep] at K8))
            simp [bodyPost, results, Tryd.results37, go_sem, *]
            exact (by repeat (first | exact Tr.refl _ | assumption | apply Tr.al | apply Tr.drN | apply Tr.dr | (refine Tr.set ?_ (by first | omega | (simp; done) | (simp; omega)) _)))
          · obtain rfl : P = (0, 0, 7) := by rw [← HP.out]; exact q_no HQ.out HX.out (by simp [ht])
            generalize textL x d2 = r at *
            have hne : (r == s) = false := by rw [beq_eq_false_iff_ne]; exact ht
            go_wp2_with (first
              | (go_at_call 22; (with_reducible refine (rvalid_any _ _ _).mono ?_); rintro e w7 ⟨rfl, ht7⟩; have T7 : Tr w w7 := Tr.trans (by repeat (first | exact Tr.refl _ | assumption | apply Tr.al | apply Tr.drN | apply Tr.dr | (refine Tr.set ?_ (by first | omega | (simp; done) | (simp; omega)) _))) ht7; have K7 := Keep.tr (l := [(⟨w.heap.size, 0, none⟩, .int .i64 (0)), (⟨w.heap.size, 1, none⟩, .int .i64 (0)), (⟨w2.heap.size, 0, none⟩, .int .i64 (x)), (⟨w2.heap.size, 1, none⟩, .int .i64 (d2))]) (by first | (simp [Keep, go_sem, *]; done) | (simp [Keep, go_sem, *]; omega) | (simp (disch := first | omega | (simp; omega) | (simp; done)) [Keep, go_sem, cell_far, cell_off, RowKit.frozen?_alloc_cells, frozen_new, *]; done) | (simp (disch := first | omega | (simp; omega) | (simp; done)) [Keep, go_sem, cell_far, cell_off, RowKit.frozen?_alloc_cells, frozen_new, *]; omega)) ht7; have hz7 := Below.size ht7; (try simp at hz7); clear ht7; simp only [Keep] at K7)
              | (go_at_call 35; (with_reducible refine (CT.out _).mono ?_); rintro e w8 ⟨rfl, ht8⟩; have T8 : Tr w w8 := Tr.trans (by repeat (first | exact Tr.refl _ | assumption | apply Tr.al | apply Tr.drN | apply Tr.dr | (refine Tr.set ?_ (by first | omega | (simp; done) | (simp; omega)) _))) ht8; have K8 := Keep.tr (l := [(⟨w.heap.size, 0, none⟩, .int .i64 (0)), (⟨w.heap.size, 1, none⟩, .int .i64 (0)), (⟨w2.heap.size, 0, none⟩, .int .i64 (x)), (⟨w2.heap.size, 1, none⟩, .int .i64 (d2))]) (by first | (simp [Keep, go_sem, *]; done) | (simp [Keep, go_sem, *]; omega) | (simp (disch := first | omega | (simp; omega) | (simp; done)) [Keep, go_sem, cell_far, cell_off, RowKit.frozen?_alloc_cells, frozen_new, *]; done) | (simp (disch := first | omega | (simp; omega) | (simp; done)) [Keep, go_sem, cell_far, cell_off, RowKit.frozen?_alloc_cells, frozen_new, *]; omega)) ht8; have hz8 := Below.size ht8; (try simp at hz8); clear ht8; simp only [Keep] at K8))
            simp [bodyPost, results, Tryd.results37, go_sem, *]
            exact (by repeat (first | exact Tr.refl _ | assumption | apply Tr.al | apply Tr.drN | apply Tr.dr | (refine Tr.set ?_ (by first | omega | (simp; done) | (simp; omega)) _)))
end Go.Proofs.YtpjkiljgccjemaaDoor
