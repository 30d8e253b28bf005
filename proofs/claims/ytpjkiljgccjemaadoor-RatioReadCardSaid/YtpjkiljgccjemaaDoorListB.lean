/- Sums of fractions: ratio.Sum and the reference's Sum: for every list. -/
import Derived.Test.YtpjkiljgccjemaaDoorListA
import Derived.Test.YtpjkiljgccjemaaDoorLaw02
set_option linter.unusedSimpArgs false
namespace Go.Proofs.YtpjkiljgccjemaaDoor
set_option linter.unusedVariables false
open Go.RowKit Go.Sort

def sumFrom (s : Int × Int) : List (Int × Int) → Int × Int × Int
  | [] => (s.1, s.2, 0)
  | p :: r => if (addS s.1 s.2 p.1 p.2).2.2 = 0 then sumFrom ((addS s.1 s.2 p.1 p.2).1, (addS s.1 s.2 p.1 p.2).2.1) r else (0, 0, (addS s.1 s.2 p.1 p.2).2.2)
def sumS (l : List (Int × Int)) : Int × Int × Int := if allV l = true then (if 1000 < l.length then (0, 0, 4) else sumFrom (0, 1) l) else (0, 0, 1)
theorem sumFrom_ok {l : List (Int × Int)} {i : Nat} {p : Int × Int} {s : Int × Int} {x y e : Int} (hp : l[i]? = some p) (h : sumFrom s (l.drop i) = sumFrom (0, 1) l) (hx : addS s.1 s.2 p.1 p.2 = (x, y, e)) (he : e = 0) : sumFrom (x, y) (l.drop (i + 1)) = sumFrom (0, 1) l := by
  rw [← h, List.drop_eq_getElem?_toList_append (i := i), hp]
  simp [sumFrom, hx, he]
theorem sumFrom_err {l : List (Int × Int)} {i : Nat} {p : Int × Int} {s : Int × Int} {x y e : Int} (hp : l[i]? = some p) (h : sumFrom s (l.drop i) = sumFrom (0, 1) l) (hx : addS s.1 s.2 p.1 p.2 = (x, y, e)) (he : e ≠ 0) : sumFrom (0, 1) l = (0, 0, e) := by
  rw [← h, List.drop_eq_getElem?_toList_append (i := i), hp]
  simp [sumFrom, hx, he]
theorem sumFrom_end {l : List (Int × Int)} {s : Int × Int} (h : sumFrom s (l.drop l.length) = sumFrom (0, 1) l) : sumFrom (0, 1) l = (s.1, s.2, 0) := by
  rw [← h]; simp [sumFrom]

set_option maxRecDepth 100000 in
set_option maxHeartbeats 1000000 in
theorem sum_any (l : List (Int × Int)) (a : Option Addr) (cap b o : Nat) (w : World) (ha : l ≠ [] → a = some ⟨b, o, none⟩) (hl : l.length ≤ 4611686018427387904) (hF : FrAt w b o l) :
    Calls Tryd.prog 31 #[.slice a l.length cap] w fun e w' => e = .returned (.tuple #[.agg #[.int .i64 (sumS l).1, .int .i64 (sumS l).2.1], .int .i64 (sumS l).2.2]) ∧ Tr w w' := by
  cases hv : allV l
  · rw [show sumS l = (0, 0, 1) by unfold sumS; rw [hv]; rfl]
    go_enter Tryd.func31, Tryd.ntmps31
    go_wp2_with (go_at_call 57; (with_reducible refine (containsFunc_any l a cap b o _ ha hl (hF.tr (by repeat (first | exact Tr.refl _ | assumption | apply Tr.al | apply Tr.drN | apply Tr.dr | (refine Tr.set ?_ (by first | omega | (simp; done) | (simp; omega)) _))))).mono ?_); rintro e w1 ⟨rfl, ht1⟩; have T1 : Tr w w1 := Tr.trans (by repeat (first | exact Tr.refl _ | assumption | apply Tr.al | apply Tr.drN | apply Tr.dr | (refine Tr.set ?_ (by first | omega | (simp; done) | (simp; omega)) _))) ht1; have K1 := Keep.tr (l := [(⟨w.heap.size, 0, none⟩, .int .i64 (0)), (⟨w.heap.size, 1, none⟩, .int .i64 (0))]) (by first | (simp [Keep, go_sem, *]; done) | (simp [Keep, go_sem, *]; omega) | (simp (disch := first | omega | (simp; omega) | (simp; done)) [Keep, go_sem, cell_far, cell_off, RowKit.frozen?_alloc_cells, frozen_new, *]; done) | (simp (disch := first | omega | (simp; omega) | (simp; done)) [Keep, go_sem, cell_far, cell_off, RowKit.frozen?_alloc_cells, frozen_new, *]; omega)) ht1; have hz1 := Below.size ht1; (try simp at hz1); clear ht1; simp only [Keep] at K1)
    simp [bodyPost, results, Tryd.results31, go_sem, *]
    exact (by repeat (first | exact Tr.refl _ | assumption | apply Tr.al | apply Tr.drN | apply Tr.dr | (refine Tr.set ?_ (by first | omega | (simp; done) | (simp; omega)) _)))
  · by_cases hbig : 1000 < l.length
    · rw [show sumS l = (0, 0, 4) by unfold sumS; rw [hv, if_pos rfl, if_pos hbig]]
      go_enter Tryd.func31, Tryd.ntmps31
      go_wp2_with (go_at_call 57; (with_reducible refine (containsFunc_any l a cap b o _ ha hl (hF.tr (by repeat (first | exact Tr.refl _ | assumption | apply Tr.al | apply Tr.drN | apply Tr.dr | (refine Tr.set ?_ (by first | omega | (simp; done) | (simp; omega)) _))))).mono ?_); rintro e w1 ⟨rfl, ht1⟩; have T1 : Tr w w1 := Tr.trans (by repeat (first | exact Tr.refl _ | assumption | apply Tr.al | apply Tr.drN | apply Tr.dr | (refine Tr.set ?_ (by first | omega | (simp; done) | (simp; omega)) _))) ht1; have K1 := Keep.tr (l := [(⟨w.heap.size, 0, none⟩, .int .i64 (0)), (⟨w.heap.size, 1, none⟩, .int .i64 (0))]) (by first | (simp [Keep, go_sem, *]; done) | (simp [Keep, go_sem, *]; omega) | (simp (disch := first | omega | (simp; omega) | (simp; done)) [Keep, go_sem, cell_far, cell_off, RowKit.frozen?_alloc_cells, frozen_new, *]; done) | (simp (disch := first | omega | (simp; omega) | (simp; done)) [Keep, go_sem, cell_far, cell_off, RowKit.frozen?_alloc_cells, frozen_new, *]; omega)) ht1; have hz1 := Below.size ht1; (try simp at hz1); clear ht1; simp only [Keep] at K1)
      simp [bodyPost, results, Tryd.results31, go_sem, *]
      exact (by repeat (first | exact Tr.refl _ | assumption | apply Tr.al | apply Tr.drN | apply Tr.dr | (refine Tr.set ?_ (by first | omega | (simp; done) | (simp; omega)) _)))
    · rw [show sumS l = sumFrom (0, 1) l by unfold sumS; rw [hv, if_pos rfl, if_neg hbig]]
      go_enter Tryd.func31, Tryd.ntmps31
      go_wp2_with (go_at_call 57; (with_reducible refine (containsFunc_any l a cap b o _ ha hl (hF.tr (by repeat (first | exact Tr.refl _ | assumption | apply Tr.al | apply Tr.drN | apply Tr.dr | (refine Tr.set ?_ (by first | omega | (simp; done) | (simp; omega)) _))))).mono ?_); rintro e w1 ⟨rfl, ht1⟩; have T1 : Tr w w1 := Tr.trans (by repeat (first | exact Tr.refl _ | assumption | apply Tr.al | apply Tr.drN | apply Tr.dr | (refine Tr.set ?_ (by first | omega | (simp; done) | (simp; omega)) _))) ht1; have K1 := Keep.tr (l := [(⟨w.heap.size, 0, none⟩, .int .i64 (0)), (⟨w.heap.size, 1, none⟩, .int .i64 (0))]) (by first | (simp [Keep, go_sem, *]; done) | (simp [Keep, go_sem, *]; omega) | (simp (disch := first | omega | (simp; omega) | (simp; done)) [Keep, go_sem, cell_far, cell_off, RowKit.frozen?_alloc_cells, frozen_new, *]; done) | (simp (disch := first | omega | (simp; omega) | (simp; done)) [Keep, go_sem, cell_far, cell_off, RowKit.frozen?_alloc_cells, frozen_new, *]; omega)) ht1; have hz1 := Below.size ht1; (try simp at hz1); clear ht1; simp only [Keep] at K1)
      go_loopw [6, 7, 20] (fun _ _ s wr => ∃ (i : Nat) (x y : Int), s = .int .i64 i ∧ i ≤ l.length ∧ Hid (sumFrom (x, y) (l.drop i) = sumFrom (0, 1) l) ∧ Keep wr [(⟨w.heap.size, 0, none⟩, .int .i64 (0)), (⟨w.heap.size, 1, none⟩, .int .i64 (0)), (⟨w1.heap.size, 0, none⟩, .int .i64 (x)), (⟨w1.heap.size, 1, none⟩, .int .i64 (y))] ∧ Tr w wr) (fun _ _ s _ => l.length - (intOf s).toNat)
      case atStart => exact ⟨0, 0, 1, rfl, by omega, (by simp : sumFrom (0, 1) (l.drop 0) = sumFrom (0, 1) l), (by first | (simp [Keep, go_sem, *]; done) | (simp [Keep, go_sem, *]; omega) | (simp (disch := first | omega | (simp; omega) | (simp; done)) [Keep, go_sem, cell_far, cell_off, RowKit.frozen?_alloc_cells, frozen_new, *]; done) | (simp (disch := first | omega | (simp; omega) | (simp; done)) [Keep, go_sem, cell_far, cell_off, RowKit.frozen?_alloc_cells, frozen_new, *]; omega)), (by repeat (first | exact Tr.refl _ | assumption | apply Tr.al | apply Tr.drN | apply Tr.dr | (refine Tr.set ?_ (by first | omega | (simp; done) | (simp; omega)) _)))⟩
      case round =>
        obtain ⟨i, x, y, rfl, hi, HS, K, T⟩ := hrel
        have hzz := Below.size T
        simp only [Keep] at K
        clear K1
        by_cases hlt : i < l.length
        · obtain ⟨p, hp⟩ : ∃ p, l[i]? = some p := ⟨_, List.getElem?_eq_getElem hlt⟩
          have hP := Lib.hid hp
          obtain ⟨c1, c2⟩ := (hF.tr T) i p hp
          obtain rfl : a = some ⟨b, o, none⟩ := ha (by intro h; rw [h] at hlt; simp at hlt)
          have hw : IntKind.i64.wrap ((i : Int) + 1) = (i : Int) + 1 := IntWalk.i64_in _ (by omega)
          clear hp ha hF
          obtain ⟨xn, xd, xe, hx⟩ : ∃ xn xd xe, addS x y p.1 p.2 = (xn, xd, xe) := ⟨_, _, _, rfl⟩
          have HX := Lib.hid hx
          rcases ok_or xe with ⟨h1, h2⟩ | ⟨h1, h2⟩
          · have HB := Lib.hid (sumFrom_ok (s := (x, y)) hP.out HS.out hx (by simpa using h1))
            go_wp2_with (go_at_call 12; (with_reducible refine (add_any _ _ _ _ _).mono ?_); rintro e w2 ⟨rfl, ht2⟩; have T2 : Tr w w2 := Tr.trans (by repeat (first | exact Tr.refl _ | assumption | apply Tr.al | apply Tr.drN | apply Tr.dr | (refine Tr.set ?_ (by first | omega | (simp; done) | (simp; omega)) _))) ht2; have K2 := Keep.tr (l := [(⟨w.heap.size, 0, none⟩, .int .i64 (0)), (⟨w.heap.size, 1, none⟩, .int .i64 (0)), (⟨w1.heap.size, 0, none⟩, .int .i64 (x)), (⟨w1.heap.size, 1, none⟩, .int .i64 (y))]) (by first | (simp [Keep, go_sem, *]; done) | (simp [Keep, go_sem, *]; omega) | (simp (disch := first | omega | (simp; omega) | (simp; done)) [Keep, go_sem, cell_far, cell_off, RowKit.frozen?_alloc_cells, frozen_new, *]; done) | (simp (disch := first | omega | (simp; omega) | (simp; done)) [Keep, go_sem, cell_far, cell_off, RowKit.frozen?_alloc_cells, frozen_new, *]; omega)) ht2; have hz2 := Below.size ht2; (try simp at hz2); clear ht2; simp only [Keep] at K2)
            go_roundw
            case rel => exact ⟨i + 1, xn, xd, by go_num, by omega, HB, (by first | (simp [Keep, go_sem, *]; done) | (simp [Keep, go_sem, *]; omega) | (simp (disch := first | omega | (simp; omega) | (simp; done)) [Keep, go_sem, cell_far, cell_off, RowKit.frozen?_alloc_cells, frozen_new, *]; done) | (simp (disch := first | omega | (simp; omega) | (simp; done)) [Keep, go_sem, cell_far, cell_off, RowKit.frozen?_alloc_cells, frozen_new, *]; omega)), (by repeat (first | exact Tr.refl _ | assumption | apply Tr.al | apply Tr.drN | apply Tr.dr | (refine Tr.set ?_ (by first | omega | (simp; done) | (simp; omega)) _)))⟩
            case measure => simp [intOf]; omega
          · have HB := Lib.hid (sumFrom_err (s := (x, y)) hP.out HS.out hx (by simpa using h1))
            clear HS
            go_wp2_with (go_at_call 12; (with_reducible refine (add_any _ _ _ _ _).mono ?_); rintro e w2 ⟨rfl, ht2⟩; have T2 : Tr w w2 := Tr.trans (by repeat (first | exact Tr.refl _ | assumption | apply Tr.al | apply Tr.drN | apply Tr.dr | (refine Tr.set ?_ (by first | omega | (simp; done) | (simp; omega)) _))) ht2; have K2 := Keep.tr (l := [(⟨w.heap.size, 0, none⟩, .int .i64 (0)), (⟨w.heap.size, 1, none⟩, .int .i64 (0)), (⟨w1.heap.size, 0, none⟩, .int .i64 (x)), (⟨w1.heap.size, 1, none⟩, .int .i64 (y))]) (by first | (simp [Keep, go_sem, *]; done) | (simp [Keep, go_sem, *]; omega) | (simp (disch := first | omega | (simp; omega) | (simp; done)) [Keep, go_sem, cell_far, cell_off, RowKit.frozen?_alloc_cells, frozen_new, *]; done) | (simp (disch := first | omega | (simp; omega) | (simp; done)) [Keep, go_sem, cell_far, cell_off, RowKit.frozen?_alloc_cells, frozen_new, *]; omega)) ht2; have hz2 := Below.size ht2; (try simp at hz2); clear ht2; simp only [Keep] at K2)
            simp [bodyPost, results, Tryd.results31, go_sem, *]
            rw [HB.out]
            exact ⟨⟨⟨rfl, rfl⟩, rfl⟩, (by repeat (first | exact Tr.refl _ | assumption | apply Tr.al | apply Tr.drN | apply Tr.dr | (refine Tr.set ?_ (by first | omega | (simp; done) | (simp; omega)) _)))⟩
        · obtain rfl : i = l.length := by omega
          go_wp2
          simp [bodyPost, results, Tryd.results31, go_sem, *]
          rw [sumFrom_end HS.out]
          exact ⟨⟨⟨rfl, rfl⟩, rfl⟩, (by repeat (first | exact Tr.refl _ | assumption | apply Tr.al | apply Tr.drN | apply Tr.dr | (refine Tr.set ?_ (by first | omega | (simp; done) | (simp; omega)) _)))⟩

theorem allV_get {l : List (Int × Int)} {i : Nat} {p : Int × Int} (h : allV l = true) (hp : l[i]? = some p) : validB p.1 p.2 = true := by
  unfold allV at h
  exact List.all_eq_true.1 h p (List.mem_of_getElem? hp)
theorem makesFrac (o : Oper) (hg : o.guard = none) (ho : o.op = .alloc 23) : MakesBlock Tryd.prog o #[.int .i64 0, .int .i64 0] 23 :=
  ⟨hg, fun a w => by unfold execOp; simp [ho, go_sem]⟩
theorem rof_any (n : Int) (w : World) : Calls Tryd.prog 59 #[.int .i64 n] w fun e w' => e = .returned (.agg #[.int .i64 n, .int .i64 1]) ∧ Tr w w' := by
  go_enter Tryd.func59, Tryd.ntmps59
  go_wp2
  simp [bodyPost, results, Tryd.results59, go_sem, *]
  exact (by repeat (first | exact Tr.refl _ | assumption | apply Tr.al | apply Tr.drN | apply Tr.dr | (refine Tr.set ?_ (by first | omega | (simp; done) | (simp; omega)) _)))

set_option maxRecDepth 100000 in
set_option maxHeartbeats 16000000 in
theorem rsum_any (l : List (Int × Int)) (a : Option Addr) (cap b o : Nat) (w : World) (ha : l ≠ [] → a = some ⟨b, o, none⟩) (hl : l.length ≤ 4611686018427387904) (hF : FrAt w b o l) (hv : allV l = true) :
    Calls Tryd.prog 33 #[.slice a l.length cap] w fun e w' => e = .returned (.tuple #[.agg #[.int .i64 (sumS l).1, .int .i64 (sumS l).2.1], .int .i64 (sumS l).2.2]) ∧ Tr w w' := by
  by_cases hbig : 1000 < l.length
  · rw [show sumS l = (0, 0, 4) by unfold sumS; rw [hv, if_pos rfl, if_pos hbig]]
    go_enter Tryd.func33, Tryd.ntmps33
    go_wp2
    simp [bodyPost, results, Tryd.results33, go_sem, *]
    exact (by repeat (first | exact Tr.refl _ | assumption | apply Tr.al | apply Tr.drN | apply Tr.dr | (refine Tr.set ?_ (by first | omega | (simp; done) | (simp; omega)) _)))
  · rw [show sumS l = sumFrom (0, 1) l by unfold sumS; rw [hv, if_pos rfl, if_neg hbig]]
    have HV := Lib.hid hv
    clear hv
    go_enter Tryd.func33, Tryd.ntmps33
    go_wp2_with (go_at_call 59; (with_reducible refine (rof_any _ _).mono ?_); rintro e w1 ⟨rfl, ht1⟩; have T1 : Tr w w1 := Tr.trans (by repeat (first | exact Tr.refl _ | assumption | apply Tr.al | apply Tr.drN | apply Tr.dr | (refine Tr.set ?_ (by first | omega | (simp; done) | (simp; omega)) _))) ht1; have K1 := Keep.tr (l := [(⟨w.heap.size, 0, none⟩, .int .i64 (0)), (⟨w.heap.size, 1, none⟩, .int .i64 (0))]) (by first | (simp [Keep, go_sem, *]; done) | (simp [Keep, go_sem, *]; omega) | (simp (disch := first | omega | (simp; omega) | (simp; done)) [Keep, go_sem, cell_far, cell_off, RowKit.frozen?_alloc_cells, frozen_new, *]; done) | (simp (disch := first | omega | (simp; omega) | (simp; done)) [Keep, go_sem, cell_far, cell_off, RowKit.frozen?_alloc_cells, frozen_new, *]; omega)) ht1; have hz1 := Below.size ht1; (try simp at hz1); clear ht1; simp only [Keep] at K1)
    go_loopw [5, 6, 7] (fun s _ _ wr => ∃ (i : Nat) (x y : Int), s = .int .i64 i ∧ i ≤ l.length ∧ Hid (validB x y = true) ∧ Hid (sumFrom (x, y) (l.drop i) = sumFrom (0, 1) l) ∧ Keep wr [(⟨w.heap.size, 0, none⟩, .int .i64 (0)), (⟨w.heap.size, 1, none⟩, .int .i64 (0)), (⟨w1.heap.size, 0, none⟩, .int .i64 (x)), (⟨w1.heap.size, 1, none⟩, .int .i64 (y))] ∧ Tr w wr) (fun s _ _ _ => l.length - (intOf s).toNat)
    case atStart => exact ⟨0, 0, 1, rfl, by omega, (by decide : validB 0 1 = true), (by simp : sumFrom (0, 1) (l.drop 0) = sumFrom (0, 1) l), (by first | (simp [Keep, go_sem, *]; done) | (simp [Keep, go_sem, *]; omega) | (simp (disch := first | omega | (simp; omega) | (simp; done)) [Keep, go_sem, cell_far, cell_off, RowKit.frozen?_alloc_cells, frozen_new, *]; done) | (simp (disch := first | omega | (simp; omega) | (simp; done)) [Keep, go_sem, cell_far, cell_off, RowKit.frozen?_alloc_cells, frozen_new, *]; omega)), (by repeat (first | exact Tr.refl _ | assumption | apply Tr.al | apply Tr.drN | apply Tr.dr | (refine Tr.set ?_ (by first | omega | (simp; done) | (simp; omega)) _)))⟩
    case round =>
      obtain ⟨i, x, y, rfl, hi, VX, HS, K, T⟩ := hrel
      have hzz := Below.size T
      simp only [Keep] at K
      clear K1
      by_cases hlt : i < l.length
      · obtain ⟨p, hp⟩ : ∃ p, l[i]? = some p := ⟨_, List.getElem?_eq_getElem hlt⟩
        have hP := Lib.hid hp
        obtain ⟨c1, c2⟩ := (hF.tr T) i p hp
        obtain rfl : a = some ⟨b, o, none⟩ := ha (by intro h; rw [h] at hlt; simp at hlt)
        have hw : IntKind.i64.wrap ((i : Int) + 1) = (i : Int) + 1 := IntWalk.i64_in _ (by omega)
        have d1 := fun ob => (Tr.alloc wr ob).cell c1
        have d2 := fun ob => (Tr.alloc wr ob).cell c2
        clear hp ha hF
        obtain ⟨xn, xd, xe, hx⟩ : ∃ xn xd xe, addS x y p.1 p.2 = (xn, xd, xe) := ⟨_, _, _, rfl⟩
        have CA : Hid (∀ W, Calls Tryd.prog 26 #[.agg #[.int .i64 x, .int .i64 y], .agg #[.int .i64 p.1, .int .i64 p.2]] W fun e w' => e = .returned (.tuple #[.agg #[.int .i64 xn, .int .i64 xd], .int .i64 xe]) ∧ Tr W w') := fun W => by
          have := radd_any x y p.1 p.2 W VX.out (allV_get HV.out hP.out)
          rw [hx] at this
          exact this
        have HX := Lib.hid hx
        clear hx
        rcases ok_or xe with ⟨h1, h2⟩ | ⟨h1, h2⟩
        · have VB : Hid (validB xn xd = true) := (by
            have h := (addS_ok (an := x) (ad := y) (bn := p.1) (bd := p.2) (by rw [HX.out]; simpa using h1)).2.2.1
            rw [HX.out] at h
            exact h : validB xn xd = true)
          have HB := Lib.hid (sumFrom_ok (s := (x, y)) hP.out HS.out HX.out (by simpa using h1))
          go_upto_region 7 with (fail)
          go_region_with (first | (go_at_call 26; (with_reducible refine (CA.out _).mono ?_); rintro e w2 ⟨rfl, ht2⟩; have T2 : Tr w w2 := Tr.trans (by repeat (first | exact Tr.refl _ | assumption | apply Tr.al | apply Tr.drN | apply Tr.dr | (refine Tr.set ?_ (by first | omega | (simp; done) | (simp; omega)) _))) ht2; have K2 := Keep.tr (l := [(⟨w.heap.size, 0, none⟩, .int .i64 (0)), (⟨w.heap.size, 1, none⟩, .int .i64 (0)), (⟨w1.heap.size, 0, none⟩, .int .i64 (x)), (⟨w1.heap.size, 1, none⟩, .int .i64 (y)), (⟨wr.heap.size, 0, none⟩, .int .i64 (0)), (⟨wr.heap.size, 1, none⟩, .int .i64 (0))]) (by first | (simp [Keep, go_sem, *]; done) | (simp [Keep, go_sem, *]; omega) | (simp (disch := first | omega | (simp; omega) | (simp; done)) [Keep, go_sem, cell_far, cell_off, RowKit.frozen?_alloc_cells, frozen_new, *]; done) | (simp (disch := first | omega | (simp; omega) | (simp; done)) [Keep, go_sem, cell_far, cell_off, RowKit.frozen?_alloc_cells, frozen_new, *]; omega)) ht2; have hz2 := Below.size ht2; (try simp at hz2); clear ht2; simp only [Keep] at K2) | (go_at_call 26; (with_reducible refine (CA.out _).mono ?_); rintro e w2 ⟨rfl, ht2⟩; have T2 : Tr w w2 := Tr.trans (by repeat (first | exact Tr.refl _ | assumption | apply Tr.al | apply Tr.drN | apply Tr.dr | (refine Tr.set ?_ (by first | omega | (simp; done) | (simp; omega)) _))) ht2; have K2 := Keep.tr (l := [(⟨w.heap.size, 0, none⟩, .int .i64 (0)), (⟨w.heap.size, 1, none⟩, .int .i64 (0)), (⟨w1.heap.size, 0, none⟩, .int .i64 (x)), (⟨w1.heap.size, 1, none⟩, .int .i64 (y))]) (by first | (simp [Keep, go_sem, *]; done) | (simp [Keep, go_sem, *]; omega) | (simp (disch := first | omega | (simp; omega) | (simp; done)) [Keep, go_sem, cell_far, cell_off, RowKit.frozen?_alloc_cells, frozen_new, *]; done) | (simp (disch := first | omega | (simp; omega) | (simp; done)) [Keep, go_sem, cell_far, cell_off, RowKit.frozen?_alloc_cells, frozen_new, *]; omega)) ht2; have hz2 := Below.size ht2; (try simp at hz2); clear ht2; simp only [Keep] at K2))
          all_goals
            go_wp2
            go_roundw
            case rel => exact ⟨i + 1, xn, xd, by go_num, by omega, VB, HB, (by first | (simp [Keep, go_sem, *]; done) | (simp [Keep, go_sem, *]; omega) | (simp (disch := first | omega | (simp; omega) | (simp; done)) [Keep, go_sem, cell_far, cell_off, RowKit.frozen?_alloc_cells, frozen_new, *]; done) | (simp (disch := first | omega | (simp; omega) | (simp; done)) [Keep, go_sem, cell_far, cell_off, RowKit.frozen?_alloc_cells, frozen_new, *]; omega)), (by repeat (first | exact Tr.refl _ | assumption | apply Tr.al | apply Tr.drN | apply Tr.dr | (refine Tr.set ?_ (by first | omega | (simp; done) | (simp; omega)) _)))⟩
            case measure => simp [intOf]; omega
        · have HB := Lib.hid (sumFrom_err (s := (x, y)) hP.out HS.out HX.out (by simpa using h1))
          clear HS
          go_upto_region 7 with (fail)
          go_region_with (first | (go_at_call 26; (with_reducible refine (CA.out _).mono ?_); rintro e w2 ⟨rfl, ht2⟩; have T2 : Tr w w2 := Tr.trans (by repeat (first | exact Tr.refl _ | assumption | apply Tr.al | apply Tr.drN | apply Tr.dr | (refine Tr.set ?_ (by first | omega | (simp; done) | (simp; omega)) _))) ht2; have K2 := Keep.tr (l := [(⟨w.heap.size, 0, none⟩, .int .i64 (0)), (⟨w.heap.size, 1, none⟩, .int .i64 (0)), (⟨w1.heap.size, 0, none⟩, .int .i64 (x)), (⟨w1.heap.size, 1, none⟩, .int .i64 (y)), (⟨wr.heap.size, 0, none⟩, .int .i64 (0)), (⟨wr.heap.size, 1, none⟩, .int .i64 (0))]) (by first | (simp [Keep, go_sem, *]; done) | (simp [Keep, go_sem, *]; omega) | (simp (disch := first | omega | (simp; omega) | (simp; done)) [Keep, go_sem, cell_far, cell_off, RowKit.frozen?_alloc_cells, frozen_new, *]; done) | (simp (disch := first | omega | (simp; omega) | (simp; done)) [Keep, go_sem, cell_far, cell_off, RowKit.frozen?_alloc_cells, frozen_new, *]; omega)) ht2; have hz2 := Below.size ht2; (try simp at hz2); clear ht2; simp only [Keep] at K2) | (go_at_call 26; (with_reducible refine (CA.out _).mono ?_); rintro e w2 ⟨rfl, ht2⟩; have T2 : Tr w w2 := Tr.trans (by repeat (first | exact Tr.refl _ | assumption | apply Tr.al | apply Tr.drN | apply Tr.dr | (refine Tr.set ?_ (by first | omega | (simp; done) | (simp; omega)) _))) ht2; have K2 := Keep.tr (l := [(⟨w.heap.size, 0, none⟩, .int .i64 (0)), (⟨w.heap.size, 1, none⟩, .int .i64 (0)), (⟨w1.heap.size, 0, none⟩, .int .i64 (x)), (⟨w1.heap.size, 1, none⟩, .int .i64 (y))]) (by first | (simp [Keep, go_sem, *]; done) | (simp [Keep, go_sem, *]; omega) | (simp (disch := first | omega | (simp; omega) | (simp; done)) [Keep, go_sem, cell_far, cell_off, RowKit.frozen?_alloc_cells, frozen_new, *]; done) | (simp (disch := first | omega | (simp; omega) | (simp; done)) [Keep, go_sem, cell_far, cell_off, RowKit.frozen?_alloc_cells, frozen_new, *]; omega)) ht2; have hz2 := Below.size ht2; (try simp at hz2); clear ht2; simp only [Keep] at K2))
          all_goals
            go_wp2
            simp [bodyPost, results, Tryd.results33, go_sem, *]
            rw [HB.out]
            exact ⟨⟨⟨rfl, rfl⟩, rfl⟩, (by repeat (first | exact Tr.refl _ | assumption | apply Tr.al | apply Tr.drN | apply Tr.dr | (refine Tr.set ?_ (by first | omega | (simp; done) | (simp; omega)) _)))⟩
      · obtain rfl : i = l.length := by omega
        go_wp2
        simp [bodyPost, results, Tryd.results33, go_sem, *]
        rw [sumFrom_end HS.out]
        exact ⟨⟨⟨rfl, rfl⟩, rfl⟩, (by repeat (first | exact Tr.refl _ | assumption | apply Tr.al | apply Tr.drN | apply Tr.dr | (refine Tr.set ?_ (by first | omega | (simp; done) | (simp; omega)) _)))⟩
end Go.Proofs.YtpjkiljgccjemaaDoor
