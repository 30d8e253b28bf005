/- Lists of fractions: slices.ContainsFunc of an invalid one, the reference's All: for every list. -/
import Derived.Test.YtpjkiljgccjemaaDoorRefJ
import Derived.Test.YtpjkiljgccjemaaDoorRatT
namespace Go.Proofs.YtpjkiljgccjemaaDoor
set_option linter.unusedVariables false
open Go.RowKit Go.Sort

/-- The block holds these fractions. -/
def FrAt (w : World) (b o : Nat) (l : List (Int × Int)) : Prop :=
  ∀ i p, l[i]? = some p → w.cell? ⟨b, o + i * 2, none⟩ = some (.int .i64 p.1) ∧ w.cell? ⟨b, o + i * 2 + 1, none⟩ = some (.int .i64 p.2)
theorem FrAt.tr {w w' : World} {b o : Nat} {l : List (Int × Int)} (h : FrAt w b o l) (ht : Tr w w') : FrAt w' b o l := fun i p hp => by
  obtain ⟨h1, h2⟩ := h i p hp
  have hb := block_lt_of_cell h1
  exact ⟨(Below.cell ht hb).trans h1, (Below.cell ht (block_lt_of_cell h2)).trans h2⟩
def allV (l : List (Int × Int)) : Bool := l.all fun p => validB p.1 p.2
theorem allV_take {l : List (Int × Int)} {i : Nat} {p : Int × Int} (hp : l[i]? = some p) (h : allV (l.take i) = true) (hv : validB p.1 p.2 = true) : allV (l.take (i + 1)) = true := by
  unfold allV at *
  rw [List.take_add_one, hp]
  simp [h, hv]
theorem allV_not {l : List (Int × Int)} {i : Nat} {p : Int × Int} (hp : l[i]? = some p) (hv : validB p.1 p.2 = false) : allV l = false := by
  unfold allV
  rw [List.all_eq_false]
  exact ⟨p, List.mem_of_getElem? hp, by simp [hv]⟩

theorem sum1_any (n d : Int) (w : World) : Calls Tryd.prog 58 #[.agg #[.int .i64 n, .int .i64 d]] w fun e w' => e = .returned (.bool (!validB n d)) ∧ Tr w w' := by
  go_enter Tryd.func58, Tryd.ntmps58
  go_wp2_with (go_at_call 15; (with_reducible refine (valid_any _ _ _).mono ?_); rintro e w1 ⟨rfl, ht1⟩; have T1 : Tr w w1 := Tr.trans (by repeat (first | exact Tr.refl _ | assumption | apply Tr.al | apply Tr.drN | apply Tr.dr | (refine Tr.set ?_ (by first | omega | (simp; done) | (simp; omega)) _))) ht1; have K1 := Keep.tr (l := [(⟨w.heap.size, 0, none⟩, .int .i64 (n)), (⟨w.heap.size, 1, none⟩, .int .i64 (d))]) (by first | (simp [Keep, go_sem, *]; done) | (simp [Keep, go_sem, *]; omega) | (simp (disch := first | omega | (simp; omega) | (simp; done)) [Keep, go_sem, cell_far, cell_off, RowKit.frozen?_alloc_cells, frozen_new, *]; done) | (simp (disch := first | omega | (simp; omega) | (simp; done)) [Keep, go_sem, cell_far, cell_off, RowKit.frozen?_alloc_cells, frozen_new, *]; omega)) ht1; have hz1 := Below.size ht1; (try simp at hz1); clear ht1; simp only [Keep] at K1)
  go_ret
  exact ⟨rfl, (by repeat (first | exact Tr.refl _ | assumption | apply Tr.al | apply Tr.drN | apply Tr.dr | (refine Tr.set ?_ (by first | omega | (simp; done) | (simp; omega)) _)))⟩

set_option maxRecDepth 100000 in
theorem indexFunc_any (l : List (Int × Int)) (a : Option Addr) (cap b o : Nat) (w : World) (ha : l ≠ [] → a = some ⟨b, o, none⟩) (hl : l.length ≤ 4611686018427387904) (hF : FrAt w b o l) :
    Calls Tryd.prog 71 #[.slice a l.length cap, .func (.func 58) #[] #[]] w fun e w' => ∃ k : Int, e = .returned (.int .i64 k) ∧ ((k = -1 ∧ allV l = true) ∨ (0 ≤ k ∧ allV l = false)) ∧ Tr w w' := by
  go_enter Tryd.func71, Tryd.ntmps71
  go_wp2
  go_loopw [5, 8] (fun _ s wr => ∃ i : Nat, s = .int .i64 i ∧ i ≤ l.length ∧ Hid (allV (l.take i) = true) ∧ Tr w wr) (fun _ s _ => l.length - (intOf s).toNat)
  case atStart => exact ⟨0, rfl, by omega, (by simp [allV] : allV (l.take 0) = true), (by repeat (first | exact Tr.refl _ | assumption | apply Tr.al | apply Tr.drN | apply Tr.dr | (refine Tr.set ?_ (by first | omega | (simp; done) | (simp; omega)) _)))⟩
  case round =>
    obtain ⟨i, rfl, hi, HV, T⟩ := hrel
    by_cases hlt : i < l.length
    · obtain ⟨p, hp⟩ : ∃ p, l[i]? = some p := ⟨_, List.getElem?_eq_getElem hlt⟩
      have hP := Lib.hid hp
      obtain ⟨c1, c2⟩ := (hF.tr T) i p hp
      obtain rfl : a = some ⟨b, o, none⟩ := ha (by intro h; rw [h] at hlt; simp at hlt)
      have hw : IntKind.i64.wrap ((i : Int) + 1) = (i : Int) + 1 := IntWalk.i64_in _ (by omega)
      clear hp ha hF
      cases hv : validB p.1 p.2
      · have HB := Lib.hid (allV_not hP.out hv)
        go_wp2_with (go_at_call 58; (with_reducible refine (sum1_any _ _ _).mono ?_); rintro e w1 ⟨rfl, ht1⟩; have T1 : Tr w w1 := Tr.trans (by repeat (first | exact Tr.refl _ | assumption | apply Tr.al | apply Tr.drN | apply Tr.dr | (refine Tr.set ?_ (by first | omega | (simp; done) | (simp; omega)) _))) ht1; have K1 := Keep.tr (l := []) (by first | (simp [Keep, go_sem, *]; done) | (simp [Keep, go_sem, *]; omega) | (simp (disch := first | omega | (simp; omega) | (simp; done)) [Keep, go_sem, cell_far, cell_off, RowKit.frozen?_alloc_cells, frozen_new, *]; done) | (simp (disch := first | omega | (simp; omega) | (simp; done)) [Keep, go_sem, cell_far, cell_off, RowKit.frozen?_alloc_cells, frozen_new, *]; omega)) ht1; have hz1 := Below.size ht1; (try simp at hz1); clear ht1; simp only [Keep] at K1)
        go_ret
        exact ⟨i, rfl, .inr ⟨by omega, HB.out⟩, (by repeat (first | exact Tr.refl _ | assumption | apply Tr.al | apply Tr.drN | apply Tr.dr | (refine Tr.set ?_ (by first | omega | (simp; done) | (simp; omega)) _)))⟩
      · have HB := Lib.hid (allV_take hP.out HV.out hv)
        go_wp2_with (go_at_call 58; (with_reducible refine (sum1_any _ _ _).mono ?_); rintro e w1 ⟨rfl, ht1⟩; have T1 : Tr w w1 := Tr.trans (by repeat (first | exact Tr.refl _ | assumption | apply Tr.al | apply Tr.drN | apply Tr.dr | (refine Tr.set ?_ (by first | omega | (simp; done) | (simp; omega)) _))) ht1; have K1 := Keep.tr (l := []) (by first | (simp [Keep, go_sem, *]; done) | (simp [Keep, go_sem, *]; omega) | (simp (disch := first | omega | (simp; omega) | (simp; done)) [Keep, go_sem, cell_far, cell_off, RowKit.frozen?_alloc_cells, frozen_new, *]; done) | (simp (disch := first | omega | (simp; omega) | (simp; done)) [Keep, go_sem, cell_far, cell_off, RowKit.frozen?_alloc_cells, frozen_new, *]; omega)) ht1; have hz1 := Below.size ht1; (try simp at hz1); clear ht1; simp only [Keep] at K1)
        go_roundw
        case rel => exact ⟨i + 1, by go_num, by omega, HB, (by repeat (first | exact Tr.refl _ | assumption | apply Tr.al | apply Tr.drN | apply Tr.dr | (refine Tr.set ?_ (by first | omega | (simp; done) | (simp; omega)) _)))⟩
        case measure => simp [intOf]; omega
    · obtain rfl : i = l.length := by omega
      go_wp2
      go_ret
      exact ⟨-1, rfl, .inl ⟨rfl, by have := HV.out; rwa [List.take_length] at this⟩, (by repeat (first | exact Tr.refl _ | assumption | apply Tr.al | apply Tr.drN | apply Tr.dr | (refine Tr.set ?_ (by first | omega | (simp; done) | (simp; omega)) _)))⟩

theorem containsFunc_any (l : List (Int × Int)) (a : Option Addr) (cap b o : Nat) (w : World) (ha : l ≠ [] → a = some ⟨b, o, none⟩) (hl : l.length ≤ 4611686018427387904) (hF : FrAt w b o l) :
    Calls Tryd.prog 57 #[.slice a l.length cap, .func (.func 58) #[] #[]] w fun e w' => e = .returned (.bool (!allV l)) ∧ Tr w w' := by
  go_enter Tryd.func57, Tryd.ntmps57
  go_wp2_with (go_at_call 71; (with_reducible refine (indexFunc_any l a cap b o _ ha hl (hF.tr (by repeat (first | exact Tr.refl _ | assumption | apply Tr.al | apply Tr.drN | apply Tr.dr | (refine Tr.set ?_ (by first | omega | (simp; done) | (simp; omega)) _))))).mono ?_); rintro e w1 ⟨k, rfl, hk, ht1⟩; have T1 : Tr w w1 := Tr.trans (by repeat (first | exact Tr.refl _ | assumption | apply Tr.al | apply Tr.drN | apply Tr.dr | (refine Tr.set ?_ (by first | omega | (simp; done) | (simp; omega)) _))) ht1; clear ht1)
  go_ret
  refine ⟨?_, (by repeat (first | exact Tr.refl _ | assumption | apply Tr.al | apply Tr.drN | apply Tr.dr | (refine Tr.set ?_ (by first | omega | (simp; done) | (simp; omega)) _)))⟩
  rcases hk with ⟨rfl, h⟩ | ⟨h0, h⟩
  · rw [h]; rfl
  · rw [h]; simp [h0]

set_option maxRecDepth 100000 in
theorem rall_any (l : List (Int × Int)) (a : Option Addr) (cap b o : Nat) (w : World) (ha : l ≠ [] → a = some ⟨b, o, none⟩) (hl : l.length ≤ 4611686018427387904) (hF : FrAt w b o l) :
    Calls Tryd.prog 32 #[.slice a l.length cap] w fun e w' => e = .returned (.bool (allV l)) ∧ Tr w w' := by
  go_enter Tryd.func32, Tryd.ntmps32
  go_wp2
  go_loopw [3] (fun s wr => ∃ i : Nat, s = .int .i64 i ∧ i ≤ l.length ∧ Hid (allV (l.take i) = true) ∧ Tr w wr) (fun s _ => l.length - (intOf s).toNat)
  case atStart => exact ⟨0, rfl, by omega, (by simp [allV] : allV (l.take 0) = true), (by repeat (first | exact Tr.refl _ | assumption | apply Tr.al | apply Tr.drN | apply Tr.dr | (refine Tr.set ?_ (by first | omega | (simp; done) | (simp; omega)) _)))⟩
  case round =>
    obtain ⟨i, rfl, hi, HV, T⟩ := hrel
    by_cases hlt : i < l.length
    · obtain ⟨p, hp⟩ : ∃ p, l[i]? = some p := ⟨_, List.getElem?_eq_getElem hlt⟩
      have hP := Lib.hid hp
      obtain ⟨c1, c2⟩ := (hF.tr T) i p hp
      obtain rfl : a = some ⟨b, o, none⟩ := ha (by intro h; rw [h] at hlt; simp at hlt)
      have hw : IntKind.i64.wrap ((i : Int) + 1) = (i : Int) + 1 := IntWalk.i64_in _ (by omega)
      clear hp ha hF
      cases hv : validB p.1 p.2
      · have HB := Lib.hid (allV_not hP.out hv)
        go_wp2_with (go_at_call 22; (with_reducible refine (rvalid_any _ _ _).mono ?_); rintro e w1 ⟨rfl, ht1⟩; have T1 : Tr w w1 := Tr.trans (by repeat (first | exact Tr.refl _ | assumption | apply Tr.al | apply Tr.drN | apply Tr.dr | (refine Tr.set ?_ (by first | omega | (simp; done) | (simp; omega)) _))) ht1; have K1 := Keep.tr (l := []) (by first | (simp [Keep, go_sem, *]; done) | (simp [Keep, go_sem, *]; omega) | (simp (disch := first | omega | (simp; omega) | (simp; done)) [Keep, go_sem, cell_far, cell_off, RowKit.frozen?_alloc_cells, frozen_new, *]; done) | (simp (disch := first | omega | (simp; omega) | (simp; done)) [Keep, go_sem, cell_far, cell_off, RowKit.frozen?_alloc_cells, frozen_new, *]; omega)) ht1; have hz1 := Below.size ht1; (try simp at hz1); clear ht1; simp only [Keep] at K1)
        go_ret
        exact ⟨by rw [HB.out]; rfl, (by repeat (first | exact Tr.refl _ | assumption | apply Tr.al | apply Tr.drN | apply Tr.dr | (refine Tr.set ?_ (by first | omega | (simp; done) | (simp; omega)) _)))⟩
      · have HB := Lib.hid (allV_take hP.out HV.out hv)
        go_wp2_with (go_at_call 22; (with_reducible refine (rvalid_any _ _ _).mono ?_); rintro e w1 ⟨rfl, ht1⟩; have T1 : Tr w w1 := Tr.trans (by repeat (first | exact Tr.refl _ | assumption | apply Tr.al | apply Tr.drN | apply Tr.dr | (refine Tr.set ?_ (by first | omega | (simp; done) | (simp; omega)) _))) ht1; have K1 := Keep.tr (l := []) (by first | (simp [Keep, go_sem, *]; done) | (simp [Keep, go_sem, *]; omega) | (simp (disch := first | omega | (simp; omega) | (simp; done)) [Keep, go_sem, cell_far, cell_off, RowKit.frozen?_alloc_cells, frozen_new, *]; done) | (simp (disch := first | omega | (simp; omega) | (simp; done)) [Keep, go_sem, cell_far, cell_off, RowKit.frozen?_alloc_cells, frozen_new, *]; omega)) ht1; have hz1 := Below.size ht1; (try simp at hz1); clear ht1; simp only [Keep] at K1)
        go_roundw
        case rel => exact ⟨i + 1, by go_num, by omega, HB, (by repeat (first | exact Tr.refl _ | assumption | apply Tr.al | apply Tr.drN | apply Tr.dr | (refine Tr.set ?_ (by first | omega | (simp; done) | (simp; omega)) _)))⟩
        case measure => simp [intOf]; omega
    · obtain rfl : i = l.length := by omega
      go_wp2
      go_ret
      exact ⟨by have := HV.out; rw [List.take_length] at this; rw [this]; rfl, (by repeat (first | exact Tr.refl _ | assumption | apply Tr.al | apply Tr.drN | apply Tr.dr | (refine Tr.set ?_ (by first | omega | (simp; done) | (simp; omega)) _)))⟩
end Go.Proofs.YtpjkiljgccjemaaDoor
