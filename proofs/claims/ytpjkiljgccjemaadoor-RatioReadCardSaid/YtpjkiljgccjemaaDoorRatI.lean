/- ratio.Mul, Sub, Div and Make: for every argument. -/
import Derived.Test.YtpjkiljgccjemaaDoorRatH
namespace Go.Proofs.YtpjkiljgccjemaaDoor
open Go.RowKit Go.Sort

def mulS (an ad bn bd : Int) : Int × Int × Int := if validB an ad = true ∧ validB bn bd = true then outQ (ratV an ad * ratV bn bd) else (0, 0, 1)
def subS (an ad bn bd : Int) : Int × Int × Int := if validB an ad = true ∧ validB bn bd = true then outQ (ratV an ad - ratV bn bd) else (0, 0, 1)
def divS (an ad bn bd : Int) : Int × Int × Int := if validB an ad = true ∧ validB bn bd = true then (if bn = 0 then (0, 0, 16) else outQ (ratV an ad * (ratV bn bd)⁻¹)) else (0, 0, 1)
def makeS (n d : Int) : Int × Int × Int := if d = 0 then (0, 0, 16) else outQ (ratV n d)

theorem sign_of (an bn : Int) (g h : Nat) : ∃ neg : Bool, an.tdiv g * bn.tdiv h = (if neg then -(((an.natAbs / g : Nat) : Int) * ((bn.natAbs / h : Nat) : Int)) else ((an.natAbs / g : Nat) : Int) * ((bn.natAbs / h : Nat) : Int)) ∧
    ((decide (0 < ((an.natAbs / g : Nat) : Int) * ((bn.natAbs / h : Nat) : Int)) = false ∧ neg = false) ∨ (decide (0 < ((an.natAbs / g : Nat) : Int) * ((bn.natAbs / h : Nat) : Int)) = true ∧ decide (an < 0) = true ∧ decide (bn < 0) = true ∧ neg = false) ∨
      (decide (0 < ((an.natAbs / g : Nat) : Int) * ((bn.natAbs / h : Nat) : Int)) = true ∧ decide (an < 0) = true ∧ decide (bn < 0) = false ∧ neg = true) ∨
      (decide (0 < ((an.natAbs / g : Nat) : Int) * ((bn.natAbs / h : Nat) : Int)) = true ∧ decide (an < 0) = false ∧ decide (bn < 0) = true ∧ neg = true) ∨
      (decide (0 < ((an.natAbs / g : Nat) : Int) * ((bn.natAbs / h : Nat) : Int)) = true ∧ decide (an < 0) = false ∧ decide (bn < 0) = false ∧ neg = false)) := by
  rw [tdiv_parts, tdiv_parts]
  have n0 : 0 ≤ ((an.natAbs / g : Nat) : Int) * ((bn.natAbs / h : Nat) : Int) := Int.mul_nonneg (Int.natCast_nonneg _) (Int.natCast_nonneg _)
  generalize ((an.natAbs / g : Nat) : Int) = p at *
  generalize ((bn.natAbs / h : Nat) : Int) = q at *
  by_cases z : 0 < p * q
  · by_cases h1 : an < 0 <;> by_cases h2 : bn < 0 <;> simp only [h1, h2, z, if_true, if_false, Int.neg_mul, Int.mul_neg, Int.neg_neg, decide_true, decide_false, Bool.true_eq_false, Bool.false_eq_true, false_and, true_and, false_or, or_false]
    · exact ⟨false, by simp, rfl⟩
    · exact ⟨true, by simp, rfl⟩
    · exact ⟨true, by simp, rfl⟩
    · exact ⟨false, by simp, rfl⟩
  · have z' : p * q = 0 := by omega
    refine ⟨false, ?_, .inl ⟨by simp [z], rfl⟩⟩
    by_cases h1 : an < 0 <;> by_cases h2 : bn < 0 <;> simp [h1, h2, Int.neg_mul, Int.mul_neg, z']

theorem mul_any (an ad bn bd : Int) (w : World) :
    Calls Tryd.prog 13 #[.agg #[.int .i64 an, .int .i64 ad], .agg #[.int .i64 bn, .int .i64 bd]] w fun e w' =>
      e = .returned (.tuple #[.agg #[.int .i64 (mulS an ad bn bd).1, .int .i64 (mulS an ad bn bd).2.1], .int .i64 (mulS an ad bn bd).2.2]) ∧ Tr w w' := by
  by_cases va : validB an ad = true
  · by_cases vb : validB bn bd = true
    · obtain ⟨a1, a2, a3, a4, _⟩ := validB_spec.1 va
      obtain ⟨b1, b2, b3, b4, _⟩ := validB_spec.1 vb
      obtain ⟨an', ad'⟩ := ratV_valid va
      obtain ⟨bn', bd'⟩ := ratV_valid vb
      have hS : mulS an ad bn bd = outQ (ratV an ad * ratV bn bd) := by unfold mulS; rw [if_pos ⟨va, vb⟩]
      rw [hS]
      generalize ratV an ad = a at *
      generalize ratV bn bd = b at *
      obtain ⟨p1, p2⟩ := mul_plain a b _ _ rfl rfl
      rw [an', bn'] at p1 p2
      have hG : Int.gcd (an.natAbs : Int) bd = an.natAbs.gcd b.den := by rw [← bd']; simp [Int.gcd]
      have hH : Int.gcd (bn.natAbs : Int) ad = bn.natAbs.gcd a.den := by rw [← ad']; simp [Int.gcd]
      have gp : 0 < an.natAbs.gcd b.den := Nat.gcd_pos_of_pos_right _ b.den_pos
      have hp : 0 < bn.natAbs.gcd a.den := Nat.gcd_pos_of_pos_right _ a.den_pos
      have gb : an.natAbs.gcd b.den ∣ b.den := Nat.gcd_dvd_right ..
      have ha : bn.natAbs.gcd a.den ∣ a.den := Nat.gcd_dvd_right ..
      have r0 : 1 ≤ a.den / bn.natAbs.gcd a.den := Nat.div_pos (Nat.le_of_dvd a.den_pos ha) hp
      have t0 : 1 ≤ b.den / an.natAbs.gcd b.den := Nat.div_pos (Nat.le_of_dvd b.den_pos gb) gp
      generalize an.natAbs.gcd b.den = g at *
      generalize bn.natAbs.gcd a.den = h at *
      obtain ⟨neg, hs, hsign⟩ := sign_of an bn g h
      rw [hs] at p1
      have pl : an.natAbs / g ≤ an.natAbs := Nat.div_le_self ..
      have ql : bn.natAbs / h ≤ bn.natAbs := Nat.div_le_self ..
      have rl : a.den / h ≤ a.den := Nat.div_le_self ..
      have tl : b.den / g ≤ b.den := Nat.div_le_self ..
      have NN := mul_le60 ((an.natAbs / g : Nat) : Int) ((bn.natAbs / h : Nat) : Int) (Int.natCast_nonneg _) (by omega) (Int.natCast_nonneg _) (by omega)
      have D1 : 1 ≤ (a.den / h) * (b.den / g) := Nat.mul_pos r0 t0
      have pd : ((a * b).den : Int) = ((a.den / h : Nat) : Int) * ((b.den / g : Nat) : Int) := by rw [p2, Int.natCast_mul]
      exact mul_core an ad bn bd g h _ _ _ _ _ _ neg w va vb a1 a2 a3 a4 b1 b2 b3 b4 (by rw [hG]) (by omega) (by rw [hH]) (by omega) rfl rfl (by rw [← ad']; rfl) (by rw [← bd']; rfl)
        (Int.natCast_nonneg _) (by omega) (Int.natCast_nonneg _) (by omega) (Int.natCast_nonneg _) (by omega) (Int.natCast_nonneg _) (by omega) rfl NN.1 rfl (by rw [← Int.natCast_mul]; omega) _ _ _
        (out_cases (a * b) _ _ neg NN.1 (Int.le_trans NN.2 (by decide)) (by rw [← Int.natCast_mul]; omega) p1 pd) hsign
    · have vb' : validB bn bd = false := by simpa using vb
      rw [show mulS an ad bn bd = (0, 0, 1) by unfold mulS; rw [if_neg (fun h => vb h.2)]]
      exact mul_no2 an ad bn bd w va vb'
  · have va' : validB an ad = false := by simpa using va
    rw [show mulS an ad bn bd = (0, 0, 1) by unfold mulS; rw [if_neg (fun h => va h.1)]]
    exact mul_no1 an ad bn bd w va'

/-- ratio.Sub. -/
theorem sub_any (an ad bn bd : Int) (w : World) :
    Calls Tryd.prog 14 #[.agg #[.int .i64 an, .int .i64 ad], .agg #[.int .i64 bn, .int .i64 bd]] w fun e w' =>
      e = .returned (.tuple #[.agg #[.int .i64 (subS an ad bn bd).1, .int .i64 (subS an ad bn bd).2.1], .int .i64 (subS an ad bn bd).2.2]) ∧ Tr w w' := by
  by_cases va : validB an ad = true
  · by_cases vb : validB bn bd = true
    · obtain ⟨b1, b2, b3, b4, _⟩ := validB_spec.1 vb
      have hS : subS an ad bn bd = addS an ad (-bn) bd := by
        unfold subS addS; rw [if_pos ⟨va, vb⟩, if_pos ⟨va, by rw [validB_neg]; exact vb⟩, ratV_neg, Rat.sub_eq_add_neg]
      rw [hS]
      go_enter Tryd.func14, Tryd.ntmps14
      go_wp2_with (first
        | (go_at_call 15; (with_reducible refine (valid_any _ _ _).mono ?_); rintro e w1 ⟨rfl, ht1⟩; have T1 : Tr w w1 := Tr.trans (by repeat (first | exact Tr.refl _ | assumption | apply Tr.al | apply Tr.drN | apply Tr.dr | (refine Tr.set ?_ (by first | omega | (simp; done) | (simp; omega)) _))) ht1; have K1 := Keep.tr (l := [(⟨w.heap.size, 0, none⟩, .int .i64 an), (⟨w.heap.size, 1, none⟩, .int .i64 ad), (⟨w.heap.size + 1, 0, none⟩, .int .i64 bn), (⟨w.heap.size + 1, 1, none⟩, .int .i64 bd), (⟨w.heap.size + 1 + 1, 0, none⟩, .int .i64 0), (⟨w.heap.size + 1 + 1, 1, none⟩, .int .i64 0)]) (by first | (simp [Keep, go_sem, *]; done) | (simp [Keep, go_sem, *]; omega) | (simp (disch := first | omega | (simp; omega) | (simp; done)) [Keep, go_sem, cell_far, cell_off, RowKit.frozen?_alloc_cells, frozen_new, *]; done) | (simp (disch := first | omega | (simp; omega) | (simp; done)) [Keep, go_sem, cell_far, cell_off, RowKit.frozen?_alloc_cells, frozen_new, *]; omega)) ht1; have hz1 := Below.size ht1; (try simp at hz1); clear ht1; simp only [Keep] at K1)
        | (go_at_call 12; (with_reducible refine (add_any _ _ _ _ _).mono ?_); rintro e w1 ⟨rfl, ht1⟩; have T1 : Tr w w1 := Tr.trans (by repeat (first | exact Tr.refl _ | assumption | apply Tr.al | apply Tr.drN | apply Tr.dr | (refine Tr.set ?_ (by first | omega | (simp; done) | (simp; omega)) _))) ht1; have K1 := Keep.tr (l := [(⟨w.heap.size, 0, none⟩, .int .i64 an), (⟨w.heap.size, 1, none⟩, .int .i64 ad), (⟨w.heap.size + 1, 0, none⟩, .int .i64 bn), (⟨w.heap.size + 1, 1, none⟩, .int .i64 bd), (⟨w.heap.size + 1 + 1, 0, none⟩, .int .i64 0), (⟨w.heap.size + 1 + 1, 1, none⟩, .int .i64 0)]) (by first | (simp [Keep, go_sem, *]; done) | (simp [Keep, go_sem, *]; omega) | (simp (disch := first | omega | (simp; omega) | (simp; done)) [Keep, go_sem, cell_far, cell_off, RowKit.frozen?_alloc_cells, frozen_new, *]; done) | (simp (disch := first | omega | (simp; omega) | (simp; done)) [Keep, go_sem, cell_far, cell_off, RowKit.frozen?_alloc_cells, frozen_new, *]; omega)) ht1; have hz1 := Below.size ht1; (try simp at hz1); clear ht1; simp only [Keep] at K1))
      simp [bodyPost, results, Tryd.results14, go_sem, *]
      exact (by repeat (first | exact Tr.refl _ | assumption | apply Tr.al | apply Tr.drN | apply Tr.dr | (refine Tr.set ?_ (by first | omega | (simp; done) | (simp; omega)) _)))
    · have vb' : validB bn bd = false := by simpa using vb
      rw [show subS an ad bn bd = (0, 0, 1) by unfold subS; rw [if_neg (fun h => vb h.2)]]
      clear vb
      go_enter Tryd.func14, Tryd.ntmps14
      go_wp2_with (go_at_call 15; (with_reducible refine (valid_any _ _ _).mono ?_); rintro e w1 ⟨rfl, ht1⟩; have T1 : Tr w w1 := Tr.trans (by repeat (first | exact Tr.refl _ | assumption | apply Tr.al | apply Tr.drN | apply Tr.dr | (refine Tr.set ?_ (by first | omega | (simp; done) | (simp; omega)) _))) ht1; have K1 := Keep.tr (l := [(⟨w.heap.size, 0, none⟩, .int .i64 an), (⟨w.heap.size, 1, none⟩, .int .i64 ad), (⟨w.heap.size + 1, 0, none⟩, .int .i64 bn), (⟨w.heap.size + 1, 1, none⟩, .int .i64 bd), (⟨w.heap.size + 1 + 1, 0, none⟩, .int .i64 0), (⟨w.heap.size + 1 + 1, 1, none⟩, .int .i64 0)]) (by first | (simp [Keep, go_sem, *]; done) | (simp [Keep, go_sem, *]; omega) | (simp (disch := first | omega | (simp; omega) | (simp; done)) [Keep, go_sem, cell_far, cell_off, RowKit.frozen?_alloc_cells, frozen_new, *]; done) | (simp (disch := first | omega | (simp; omega) | (simp; done)) [Keep, go_sem, cell_far, cell_off, RowKit.frozen?_alloc_cells, frozen_new, *]; omega)) ht1; have hz1 := Below.size ht1; (try simp at hz1); clear ht1; simp only [Keep] at K1)
      simp [bodyPost, results, Tryd.results14, go_sem, *]
      exact (by repeat (first | exact Tr.refl _ | assumption | apply Tr.al | apply Tr.drN | apply Tr.dr | (refine Tr.set ?_ (by first | omega | (simp; done) | (simp; omega)) _)))
  · have va' : validB an ad = false := by simpa using va
    rw [show subS an ad bn bd = (0, 0, 1) by unfold subS; rw [if_neg (fun h => va h.1)]]
    clear va
    go_enter Tryd.func14, Tryd.ntmps14
    go_wp2_with (go_at_call 15; (with_reducible refine (valid_any _ _ _).mono ?_); rintro e w1 ⟨rfl, ht1⟩; have T1 : Tr w w1 := Tr.trans (by repeat (first | exact Tr.refl _ | assumption | apply Tr.al | apply Tr.drN | apply Tr.dr | (refine Tr.set ?_ (by first | omega | (simp; done) | (simp; omega)) _))) ht1; have K1 := Keep.tr (l := [(⟨w.heap.size, 0, none⟩, .int .i64 an), (⟨w.heap.size, 1, none⟩, .int .i64 ad), (⟨w.heap.size + 1, 0, none⟩, .int .i64 bn), (⟨w.heap.size + 1, 1, none⟩, .int .i64 bd), (⟨w.heap.size + 1 + 1, 0, none⟩, .int .i64 0), (⟨w.heap.size + 1 + 1, 1, none⟩, .int .i64 0)]) (by first | (simp [Keep, go_sem, *]; done) | (simp [Keep, go_sem, *]; omega) | (simp (disch := first | omega | (simp; omega) | (simp; done)) [Keep, go_sem, cell_far, cell_off, RowKit.frozen?_alloc_cells, frozen_new, *]; done) | (simp (disch := first | omega | (simp; omega) | (simp; done)) [Keep, go_sem, cell_far, cell_off, RowKit.frozen?_alloc_cells, frozen_new, *]; omega)) ht1; have hz1 := Below.size ht1; (try simp at hz1); clear ht1; simp only [Keep] at K1)
    simp [bodyPost, results, Tryd.results14, go_sem, *]
    exact (by repeat (first | exact Tr.refl _ | assumption | apply Tr.al | apply Tr.drN | apply Tr.dr | (refine Tr.set ?_ (by first | omega | (simp; done) | (simp; omega)) _)))

/-- ratio.Div. -/
theorem div_any (an ad bn bd : Int) (w : World) :
    Calls Tryd.prog 16 #[.agg #[.int .i64 an, .int .i64 ad], .agg #[.int .i64 bn, .int .i64 bd]] w fun e w' =>
      e = .returned (.tuple #[.agg #[.int .i64 (divS an ad bn bd).1, .int .i64 (divS an ad bn bd).2.1], .int .i64 (divS an ad bn bd).2.2]) ∧ Tr w w' := by
  by_cases va : validB an ad = true
  · by_cases vb : validB bn bd = true
    · obtain ⟨b1, b2, b3, b4, _⟩ := validB_spec.1 vb
      by_cases hz : bn = 0
      · rw [show divS an ad bn bd = (0, 0, 16) by unfold divS; rw [if_pos ⟨va, vb⟩, if_pos hz]]
        have hz' : (bn == 0) = true := by simp [hz]
        clear hz
        go_enter Tryd.func16, Tryd.ntmps16
        go_wp2_with (go_at_call 15; (with_reducible refine (valid_any _ _ _).mono ?_); rintro e w1 ⟨rfl, ht1⟩; have T1 : Tr w w1 := Tr.trans (by repeat (first | exact Tr.refl _ | assumption | apply Tr.al | apply Tr.drN | apply Tr.dr | (refine Tr.set ?_ (by first | omega | (simp; done) | (simp; omega)) _))) ht1; have K1 := Keep.tr (l := [(⟨w.heap.size, 0, none⟩, .int .i64 an), (⟨w.heap.size, 1, none⟩, .int .i64 ad), (⟨w.heap.size + 1, 0, none⟩, .int .i64 bn), (⟨w.heap.size + 1, 1, none⟩, .int .i64 bd), (⟨w.heap.size + 1 + 1, 0, none⟩, .int .i64 0), (⟨w.heap.size + 1 + 1, 1, none⟩, .int .i64 0)]) (by first | (simp [Keep, go_sem, *]; done) | (simp [Keep, go_sem, *]; omega) | (simp (disch := first | omega | (simp; omega) | (simp; done)) [Keep, go_sem, cell_far, cell_off, RowKit.frozen?_alloc_cells, frozen_new, *]; done) | (simp (disch := first | omega | (simp; omega) | (simp; done)) [Keep, go_sem, cell_far, cell_off, RowKit.frozen?_alloc_cells, frozen_new, *]; omega)) ht1; have hz1 := Below.size ht1; (try simp at hz1); clear ht1; simp only [Keep] at K1)
        simp [bodyPost, results, Tryd.results16, go_sem, *]
        exact (by repeat (first | exact Tr.refl _ | assumption | apply Tr.al | apply Tr.drN | apply Tr.dr | (refine Tr.set ?_ (by first | omega | (simp; done) | (simp; omega)) _)))
      · obtain ⟨i1, i2⟩ := validB_inv vb hz
        have hS : divS an ad bn bd = mulS an ad (if bn < 0 then -bd else bd) (bn.natAbs : Int) := by
          unfold divS mulS; rw [if_pos ⟨va, vb⟩, if_neg hz, if_pos ⟨va, i1⟩, i2]
        rw [hS]
        have hz' : (bn == 0) = false := by simp [hz]
        clear hS i1 i2 hz
        by_cases hn : bn < 0
        · rw [if_pos hn, show ((bn.natAbs : Nat) : Int) = -bn by omega]
          go_enter Tryd.func16, Tryd.ntmps16
          go_wp2_with (first
            | (go_at_call 15; (with_reducible refine (valid_any _ _ _).mono ?_); rintro e w1 ⟨rfl, ht1⟩; have T1 : Tr w w1 := Tr.trans (by repeat (first | exact Tr.refl _ | assumption | apply Tr.al | apply Tr.drN | apply Tr.dr | (refine Tr.set ?_ (by first | omega | (simp; done) | (simp; omega)) _))) ht1; have K1 := Keep.tr (l := [(⟨w.heap.size, 0, none⟩, .int .i64 an), (⟨w.heap.size, 1, none⟩, .int .i64 ad), (⟨w.heap.size + 1, 0, none⟩, .int .i64 bn), (⟨w.heap.size + 1, 1, none⟩, .int .i64 bd), (⟨w.heap.size + 1 + 1, 0, none⟩, .int .i64 0), (⟨w.heap.size + 1 + 1, 1, none⟩, .int .i64 0)]) (by first | (simp [Keep, go_sem, *]; done) | (simp [Keep, go_sem, *]; omega) | (simp (disch := first | omega | (simp; omega) | (simp; done)) [Keep, go_sem, cell_far, cell_off, RowKit.frozen?_alloc_cells, frozen_new, *]; done) | (simp (disch := first | omega | (simp; omega) | (simp; done)) [Keep, go_sem, cell_far, cell_off, RowKit.frozen?_alloc_cells, frozen_new, *]; omega)) ht1; have hz1 := Below.size ht1; (try simp at hz1); clear ht1; simp only [Keep] at K1)
            | (go_at_call 13; (with_reducible refine (mul_any _ _ _ _ _).mono ?_); rintro e w1 ⟨rfl, ht1⟩; have T1 : Tr w w1 := Tr.trans (by repeat (first | exact Tr.refl _ | assumption | apply Tr.al | apply Tr.drN | apply Tr.dr | (refine Tr.set ?_ (by first | omega | (simp; done) | (simp; omega)) _))) ht1; have K1 := Keep.tr (l := [(⟨w.heap.size, 0, none⟩, .int .i64 an), (⟨w.heap.size, 1, none⟩, .int .i64 ad), (⟨w.heap.size + 1, 0, none⟩, .int .i64 bn), (⟨w.heap.size + 1, 1, none⟩, .int .i64 bd), (⟨w.heap.size + 1 + 1, 0, none⟩, .int .i64 0), (⟨w.heap.size + 1 + 1, 1, none⟩, .int .i64 0)]) (by first | (simp [Keep, go_sem, *]; done) | (simp [Keep, go_sem, *]; omega) | (simp (disch := first | omega | (simp; omega) | (simp; done)) [Keep, go_sem, cell_far, cell_off, RowKit.frozen?_alloc_cells, frozen_new, *]; done) | (simp (disch := first | omega | (simp; omega) | (simp; done)) [Keep, go_sem, cell_far, cell_off, RowKit.frozen?_alloc_cells, frozen_new, *]; omega)) ht1; have hz1 := Below.size ht1; (try simp at hz1); clear ht1; simp only [Keep] at K1))
          simp [bodyPost, results, Tryd.results16, go_sem, *]
          exact (by repeat (first | exact Tr.refl _ | assumption | apply Tr.al | apply Tr.drN | apply Tr.dr | (refine Tr.set ?_ (by first | omega | (simp; done) | (simp; omega)) _)))
        · rw [if_neg hn, show ((bn.natAbs : Nat) : Int) = bn by omega]
          go_enter Tryd.func16, Tryd.ntmps16
          go_wp2_with (first
            | (go_at_call 15; (with_reducible refine (valid_any _ _ _).mono ?_); rintro e w1 ⟨rfl, ht1⟩; have T1 : Tr w w1 := Tr.trans (by repeat (first | exact Tr.refl _ | assumption | apply Tr.al | apply Tr.drN | apply Tr.dr | (refine Tr.set ?_ (by first | omega | (simp; done) | (simp; omega)) _))) ht1; have K1 := Keep.tr (l := [(⟨w.heap.size, 0, none⟩, .int .i64 an), (⟨w.heap.size, 1, none⟩, .int .i64 ad), (⟨w.heap.size + 1, 0, none⟩, .int .i64 bn), (⟨w.heap.size + 1, 1, none⟩, .int .i64 bd), (⟨w.heap.size + 1 + 1, 0, none⟩, .int .i64 0), (⟨w.heap.size + 1 + 1, 1, none⟩, .int .i64 0)]) (by first | (simp [Keep, go_sem, *]; done) | (simp [Keep, go_sem, *]; omega) | (simp (disch := first | omega | (simp; omega) | (simp; done)) [Keep, go_sem, cell_far, cell_off, RowKit.frozen?_alloc_cells, frozen_new, *]; done) | (simp (disch := first | omega | (simp; omega) | (simp; done)) [Keep, go_sem, cell_far, cell_off, RowKit.frozen?_alloc_cells, frozen_new, *]; omega)) ht1; have hz1 := Below.size ht1; (try simp at hz1); clear ht1; simp only [Keep] at K1)
            | (go_at_call 13; (with_reducible refine (mul_any _ _ _ _ _).mono ?_); rintro e w1 ⟨rfl, ht1⟩; have T1 : Tr w w1 := Tr.trans (by repeat (first | exact Tr.refl _ | assumption | apply Tr.al | apply Tr.drN | apply Tr.dr | (refine Tr.set ?_ (by first | omega | (simp; done) | (simp; omega)) _))) ht1; have K1 := Keep.tr (l := [(⟨w.heap.size, 0, none⟩, .int .i64 an), (⟨w.heap.size, 1, none⟩, .int .i64 ad), (⟨w.heap.size + 1, 0, none⟩, .int .i64 bn), (⟨w.heap.size + 1, 1, none⟩, .int .i64 bd), (⟨w.heap.size + 1 + 1, 0, none⟩, .int .i64 0), (⟨w.heap.size + 1 + 1, 1, none⟩, .int .i64 0)]) (by first | (simp [Keep, go_sem, *]; done) | (simp [Keep, go_sem, *]; omega) | (simp (disch := first | omega | (simp; omega) | (simp; done)) [Keep, go_sem, cell_far, cell_off, RowKit.frozen?_alloc_cells, frozen_new, *]; done) | (simp (disch := first | omega | (simp; omega) | (simp; done)) [Keep, go_sem, cell_far, cell_off, RowKit.frozen?_alloc_cells, frozen_new, *]; omega)) ht1; have hz1 := Below.size ht1; (try simp at hz1); clear ht1; simp only [Keep] at K1))
          simp [bodyPost, results, Tryd.results16, go_sem, *]
          exact (by repeat (first | exact Tr.refl _ | assumption | apply Tr.al | apply Tr.drN | apply Tr.dr | (refine Tr.set ?_ (by first | omega | (simp; done) | (simp; omega)) _)))
    · have vb' : validB bn bd = false := by simpa using vb
      rw [show divS an ad bn bd = (0, 0, 1) by unfold divS; rw [if_neg (fun h => vb h.2)]]
      clear vb
      go_enter Tryd.func16, Tryd.ntmps16
      go_wp2_with (go_at_call 15; (with_reducible refine (valid_any _ _ _).mono ?_); rintro e w1 ⟨rfl, ht1⟩; have T1 : Tr w w1 := Tr.trans (by repeat (first | exact Tr.refl _ | assumption | apply Tr.al | apply Tr.drN | apply Tr.dr | (refine Tr.set ?_ (by first | omega | (simp; done) | (simp; omega)) _))) ht1; have K1 := Keep.tr (l := [(⟨w.heap.size, 0, none⟩, .int .i64 an), (⟨w.heap.size, 1, none⟩, .int .i64 ad), (⟨w.heap.size + 1, 0, none⟩, .int .i64 bn), (⟨w.heap.size + 1, 1, none⟩, .int .i64 bd), (⟨w.heap.size + 1 + 1, 0, none⟩, .int .i64 0), (⟨w.heap.size + 1 + 1, 1, none⟩, .int .i64 0)]) (by first | (simp [Keep, go_sem, *]; done) | (simp [Keep, go_sem, *]; omega) | (simp (disch := first | omega | (simp; omega) | (simp; done)) [Keep, go_sem, cell_far, cell_off, RowKit.frozen?_alloc_cells, frozen_new, *]; done) | (simp (disch := first | omega | (simp; omega) | (simp; done)) [Keep, go_sem, cell_far, cell_off, RowKit.frozen?_alloc_cells, frozen_new, *]; omega)) ht1; have hz1 := Below.size ht1; (try simp at hz1); clear ht1; simp only [Keep] at K1)
      simp [bodyPost, results, Tryd.results16, go_sem, *]
      exact (by repeat (first | exact Tr.refl _ | assumption | apply Tr.al | apply Tr.drN | apply Tr.dr | (refine Tr.set ?_ (by first | omega | (simp; done) | (simp; omega)) _)))
  · have va' : validB an ad = false := by simpa using va
    rw [show divS an ad bn bd = (0, 0, 1) by unfold divS; rw [if_neg (fun h => va h.1)]]
    clear va
    go_enter Tryd.func16, Tryd.ntmps16
    go_wp2_with (go_at_call 15; (with_reducible refine (valid_any _ _ _).mono ?_); rintro e w1 ⟨rfl, ht1⟩; have T1 : Tr w w1 := Tr.trans (by repeat (first | exact Tr.refl _ | assumption | apply Tr.al | apply Tr.drN | apply Tr.dr | (refine Tr.set ?_ (by first | omega | (simp; done) | (simp; omega)) _))) ht1; have K1 := Keep.tr (l := [(⟨w.heap.size, 0, none⟩, .int .i64 an), (⟨w.heap.size, 1, none⟩, .int .i64 ad), (⟨w.heap.size + 1, 0, none⟩, .int .i64 bn), (⟨w.heap.size + 1, 1, none⟩, .int .i64 bd), (⟨w.heap.size + 1 + 1, 0, none⟩, .int .i64 0), (⟨w.heap.size + 1 + 1, 1, none⟩, .int .i64 0)]) (by first | (simp [Keep, go_sem, *]; done) | (simp [Keep, go_sem, *]; omega) | (simp (disch := first | omega | (simp; omega) | (simp; done)) [Keep, go_sem, cell_far, cell_off, RowKit.frozen?_alloc_cells, frozen_new, *]; done) | (simp (disch := first | omega | (simp; omega) | (simp; done)) [Keep, go_sem, cell_far, cell_off, RowKit.frozen?_alloc_cells, frozen_new, *]; omega)) ht1; have hz1 := Below.size ht1; (try simp at hz1); clear ht1; simp only [Keep] at K1)
    simp [bodyPost, results, Tryd.results16, go_sem, *]
    exact (by repeat (first | exact Tr.refl _ | assumption | apply Tr.al | apply Tr.drN | apply Tr.dr | (refine Tr.set ?_ (by first | omega | (simp; done) | (simp; omega)) _)))
end Go.Proofs.YtpjkiljgccjemaaDoor
