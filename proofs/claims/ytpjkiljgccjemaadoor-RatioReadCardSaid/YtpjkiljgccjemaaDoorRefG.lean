/- Contracts of the reference's Made, Make and Valid. -/
import Derived.Test.YtpjkiljgccjemaaDoorRefF
import Derived.Test.YtpjkiljgccjemaaDoorRatI
namespace Go.Proofs.YtpjkiljgccjemaaDoor
set_option linter.unusedVariables false
open Go.RowKit Go.Sort

/-- A size with its sign. -/
def sg (neg : Bool) (n : Int) : Int := if neg then -n else n
theorem made_q (N D : Int) (neg : Bool) (hN : 0 ≤ N) (hD : 1 ≤ D) : (ratV (sg neg N) D).num = (if neg then -(N / (Int.gcd N D : Int)) else N / (Int.gcd N D : Int)) ∧ ((ratV (sg neg N) D).den : Int) = D / (Int.gcd N D : Int) := by
  have hg : Int.gcd (sg neg N) D = Int.gcd N D := by unfold sg; cases neg <;> simp
  have e1 := Rat.num_divInt (sg neg N) D
  have e2 := Rat.den_divInt (sg neg N) D
  rw [if_neg (by omega), Int.gcd_comm, hg] at e2
  rw [Int.gcd_comm, hg, Int.sign_eq_one_of_pos (by omega), Int.one_mul] at e1
  have dv : (Int.gcd N D : Int) ∣ N := Int.gcd_dvd_left ..
  constructor
  · show (Rat.divInt (sg neg N) D).num = _
    rw [e1]
    unfold sg
    cases neg
    · rfl
    · simp only [if_true]; rw [Int.neg_ediv_of_dvd dv]
  · show ((Rat.divInt (sg neg N) D).den : Int) = _
    rw [e2]
    have : (D.natAbs : Int) = D := by omega
    rw [← this]
    simp
/-- What Made comes to, by the words of the two quotients. -/
theorem made_cases (N D : Int) (neg : Bool) (hN : 0 ≤ N) (hN' : N < Big) (hD : 1 ≤ D) {nh nl dh dl : Int} (h1 : Wd (N / (Int.gcd N D : Int)) nh nl) (h2 : Wd (D / (Int.gcd N D : Int)) dh dl) :
    (0 < nh ∧ Hid ((makeS (sg neg N) D).1 = 0 ∧ (makeS (sg neg N) D).2.1 = 0 ∧ (makeS (sg neg N) D).2.2 = 5)) ∨
    (nh = 0 ∧ 1152921504606846976 < nl ∧ Hid ((makeS (sg neg N) D).1 = 0 ∧ (makeS (sg neg N) D).2.1 = 0 ∧ (makeS (sg neg N) D).2.2 = 5)) ∨
    (nh = 0 ∧ nl ≤ 1152921504606846976 ∧ 0 < dh ∧ Hid ((makeS (sg neg N) D).1 = 0 ∧ (makeS (sg neg N) D).2.1 = 0 ∧ (makeS (sg neg N) D).2.2 = 5)) ∨
    (nh = 0 ∧ nl ≤ 1152921504606846976 ∧ dh = 0 ∧ 1152921504606846976 < dl ∧ Hid ((makeS (sg neg N) D).1 = 0 ∧ (makeS (sg neg N) D).2.1 = 0 ∧ (makeS (sg neg N) D).2.2 = 5)) ∨
    (nh = 0 ∧ 0 ≤ nl ∧ nl ≤ 1152921504606846976 ∧ dh = 0 ∧ 0 ≤ dl ∧ dl ≤ 1152921504606846976 ∧ Hid ((makeS (sg neg N) D).1 = (if neg then -nl else nl) ∧ (makeS (sg neg N) D).2.1 = dl ∧ (makeS (sg neg N) D).2.2 = 0)) := by
  obtain ⟨q1, q2⟩ := made_q N D neg hN hD
  have hg0 : 0 < Int.gcd N D := Int.gcd_pos_of_ne_zero_right N (by omega)
  have nc0 : 0 ≤ N / (Int.gcd N D : Int) := Int.ediv_nonneg (by omega) (by omega)
  have nc1 : N / (Int.gcd N D : Int) ≤ N := Int.ediv_le_self _ (by omega)
  have dd0 : 1 ≤ D / (Int.gcd N D : Int) := by rw [← q2]; have := (ratV (sg neg N) D).den_pos; omega
  have hm : makeS (sg neg N) D = outQ (ratV (sg neg N) D) := by unfold makeS; rw [if_neg (by omega)]
  have oc := out_cases (ratV (sg neg N) D) _ _ neg nc0 (by unfold Big at hN'; omega) dd0 q1 q2
  rw [hm]
  obtain ⟨rfl, rfl⟩ := h1
  obtain ⟨rfl, rfl⟩ := h2
  generalize N / (Int.gcd N D : Int) = NC at *
  generalize D / (Int.gcd N D : Int) = DC at *
  rcases oc with ⟨o1, o2⟩ | ⟨o1, o3, o2⟩ | ⟨o1, o3, o4, o5, o2⟩ | ⟨o1, o3, o4, o5, o6, o7, o2⟩
  · exact .inl ⟨o1, o2⟩
  · by_cases h : NC % 18446744073709551616 ≤ 1152921504606846976
    · exact .inr (.inr (.inl ⟨o1, h, o3, o2⟩))
    · exact .inr (.inl ⟨o1, by omega, o2⟩)
  · by_cases h : NC % 18446744073709551616 ≤ 1152921504606846976
    · exact .inr (.inr (.inr (.inl ⟨o1, h, o3, by omega, o2⟩)))
    · exact .inr (.inl ⟨o1, by omega, o2⟩)
  · refine .inr (.inr (.inr (.inr ⟨o1, by omega, by omega, o3, by omega, by omega, ?_⟩)))
    rw [o6, o7]
    exact o2
theorem rgcd_wd {p q ph pl qh ql gh gl : Int} (h1 : Wd p ph pl) (h2 : Wd q qh ql) (h3 : Wd (Int.gcd p q) gh gl) (hp : 0 ≤ p) (hp' : p < Big) (hq : 1 ≤ q) (hq' : q < Big) (w : World) :
    Calls Tryd.prog 51 #[.agg #[.int .u64 ph, .int .u64 pl], .agg #[.int .u64 qh, .int .u64 ql]] w fun e w' => e = .returned (.agg #[.int .u64 gh, .int .u64 gl]) ∧ Tr w w' := by
  rcases wd_zero h1 hp hp' with ⟨rfl, rfl, rfl⟩ | hz
  · have e : (Int.gcd 0 q : Int) = q := by simp; omega
    rw [e] at h3
    obtain ⟨rfl, rfl⟩ := h3
    obtain ⟨rfl, rfl⟩ := h2
    generalize q / 18446744073709551616 = qh at *
    generalize q % 18446744073709551616 = ql at *
    clear h1 hp hp' hq hq' e
    go_enter Tryd.func51, Tryd.ntmps51
    go_wp2
    simp [bodyPost, results, Tryd.results51, go_sem, *]
    exact (by repeat (first | exact Tr.refl _ | assumption | apply Tr.al | apply Tr.drN | apply Tr.dr | (refine Tr.set ?_ (by first | omega | (simp; done) | (simp; omega)) _)))
  · have hp1 : 1 ≤ p := by rcases hz with h | h <;> exact h.1
    have hz' : (ph == 0) = false ∨ ((ph == 0) = true ∧ (pl == 0) = false) := by
      rcases hz with ⟨_, h⟩ | ⟨_, h, h'⟩
      · exact .inl h
      · exact .inr ⟨h, h'⟩
    refine (rgcd_core p q ph pl qh ql w hp1 hp' hq hq' h1 h2 hz').mono fun e w' ⟨gh', gl', hw, he, ht⟩ => ⟨?_, ht⟩
    obtain ⟨rfl, rfl⟩ := hw.out
    obtain ⟨rfl, rfl⟩ := h3
    exact he
theorem rdiv_wd {p b ph pl bh bl qh ql rh rl : Int} (h1 : Wd p ph pl) (h2 : Wd b bh bl) (h3 : Wd (p / b) qh ql) (h4 : Wd (p % b) rh rl) (hp : 0 ≤ p) (hp' : p < Big) (hb : 1 ≤ b) (hb' : b < Big) (w : World) :
    Calls Tryd.prog 69 #[.agg #[.int .u64 ph, .int .u64 pl], .agg #[.int .u64 bh, .int .u64 bl]] w fun e w' => e = .returned (.tuple #[.agg #[.int .u64 qh, .int .u64 ql], .agg #[.int .u64 rh, .int .u64 rl]]) ∧ Tr w w' := by
  obtain ⟨rfl, rfl⟩ := h1
  obtain ⟨rfl, rfl⟩ := h2
  obtain ⟨rfl, rfl⟩ := h3
  obtain ⟨rfl, rfl⟩ := h4
  exact rdiv_val p b w hp hp' hb hb'

set_option maxRecDepth 100000 in
set_option maxHeartbeats 2000000 in
/-- The reference's Made. -/
theorem made_wd {N D nh nl dh dl : Int} (neg : Bool) (w : World) (h1 : Hid (Wd N nh nl)) (h2 : Hid (Wd D dh dl)) (hN : Hid (0 ≤ N ∧ N < Big)) (hD : Hid (0 ≤ D ∧ D < Big)) :
    Calls Tryd.prog 48 #[.agg #[.int .u64 nh, .int .u64 nl], .bool neg, .agg #[.int .u64 dh, .int .u64 dl]] w fun e w' =>
      e = .returned (.tuple #[.agg #[.int .i64 (makeS (sg neg N) D).1, .int .i64 (makeS (sg neg N) D).2.1], .int .i64 (makeS (sg neg N) D).2.2]) ∧ Tr w w' := by
  rcases wd_zero h2.out hD.out.1 hD.out.2 with ⟨rfl, rfl, rfl⟩ | hz
  · rw [show makeS (sg neg N) 0 = (0, 0, 16) by unfold makeS; rw [if_pos rfl]]
    go_enter Tryd.func48, Tryd.ntmps48
    go_wp2
    simp [bodyPost, results, Tryd.results48, go_sem, *]
    exact (by repeat (first | exact Tr.refl _ | assumption | apply Tr.al | apply Tr.drN | apply Tr.dr | (refine Tr.set ?_ (by first | omega | (simp; done) | (simp; omega)) _)))
  · have hD1 : Hid (1 ≤ D) := (by rcases hz with h | h <;> exact h.1 : 1 ≤ D)
    have hz' : (dh == 0) = false ∨ ((dh == 0) = true ∧ (dl == 0) = false) := by
      rcases hz with ⟨_, h⟩ | ⟨_, h, h'⟩
      · exact .inl h
      · exact .inr ⟨h, h'⟩
    clear hz
    obtain ⟨G, hG⟩ : ∃ G : Int, G = Int.gcd N D := ⟨_, rfl⟩
    have hG1 : Hid (1 ≤ G ∧ G < Big) := (by
      have := Int.gcd_pos_of_ne_zero_right N (b := D) (by have := hD1.out; omega)
      have := gcd_lt_big (p := N) hD1.out hD.out.2
      omega : 1 ≤ G ∧ G < Big)
    obtain ⟨gh, hgh⟩ : ∃ z, z = G / 18446744073709551616 := ⟨_, rfl⟩
    obtain ⟨gl, hgl⟩ : ∃ z, z = G % 18446744073709551616 := ⟨_, rfl⟩
    obtain ⟨ah, hah⟩ : ∃ z, z = N / G / 18446744073709551616 := ⟨_, rfl⟩
    obtain ⟨al, hal⟩ : ∃ z, z = N / G % 18446744073709551616 := ⟨_, rfl⟩
    obtain ⟨bh, hbh⟩ : ∃ z, z = D / G / 18446744073709551616 := ⟨_, rfl⟩
    obtain ⟨bl, hbl⟩ : ∃ z, z = D / G % 18446744073709551616 := ⟨_, rfl⟩
    obtain ⟨rh, hrh⟩ : ∃ z, z = N % G / 18446744073709551616 := ⟨_, rfl⟩
    obtain ⟨rl, hrl⟩ : ∃ z, z = N % G % 18446744073709551616 := ⟨_, rfl⟩
    obtain ⟨sh, hsh⟩ : ∃ z, z = D % G / 18446744073709551616 := ⟨_, rfl⟩
    obtain ⟨sl, hsl⟩ : ∃ z, z = D % G % 18446744073709551616 := ⟨_, rfl⟩
    have WG : Hid (Wd G gh gl) := ⟨hgh, hgl⟩
    have WA : Hid (Wd (N / G) ah al) := ⟨hah, hal⟩
    have WB : Hid (Wd (D / G) bh bl) := ⟨hbh, hbl⟩
    have WR : Hid (Wd (N % G) rh rl) := ⟨hrh, hrl⟩
    have WS : Hid (Wd (D % G) sh sl) := ⟨hsh, hsl⟩
    have mc := made_cases N D neg hN.out.1 hN.out.2 hD1.out (hG ▸ WA.out) (hG ▸ WB.out)
    have WG' : Hid (Wd (Int.gcd N D) gh gl) := (hG ▸ WG.out : Wd (Int.gcd N D) gh gl)
    clear hgh hgl hah hal hbh hbl hrh hrl hsh hsl hG
    generalize (makeS (sg neg N) D).1 = o1 at *
    generalize (makeS (sg neg N) D).2.1 = o2 at *
    generalize (makeS (sg neg N) D).2.2 = o3 at *
    have c1 := fun W => rgcd_wd h1.out h2.out WG'.out hN.out.1 hN.out.2 hD1.out hD.out.2 W
    have c2 := fun W => rdiv_wd h1.out WG.out WA.out WR.out hN.out.1 hN.out.2 hG1.out.1 hG1.out.2 W
    have c3 := fun W => rdiv_wd h2.out WG.out WB.out WS.out hD.out.1 hD.out.2 hG1.out.1 hG1.out.2 W
    have C1 := Lib.hid c1
    have C2 := Lib.hid c2
    have C3 := Lib.hid c3
    clear c1 c2 c3 h1 h2 WG WG' WA WB WR WS hG1 hD1 hN hD
    rcases mc with ⟨m1, m9⟩ | ⟨m1, m2, m9⟩ | ⟨m1, m2, m3, m9⟩ | ⟨m1, m2, m3, m4, m9⟩ | ⟨m1, m5, m2, m3, m6, m4, m9⟩
    all_goals
      go_enter Tryd.func48, Tryd.ntmps48
      go_upto_region 1 with (fail)
      refine wp_forget (w0 := w) [(⟨w.heap.size, 0, none⟩, .int .u64 (nh)), (⟨w.heap.size, 1, none⟩, .int .u64 (nl)), (⟨w.heap.size + 1, 0, none⟩, .int .u64 (dh)), (⟨w.heap.size + 1, 1, none⟩, .int .u64 (dl)), (⟨w.heap.size + 1 + 1, 0, none⟩, .int .i64 (0)), (⟨w.heap.size + 1 + 1, 1, none⟩, .int .i64 (0))] (by first | (simp [Keep, go_sem, *]; done) | (simp [Keep, go_sem, *]; omega) | (simp (disch := first | omega | (simp; omega) | (simp; done)) [Keep, go_sem, cell_far, cell_off, RowKit.frozen?_alloc_cells, frozen_new, *]; done) | (simp (disch := first | omega | (simp; omega) | (simp; done)) [Keep, go_sem, cell_far, cell_off, RowKit.frozen?_alloc_cells, frozen_new, *]; omega)) (by repeat (first | exact Tr.refl _ | assumption | apply Tr.al | apply Tr.drN | apply Tr.dr | (refine Tr.set ?_ (by first | omega | (simp; done) | (simp; omega)) _))) ?_; intro w9 hs9 K9 T9; (try simp at hs9); simp only [Keep] at K9
      go_cut [15] (fun s wx => s = .bool false ∧ w9 = wx)
      case first =>
        rcases hz' with hz | ⟨hz, hz2⟩
        all_goals
          go_wp2_with fail
          go_meet
          exact ⟨rfl, rfl⟩
      obtain ⟨rfl, rfl⟩ := hcut
      clear hz'
      go_upto_region 4 with (go_at_call 51; (with_reducible refine (C1.out _).mono ?_); rintro e w1 ⟨rfl, ht1⟩; have T1 : Tr w w1 := Tr.trans (by repeat (first | exact Tr.refl _ | assumption | apply Tr.al | apply Tr.drN | apply Tr.dr | (refine Tr.set ?_ (by first | omega | (simp; done) | (simp; omega)) _))) ht1; have K1 := Keep.tr (l := [(⟨w.heap.size, 0, none⟩, .int .u64 (nh)), (⟨w.heap.size, 1, none⟩, .int .u64 (nl)), (⟨w.heap.size + 1, 0, none⟩, .int .u64 (dh)), (⟨w.heap.size + 1, 1, none⟩, .int .u64 (dl)), (⟨w.heap.size + 1 + 1, 0, none⟩, .int .i64 (0)), (⟨w.heap.size + 1 + 1, 1, none⟩, .int .i64 (0))]) (by first | (simp [Keep, go_sem, *]; done) | (simp [Keep, go_sem, *]; omega) | (simp (disch := first | omega | (simp; omega) | (simp; done)) [Keep, go_sem, cell_far, cell_off, RowKit.frozen?_alloc_cells, frozen_new, *]; done) | (simp (disch := first | omega | (simp; omega) | (simp; done)) [Keep, go_sem, cell_far, cell_off, RowKit.frozen?_alloc_cells, frozen_new, *]; omega)) ht1; have hz1 := Below.size ht1; (try simp at hz1); clear ht1; simp only [Keep] at K1)
      go_upto_region 5 with (go_at_call 69; (with_reducible refine (C2.out _).mono ?_); rintro e w2 ⟨rfl, ht2⟩; have T2 : Tr w w2 := Tr.trans (by repeat (first | exact Tr.refl _ | assumption | apply Tr.al | apply Tr.drN | apply Tr.dr | (refine Tr.set ?_ (by first | omega | (simp; done) | (simp; omega)) _))) ht2; have K2 := Keep.tr (l := [(⟨w.heap.size, 0, none⟩, .int .u64 (nh)), (⟨w.heap.size, 1, none⟩, .int .u64 (nl)), (⟨w.heap.size + 1, 0, none⟩, .int .u64 (dh)), (⟨w.heap.size + 1, 1, none⟩, .int .u64 (dl)), (⟨w.heap.size + 1 + 1, 0, none⟩, .int .i64 (0)), (⟨w.heap.size + 1 + 1, 1, none⟩, .int .i64 (0)), (⟨w1.heap.size, 0, none⟩, .int .u64 (gh)), (⟨w1.heap.size, 1, none⟩, .int .u64 (gl))]) (by first | (simp [Keep, go_sem, *]; done) | (simp [Keep, go_sem, *]; omega) | (simp (disch := first | omega | (simp; omega) | (simp; done)) [Keep, go_sem, cell_far, cell_off, RowKit.frozen?_alloc_cells, frozen_new, *]; done) | (simp (disch := first | omega | (simp; omega) | (simp; done)) [Keep, go_sem, cell_far, cell_off, RowKit.frozen?_alloc_cells, frozen_new, *]; omega)) ht2; have hz2 := Below.size ht2; (try simp at hz2); clear ht2; simp only [Keep] at K2)
      clear K1 T1
      go_upto_region 6 with (go_at_call 69; (with_reducible refine (C3.out _).mono ?_); rintro e w3 ⟨rfl, ht3⟩; have T3 : Tr w w3 := Tr.trans (by repeat (first | exact Tr.refl _ | assumption | apply Tr.al | apply Tr.drN | apply Tr.dr | (refine Tr.set ?_ (by first | omega | (simp; done) | (simp; omega)) _))) ht3; have K3 := Keep.tr (l := [(⟨w.heap.size, 0, none⟩, .int .u64 (nh)), (⟨w.heap.size, 1, none⟩, .int .u64 (nl)), (⟨w.heap.size + 1, 0, none⟩, .int .u64 (dh)), (⟨w.heap.size + 1, 1, none⟩, .int .u64 (dl)), (⟨w.heap.size + 1 + 1, 0, none⟩, .int .i64 (0)), (⟨w.heap.size + 1 + 1, 1, none⟩, .int .i64 (0)), (⟨w2.heap.size, 0, none⟩, .int .u64 (ah)), (⟨w2.heap.size, 1, none⟩, .int .u64 (al))]) (by first | (simp [Keep, go_sem, *]; done) | (simp [Keep, go_sem, *]; omega) | (simp (disch := first | omega | (simp; omega) | (simp; done)) [Keep, go_sem, cell_far, cell_off, RowKit.frozen?_alloc_cells, frozen_new, *]; done) | (simp (disch := first | omega | (simp; omega) | (simp; done)) [Keep, go_sem, cell_far, cell_off, RowKit.frozen?_alloc_cells, frozen_new, *]; omega)) ht3; have hz3 := Below.size ht3; (try simp at hz3); clear ht3; simp only [Keep] at K3)
      clear K2 T2
      obtain ⟨x1, x2, x3⟩ := m9.out
      cases neg
      all_goals
        go_wp2_with fail
        simp [bodyPost, results, Tryd.results48, go_sem, *]
        exact (by repeat (first | exact Tr.refl _ | assumption | apply Tr.al | apply Tr.drN | apply Tr.dr | (refine Tr.set ?_ (by first | omega | (simp; done) | (simp; omega)) _)))
end Go.Proofs.YtpjkiljgccjemaaDoor
