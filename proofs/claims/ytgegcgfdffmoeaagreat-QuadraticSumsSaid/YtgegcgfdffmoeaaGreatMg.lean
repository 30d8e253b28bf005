/- Contracts of the reference's Made, Make and Valid. | Contracts of the reference's Make, Valid, Times, Over, Floor and Ceil. | Contracts of the reference's Add, Sub, Cmp, Floor and Ceil. | Contracts of the reference's Sub, Cmp, Floor and Ceil. -/
import Derived.Test.YtgegcgfdffmoeaaGreatMf
import Derived.Test.YtgegcgfdffmoeaaGreatMe
namespace Go.Proofs.YtgegcgfdffmoeaaGreat
set_option linter.unusedVariables false
open Go.RowKit Go.Sort

def sg (neg : Bool) (n : Int) : Int := if neg then -n else n
theorem made_q (N D : Int) (neg : Bool) (hN : 0 ≤ N) (hD : 1 ≤ D) : (ratV (sg neg N) D).num = (if neg then -(N / (Int.gcd N D : Int)) else N / (Int.gcd N D : Int)) ∧ ((ratV (sg neg N) D).den : Int) = D / (Int.gcd N D : Int) := by
  have hg : Int.gcd (sg neg N) D = Int.gcd N D := by unfold sg;cases neg <;> simp
  have e1 := Rat.num_divInt (sg neg N) D
  have e2 := Rat.den_divInt (sg neg N) D
  rw [if_neg (by omega), Int.gcd_comm, hg] at e2
  rw [Int.gcd_comm, hg, Int.sign_eq_one_of_pos (by omega), Int.one_mul] at e1
  have dv : (Int.gcd N D : Int) ∣ N := Int.gcd_dvd_left ..
  constructor
  · show (Rat.divInt (sg neg N) D).num = _
    rw [e1]
    unfold sg
    cases neg
    · rfl
    · simp only [if_true];rw [Int.neg_ediv_of_dvd dv]
  · show ((Rat.divInt (sg neg N) D).den : Int) = _
    rw [e2]
    have : (D.natAbs : Int) = D := by omega
    rw [← this]
    simp
theorem made_cases (N D : Int) (neg : Bool) (hN : 0 ≤ N) (hN' : N < Big) (hD : 1 ≤ D) {nh nl dh dl : Int} (h1 : Wd (N / (Int.gcd N D : Int)) nh nl) (h2 : Wd (D / (Int.gcd N D : Int)) dh dl) :
    (0 < nh ∧ Hid ((makeS (sg neg N) D).1 = 0 ∧ (makeS (sg neg N) D).2.1 = 0 ∧ (makeS (sg neg N) D).2.2 = 5)) ∨
    (nh = 0 ∧ 1152921504606846976 < nl ∧ Hid ((makeS (sg neg N) D).1 = 0 ∧ (makeS (sg neg N) D).2.1 = 0 ∧ (makeS (sg neg N) D).2.2 = 5)) ∨
    (nh = 0 ∧ nl ≤ 1152921504606846976 ∧ 0 < dh ∧ Hid ((makeS (sg neg N) D).1 = 0 ∧ (makeS (sg neg N) D).2.1 = 0 ∧ (makeS (sg neg N) D).2.2 = 5)) ∨
    (nh = 0 ∧ nl ≤ 1152921504606846976 ∧ dh = 0 ∧ 1152921504606846976 < dl ∧ Hid ((makeS (sg neg N) D).1 = 0 ∧ (makeS (sg neg N) D).2.1 = 0 ∧ (makeS (sg neg N) D).2.2 = 5)) ∨
    (nh = 0 ∧ 0 ≤ nl ∧ nl ≤ 1152921504606846976 ∧ dh = 0 ∧ 0 ≤ dl ∧ dl ≤ 1152921504606846976 ∧ Hid ((makeS (sg neg N) D).1 = (if neg then -nl else nl) ∧ (makeS (sg neg N) D).2.1 = dl ∧ (makeS (sg neg N) D).2.2 = 0)) := by
  obtain ⟨q1, q2⟩ := made_q N D neg hN hD
  have hg0 : 0 < Int.gcd N D := Int.gcd_pos_of_ne_zero_right N (by omega)
  have nc0 : 0 ≤ N / (Int.gcd N D : Int) := Int.ediv_nonneg (by omega) (by omega)
  have nc1 : N / (Int.gcd N D : Int) ≤ N := Int.ediv_le_self _ (by omega)
  have dd0 : 1 ≤ D / (Int.gcd N D : Int) := by rw [← q2];have := (ratV (sg neg N) D).den_pos;omega
  have hm : makeS (sg neg N) D = outQ (ratV (sg neg N) D) := by unfold makeS;rw [if_neg (by omega)]
  have oc := out_cases (ratV (sg neg N) D) _ _ neg nc0 (by unfold Big at hN';omega) dd0 q1 q2
  rw [hm]
  obtain ⟨rfl, rfl⟩ := h1
  obtain ⟨rfl, rfl⟩ := h2
  generalize N / (Int.gcd N D : Int) = NC at *
  generalize D / (Int.gcd N D : Int) = DC at *
  rcases oc with ⟨o1, o2⟩ | ⟨o1, o3, o2⟩ | ⟨o1, o3, o4, o5, o2⟩ | ⟨o1, o3, o4, o5, o6, o7, o2⟩
  · exact .inl ⟨o1, o2⟩
  · by_cases h : NC % 18446744073709551616 ≤ 1152921504606846976
    · exact .inr (.inr (.inl ⟨o1, h, o3, o2⟩))
    · exact .inr (.inl ⟨o1, by omega, o2⟩)
  · by_cases h : NC % 18446744073709551616 ≤ 1152921504606846976
    · exact .inr (.inr (.inr (.inl ⟨o1, h, o3, by omega, o2⟩)))
    · exact .inr (.inl ⟨o1, by omega, o2⟩)
  · refine .inr (.inr (.inr (.inr ⟨o1, by omega, by omega, o3, by omega, by omega, ?_⟩)))
    rw [o6, o7]
    exact o2
theorem rgcd_wd {p q ph pl qh ql gh gl : Int} (h1 : Wd p ph pl) (h2 : Wd q qh ql) (h3 : Wd (Int.gcd p q) gh gl) (hp : 0 ≤ p) (hp' : p < Big) (hq : 1 ≤ q) (hq' : q < Big) (w : World) :
    Calls Tryz.prog 52 #[.agg #[.int .u64 ph, .int .u64 pl], .agg #[.int .u64 qh, .int .u64 ql]] w fun e w' => e = .returned (.agg #[.int .u64 gh, .int .u64 gl]) ∧ Tr w w' := by
  rcases wd_zero h1 hp hp' with ⟨rfl, rfl, rfl⟩ | hz
  · have e : (Int.gcd 0 q : Int) = q := by simp;omega
    rw [e] at h3
    obtain ⟨rfl, rfl⟩ := h3
    obtain ⟨rfl, rfl⟩ := h2
    generalize q / 18446744073709551616 = qh at *
    generalize q % 18446744073709551616 = ql at *
    clear h1 hp hp' hq hq' e
    go_enter Tryz.func52, Tryz.ntmps52
    go_wp2
    simp [bodyPost, results, Tryz.results52, go_sem, *]
    exact (by repeat (first | exact Tr.refl _ | assumption | apply Tr.al | apply Tr.drN | apply Tr.dr|(refine Tr.set ?_ (by first | omega|(simp;done)|(simp;omega)) _)))
  · have hp1 : 1 ≤ p := by rcases hz with h | h <;> exact h.1
    have hz' : (ph == 0) = false ∨ ((ph == 0) = true ∧ (pl == 0) = false) := by
      rcases hz with ⟨_, h⟩ | ⟨_, h, h'⟩
      · exact .inl h
      · exact .inr ⟨h, h'⟩
    refine (rgcd_core p q ph pl qh ql w hp1 hp' hq hq' h1 h2 hz').mono fun e w' ⟨gh', gl', hw, he, ht⟩ => ⟨?_, ht⟩
    obtain ⟨rfl, rfl⟩ := hw.out
    obtain ⟨rfl, rfl⟩ := h3
    exact he
theorem rdiv_wd {p b ph pl bh bl qh ql rh rl : Int} (h1 : Wd p ph pl) (h2 : Wd b bh bl) (h3 : Wd (p / b) qh ql) (h4 : Wd (p % b) rh rl) (hp : 0 ≤ p) (hp' : p < Big) (hb : 1 ≤ b) (hb' : b < Big) (w : World) :
    Calls Tryz.prog 127 #[.agg #[.int .u64 ph, .int .u64 pl], .agg #[.int .u64 bh, .int .u64 bl]] w fun e w' => e = .returned (.tuple #[.agg #[.int .u64 qh, .int .u64 ql], .agg #[.int .u64 rh, .int .u64 rl]]) ∧ Tr w w' := by
  obtain ⟨rfl, rfl⟩ := h1
  obtain ⟨rfl, rfl⟩ := h2
  obtain ⟨rfl, rfl⟩ := h3
  obtain ⟨rfl, rfl⟩ := h4
  exact rdiv_val p b w hp hp' hb hb'

set_option maxRecDepth 100000 in
set_option maxHeartbeats 2000000 in
theorem made_wd {N D nh nl dh dl : Int} (neg : Bool) (w : World) (h1 : Hid (Wd N nh nl)) (h2 : Hid (Wd D dh dl)) (hN : Hid (0 ≤ N ∧ N < Big)) (hD : Hid (0 ≤ D ∧ D < Big)) :
    Calls Tryz.prog 106 #[.agg #[.int .u64 nh, .int .u64 nl], .bool neg, .agg #[.int .u64 dh, .int .u64 dl]] w fun e w' =>
      e = .returned (.tuple #[.agg #[.int .i64 (makeS (sg neg N) D).1, .int .i64 (makeS (sg neg N) D).2.1], .int .i64 (makeS (sg neg N) D).2.2]) ∧ Tr w w' := by
  rcases wd_zero h2.out hD.out.1 hD.out.2 with ⟨rfl, rfl, rfl⟩ | hz
  · rw [show makeS (sg neg N) 0 = (0, 0, 16) by unfold makeS;rw [if_pos rfl]]
    go_enter Tryz.func106, Tryz.ntmps106
    go_wp2
    simp [bodyPost, results, Tryz.results106, go_sem, *]
    exact (by repeat (first | exact Tr.refl _ | assumption | apply Tr.al | apply Tr.drN | apply Tr.dr|(refine Tr.set ?_ (by first | omega|(simp;done)|(simp;omega)) _)))
  · have hD1 : Hid (1 ≤ D) := (by rcases hz with h | h <;> exact h.1 : 1 ≤ D)
    have hz' : (dh == 0) = false ∨ ((dh == 0) = true ∧ (dl == 0) = false) := by
      rcases hz with ⟨_, h⟩ | ⟨_, h, h'⟩
      · exact .inl h
      · exact .inr ⟨h, h'⟩
    clear hz
    obtain ⟨G, hG⟩ : ∃ G : Int, G = Int.gcd N D := ⟨_, rfl⟩
    have hG1 : Hid (1 ≤ G ∧ G < Big) := (by
      have := Int.gcd_pos_of_ne_zero_right N (b := D) (by have := hD1.out;omega)
      have := gcd_lt_big (p := N) hD1.out hD.out.2
      omega : 1 ≤ G ∧ G < Big)
    obtain ⟨gh, hgh⟩ : ∃ z, z = G / 18446744073709551616 := ⟨_, rfl⟩
    obtain ⟨gl, hgl⟩ : ∃ z, z = G % 18446744073709551616 := ⟨_, rfl⟩
    obtain ⟨ah, hah⟩ : ∃ z, z = N / G / 18446744073709551616 := ⟨_, rfl⟩
    obtain ⟨al, hal⟩ : ∃ z, z = N / G % 18446744073709551616 := ⟨_, rfl⟩
    obtain ⟨bh, hbh⟩ : ∃ z, z = D / G / 18446744073709551616 := ⟨_, rfl⟩
    obtain ⟨bl, hbl⟩ : ∃ z, z = D / G % 18446744073709551616 := ⟨_, rfl⟩
    obtain ⟨rh, hrh⟩ : ∃ z, z = N % G / 18446744073709551616 := ⟨_, rfl⟩
    obtain ⟨rl, hrl⟩ : ∃ z, z = N % G % 18446744073709551616 := ⟨_, rfl⟩
    obtain ⟨sh, hsh⟩ : ∃ z, z = D % G / 18446744073709551616 := ⟨_, rfl⟩
    obtain ⟨sl, hsl⟩ : ∃ z, z = D % G % 18446744073709551616 := ⟨_, rfl⟩
    have WG : Hid (Wd G gh gl) := ⟨hgh, hgl⟩
    have WA : Hid (Wd (N / G) ah al) := ⟨hah, hal⟩
    have WB : Hid (Wd (D / G) bh bl) := ⟨hbh, hbl⟩
    have WR : Hid (Wd (N % G) rh rl) := ⟨hrh, hrl⟩
    have WS : Hid (Wd (D % G) sh sl) := ⟨hsh, hsl⟩
    have mc := made_cases N D neg hN.out.1 hN.out.2 hD1.out (hG ▸ WA.out) (hG ▸ WB.out)
    have WG' : Hid (Wd (Int.gcd N D) gh gl) := (hG ▸ WG.out : Wd (Int.gcd N D) gh gl)
    clear hgh hgl hah hal hbh hbl hrh hrl hsh hsl hG
    generalize (makeS (sg neg N) D).1 = o1 at *
    generalize (makeS (sg neg N) D).2.1 = o2 at *
    generalize (makeS (sg neg N) D).2.2 = o3 at *
    have c1 := fun W => rgcd_wd h1.out h2.out WG'.out hN.out.1 hN.out.2 hD1.out hD.out.2 W
    have c2 := fun W => rdiv_wd h1.out WG.out WA.out WR.out hN.out.1 hN.out.2 hG1.out.1 hG1.out.2 W
    have c3 := fun W => rdiv_wd h2.out WG.out WB.out WS.out hD.out.1 hD.out.2 hG1.out.1 hG1.out.2 W
    have C1 := Lib.hid c1
    have C2 := Lib.hid c2
    have C3 := Lib.hid c3
    clear c1 c2 c3 h1 h2 WG WG' WA WB WR WS hG1 hD1 hN hD
    rcases mc with ⟨m1, m9⟩ | ⟨m1, m2, m9⟩ | ⟨m1, m2, m3, m9⟩ | ⟨m1, m2, m3, m4, m9⟩ | ⟨m1, m5, m2, m3, m6, m4, m9⟩
    all_goals
      go_enter Tryz.func106, Tryz.ntmps106
      go_upto_region 1 with (fail)
      refine wp_forget (w0 := w) [(⟨w.heap.size, 0, none⟩, .int .u64 (nh)), (⟨w.heap.size, 1, none⟩, .int .u64 (nl)), (⟨w.heap.size + 1, 0, none⟩, .int .u64 (dh)), (⟨w.heap.size + 1, 1, none⟩, .int .u64 (dl)), (⟨w.heap.size + 1 + 1, 0, none⟩, .int .i64 (0)), (⟨w.heap.size + 1 + 1, 1, none⟩, .int .i64 (0))] (by first|(simp [Keep, go_sem, *];done)|(simp [Keep, go_sem, *];omega)|(simp (disch := first | omega|(simp;omega)|(simp;done)) [Keep, go_sem, cell_far, cell_off, RowKit.frozen?_alloc_cells, frozen_new, *];done)|(simp (disch := first | omega|(simp;omega)|(simp;done)) [Keep, go_sem, cell_far, cell_off, RowKit.frozen?_alloc_cells, frozen_new, *];omega)) (by repeat (first | exact Tr.refl _ | assumption | apply Tr.al | apply Tr.drN | apply Tr.dr|(refine Tr.set ?_ (by first | omega|(simp;done)|(simp;omega)) _))) ?_;intro w9 hs9 K9 T9;(try simp at hs9);simp only [Keep] at K9
      go_cut [15] (fun s wx => s = .bool false ∧ w9 = wx)
      case first =>
        rcases hz' with hz | ⟨hz, hz2⟩
        all_goals
          go_wp2_with fail
          go_meet
          exact ⟨rfl, rfl⟩
      obtain ⟨rfl, rfl⟩ := hcut
      clear hz'
      go_upto_region 4 with (go_at_call 52;(with_reducible refine (C1.out _).mono ?_);rintro e w1 ⟨rfl, ht1⟩;have T1 : Tr w w1 := Tr.trans (by repeat (first | exact Tr.refl _ | assumption | apply Tr.al | apply Tr.drN | apply Tr.dr|(refine Tr.set ?_ (by first | omega|(simp;done)|(simp;omega)) _))) ht1;have K1 := Keep.tr (l := [(⟨w.heap.size, 0, none⟩, .int .u64 (nh)), (⟨w.heap.size, 1, none⟩, .int .u64 (nl)), (⟨w.heap.size + 1, 0, none⟩, .int .u64 (dh)), (⟨w.heap.size + 1, 1, none⟩, .int .u64 (dl)), (⟨w.heap.size + 1 + 1, 0, none⟩, .int .i64 (0)), (⟨w.heap.size + 1 + 1, 1, none⟩, .int .i64 (0))]) (by first|(simp [Keep, go_sem, *];done)|(simp [Keep, go_sem, *];omega)|(simp (disch := first | omega|(simp;omega)|(simp;done)) [Keep, go_sem, cell_far, cell_off, RowKit.frozen?_alloc_cells, frozen_new, *];done)|(simp (disch := first | omega|(simp;omega)|(simp;done)) [Keep, go_sem, cell_far, cell_off, RowKit.frozen?_alloc_cells, frozen_new, *];omega)) ht1;have hz1 := Below.size ht1;(try simp at hz1);clear ht1;simp only [Keep] at K1)
      go_upto_region 5 with (go_at_call 127;(with_reducible refine (C2.out _).mono ?_);rintro e w2 ⟨rfl, ht2⟩;have T2 : Tr w w2 := Tr.trans (by repeat (first | exact Tr.refl _ | assumption | apply Tr.al | apply Tr.drN | apply Tr.dr|(refine Tr.set ?_ (by first | omega|(simp;done)|(simp;omega)) _))) ht2;have K2 := Keep.tr (l := [(⟨w.heap.size, 0, none⟩, .int .u64 (nh)), (⟨w.heap.size, 1, none⟩, .int .u64 (nl)), (⟨w.heap.size + 1, 0, none⟩, .int .u64 (dh)), (⟨w.heap.size + 1, 1, none⟩, .int .u64 (dl)), (⟨w.heap.size + 1 + 1, 0, none⟩, .int .i64 (0)), (⟨w.heap.size + 1 + 1, 1, none⟩, .int .i64 (0)), (⟨w1.heap.size, 0, none⟩, .int .u64 (gh)), (⟨w1.heap.size, 1, none⟩, .int .u64 (gl))]) (by first|(simp [Keep, go_sem, *];done)|(simp [Keep, go_sem, *];omega)|(simp (disch := first | omega|(simp;omega)|(simp;done)) [Keep, go_sem, cell_far, cell_off, RowKit.frozen?_alloc_cells, frozen_new, *];done)|(simp (disch := first | omega|(simp;omega)|(simp;done)) [Keep, go_sem, cell_far, cell_off, RowKit.frozen?_alloc_cells, frozen_new, *];omega)) ht2;have hz2 := Below.size ht2;(try simp at hz2);clear ht2;simp only [Keep] at K2)
      clear K1 T1
      go_upto_region 6 with (go_at_call 127;(with_reducible refine (C3.out _).mono ?_);rintro e w3 ⟨rfl, ht3⟩;have T3 : Tr w w3 := Tr.trans (by repeat (first | exact Tr.refl _ | assumption | apply Tr.al | apply Tr.drN | apply Tr.dr|(refine Tr.set ?_ (by first | omega|(simp;done)|(simp;omega)) _))) ht3;have K3 := Keep.tr (l := [(⟨w.heap.size, 0, none⟩, .int .u64 (nh)), (⟨w.heap.size, 1, none⟩, .int .u64 (nl)), (⟨w.heap.size + 1, 0, none⟩, .int .u64 (dh)), (⟨w.heap.size + 1, 1, none⟩, .int .u64 (dl)), (⟨w.heap.size + 1 + 1, 0, none⟩, .int .i64 (0)), (⟨w.heap.size + 1 + 1, 1, none⟩, .int .i64 (0)), (⟨w2.heap.size, 0, none⟩, .int .u64 (ah)), (⟨w2.heap.size, 1, none⟩, .int .u64 (al))]) (by first|(simp [Keep, go_sem, *];done)|(simp [Keep, go_sem, *];omega)|(simp (disch := first | omega|(simp;omega)|(simp;done)) [Keep, go_sem, cell_far, cell_off, RowKit.frozen?_alloc_cells, frozen_new, *];done)|(simp (disch := first | omega|(simp;omega)|(simp;done)) [Keep, go_sem, cell_far, cell_off, RowKit.frozen?_alloc_cells, frozen_new, *];omega)) ht3;have hz3 := Below.size ht3;(try simp at hz3);clear ht3;simp only [Keep] at K3)
      clear K2 T2
      obtain ⟨x1, x2, x3⟩ := m9.out
      cases neg
      all_goals
        go_wp2_with fail
        simp [bodyPost, results, Tryz.results106, go_sem, *]
        exact (by repeat (first | exact Tr.refl _ | assumption | apply Tr.al | apply Tr.drN | apply Tr.dr|(refine Tr.set ?_ (by first | omega|(simp;done)|(simp;omega)) _)))
end Go.Proofs.YtgegcgfdffmoeaaGreat
namespace Go.Proofs.YtgegcgfdffmoeaaGreat
set_option linter.unusedVariables false
open Go.RowKit Go.Sort

theorem makesU (o : Oper) (hg : o.guard = none) (ho : o.op = .alloc 89) : MakesBlock Tryz.prog o #[.int .u64 0, .int .u64 0] 89 :=
  ⟨hg, fun a w => by unfold execOp;simp [ho, go_sem]⟩
theorem wd0 {x : Int} (h0 : 0 ≤ x) (h1 : x < 18446744073709551616) : Wd x 0 x := ⟨by omega, by omega⟩
theorem sgn_cases (n d : Int) : (decide (n < 0) = true ∧ decide (d < 0) = true ∧ (decide (n < 0) != decide (d < 0)) = false) ∨ (decide (n < 0) = true ∧ decide (d < 0) = false ∧ (decide (n < 0) != decide (d < 0)) = true) ∨
    (decide (n < 0) = false ∧ decide (d < 0) = true ∧ (decide (n < 0) != decide (d < 0)) = true) ∨ (decide (n < 0) = false ∧ decide (d < 0) = false ∧ (decide (n < 0) != decide (d < 0)) = false) := by
  by_cases h1 : n < 0 <;> by_cases h2 : d < 0 <;> simp [h1, h2]
theorem big_of {x : Int} (h : x < 18446744073709551616) : x < Big := by unfold Big;omega
set_option maxHeartbeats 1000000 in
theorem rvalid_any (n d : Int) (w : World) :
    Calls Tryz.prog 12 #[.agg #[.int .i64 n, .int .i64 d]] w fun e w' => e = .returned (.bool (validB n d)) ∧ Tr w w' := by
  by_cases hv : 1 ≤ d ∧ d ≤ 1152921504606846976 ∧ -1152921504606846976 ≤ n ∧ n ≤ 1152921504606846976
  · obtain ⟨h1, h2, h3, h4⟩ := hv
    have e1 : validB n d = ((Int.gcd n d : Int) == 1) := by
      rw [Bool.eq_iff_iff, validB_spec]
      simp
      exact ⟨fun h => by omega, fun h => ⟨h1, h2, h3, h4, by omega⟩⟩
    rw [e1]
    have hg : (Int.gcd n.natAbs d.natAbs : Int) = Int.gcd n d := by simp [Int.gcd]
    have hgp := Int.gcd_pos_of_ne_zero_right n (b := d) (by omega)
    have hgl : (Int.gcd n d : Int) ≤ d := Int.gcd_le_right _ (by omega)
    have c1 := fun W => rgcd_wd (wd0 (x := n.natAbs) (by omega) (by omega)) (wd0 (x := d.natAbs) (by omega) (by omega)) (by rw [hg];exact wd0 (x := Int.gcd n d) (by omega) (by omega)) (by omega) (big_of (by omega)) (by omega) (big_of (by omega)) W
    have C1 := Lib.hid c1
    clear c1 hg hgp hgl e1
    generalize (Int.gcd n d : Int) = G at *
    obtain ⟨B, hB⟩ : ∃ B : Bool, (G == 1) = B := ⟨_, rfl⟩
    rw [hB]
    cases B
    all_goals
      go_enter Tryz.func12, Tryz.ntmps12
      go_upto_region 3 with (fail)
      refine wp_region_mix0 12 (by kernel_rfl) (by kernel_rfl) ?_
      intro wq hwq
      have kq := Keep.cl (l := [(⟨w.heap.size, 0, none⟩, .int .i64 (n)), (⟨w.heap.size, 1, none⟩, .int .i64 (d))]) (by first|(simp [Keep, go_sem, *];done)|(simp [Keep, go_sem, *];omega)|(simp (disch := first | omega|(simp;omega)|(simp;done)) [Keep, go_sem, cell_far, cell_off, RowKit.frozen?_alloc_cells, frozen_new, *];done)|(simp (disch := first | omega|(simp;omega)|(simp;done)) [Keep, go_sem, cell_far, cell_off, RowKit.frozen?_alloc_cells, frozen_new, *];omega)) hwq
      simp only [KeepCl] at kq
      simp only [List.take_succ_cons, List.take_zero, List.drop_succ_cons, List.drop_zero]
      repeat (go_big_quiet_step (first|(go_at_call 53;exact calls_cl_same (rsize_any _ (by omega) (by omega) _))|(go_at_call 52;with_reducible exact calls_cl (C1.out _))))
      refine wpQuiet_nil ?_
      intro w3 ht3
      have K3 := Keep.tr (l := [(⟨w.heap.size, 0, none⟩, .int .i64 (n)), (⟨w.heap.size, 1, none⟩, .int .i64 (d))]) (by first|(simp [Keep, go_sem, *];done)|(simp [Keep, go_sem, *];omega)|(simp (disch := first | omega|(simp;omega)|(simp;done)) [Keep, go_sem, cell_far, cell_off, RowKit.frozen?_alloc_cells, frozen_new, *];done)|(simp (disch := first | omega|(simp;omega)|(simp;done)) [Keep, go_sem, cell_far, cell_off, RowKit.frozen?_alloc_cells, frozen_new, *];omega)) ht3
      have T3 : Tr w w3 := Tr.trans (by repeat (first | exact Tr.refl _ | assumption | apply Tr.al | apply Tr.drN | apply Tr.dr|(refine Tr.set ?_ (by first | omega|(simp;done)|(simp;omega)) _))) ht3
      have hs3 := Below.size ht3
      (try simp at hs3)
      simp only [Keep] at K3
      clear ht3 hwq kq
      go_wp2
      go_ret
      exact ⟨rfl, (by repeat (first | exact Tr.refl _ | assumption | apply Tr.al | apply Tr.drN | apply Tr.dr|(refine Tr.set ?_ (by first | omega|(simp;done)|(simp;omega)) _)))⟩
  · rw [validB_not (fun h => hv ⟨h.1, h.2.1, h.2.2.1, h.2.2.2.1⟩)]
    have hc : d < 1 ∨ (1 ≤ d ∧ 1152921504606846976 < d) ∨ (1 ≤ d ∧ d ≤ 1152921504606846976 ∧ n < -1152921504606846976) ∨ (1 ≤ d ∧ d ≤ 1152921504606846976 ∧ -1152921504606846976 ≤ n ∧ 1152921504606846976 < n) := by omega
    clear hv
    rcases hc with h | ⟨h1, h2⟩ | ⟨h1, h2, h3⟩ | ⟨h1, h2, h3, h4⟩
    all_goals
      go_enter Tryz.func12, Tryz.ntmps12
      go_wp2
      go_ret
      exact ⟨rfl, (by repeat (first | exact Tr.refl _ | assumption | apply Tr.al | apply Tr.drN | apply Tr.dr|(refine Tr.set ?_ (by first | omega|(simp;done)|(simp;omega)) _)))⟩

theorem prod_big {a b : Int} (ha : 0 ≤ a) (ha' : a ≤ 1152921504606846976) (hb : 0 ≤ b) (hb' : b ≤ 1152921504606846976) : 0 ≤ a * b ∧ a * b < Big := by
  obtain ⟨h1, h2⟩ := mul_le60 a b ha ha' hb hb'
  exact ⟨h1, by unfold Big;omega⟩
theorem times_q {an ad bn bd : Int} (va : validB an ad = true) (vb : validB bn bd = true) :
    makeS (sg (decide (an < 0) != decide (bn < 0)) ((an.natAbs : Int) * bn.natAbs)) ((ad.natAbs : Int) * bd.natAbs) = mulS an ad bn bd := by
  obtain ⟨a1, _⟩ := validB_spec.1 va
  obtain ⟨b1, _⟩ := validB_spec.1 vb
  rw [show ((ad.natAbs : Nat) : Int) = ad by omega, show ((bd.natAbs : Nat) : Int) = bd by omega]
  have hd : ad * bd ≠ 0 := by have := Int.mul_pos (a := ad) (b := bd) (by omega) (by omega);omega
  have e : sg (decide (an < 0) != decide (bn < 0)) ((an.natAbs : Int) * bn.natAbs) = an * bn := by
    unfold sg
    by_cases h1 : an < 0 <;> by_cases h2 : bn < 0
    · simp only [h1, h2, decide_true, bne_self_eq_false, Bool.false_eq_true, if_false]
      rw [show ((an.natAbs : Nat) : Int) = -an by omega, show ((bn.natAbs : Nat) : Int) = -bn by omega, Int.neg_mul_neg]
    · simp only [h1, h2, decide_true, decide_false, Bool.bne_false, if_true]
      rw [show ((an.natAbs : Nat) : Int) = -an by omega, show ((bn.natAbs : Nat) : Int) = bn by omega, Int.neg_mul, Int.neg_neg]
    · simp only [h1, h2, decide_true, decide_false, Bool.false_bne, if_true]
      rw [show ((an.natAbs : Nat) : Int) = an by omega, show ((bn.natAbs : Nat) : Int) = -bn by omega, Int.mul_neg, Int.neg_neg]
    · simp only [h1, h2, decide_false, bne_self_eq_false, Bool.false_eq_true, if_false]
      rw [show ((an.natAbs : Nat) : Int) = an by omega, show ((bn.natAbs : Nat) : Int) = bn by omega]
  rw [e]
  unfold makeS mulS
  rw [if_neg hd, if_pos ⟨va, vb⟩]
  unfold ratV
  rw [Rat.divInt_mul_divInt]
set_option maxRecDepth 100000 in
set_option maxHeartbeats 1000000 in
theorem rtimes_any (an ad bn bd : Int) (w : World) (va : validB an ad = true) (vb : validB bn bd = true) :
    Calls Tryz.prog 70 #[.agg #[.int .i64 an, .int .i64 ad], .agg #[.int .i64 bn, .int .i64 bd]] w fun e w' =>
      e = .returned (.tuple #[.agg #[.int .i64 (mulS an ad bn bd).1, .int .i64 (mulS an ad bn bd).2.1], .int .i64 (mulS an ad bn bd).2.2]) ∧ Tr w w' := by
  obtain ⟨a1, a2, a3, a4, _⟩ := validB_spec.1 va
  obtain ⟨b1, b2, b3, b4, _⟩ := validB_spec.1 vb
  have c1 := fun W => made_wd (nh := _) (nl := _) (dh := _) (dl := _) (decide (an < 0) != decide (bn < 0)) W (⟨rfl, rfl⟩ : Wd ((an.natAbs : Int) * bn.natAbs) _ _) (⟨rfl, rfl⟩ : Wd ((ad.natAbs : Int) * bd.natAbs) _ _) (prod_big (by omega) (by omega) (by omega) (by omega)) (prod_big (by omega) (by omega) (by omega) (by omega))
  rw [times_q va vb] at c1
  have m1 := fun W => rmul_any an.natAbs bn.natAbs W (by omega) (by omega) (by omega) (by omega)
  have m2 := fun W => rmul_any ad.natAbs bd.natAbs W (by omega) (by omega) (by omega) (by omega)
  generalize ((an.natAbs : Int) * bn.natAbs) / 18446744073709551616 = xh at *
  generalize ((an.natAbs : Int) * bn.natAbs) % 18446744073709551616 = xl at *
  generalize ((ad.natAbs : Int) * bd.natAbs) / 18446744073709551616 = yh at *
  generalize ((ad.natAbs : Int) * bd.natAbs) % 18446744073709551616 = yl at *
  have M1 := Lib.hid m1
  have M2 := Lib.hid m2
  clear m1 m2
  generalize (mulS an ad bn bd).1 = o1 at *
  generalize (mulS an ad bn bd).2.1 = o2 at *
  generalize (mulS an ad bn bd).2.2 = o3 at *
  rcases sgn_cases an bn with ⟨s1, s2, s3⟩ | ⟨s1, s2, s3⟩ | ⟨s1, s2, s3⟩ | ⟨s1, s2, s3⟩
  all_goals
    rw [s3] at c1
    have C1 := Lib.hid c1
    clear c1 s3
    go_enter Tryz.func70, Tryz.ntmps70
    go_upto_region 1 with (fail)
    refine wp_region_mix0 24 (by kernel_rfl) (by kernel_rfl) ?_
    intro wq hwq
    have kq := Keep.cl (l := [(⟨w.heap.size, 0, none⟩, .int .i64 (an)), (⟨w.heap.size, 1, none⟩, .int .i64 (ad)), (⟨w.heap.size + 1, 0, none⟩, .int .i64 (bn)), (⟨w.heap.size + 1, 1, none⟩, .int .i64 (bd)), (⟨w.heap.size + 1 + 1, 0, none⟩, .int .i64 (0)), (⟨w.heap.size + 1 + 1, 1, none⟩, .int .i64 (0))]) (by first|(simp [Keep, go_sem, *];done)|(simp [Keep, go_sem, *];omega)|(simp (disch := first | omega|(simp;omega)|(simp;done)) [Keep, go_sem, cell_far, cell_off, RowKit.frozen?_alloc_cells, frozen_new, *];done)|(simp (disch := first | omega|(simp;omega)|(simp;done)) [Keep, go_sem, cell_far, cell_off, RowKit.frozen?_alloc_cells, frozen_new, *];omega)) hwq
    simp only [KeepCl] at kq
    simp only [List.take_succ_cons, List.take_zero, List.drop_succ_cons, List.drop_zero]
    repeat (go_big_quiet_step (first|(go_at_call 53;exact calls_cl_same (rsize_any _ (by omega) (by omega) _))|(go_at_call 67;first | with_reducible exact calls_cl (M1.out _) | with_reducible exact calls_cl (M2.out _))|(go_at_call 106;with_reducible exact calls_cl (C1.out _))))
    refine wpQuiet_nil ?_
    intro w3 ht3
    have K3 := Keep.tr (l := [(⟨w.heap.size, 0, none⟩, .int .i64 (an)), (⟨w.heap.size, 1, none⟩, .int .i64 (ad)), (⟨w.heap.size + 1, 0, none⟩, .int .i64 (bn)), (⟨w.heap.size + 1, 1, none⟩, .int .i64 (bd)), (⟨w.heap.size + 1 + 1, 0, none⟩, .int .i64 (0)), (⟨w.heap.size + 1 + 1, 1, none⟩, .int .i64 (0))]) (by first|(simp [Keep, go_sem, *];done)|(simp [Keep, go_sem, *];omega)|(simp (disch := first | omega|(simp;omega)|(simp;done)) [Keep, go_sem, cell_far, cell_off, RowKit.frozen?_alloc_cells, frozen_new, *];done)|(simp (disch := first | omega|(simp;omega)|(simp;done)) [Keep, go_sem, cell_far, cell_off, RowKit.frozen?_alloc_cells, frozen_new, *];omega)) ht3
    have T3 : Tr w w3 := Tr.trans (by repeat (first | exact Tr.refl _ | assumption | apply Tr.al | apply Tr.drN | apply Tr.dr|(refine Tr.set ?_ (by first | omega|(simp;done)|(simp;omega)) _))) ht3
    have hs3 := Below.size ht3
    (try simp at hs3)
    simp only [Keep] at K3
    clear ht3 hwq kq
    go_wp2
    simp [bodyPost, results, Tryz.results70, go_sem, *]
    exact (by repeat (first | exact Tr.refl _ | assumption | apply Tr.al | apply Tr.drN | apply Tr.dr|(refine Tr.set ?_ (by first | omega|(simp;done)|(simp;omega)) _)))
end Go.Proofs.YtgegcgfdffmoeaaGreat
namespace Go.Proofs.YtgegcgfdffmoeaaGreat
set_option linter.unusedVariables false
open Go.RowKit Go.Sort

theorem add_q {an ad bn bd n : Int} (va : validB an ad = true) (vb : validB bn bd = true) (hn : n = an * bd + bn * ad) : makeS n ((ad.natAbs : Int) * bd.natAbs) = addS an ad bn bd := by
  obtain ⟨a1, _⟩ := validB_spec.1 va
  obtain ⟨b1, _⟩ := validB_spec.1 vb
  rw [show ((ad.natAbs : Nat) : Int) = ad by omega, show ((bd.natAbs : Nat) : Int) = bd by omega]
  have hd : ad * bd ≠ 0 := by have := Int.mul_pos (a := ad) (b := bd) (by omega) (by omega);omega
  unfold makeS addS
  rw [if_neg hd, if_pos ⟨va, vb⟩, hn]
  unfold ratV
  rw [Rat.divInt_add_divInt _ _ (by omega) (by omega)]
theorem radd_made {an ad bn bd S dh dl sh sl : Int} (neg : Bool) (va : validB an ad = true) (vb : validB bn bd = true) (hS : sg neg S = an * bd + bn * ad) (h0 : 0 ≤ S) (hb : S < Big) (WS : Wd S sh sl)
    (WD : Wd ((ad.natAbs : Int) * bd.natAbs) dh dl) (w : World) :
    Calls Tryz.prog 106 #[.agg #[.int .u64 sh, .int .u64 sl], .bool neg, .agg #[.int .u64 dh, .int .u64 dl]] w fun e w' =>
      e = .returned (.tuple #[.agg #[.int .i64 (addS an ad bn bd).1, .int .i64 (addS an ad bn bd).2.1], .int .i64 (addS an ad bn bd).2.2]) ∧ Tr w w' := by
  obtain ⟨a1, a2, a3, a4, _⟩ := validB_spec.1 va
  obtain ⟨b1, b2, b3, b4, _⟩ := validB_spec.1 vb
  have := made_wd (N := S) (D := (ad.natAbs : Int) * bd.natAbs) neg w WS WD ⟨h0, hb⟩ (prod_big (by omega) (by omega) (by omega) (by omega))
  rw [add_q va vb hS] at this
  exact this
theorem sum_parts {an ad bn bd : Int} (va : validB an ad = true) (vb : validB bn bd = true) :
    (decide (an < 0) = true ∧ decide (bn < 0) = true ∧ sg true ((an.natAbs : Int) * bd.natAbs + (bn.natAbs : Int) * ad.natAbs) = an * bd + bn * ad) ∨
    (decide (an < 0) = false ∧ decide (bn < 0) = false ∧ sg false ((an.natAbs : Int) * bd.natAbs + (bn.natAbs : Int) * ad.natAbs) = an * bd + bn * ad) ∨
    (decide (an < 0) = true ∧ decide (bn < 0) = false ∧ sg false ((bn.natAbs : Int) * ad.natAbs - (an.natAbs : Int) * bd.natAbs) = an * bd + bn * ad ∧ sg true ((an.natAbs : Int) * bd.natAbs - (bn.natAbs : Int) * ad.natAbs) = an * bd + bn * ad) ∨
    (decide (an < 0) = false ∧ decide (bn < 0) = true ∧ sg true ((bn.natAbs : Int) * ad.natAbs - (an.natAbs : Int) * bd.natAbs) = an * bd + bn * ad ∧ sg false ((an.natAbs : Int) * bd.natAbs - (bn.natAbs : Int) * ad.natAbs) = an * bd + bn * ad) := by
  obtain ⟨a1, _⟩ := validB_spec.1 va
  obtain ⟨b1, _⟩ := validB_spec.1 vb
  rw [show ((ad.natAbs : Nat) : Int) = ad by omega, show ((bd.natAbs : Nat) : Int) = bd by omega]
  by_cases h1 : an < 0 <;> by_cases h2 : bn < 0
  · refine .inl ⟨by simp [h1], by simp [h2], ?_⟩
    rw [show ((an.natAbs : Nat) : Int) = -an by omega, show ((bn.natAbs : Nat) : Int) = -bn by omega]
    simp only [sg, if_true];rw [Int.neg_mul, Int.neg_mul];omega
  · refine .inr (.inr (.inl ⟨by simp [h1], by simp [h2], ?_, ?_⟩)) <;>
    rw [show ((an.natAbs : Nat) : Int) = -an by omega, show ((bn.natAbs : Nat) : Int) = bn by omega] <;>
    simp only [sg, if_true, Bool.false_eq_true, if_false] <;> rw [Int.neg_mul] <;> omega
  · refine .inr (.inr (.inr ⟨by simp [h1], by simp [h2], ?_, ?_⟩)) <;>
    rw [show ((an.natAbs : Nat) : Int) = an by omega, show ((bn.natAbs : Nat) : Int) = -bn by omega] <;>
    simp only [sg, if_true, Bool.false_eq_true, if_false] <;> rw [Int.neg_mul] <;> omega
  · refine .inr (.inl ⟨by simp [h1], by simp [h2], ?_⟩)
    rw [show ((an.natAbs : Nat) : Int) = an by omega, show ((bn.natAbs : Nat) : Int) = bn by omega]
    simp only [sg, Bool.false_eq_true, if_false]

set_option maxRecDepth 100000 in
set_option maxHeartbeats 4000000 in
theorem radd_any (an ad bn bd : Int) (w : World) (va : validB an ad = true) (vb : validB bn bd = true) :
    Calls Tryz.prog 77 #[.agg #[.int .i64 an, .int .i64 ad], .agg #[.int .i64 bn, .int .i64 bd]] w fun e w' =>
      e = .returned (.tuple #[.agg #[.int .i64 (addS an ad bn bd).1, .int .i64 (addS an ad bn bd).2.1], .int .i64 (addS an ad bn bd).2.2]) ∧ Tr w w' := by
  obtain ⟨p1, p2, p3, p4, _⟩ := validB_spec.1 va
  obtain ⟨q1, q2, q3, q4, _⟩ := validB_spec.1 vb
  have m1 := fun W => rmul_any an.natAbs bd.natAbs W (by omega) (by omega) (by omega) (by omega)
  have m2 := fun W => rmul_any bn.natAbs ad.natAbs W (by omega) (by omega) (by omega) (by omega)
  have m3 := fun W => rmul_any ad.natAbs bd.natAbs W (by omega) (by omega) (by omega) (by omega)
  have cm := fun (neg : Bool) (S sh sl : Int) (hS : sg neg S = an * bd + bn * ad) (h0 : 0 ≤ S) (hb : S < Big) (WS : Wd S sh sl) W => radd_made neg va vb hS h0 hb WS ⟨rfl, rfl⟩ W
  have sp := sum_parts va vb
  have bx := mul_le60 (an.natAbs : Int) bd.natAbs (by omega) (by omega) (by omega) (by omega)
  have b_y := mul_le60 (bn.natAbs : Int) ad.natAbs (by omega) (by omega) (by omega) (by omega)
  generalize ((ad.natAbs : Int) * bd.natAbs) / 18446744073709551616 = dh at *
  generalize ((ad.natAbs : Int) * bd.natAbs) % 18446744073709551616 = dl at *
  generalize ((an.natAbs : Int) * bd.natAbs) = X at *
  generalize ((bn.natAbs : Int) * ad.natAbs) = Y at *
  obtain ⟨xh, hxh⟩ : ∃ z, z = X / 18446744073709551616 := ⟨_, rfl⟩
  obtain ⟨xl, hxl⟩ : ∃ z, z = X % 18446744073709551616 := ⟨_, rfl⟩
  obtain ⟨yh, hyh⟩ : ∃ z, z = Y / 18446744073709551616 := ⟨_, rfl⟩
  obtain ⟨yl, hyl⟩ : ∃ z, z = Y % 18446744073709551616 := ⟨_, rfl⟩
  rw [← hxh, ← hxl] at m1
  rw [← hyh, ← hyl] at m2
  have WX : Hid (Wd X xh xl) := ⟨hxh, hxl⟩
  have WY : Hid (Wd Y yh yl) := ⟨hyh, hyl⟩
  have BX := Lib.hid bx
  have BY := Lib.hid b_y
  have M1 := Lib.hid m1
  have M2 := Lib.hid m2
  have M3 := Lib.hid m3
  have CM := Lib.hid cm
  clear m1 m2 m3 cm hxh hxl hyh hyl bx b_y
  generalize (addS an ad bn bd).1 = o1 at *
  generalize (addS an ad bn bd).2.1 = o2 at *
  generalize (addS an ad bn bd).2.2 = o3 at *
  have cases : ∃ neg : Bool, ∃ S sh sl : Int, Hid (sg neg S = an * bd + bn * ad) ∧ Hid (0 ≤ S ∧ S < Big) ∧ Hid (Wd S sh sl) ∧
      ((decide (an < 0) = true ∧ decide (bn < 0) = true ∧ Hid (S = X + Y) ∧ neg = true) ∨ (decide (an < 0) = false ∧ decide (bn < 0) = false ∧ Hid (S = X + Y) ∧ neg = false) ∨
       (decide (an < 0) = true ∧ decide (bn < 0) = false ∧ Hid (X < Y) ∧ Hid (S = Y - X) ∧ neg = false) ∨ (decide (an < 0) = true ∧ decide (bn < 0) = false ∧ Hid (¬ X < Y) ∧ Hid (S = X - Y) ∧ neg = true) ∨
       (decide (an < 0) = false ∧ decide (bn < 0) = true ∧ Hid (X < Y) ∧ Hid (S = Y - X) ∧ neg = true) ∨ (decide (an < 0) = false ∧ decide (bn < 0) = true ∧ Hid (¬ X < Y) ∧ Hid (S = X - Y) ∧ neg = false)) := by
    obtain ⟨x0, x1⟩ := BX.out
    obtain ⟨y0, y1⟩ := BY.out
    have hBig : Big = 340282366920938463463374607431768211456 := rfl
    rcases sp with ⟨s1, s2, s3⟩ | ⟨s1, s2, s3⟩ | ⟨s1, s2, s3, s4⟩ | ⟨s1, s2, s3, s4⟩
    · exact ⟨true, X + Y, _, _, s3, (by omega : 0 ≤ X + Y ∧ X + Y < Big), (⟨rfl, rfl⟩ : Wd (X + Y) _ _), .inl ⟨s1, s2, (rfl : X + Y = X + Y), rfl⟩⟩
    · exact ⟨false, X + Y, _, _, s3, (by omega : 0 ≤ X + Y ∧ X + Y < Big), (⟨rfl, rfl⟩ : Wd (X + Y) _ _), .inr (.inl ⟨s1, s2, (rfl : X + Y = X + Y), rfl⟩)⟩
    · by_cases h : X < Y
      · exact ⟨false, Y - X, _, _, s3, (by omega : 0 ≤ Y - X ∧ Y - X < Big), (⟨rfl, rfl⟩ : Wd (Y - X) _ _), .inr (.inr (.inl ⟨s1, s2, h, (rfl : Y - X = Y - X), rfl⟩))⟩
      · exact ⟨true, X - Y, _, _, s4, (by omega : 0 ≤ X - Y ∧ X - Y < Big), (⟨rfl, rfl⟩ : Wd (X - Y) _ _), .inr (.inr (.inr (.inl ⟨s1, s2, h, (rfl : X - Y = X - Y), rfl⟩)))⟩
    · by_cases h : X < Y
      · exact ⟨true, Y - X, _, _, s3, (by omega : 0 ≤ Y - X ∧ Y - X < Big), (⟨rfl, rfl⟩ : Wd (Y - X) _ _), .inr (.inr (.inr (.inr (.inl ⟨s1, s2, h, (rfl : Y - X = Y - X), rfl⟩))))⟩
      · exact ⟨false, X - Y, _, _, s4, (by omega : 0 ≤ X - Y ∧ X - Y < Big), (⟨rfl, rfl⟩ : Wd (X - Y) _ _), .inr (.inr (.inr (.inr (.inr ⟨s1, s2, h, (rfl : X - Y = X - Y), rfl⟩))))⟩
  clear sp
  obtain ⟨neg, S, sh, sl, hS, hB, WS, hc⟩ := cases
  have CM1 : Hid (∀ W, Calls Tryz.prog 106 #[.agg #[.int .u64 sh, .int .u64 sl], .bool neg, .agg #[.int .u64 dh, .int .u64 dl]] W fun e w' =>
      e = .returned (.tuple #[.agg #[.int .i64 o1, .int .i64 o2], .int .i64 o3]) ∧ Tr W w') := fun W => CM.out neg S sh sl hS.out hB.out.1 hB.out.2 WS.out W
  have hx0 : Hid (0 ≤ X ∧ X < Big ∧ 0 ≤ Y ∧ Y < Big ∧ X + Y < Big) := (by
    obtain ⟨x0, x1⟩ := BX.out
    obtain ⟨y0, y1⟩ := BY.out
    have hBig : Big = 340282366920938463463374607431768211456 := rfl
    omega : 0 ≤ X ∧ X < Big ∧ 0 ≤ Y ∧ Y < Big ∧ X + Y < Big)
  clear CM hS hB BX BY
  go_enter Tryz.func77, Tryz.ntmps77
  go_upto_region 1 with (fail)
  refine wp_region_mix1 7 #[.int .u64 0, .int .u64 0] 89 _ (by kernel_rfl) (by kernel_rfl) rfl (makesU _ rfl rfl) ?_
  intro wq hwq
  have kq := Keep.cl (l := [(⟨w.heap.size, 0, none⟩, .int .i64 (an)), (⟨w.heap.size, 1, none⟩, .int .i64 (ad)), (⟨w.heap.size + 1, 0, none⟩, .int .i64 (bn)), (⟨w.heap.size + 1, 1, none⟩, .int .i64 (bd)), (⟨w.heap.size + 1 + 1, 0, none⟩, .int .i64 (0)), (⟨w.heap.size + 1 + 1, 1, none⟩, .int .i64 (0))]) (by first|(simp [Keep, go_sem, *];done)|(simp [Keep, go_sem, *];omega)|(simp (disch := first | omega|(simp;omega)|(simp;done)) [Keep, go_sem, cell_far, cell_off, RowKit.frozen?_alloc_cells, frozen_new, *];done)|(simp (disch := first | omega|(simp;omega)|(simp;done)) [Keep, go_sem, cell_far, cell_off, RowKit.frozen?_alloc_cells, frozen_new, *];omega)) hwq
  simp only [KeepCl] at kq
  
  simp only [List.take_succ_cons, List.take_zero, List.drop_succ_cons, List.drop_zero]
  repeat (go_big_quiet_step (first|(go_at_call 53;exact calls_cl_same (rsize_any _ (by omega) (by omega) _))|(go_at_call 67;with_reducible exact calls_cl (M1.out _))))
  refine wpQuiet_nil ?_
  intro b1 w1 hb1 ht1 hz1
  have Kb1 := Keep.at2 hz1
  have K1 := Keep.tr (l := [(⟨w.heap.size, 0, none⟩, .int .i64 (an)), (⟨w.heap.size, 1, none⟩, .int .i64 (ad)), (⟨w.heap.size + 1, 0, none⟩, .int .i64 (bn)), (⟨w.heap.size + 1, 1, none⟩, .int .i64 (bd)), (⟨w.heap.size + 1 + 1, 0, none⟩, .int .i64 (0)), (⟨w.heap.size + 1 + 1, 1, none⟩, .int .i64 (0))]) (by first|(simp [Keep, go_sem, *];done)|(simp [Keep, go_sem, *];omega)|(simp (disch := first | omega|(simp;omega)|(simp;done)) [Keep, go_sem, cell_far, cell_off, RowKit.frozen?_alloc_cells, frozen_new, *];done)|(simp (disch := first | omega|(simp;omega)|(simp;done)) [Keep, go_sem, cell_far, cell_off, RowKit.frozen?_alloc_cells, frozen_new, *];omega)) ht1
  have T1 : Tr w w1 := Tr.trans (by repeat (first | exact Tr.refl _ | assumption | apply Tr.al | apply Tr.drN | apply Tr.dr|(refine Tr.set ?_ (by first | omega|(simp;done)|(simp;omega)) _))) ht1
  have hs1 := Below.size ht1
  have hbl1 := lt_of_block hz1
  (try simp at hb1)
  (try simp at hs1)
  simp only [Keep] at K1 Kb1
  clear ht1 hz1 hwq kq
  simp only [Act.put, List.setIfInBounds_toArray, List.set_cons_succ, List.set_cons_zero]
  go_upto_region 2 with (fail)
  refine wp_forget (w0 := w) [(⟨w.heap.size, 0, none⟩, .int .i64 (an)), (⟨w.heap.size, 1, none⟩, .int .i64 (ad)), (⟨w.heap.size + 1, 0, none⟩, .int .i64 (bn)), (⟨w.heap.size + 1, 1, none⟩, .int .i64 (bd)), (⟨w.heap.size + 1 + 1, 0, none⟩, .int .i64 (0)), (⟨w.heap.size + 1 + 1, 1, none⟩, .int .i64 (0)), (⟨b1, 0, none⟩, .int .u64 (xh)), (⟨b1, 1, none⟩, .int .u64 (xl))] (by first|(simp [Keep, go_sem, *];done)|(simp [Keep, go_sem, *];omega)|(simp (disch := first | omega|(simp;omega)|(simp;done)) [Keep, go_sem, cell_far, cell_off, RowKit.frozen?_alloc_cells, frozen_new, *];done)|(simp (disch := first | omega|(simp;omega)|(simp;done)) [Keep, go_sem, cell_far, cell_off, RowKit.frozen?_alloc_cells, frozen_new, *];omega)) (by repeat (first | exact Tr.refl _ | assumption | apply Tr.al | apply Tr.drN | apply Tr.dr|(refine Tr.set ?_ (by first | omega|(simp;done)|(simp;omega)) _))) ?_;intro w4 hs4 K4 T4;(try simp at hs4);simp only [Keep] at K4
  clear K1 Kb1 T1
  refine wp_region_mix1 7 #[.int .u64 0, .int .u64 0] 89 _ (by kernel_rfl) (by kernel_rfl) rfl (makesU _ rfl rfl) ?_
  intro wq hwq
  have kq := Keep.cl (l := [(⟨w.heap.size, 0, none⟩, .int .i64 (an)), (⟨w.heap.size, 1, none⟩, .int .i64 (ad)), (⟨w.heap.size + 1, 0, none⟩, .int .i64 (bn)), (⟨w.heap.size + 1, 1, none⟩, .int .i64 (bd)), (⟨w.heap.size + 1 + 1, 0, none⟩, .int .i64 (0)), (⟨w.heap.size + 1 + 1, 1, none⟩, .int .i64 (0)), (⟨b1, 0, none⟩, .int .u64 (xh)), (⟨b1, 1, none⟩, .int .u64 (xl))]) (by first|(simp [Keep, go_sem, *];done)|(simp [Keep, go_sem, *];omega)|(simp (disch := first | omega|(simp;omega)|(simp;done)) [Keep, go_sem, cell_far, cell_off, RowKit.frozen?_alloc_cells, frozen_new, *];done)|(simp (disch := first | omega|(simp;omega)|(simp;done)) [Keep, go_sem, cell_far, cell_off, RowKit.frozen?_alloc_cells, frozen_new, *];omega)) hwq
  simp only [KeepCl] at kq
  
  simp only [List.take_succ_cons, List.take_zero, List.drop_succ_cons, List.drop_zero]
  repeat (go_big_quiet_step (first|(go_at_call 53;exact calls_cl_same (rsize_any _ (by omega) (by omega) _))|(go_at_call 67;with_reducible exact calls_cl (M2.out _))))
  refine wpQuiet_nil ?_
  intro b2 w2 hb2 ht2 hz2
  have Kb2 := Keep.at2 hz2
  have K2 := Keep.tr (l := [(⟨w.heap.size, 0, none⟩, .int .i64 (an)), (⟨w.heap.size, 1, none⟩, .int .i64 (ad)), (⟨w.heap.size + 1, 0, none⟩, .int .i64 (bn)), (⟨w.heap.size + 1, 1, none⟩, .int .i64 (bd)), (⟨w.heap.size + 1 + 1, 0, none⟩, .int .i64 (0)), (⟨w.heap.size + 1 + 1, 1, none⟩, .int .i64 (0)), (⟨b1, 0, none⟩, .int .u64 (xh)), (⟨b1, 1, none⟩, .int .u64 (xl))]) (by first|(simp [Keep, go_sem, *];done)|(simp [Keep, go_sem, *];omega)|(simp (disch := first | omega|(simp;omega)|(simp;done)) [Keep, go_sem, cell_far, cell_off, RowKit.frozen?_alloc_cells, frozen_new, *];done)|(simp (disch := first | omega|(simp;omega)|(simp;done)) [Keep, go_sem, cell_far, cell_off, RowKit.frozen?_alloc_cells, frozen_new, *];omega)) ht2
  have T2 : Tr w w2 := Tr.trans (by repeat (first | exact Tr.refl _ | assumption | apply Tr.al | apply Tr.drN | apply Tr.dr|(refine Tr.set ?_ (by first | omega|(simp;done)|(simp;omega)) _))) ht2
  have hs2 := Below.size ht2
  have hbl2 := lt_of_block hz2
  (try simp at hb2)
  (try simp at hs2)
  simp only [Keep] at K2 Kb2
  clear ht2 hz2 hwq kq
  simp only [Act.put, List.setIfInBounds_toArray, List.set_cons_succ, List.set_cons_zero]
  go_upto_region 3 with (fail)
  refine wp_forget (w0 := w) [(⟨w.heap.size, 0, none⟩, .int .i64 (an)), (⟨w.heap.size, 1, none⟩, .int .i64 (ad)), (⟨w.heap.size + 1, 0, none⟩, .int .i64 (bn)), (⟨w.heap.size + 1, 1, none⟩, .int .i64 (bd)), (⟨w.heap.size + 1 + 1, 0, none⟩, .int .i64 (0)), (⟨w.heap.size + 1 + 1, 1, none⟩, .int .i64 (0)), (⟨b1, 0, none⟩, .int .u64 (xh)), (⟨b1, 1, none⟩, .int .u64 (xl)), (⟨b2, 0, none⟩, .int .u64 (yh)), (⟨b2, 1, none⟩, .int .u64 (yl))] (by first|(simp [Keep, go_sem, *];done)|(simp [Keep, go_sem, *];omega)|(simp (disch := first | omega|(simp;omega)|(simp;done)) [Keep, go_sem, cell_far, cell_off, RowKit.frozen?_alloc_cells, frozen_new, *];done)|(simp (disch := first | omega|(simp;omega)|(simp;done)) [Keep, go_sem, cell_far, cell_off, RowKit.frozen?_alloc_cells, frozen_new, *];omega)) (by repeat (first | exact Tr.refl _ | assumption | apply Tr.al | apply Tr.drN | apply Tr.dr|(refine Tr.set ?_ (by first | omega|(simp;done)|(simp;omega)) _))) ?_;intro w5 hs5 K5 T5;(try simp at hs5);simp only [Keep] at K5
  clear K2 Kb2 T2 K4 T4
  refine wp_region_mix1 7 #[.int .u64 0, .int .u64 0] 89 _ (by kernel_rfl) (by kernel_rfl) rfl (makesU _ rfl rfl) ?_
  intro wq hwq
  have kq := Keep.cl (l := [(⟨w.heap.size, 0, none⟩, .int .i64 (an)), (⟨w.heap.size, 1, none⟩, .int .i64 (ad)), (⟨w.heap.size + 1, 0, none⟩, .int .i64 (bn)), (⟨w.heap.size + 1, 1, none⟩, .int .i64 (bd)), (⟨w.heap.size + 1 + 1, 0, none⟩, .int .i64 (0)), (⟨w.heap.size + 1 + 1, 1, none⟩, .int .i64 (0)), (⟨b1, 0, none⟩, .int .u64 (xh)), (⟨b1, 1, none⟩, .int .u64 (xl)), (⟨b2, 0, none⟩, .int .u64 (yh)), (⟨b2, 1, none⟩, .int .u64 (yl))]) (by first|(simp [Keep, go_sem, *];done)|(simp [Keep, go_sem, *];omega)|(simp (disch := first | omega|(simp;omega)|(simp;done)) [Keep, go_sem, cell_far, cell_off, RowKit.frozen?_alloc_cells, frozen_new, *];done)|(simp (disch := first | omega|(simp;omega)|(simp;done)) [Keep, go_sem, cell_far, cell_off, RowKit.frozen?_alloc_cells, frozen_new, *];omega)) hwq
  simp only [KeepCl] at kq
  
  simp only [List.take_succ_cons, List.take_zero, List.drop_succ_cons, List.drop_zero]
  repeat (go_big_quiet_step (first|(go_at_call 53;exact calls_cl_same (rsize_any _ (by omega) (by omega) _))|(go_at_call 67;with_reducible exact calls_cl (M3.out _))))
  refine wpQuiet_nil ?_
  intro b3 w3 hb3 ht3 hz3
  have Kb3 := Keep.at2 hz3
  have K3 := Keep.tr (l := [(⟨w.heap.size, 0, none⟩, .int .i64 (an)), (⟨w.heap.size, 1, none⟩, .int .i64 (ad)), (⟨w.heap.size + 1, 0, none⟩, .int .i64 (bn)), (⟨w.heap.size + 1, 1, none⟩, .int .i64 (bd)), (⟨w.heap.size + 1 + 1, 0, none⟩, .int .i64 (0)), (⟨w.heap.size + 1 + 1, 1, none⟩, .int .i64 (0)), (⟨b1, 0, none⟩, .int .u64 (xh)), (⟨b1, 1, none⟩, .int .u64 (xl)), (⟨b2, 0, none⟩, .int .u64 (yh)), (⟨b2, 1, none⟩, .int .u64 (yl))]) (by first|(simp [Keep, go_sem, *];done)|(simp [Keep, go_sem, *];omega)|(simp (disch := first | omega|(simp;omega)|(simp;done)) [Keep, go_sem, cell_far, cell_off, RowKit.frozen?_alloc_cells, frozen_new, *];done)|(simp (disch := first | omega|(simp;omega)|(simp;done)) [Keep, go_sem, cell_far, cell_off, RowKit.frozen?_alloc_cells, frozen_new, *];omega)) ht3
  have T3 : Tr w w3 := Tr.trans (by repeat (first | exact Tr.refl _ | assumption | apply Tr.al | apply Tr.drN | apply Tr.dr|(refine Tr.set ?_ (by first | omega|(simp;done)|(simp;omega)) _))) ht3
  have hs3 := Below.size ht3
  have hbl3 := lt_of_block hz3
  (try simp at hb3)
  (try simp at hs3)
  simp only [Keep] at K3 Kb3
  clear ht3 hz3 hwq kq
  simp only [Act.put, List.setIfInBounds_toArray, List.set_cons_succ, List.set_cons_zero]
  go_upto_region 4 with (fail)
  refine wp_forget (w0 := w) [(⟨w.heap.size, 0, none⟩, .int .i64 (an)), (⟨w.heap.size, 1, none⟩, .int .i64 (ad)), (⟨w.heap.size + 1, 0, none⟩, .int .i64 (bn)), (⟨w.heap.size + 1, 1, none⟩, .int .i64 (bd)), (⟨w.heap.size + 1 + 1, 0, none⟩, .int .i64 (0)), (⟨w.heap.size + 1 + 1, 1, none⟩, .int .i64 (0)), (⟨b1, 0, none⟩, .int .u64 (xh)), (⟨b1, 1, none⟩, .int .u64 (xl)), (⟨b2, 0, none⟩, .int .u64 (yh)), (⟨b2, 1, none⟩, .int .u64 (yl)), (⟨b3, 0, none⟩, .int .u64 (dh)), (⟨b3, 1, none⟩, .int .u64 (dl))] (by first|(simp [Keep, go_sem, *];done)|(simp [Keep, go_sem, *];omega)|(simp (disch := first | omega|(simp;omega)|(simp;done)) [Keep, go_sem, cell_far, cell_off, RowKit.frozen?_alloc_cells, frozen_new, *];done)|(simp (disch := first | omega|(simp;omega)|(simp;done)) [Keep, go_sem, cell_far, cell_off, RowKit.frozen?_alloc_cells, frozen_new, *];omega)) (by repeat (first | exact Tr.refl _ | assumption | apply Tr.al | apply Tr.drN | apply Tr.dr|(refine Tr.set ?_ (by first | omega|(simp;done)|(simp;omega)) _))) ?_;intro w6 hs6 K6 T6;(try simp at hs6);simp only [Keep] at K6
  clear K3 Kb3 T3 K5 T5
  clear M1 M2 M3
  rcases hc with ⟨s1, s2, s3, rfl⟩ | ⟨s1, s2, s3, rfl⟩ | ⟨s1, s2, s5, s3, rfl⟩ | ⟨s1, s2, s5, s3, rfl⟩ | ⟨s1, s2, s5, s3, rfl⟩ | ⟨s1, s2, s5, s3, rfl⟩
  · have CP := Lib.hid fun W => rplus_wd WX.out WY.out (s3.out ▸ WS.out) hx0.out.1 hx0.out.2.2.1 hx0.out.2.2.2.2 W
    go_upto_region 5 with (fail)
    refine wp_region_mix0 10 (by kernel_rfl) (by kernel_rfl) ?_
    intro wq hwq
    have kq := Keep.cl (l := [(⟨w.heap.size, 0, none⟩, .int .i64 (an)), (⟨w.heap.size, 1, none⟩, .int .i64 (ad)), (⟨w.heap.size + 1, 0, none⟩, .int .i64 (bn)), (⟨w.heap.size + 1, 1, none⟩, .int .i64 (bd)), (⟨w.heap.size + 1 + 1, 0, none⟩, .int .i64 (0)), (⟨w.heap.size + 1 + 1, 1, none⟩, .int .i64 (0)), (⟨b1, 0, none⟩, .int .u64 (xh)), (⟨b1, 1, none⟩, .int .u64 (xl)), (⟨b2, 0, none⟩, .int .u64 (yh)), (⟨b2, 1, none⟩, .int .u64 (yl)), (⟨b3, 0, none⟩, .int .u64 (dh)), (⟨b3, 1, none⟩, .int .u64 (dl))]) (by first|(simp [Keep, go_sem, *];done)|(simp [Keep, go_sem, *];omega)|(simp (disch := first | omega|(simp;omega)|(simp;done)) [Keep, go_sem, cell_far, cell_off, RowKit.frozen?_alloc_cells, frozen_new, *];done)|(simp (disch := first | omega|(simp;omega)|(simp;done)) [Keep, go_sem, cell_far, cell_off, RowKit.frozen?_alloc_cells, frozen_new, *];omega)) hwq
    simp only [KeepCl] at kq
    simp only [List.take_succ_cons, List.take_zero, List.drop_succ_cons, List.drop_zero]
    repeat (go_big_quiet_step (first|(go_at_call 102;with_reducible exact calls_cl (CP.out _))|(go_at_call 106;with_reducible exact calls_cl (CM1.out _))))
    refine wpQuiet_nil ?_
    intro w7 ht7
    have K7 := Keep.tr (l := [(⟨w.heap.size, 0, none⟩, .int .i64 (an)), (⟨w.heap.size, 1, none⟩, .int .i64 (ad)), (⟨w.heap.size + 1, 0, none⟩, .int .i64 (bn)), (⟨w.heap.size + 1, 1, none⟩, .int .i64 (bd)), (⟨w.heap.size + 1 + 1, 0, none⟩, .int .i64 (0)), (⟨w.heap.size + 1 + 1, 1, none⟩, .int .i64 (0)), (⟨b1, 0, none⟩, .int .u64 (xh)), (⟨b1, 1, none⟩, .int .u64 (xl)), (⟨b2, 0, none⟩, .int .u64 (yh)), (⟨b2, 1, none⟩, .int .u64 (yl)), (⟨b3, 0, none⟩, .int .u64 (dh)), (⟨b3, 1, none⟩, .int .u64 (dl))]) (by first|(simp [Keep, go_sem, *];done)|(simp [Keep, go_sem, *];omega)|(simp (disch := first | omega|(simp;omega)|(simp;done)) [Keep, go_sem, cell_far, cell_off, RowKit.frozen?_alloc_cells, frozen_new, *];done)|(simp (disch := first | omega|(simp;omega)|(simp;done)) [Keep, go_sem, cell_far, cell_off, RowKit.frozen?_alloc_cells, frozen_new, *];omega)) ht7
    have T7 : Tr w w7 := Tr.trans (by repeat (first | exact Tr.refl _ | assumption | apply Tr.al | apply Tr.drN | apply Tr.dr|(refine Tr.set ?_ (by first | omega|(simp;done)|(simp;omega)) _))) ht7
    have hs7 := Below.size ht7
    (try simp at hs7)
    simp only [Keep] at K7
    clear ht7 hwq kq
    go_wp2
    simp [bodyPost, results, Tryz.results77, go_sem, *]
    exact (by repeat (first | exact Tr.refl _ | assumption | apply Tr.al | apply Tr.drN | apply Tr.dr|(refine Tr.set ?_ (by first | omega|(simp;done)|(simp;omega)) _)))
  · have CP := Lib.hid fun W => rplus_wd WX.out WY.out (s3.out ▸ WS.out) hx0.out.1 hx0.out.2.2.1 hx0.out.2.2.2.2 W
    go_upto_region 5 with (fail)
    refine wp_region_mix0 10 (by kernel_rfl) (by kernel_rfl) ?_
    intro wq hwq
    have kq := Keep.cl (l := [(⟨w.heap.size, 0, none⟩, .int .i64 (an)), (⟨w.heap.size, 1, none⟩, .int .i64 (ad)), (⟨w.heap.size + 1, 0, none⟩, .int .i64 (bn)), (⟨w.heap.size + 1, 1, none⟩, .int .i64 (bd)), (⟨w.heap.size + 1 + 1, 0, none⟩, .int .i64 (0)), (⟨w.heap.size + 1 + 1, 1, none⟩, .int .i64 (0)), (⟨b1, 0, none⟩, .int .u64 (xh)), (⟨b1, 1, none⟩, .int .u64 (xl)), (⟨b2, 0, none⟩, .int .u64 (yh)), (⟨b2, 1, none⟩, .int .u64 (yl)), (⟨b3, 0, none⟩, .int .u64 (dh)), (⟨b3, 1, none⟩, .int .u64 (dl))]) (by first|(simp [Keep, go_sem, *];done)|(simp [Keep, go_sem, *];omega)|(simp (disch := first | omega|(simp;omega)|(simp;done)) [Keep, go_sem, cell_far, cell_off, RowKit.frozen?_alloc_cells, frozen_new, *];done)|(simp (disch := first | omega|(simp;omega)|(simp;done)) [Keep, go_sem, cell_far, cell_off, RowKit.frozen?_alloc_cells, frozen_new, *];omega)) hwq
    simp only [KeepCl] at kq
    simp only [List.take_succ_cons, List.take_zero, List.drop_succ_cons, List.drop_zero]
    repeat (go_big_quiet_step (first|(go_at_call 102;with_reducible exact calls_cl (CP.out _))|(go_at_call 106;with_reducible exact calls_cl (CM1.out _))))
    refine wpQuiet_nil ?_
    intro w7 ht7
    have K7 := Keep.tr (l := [(⟨w.heap.size, 0, none⟩, .int .i64 (an)), (⟨w.heap.size, 1, none⟩, .int .i64 (ad)), (⟨w.heap.size + 1, 0, none⟩, .int .i64 (bn)), (⟨w.heap.size + 1, 1, none⟩, .int .i64 (bd)), (⟨w.heap.size + 1 + 1, 0, none⟩, .int .i64 (0)), (⟨w.heap.size + 1 + 1, 1, none⟩, .int .i64 (0)), (⟨b1, 0, none⟩, .int .u64 (xh)), (⟨b1, 1, none⟩, .int .u64 (xl)), (⟨b2, 0, none⟩, .int .u64 (yh)), (⟨b2, 1, none⟩, .int .u64 (yl)), (⟨b3, 0, none⟩, .int .u64 (dh)), (⟨b3, 1, none⟩, .int .u64 (dl))]) (by first|(simp [Keep, go_sem, *];done)|(simp [Keep, go_sem, *];omega)|(simp (disch := first | omega|(simp;omega)|(simp;done)) [Keep, go_sem, cell_far, cell_off, RowKit.frozen?_alloc_cells, frozen_new, *];done)|(simp (disch := first | omega|(simp;omega)|(simp;done)) [Keep, go_sem, cell_far, cell_off, RowKit.frozen?_alloc_cells, frozen_new, *];omega)) ht7
    have T7 : Tr w w7 := Tr.trans (by repeat (first | exact Tr.refl _ | assumption | apply Tr.al | apply Tr.drN | apply Tr.dr|(refine Tr.set ?_ (by first | omega|(simp;done)|(simp;omega)) _))) ht7
    have hs7 := Below.size ht7
    (try simp at hs7)
    simp only [Keep] at K7
    clear ht7 hwq kq
    go_wp2
    simp [bodyPost, results, Tryz.results77, go_sem, *]
    exact (by repeat (first | exact Tr.refl _ | assumption | apply Tr.al | apply Tr.drN | apply Tr.dr|(refine Tr.set ?_ (by first | omega|(simp;done)|(simp;omega)) _)))
  · skip
    go_upto_region 7 with (go_at_call 68;(with_reducible refine (rless_lt WX.out WY.out hx0.out.1 hx0.out.2.2.1 s5.out _).mono ?_);rintro e w7 ⟨rfl, ht7⟩;have T7 : Tr w w7 := Tr.trans (by repeat (first | exact Tr.refl _ | assumption | apply Tr.al | apply Tr.drN | apply Tr.dr|(refine Tr.set ?_ (by first | omega|(simp;done)|(simp;omega)) _))) ht7;have K7 := Keep.tr (l := [(⟨w.heap.size, 0, none⟩, .int .i64 (an)), (⟨w.heap.size, 1, none⟩, .int .i64 (ad)), (⟨w.heap.size + 1, 0, none⟩, .int .i64 (bn)), (⟨w.heap.size + 1, 1, none⟩, .int .i64 (bd)), (⟨w.heap.size + 1 + 1, 0, none⟩, .int .i64 (0)), (⟨w.heap.size + 1 + 1, 1, none⟩, .int .i64 (0)), (⟨b1, 0, none⟩, .int .u64 (xh)), (⟨b1, 1, none⟩, .int .u64 (xl)), (⟨b2, 0, none⟩, .int .u64 (yh)), (⟨b2, 1, none⟩, .int .u64 (yl)), (⟨b3, 0, none⟩, .int .u64 (dh)), (⟨b3, 1, none⟩, .int .u64 (dl))]) (by first|(simp [Keep, go_sem, *];done)|(simp [Keep, go_sem, *];omega)|(simp (disch := first | omega|(simp;omega)|(simp;done)) [Keep, go_sem, cell_far, cell_off, RowKit.frozen?_alloc_cells, frozen_new, *];done)|(simp (disch := first | omega|(simp;omega)|(simp;done)) [Keep, go_sem, cell_far, cell_off, RowKit.frozen?_alloc_cells, frozen_new, *];omega)) ht7;have hz7 := Below.size ht7;(try simp at hz7);clear ht7;simp only [Keep] at K7)
    have hmd : Hid ((Y - X) % 340282366920938463463374607431768211456 = S) := (by have := hx0.out;have := s3.out;have := s5.out;unfold Big at *;omega : (Y - X) % 340282366920938463463374607431768211456 = S)
    have CN := Lib.hid fun W => rminus_wd WY.out WX.out WS.out hx0.out.2.2.1 hx0.out.1 hx0.out.2.2.2.1 hx0.out.2.1 hmd.out W
    clear K6
    refine wp_region_mix0 10 (by kernel_rfl) (by kernel_rfl) ?_
    intro wq hwq
    have kq := Keep.cl (l := [(⟨w.heap.size, 0, none⟩, .int .i64 (an)), (⟨w.heap.size, 1, none⟩, .int .i64 (ad)), (⟨w.heap.size + 1, 0, none⟩, .int .i64 (bn)), (⟨w.heap.size + 1, 1, none⟩, .int .i64 (bd)), (⟨w.heap.size + 1 + 1, 0, none⟩, .int .i64 (0)), (⟨w.heap.size + 1 + 1, 1, none⟩, .int .i64 (0)), (⟨b1, 0, none⟩, .int .u64 (xh)), (⟨b1, 1, none⟩, .int .u64 (xl)), (⟨b2, 0, none⟩, .int .u64 (yh)), (⟨b2, 1, none⟩, .int .u64 (yl)), (⟨b3, 0, none⟩, .int .u64 (dh)), (⟨b3, 1, none⟩, .int .u64 (dl))]) (by first|(simp [Keep, go_sem, *];done)|(simp [Keep, go_sem, *];omega)|(simp (disch := first | omega|(simp;omega)|(simp;done)) [Keep, go_sem, cell_far, cell_off, RowKit.frozen?_alloc_cells, frozen_new, *];done)|(simp (disch := first | omega|(simp;omega)|(simp;done)) [Keep, go_sem, cell_far, cell_off, RowKit.frozen?_alloc_cells, frozen_new, *];omega)) hwq
    simp only [KeepCl] at kq
    simp only [List.take_succ_cons, List.take_zero, List.drop_succ_cons, List.drop_zero]
    repeat (go_big_quiet_step (first|(go_at_call 101;with_reducible exact calls_cl (CN.out _))|(go_at_call 106;with_reducible exact calls_cl (CM1.out _))))
    refine wpQuiet_nil ?_
    intro w8 ht8
    have K8 := Keep.tr (l := [(⟨w.heap.size, 0, none⟩, .int .i64 (an)), (⟨w.heap.size, 1, none⟩, .int .i64 (ad)), (⟨w.heap.size + 1, 0, none⟩, .int .i64 (bn)), (⟨w.heap.size + 1, 1, none⟩, .int .i64 (bd)), (⟨w.heap.size + 1 + 1, 0, none⟩, .int .i64 (0)), (⟨w.heap.size + 1 + 1, 1, none⟩, .int .i64 (0)), (⟨b1, 0, none⟩, .int .u64 (xh)), (⟨b1, 1, none⟩, .int .u64 (xl)), (⟨b2, 0, none⟩, .int .u64 (yh)), (⟨b2, 1, none⟩, .int .u64 (yl)), (⟨b3, 0, none⟩, .int .u64 (dh)), (⟨b3, 1, none⟩, .int .u64 (dl))]) (by first|(simp [Keep, go_sem, *];done)|(simp [Keep, go_sem, *];omega)|(simp (disch := first | omega|(simp;omega)|(simp;done)) [Keep, go_sem, cell_far, cell_off, RowKit.frozen?_alloc_cells, frozen_new, *];done)|(simp (disch := first | omega|(simp;omega)|(simp;done)) [Keep, go_sem, cell_far, cell_off, RowKit.frozen?_alloc_cells, frozen_new, *];omega)) ht8
    have T8 : Tr w w8 := Tr.trans (by repeat (first | exact Tr.refl _ | assumption | apply Tr.al | apply Tr.drN | apply Tr.dr|(refine Tr.set ?_ (by first | omega|(simp;done)|(simp;omega)) _))) ht8
    have hs8 := Below.size ht8
    (try simp at hs8)
    simp only [Keep] at K8
    clear ht8 hwq kq
    go_wp2
    simp [bodyPost, results, Tryz.results77, go_sem, *]
    exact (by repeat (first | exact Tr.refl _ | assumption | apply Tr.al | apply Tr.drN | apply Tr.dr|(refine Tr.set ?_ (by first | omega|(simp;done)|(simp;omega)) _)))
  · skip
    go_upto_region 8 with (go_at_call 68;(with_reducible refine (rless_ge WX.out WY.out hx0.out.1 hx0.out.2.2.1 s5.out _).mono ?_);rintro e w7 ⟨rfl, ht7⟩;have T7 : Tr w w7 := Tr.trans (by repeat (first | exact Tr.refl _ | assumption | apply Tr.al | apply Tr.drN | apply Tr.dr|(refine Tr.set ?_ (by first | omega|(simp;done)|(simp;omega)) _))) ht7;have K7 := Keep.tr (l := [(⟨w.heap.size, 0, none⟩, .int .i64 (an)), (⟨w.heap.size, 1, none⟩, .int .i64 (ad)), (⟨w.heap.size + 1, 0, none⟩, .int .i64 (bn)), (⟨w.heap.size + 1, 1, none⟩, .int .i64 (bd)), (⟨w.heap.size + 1 + 1, 0, none⟩, .int .i64 (0)), (⟨w.heap.size + 1 + 1, 1, none⟩, .int .i64 (0)), (⟨b1, 0, none⟩, .int .u64 (xh)), (⟨b1, 1, none⟩, .int .u64 (xl)), (⟨b2, 0, none⟩, .int .u64 (yh)), (⟨b2, 1, none⟩, .int .u64 (yl)), (⟨b3, 0, none⟩, .int .u64 (dh)), (⟨b3, 1, none⟩, .int .u64 (dl))]) (by first|(simp [Keep, go_sem, *];done)|(simp [Keep, go_sem, *];omega)|(simp (disch := first | omega|(simp;omega)|(simp;done)) [Keep, go_sem, cell_far, cell_off, RowKit.frozen?_alloc_cells, frozen_new, *];done)|(simp (disch := first | omega|(simp;omega)|(simp;done)) [Keep, go_sem, cell_far, cell_off, RowKit.frozen?_alloc_cells, frozen_new, *];omega)) ht7;have hz7 := Below.size ht7;(try simp at hz7);clear ht7;simp only [Keep] at K7)
    have hmd : Hid ((X - Y) % 340282366920938463463374607431768211456 = S) := (by have := hx0.out;have := s3.out;have := s5.out;unfold Big at *;omega : (X - Y) % 340282366920938463463374607431768211456 = S)
    have CN := Lib.hid fun W => rminus_wd WX.out WY.out WS.out hx0.out.1 hx0.out.2.2.1 hx0.out.2.1 hx0.out.2.2.2.1 hmd.out W
    clear K6
    refine wp_region_mix0 10 (by kernel_rfl) (by kernel_rfl) ?_
    intro wq hwq
    have kq := Keep.cl (l := [(⟨w.heap.size, 0, none⟩, .int .i64 (an)), (⟨w.heap.size, 1, none⟩, .int .i64 (ad)), (⟨w.heap.size + 1, 0, none⟩, .int .i64 (bn)), (⟨w.heap.size + 1, 1, none⟩, .int .i64 (bd)), (⟨w.heap.size + 1 + 1, 0, none⟩, .int .i64 (0)), (⟨w.heap.size + 1 + 1, 1, none⟩, .int .i64 (0)), (⟨b1, 0, none⟩, .int .u64 (xh)), (⟨b1, 1, none⟩, .int .u64 (xl)), (⟨b2, 0, none⟩, .int .u64 (yh)), (⟨b2, 1, none⟩, .int .u64 (yl)), (⟨b3, 0, none⟩, .int .u64 (dh)), (⟨b3, 1, none⟩, .int .u64 (dl))]) (by first|(simp [Keep, go_sem, *];done)|(simp [Keep, go_sem, *];omega)|(simp (disch := first | omega|(simp;omega)|(simp;done)) [Keep, go_sem, cell_far, cell_off, RowKit.frozen?_alloc_cells, frozen_new, *];done)|(simp (disch := first | omega|(simp;omega)|(simp;done)) [Keep, go_sem, cell_far, cell_off, RowKit.frozen?_alloc_cells, frozen_new, *];omega)) hwq
    simp only [KeepCl] at kq
    simp only [List.take_succ_cons, List.take_zero, List.drop_succ_cons, List.drop_zero]
    repeat (go_big_quiet_step (first|(go_at_call 101;with_reducible exact calls_cl (CN.out _))|(go_at_call 106;with_reducible exact calls_cl (CM1.out _))))
    refine wpQuiet_nil ?_
    intro w8 ht8
    have K8 := Keep.tr (l := [(⟨w.heap.size, 0, none⟩, .int .i64 (an)), (⟨w.heap.size, 1, none⟩, .int .i64 (ad)), (⟨w.heap.size + 1, 0, none⟩, .int .i64 (bn)), (⟨w.heap.size + 1, 1, none⟩, .int .i64 (bd)), (⟨w.heap.size + 1 + 1, 0, none⟩, .int .i64 (0)), (⟨w.heap.size + 1 + 1, 1, none⟩, .int .i64 (0)), (⟨b1, 0, none⟩, .int .u64 (xh)), (⟨b1, 1, none⟩, .int .u64 (xl)), (⟨b2, 0, none⟩, .int .u64 (yh)), (⟨b2, 1, none⟩, .int .u64 (yl)), (⟨b3, 0, none⟩, .int .u64 (dh)), (⟨b3, 1, none⟩, .int .u64 (dl))]) (by first|(simp [Keep, go_sem, *];done)|(simp [Keep, go_sem, *];omega)|(simp (disch := first | omega|(simp;omega)|(simp;done)) [Keep, go_sem, cell_far, cell_off, RowKit.frozen?_alloc_cells, frozen_new, *];done)|(simp (disch := first | omega|(simp;omega)|(simp;done)) [Keep, go_sem, cell_far, cell_off, RowKit.frozen?_alloc_cells, frozen_new, *];omega)) ht8
    have T8 : Tr w w8 := Tr.trans (by repeat (first | exact Tr.refl _ | assumption | apply Tr.al | apply Tr.drN | apply Tr.dr|(refine Tr.set ?_ (by first | omega|(simp;done)|(simp;omega)) _))) ht8
    have hs8 := Below.size ht8
    (try simp at hs8)
    simp only [Keep] at K8
    clear ht8 hwq kq
    go_wp2
    simp [bodyPost, results, Tryz.results77, go_sem, *]
    exact (by repeat (first | exact Tr.refl _ | assumption | apply Tr.al | apply Tr.drN | apply Tr.dr|(refine Tr.set ?_ (by first | omega|(simp;done)|(simp;omega)) _)))
  · skip
    go_upto_region 7 with (go_at_call 68;(with_reducible refine (rless_lt WX.out WY.out hx0.out.1 hx0.out.2.2.1 s5.out _).mono ?_);rintro e w7 ⟨rfl, ht7⟩;have T7 : Tr w w7 := Tr.trans (by repeat (first | exact Tr.refl _ | assumption | apply Tr.al | apply Tr.drN | apply Tr.dr|(refine Tr.set ?_ (by first | omega|(simp;done)|(simp;omega)) _))) ht7;have K7 := Keep.tr (l := [(⟨w.heap.size, 0, none⟩, .int .i64 (an)), (⟨w.heap.size, 1, none⟩, .int .i64 (ad)), (⟨w.heap.size + 1, 0, none⟩, .int .i64 (bn)), (⟨w.heap.size + 1, 1, none⟩, .int .i64 (bd)), (⟨w.heap.size + 1 + 1, 0, none⟩, .int .i64 (0)), (⟨w.heap.size + 1 + 1, 1, none⟩, .int .i64 (0)), (⟨b1, 0, none⟩, .int .u64 (xh)), (⟨b1, 1, none⟩, .int .u64 (xl)), (⟨b2, 0, none⟩, .int .u64 (yh)), (⟨b2, 1, none⟩, .int .u64 (yl)), (⟨b3, 0, none⟩, .int .u64 (dh)), (⟨b3, 1, none⟩, .int .u64 (dl))]) (by first|(simp [Keep, go_sem, *];done)|(simp [Keep, go_sem, *];omega)|(simp (disch := first | omega|(simp;omega)|(simp;done)) [Keep, go_sem, cell_far, cell_off, RowKit.frozen?_alloc_cells, frozen_new, *];done)|(simp (disch := first | omega|(simp;omega)|(simp;done)) [Keep, go_sem, cell_far, cell_off, RowKit.frozen?_alloc_cells, frozen_new, *];omega)) ht7;have hz7 := Below.size ht7;(try simp at hz7);clear ht7;simp only [Keep] at K7)
    have hmd : Hid ((Y - X) % 340282366920938463463374607431768211456 = S) := (by have := hx0.out;have := s3.out;have := s5.out;unfold Big at *;omega : (Y - X) % 340282366920938463463374607431768211456 = S)
    have CN := Lib.hid fun W => rminus_wd WY.out WX.out WS.out hx0.out.2.2.1 hx0.out.1 hx0.out.2.2.2.1 hx0.out.2.1 hmd.out W
    clear K6
    refine wp_region_mix0 10 (by kernel_rfl) (by kernel_rfl) ?_
    intro wq hwq
    have kq := Keep.cl (l := [(⟨w.heap.size, 0, none⟩, .int .i64 (an)), (⟨w.heap.size, 1, none⟩, .int .i64 (ad)), (⟨w.heap.size + 1, 0, none⟩, .int .i64 (bn)), (⟨w.heap.size + 1, 1, none⟩, .int .i64 (bd)), (⟨w.heap.size + 1 + 1, 0, none⟩, .int .i64 (0)), (⟨w.heap.size + 1 + 1, 1, none⟩, .int .i64 (0)), (⟨b1, 0, none⟩, .int .u64 (xh)), (⟨b1, 1, none⟩, .int .u64 (xl)), (⟨b2, 0, none⟩, .int .u64 (yh)), (⟨b2, 1, none⟩, .int .u64 (yl)), (⟨b3, 0, none⟩, .int .u64 (dh)), (⟨b3, 1, none⟩, .int .u64 (dl))]) (by first|(simp [Keep, go_sem, *];done)|(simp [Keep, go_sem, *];omega)|(simp (disch := first | omega|(simp;omega)|(simp;done)) [Keep, go_sem, cell_far, cell_off, RowKit.frozen?_alloc_cells, frozen_new, *];done)|(simp (disch := first | omega|(simp;omega)|(simp;done)) [Keep, go_sem, cell_far, cell_off, RowKit.frozen?_alloc_cells, frozen_new, *];omega)) hwq
    simp only [KeepCl] at kq
    simp only [List.take_succ_cons, List.take_zero, List.drop_succ_cons, List.drop_zero]
    repeat (go_big_quiet_step (first|(go_at_call 101;with_reducible exact calls_cl (CN.out _))|(go_at_call 106;with_reducible exact calls_cl (CM1.out _))))
    refine wpQuiet_nil ?_
    intro w8 ht8
    have K8 := Keep.tr (l := [(⟨w.heap.size, 0, none⟩, .int .i64 (an)), (⟨w.heap.size, 1, none⟩, .int .i64 (ad)), (⟨w.heap.size + 1, 0, none⟩, .int .i64 (bn)), (⟨w.heap.size + 1, 1, none⟩, .int .i64 (bd)), (⟨w.heap.size + 1 + 1, 0, none⟩, .int .i64 (0)), (⟨w.heap.size + 1 + 1, 1, none⟩, .int .i64 (0)), (⟨b1, 0, none⟩, .int .u64 (xh)), (⟨b1, 1, none⟩, .int .u64 (xl)), (⟨b2, 0, none⟩, .int .u64 (yh)), (⟨b2, 1, none⟩, .int .u64 (yl)), (⟨b3, 0, none⟩, .int .u64 (dh)), (⟨b3, 1, none⟩, .int .u64 (dl))]) (by first|(simp [Keep, go_sem, *];done)|(simp [Keep, go_sem, *];omega)|(simp (disch := first | omega|(simp;omega)|(simp;done)) [Keep, go_sem, cell_far, cell_off, RowKit.frozen?_alloc_cells, frozen_new, *];done)|(simp (disch := first | omega|(simp;omega)|(simp;done)) [Keep, go_sem, cell_far, cell_off, RowKit.frozen?_alloc_cells, frozen_new, *];omega)) ht8
    have T8 : Tr w w8 := Tr.trans (by repeat (first | exact Tr.refl _ | assumption | apply Tr.al | apply Tr.drN | apply Tr.dr|(refine Tr.set ?_ (by first | omega|(simp;done)|(simp;omega)) _))) ht8
    have hs8 := Below.size ht8
    (try simp at hs8)
    simp only [Keep] at K8
    clear ht8 hwq kq
    go_wp2
    simp [bodyPost, results, Tryz.results77, go_sem, *]
    exact (by repeat (first | exact Tr.refl _ | assumption | apply Tr.al | apply Tr.drN | apply Tr.dr|(refine Tr.set ?_ (by first | omega|(simp;done)|(simp;omega)) _)))
  · skip
    go_upto_region 8 with (go_at_call 68;(with_reducible refine (rless_ge WX.out WY.out hx0.out.1 hx0.out.2.2.1 s5.out _).mono ?_);rintro e w7 ⟨rfl, ht7⟩;have T7 : Tr w w7 := Tr.trans (by repeat (first | exact Tr.refl _ | assumption | apply Tr.al | apply Tr.drN | apply Tr.dr|(refine Tr.set ?_ (by first | omega|(simp;done)|(simp;omega)) _))) ht7;have K7 := Keep.tr (l := [(⟨w.heap.size, 0, none⟩, .int .i64 (an)), (⟨w.heap.size, 1, none⟩, .int .i64 (ad)), (⟨w.heap.size + 1, 0, none⟩, .int .i64 (bn)), (⟨w.heap.size + 1, 1, none⟩, .int .i64 (bd)), (⟨w.heap.size + 1 + 1, 0, none⟩, .int .i64 (0)), (⟨w.heap.size + 1 + 1, 1, none⟩, .int .i64 (0)), (⟨b1, 0, none⟩, .int .u64 (xh)), (⟨b1, 1, none⟩, .int .u64 (xl)), (⟨b2, 0, none⟩, .int .u64 (yh)), (⟨b2, 1, none⟩, .int .u64 (yl)), (⟨b3, 0, none⟩, .int .u64 (dh)), (⟨b3, 1, none⟩, .int .u64 (dl))]) (by first|(simp [Keep, go_sem, *];done)|(simp [Keep, go_sem, *];omega)|(simp (disch := first | omega|(simp;omega)|(simp;done)) [Keep, go_sem, cell_far, cell_off, RowKit.frozen?_alloc_cells, frozen_new, *];done)|(simp (disch := first | omega|(simp;omega)|(simp;done)) [Keep, go_sem, cell_far, cell_off, RowKit.frozen?_alloc_cells, frozen_new, *];omega)) ht7;have hz7 := Below.size ht7;(try simp at hz7);clear ht7;simp only [Keep] at K7)
    have hmd : Hid ((X - Y) % 340282366920938463463374607431768211456 = S) := (by have := hx0.out;have := s3.out;have := s5.out;unfold Big at *;omega : (X - Y) % 340282366920938463463374607431768211456 = S)
    have CN := Lib.hid fun W => rminus_wd WX.out WY.out WS.out hx0.out.1 hx0.out.2.2.1 hx0.out.2.1 hx0.out.2.2.2.1 hmd.out W
    clear K6
    refine wp_region_mix0 10 (by kernel_rfl) (by kernel_rfl) ?_
    intro wq hwq
    have kq := Keep.cl (l := [(⟨w.heap.size, 0, none⟩, .int .i64 (an)), (⟨w.heap.size, 1, none⟩, .int .i64 (ad)), (⟨w.heap.size + 1, 0, none⟩, .int .i64 (bn)), (⟨w.heap.size + 1, 1, none⟩, .int .i64 (bd)), (⟨w.heap.size + 1 + 1, 0, none⟩, .int .i64 (0)), (⟨w.heap.size + 1 + 1, 1, none⟩, .int .i64 (0)), (⟨b1, 0, none⟩, .int .u64 (xh)), (⟨b1, 1, none⟩, .int .u64 (xl)), (⟨b2, 0, none⟩, .int .u64 (yh)), (⟨b2, 1, none⟩, .int .u64 (yl)), (⟨b3, 0, none⟩, .int .u64 (dh)), (⟨b3, 1, none⟩, .int .u64 (dl))]) (by first|(simp [Keep, go_sem, *];done)|(simp [Keep, go_sem, *];omega)|(simp (disch := first | omega|(simp;omega)|(simp;done)) [Keep, go_sem, cell_far, cell_off, RowKit.frozen?_alloc_cells, frozen_new, *];done)|(simp (disch := first | omega|(simp;omega)|(simp;done)) [Keep, go_sem, cell_far, cell_off, RowKit.frozen?_alloc_cells, frozen_new, *];omega)) hwq
    simp only [KeepCl] at kq
    simp only [List.take_succ_cons, List.take_zero, List.drop_succ_cons, List.drop_zero]
    repeat (go_big_quiet_step (first|(go_at_call 101;with_reducible exact calls_cl (CN.out _))|(go_at_call 106;with_reducible exact calls_cl (CM1.out _))))
    refine wpQuiet_nil ?_
    intro w8 ht8
    have K8 := Keep.tr (l := [(⟨w.heap.size, 0, none⟩, .int .i64 (an)), (⟨w.heap.size, 1, none⟩, .int .i64 (ad)), (⟨w.heap.size + 1, 0, none⟩, .int .i64 (bn)), (⟨w.heap.size + 1, 1, none⟩, .int .i64 (bd)), (⟨w.heap.size + 1 + 1, 0, none⟩, .int .i64 (0)), (⟨w.heap.size + 1 + 1, 1, none⟩, .int .i64 (0)), (⟨b1, 0, none⟩, .int .u64 (xh)), (⟨b1, 1, none⟩, .int .u64 (xl)), (⟨b2, 0, none⟩, .int .u64 (yh)), (⟨b2, 1, none⟩, .int .u64 (yl)), (⟨b3, 0, none⟩, .int .u64 (dh)), (⟨b3, 1, none⟩, .int .u64 (dl))]) (by first|(simp [Keep, go_sem, *];done)|(simp [Keep, go_sem, *];omega)|(simp (disch := first | omega|(simp;omega)|(simp;done)) [Keep, go_sem, cell_far, cell_off, RowKit.frozen?_alloc_cells, frozen_new, *];done)|(simp (disch := first | omega|(simp;omega)|(simp;done)) [Keep, go_sem, cell_far, cell_off, RowKit.frozen?_alloc_cells, frozen_new, *];omega)) ht8
    have T8 : Tr w w8 := Tr.trans (by repeat (first | exact Tr.refl _ | assumption | apply Tr.al | apply Tr.drN | apply Tr.dr|(refine Tr.set ?_ (by first | omega|(simp;done)|(simp;omega)) _))) ht8
    have hs8 := Below.size ht8
    (try simp at hs8)
    simp only [Keep] at K8
    clear ht8 hwq kq
    go_wp2
    simp [bodyPost, results, Tryz.results77, go_sem, *]
    exact (by repeat (first | exact Tr.refl _ | assumption | apply Tr.al | apply Tr.drN | apply Tr.dr|(refine Tr.set ?_ (by first | omega|(simp;done)|(simp;omega)) _)))
end Go.Proofs.YtgegcgfdffmoeaaGreat
namespace Go.Proofs.YtgegcgfdffmoeaaGreat
set_option linter.unusedVariables false
open Go.RowKit Go.Sort

theorem subS_add {an ad bn bd : Int} (va : validB an ad = true) (vb : validB bn bd = true) : addS an ad (-bn) bd = subS an ad bn bd := by
  unfold addS subS
  rw [validB_neg, if_pos ⟨va, vb⟩, if_pos ⟨va, vb⟩, ratV_neg, Rat.sub_eq_add_neg]
set_option maxHeartbeats 1000000 in
theorem rsub_any (an ad bn bd : Int) (w : World) (va : validB an ad = true) (vb : validB bn bd = true) :
    Calls Tryz.prog 105 #[.agg #[.int .i64 an, .int .i64 ad], .agg #[.int .i64 bn, .int .i64 bd]] w fun e w' =>
      e = .returned (.tuple #[.agg #[.int .i64 (subS an ad bn bd).1, .int .i64 (subS an ad bn bd).2.1], .int .i64 (subS an ad bn bd).2.2]) ∧ Tr w w' := by
  obtain ⟨p1, p2, p3, p4, _⟩ := validB_spec.1 va
  obtain ⟨q1, q2, q3, q4, _⟩ := validB_spec.1 vb
  have c1 := fun W => radd_any an ad (-bn) bd W va (by rw [validB_neg];exact vb)
  rw [subS_add va vb] at c1
  have C1 := Lib.hid c1
  clear c1 va vb
  generalize (subS an ad bn bd).1 = o1 at *
  generalize (subS an ad bn bd).2.1 = o2 at *
  generalize (subS an ad bn bd).2.2 = o3 at *
  go_enter Tryz.func105, Tryz.ntmps105
  go_upto_region 1 with (fail)
  refine wp_region_mix0 6 (by kernel_rfl) (by kernel_rfl) ?_
  intro wq hwq
  have kq := Keep.cl (l := [(⟨w.heap.size, 0, none⟩, .int .i64 (an)), (⟨w.heap.size, 1, none⟩, .int .i64 (ad)), (⟨w.heap.size + 1, 0, none⟩, .int .i64 (bn)), (⟨w.heap.size + 1, 1, none⟩, .int .i64 (bd)), (⟨w.heap.size + 1 + 1, 0, none⟩, .int .i64 (0)), (⟨w.heap.size + 1 + 1, 1, none⟩, .int .i64 (0))]) (by first|(simp [Keep, go_sem, *];done)|(simp [Keep, go_sem, *];omega)|(simp (disch := first | omega|(simp;omega)|(simp;done)) [Keep, go_sem, cell_far, cell_off, RowKit.frozen?_alloc_cells, frozen_new, *];done)|(simp (disch := first | omega|(simp;omega)|(simp;done)) [Keep, go_sem, cell_far, cell_off, RowKit.frozen?_alloc_cells, frozen_new, *];omega)) hwq
  simp only [KeepCl] at kq
  simp only [List.take_succ_cons, List.take_zero, List.drop_succ_cons, List.drop_zero]
  repeat (go_big_quiet_step (first|(go_at_call 55;with_reducible exact calls_cl (rneg_any _ _ (by omega) (by omega) _))|(go_at_call 77;with_reducible exact calls_cl (C1.out _))))
  refine wpQuiet_nil ?_
  intro w3 ht3
  have K3 := Keep.tr (l := [(⟨w.heap.size, 0, none⟩, .int .i64 (an)), (⟨w.heap.size, 1, none⟩, .int .i64 (ad)), (⟨w.heap.size + 1, 0, none⟩, .int .i64 (bn)), (⟨w.heap.size + 1, 1, none⟩, .int .i64 (bd)), (⟨w.heap.size + 1 + 1, 0, none⟩, .int .i64 (0)), (⟨w.heap.size + 1 + 1, 1, none⟩, .int .i64 (0))]) (by first|(simp [Keep, go_sem, *];done)|(simp [Keep, go_sem, *];omega)|(simp (disch := first | omega|(simp;omega)|(simp;done)) [Keep, go_sem, cell_far, cell_off, RowKit.frozen?_alloc_cells, frozen_new, *];done)|(simp (disch := first | omega|(simp;omega)|(simp;done)) [Keep, go_sem, cell_far, cell_off, RowKit.frozen?_alloc_cells, frozen_new, *];omega)) ht3
  have T3 : Tr w w3 := Tr.trans (by repeat (first | exact Tr.refl _ | assumption | apply Tr.al | apply Tr.drN | apply Tr.dr|(refine Tr.set ?_ (by first | omega|(simp;done)|(simp;omega)) _))) ht3
  have hs3 := Below.size ht3
  (try simp at hs3)
  simp only [Keep] at K3
  clear ht3 hwq kq
  go_wp2
  simp [bodyPost, results, Tryz.results105, go_sem, *]
  exact (by repeat (first | exact Tr.refl _ | assumption | apply Tr.al | apply Tr.drN | apply Tr.dr|(refine Tr.set ?_ (by first | omega|(simp;done)|(simp;omega)) _)))

theorem wd_ne {x y xh xl yh yl : Int} (h1 : Wd x xh xl) (h2 : Wd y yh yl) (h : x ≠ y) : (xh == yh) = false ∨ ((xh == yh) = true ∧ (xl == yl) = false) := by
  obtain ⟨rfl, rfl⟩ := h1
  obtain ⟨rfl, rfl⟩ := h2
  by_cases a : x / 18446744073709551616 = y / 18446744073709551616
  · have b : x % 18446744073709551616 ≠ y % 18446744073709551616 := by omega
    exact .inr ⟨by simp [a], by simp [b]⟩
  · exact .inl (by simp [a])
theorem cmp_parts {an ad bn bd : Int} (va : validB an ad = true) (vb : validB bn bd = true) :
    (decide (an < 0) = true ∧ decide (0 ≤ an) = false ∧ decide (bn < 0) = false ∧ decide (0 ≤ bn) = true ∧ Hid (cmpQ (ratV an ad) (ratV bn bd) = -1)) ∨
    (decide (an < 0) = false ∧ decide (0 ≤ an) = true ∧ decide (bn < 0) = true ∧ decide (0 ≤ bn) = false ∧ Hid (cmpQ (ratV an ad) (ratV bn bd) = 1)) ∨
    (decide (an < 0) = decide (bn < 0) ∧ decide (0 ≤ an) = decide (0 ≤ bn) ∧
      ((Hid ((an.natAbs : Int) * bd.natAbs = (bn.natAbs : Int) * ad.natAbs) ∧ Hid (cmpQ (ratV an ad) (ratV bn bd) = 0)) ∨
       (Hid ((an.natAbs : Int) * bd.natAbs < (bn.natAbs : Int) * ad.natAbs) ∧ decide (an < 0) = false ∧ decide (0 ≤ an) = true ∧ Hid (cmpQ (ratV an ad) (ratV bn bd) = -1)) ∨
       (Hid ((an.natAbs : Int) * bd.natAbs < (bn.natAbs : Int) * ad.natAbs) ∧ decide (an < 0) = true ∧ decide (0 ≤ an) = false ∧ Hid (cmpQ (ratV an ad) (ratV bn bd) = 1)) ∨
       (Hid ((bn.natAbs : Int) * ad.natAbs < (an.natAbs : Int) * bd.natAbs) ∧ decide (an < 0) = false ∧ decide (0 ≤ an) = true ∧ Hid (cmpQ (ratV an ad) (ratV bn bd) = 1)) ∨
       (Hid ((bn.natAbs : Int) * ad.natAbs < (an.natAbs : Int) * bd.natAbs) ∧ decide (an < 0) = true ∧ decide (0 ≤ an) = false ∧ Hid (cmpQ (ratV an ad) (ratV bn bd) = -1)))) := by
  obtain ⟨a1, _⟩ := validB_spec.1 va
  obtain ⟨b1, _⟩ := validB_spec.1 vb
  rw [show ((ad.natAbs : Nat) : Int) = ad by omega, show ((bd.natAbs : Nat) : Int) = bd by omega]
  have l1 := lt_ratV va vb
  have l2 := lt_ratV vb va
  unfold cmpQ
  simp only [l1, l2]
  by_cases h1 : an < 0 <;> by_cases h2 : bn < 0
  · refine .inr (.inr ⟨by simp [h1, h2], by simp;omega, ?_⟩)
    rw [show ((an.natAbs : Nat) : Int) = -an by omega, show ((bn.natAbs : Nat) : Int) = -bn by omega, Int.neg_mul, Int.neg_mul]
    generalize an * bd = X at *
    generalize bn * ad = Y at *
    by_cases e : X = Y
    · subst e;exact .inl ⟨rfl, by show _ = _;rw [if_neg (by omega), if_neg (by omega)]⟩
    · by_cases e2 : -X < -Y
      · exact .inr (.inr (.inl ⟨e2, by simp [h1], by simp;omega, by show _ = _;rw [if_neg (by omega), if_pos (by omega)]⟩))
      · exact .inr (.inr (.inr (.inr ⟨(by omega : -Y < -X), by simp [h1], by simp;omega, by show _ = _;rw [if_pos (by omega)]⟩)))
  · have e1 : an * bd < 0 := Int.mul_neg_of_neg_of_pos h1 (by omega)
    have e2 : 0 ≤ bn * ad := Int.mul_nonneg (by omega) (by omega)
    exact .inl ⟨by simp [h1], by simp;omega, by simp [h2], by simp;omega, by show _ = _;rw [if_pos (by omega)]⟩
  · have e1 : 0 ≤ an * bd := Int.mul_nonneg (by omega) (by omega)
    have e2 : bn * ad < 0 := Int.mul_neg_of_neg_of_pos h2 (by omega)
    exact .inr (.inl ⟨by simp [h1], by simp;omega, by simp [h2], by simp;omega, by show _ = _;rw [if_neg (by omega), if_pos (by omega)]⟩)
  · refine .inr (.inr ⟨by simp [h1, h2], by simp;omega, ?_⟩)
    rw [show ((an.natAbs : Nat) : Int) = an by omega, show ((bn.natAbs : Nat) : Int) = bn by omega]
    generalize an * bd = X at *
    generalize bn * ad = Y at *
    by_cases e : X = Y
    · subst e;exact .inl ⟨rfl, by show _ = _;rw [if_neg (by omega), if_neg (by omega)]⟩
    · by_cases e2 : X < Y
      · exact .inr (.inl ⟨e2, by simp [h1], by simp;omega, by show _ = _;rw [if_pos (by omega)]⟩)
      · exact .inr (.inr (.inr (.inl ⟨(by omega : Y < X), by simp [h1], by simp;omega, by show _ = _;rw [if_neg (by omega), if_pos (by omega)]⟩)))

set_option maxRecDepth 100000 in
set_option maxHeartbeats 4000000 in
theorem rcmp_any (an ad bn bd : Int) (w : World) (va : validB an ad = true) (vb : validB bn bd = true) :
    Calls Tryz.prog 14 #[.agg #[.int .i64 an, .int .i64 ad], .agg #[.int .i64 bn, .int .i64 bd]] w fun e w' =>
      e = .returned (.int .i64 (cmpQ (ratV an ad) (ratV bn bd))) ∧ Tr w w' := by
  obtain ⟨p1, p2, p3, p4, _⟩ := validB_spec.1 va
  obtain ⟨q1, q2, q3, q4, _⟩ := validB_spec.1 vb
  have m1 := fun W => rmul_any an.natAbs bd.natAbs W (by omega) (by omega) (by omega) (by omega)
  have m2 := fun W => rmul_any bn.natAbs ad.natAbs W (by omega) (by omega) (by omega) (by omega)
  have cp := cmp_parts va vb
  have bx := prod_big (a := (an.natAbs : Int)) (b := bd.natAbs) (by omega) (by omega) (by omega) (by omega)
  have b_y := prod_big (a := (bn.natAbs : Int)) (b := ad.natAbs) (by omega) (by omega) (by omega) (by omega)
  generalize cmpQ (ratV an ad) (ratV bn bd) = r at *
  generalize ((an.natAbs : Int) * bd.natAbs) = X at *
  generalize ((bn.natAbs : Int) * ad.natAbs) = Y at *
  obtain ⟨xh, hxh⟩ : ∃ z, z = X / 18446744073709551616 := ⟨_, rfl⟩
  obtain ⟨xl, hxl⟩ : ∃ z, z = X % 18446744073709551616 := ⟨_, rfl⟩
  obtain ⟨yh, hyh⟩ : ∃ z, z = Y / 18446744073709551616 := ⟨_, rfl⟩
  obtain ⟨yl, hyl⟩ : ∃ z, z = Y % 18446744073709551616 := ⟨_, rfl⟩
  rw [← hxh, ← hxl] at m1
  rw [← hyh, ← hyl] at m2
  have WX : Hid (Wd X xh xl) := ⟨hxh, hxl⟩
  have WY : Hid (Wd Y yh yl) := ⟨hyh, hyl⟩
  have BX := Lib.hid bx
  have BY := Lib.hid b_y
  have M1 := Lib.hid m1
  have M2 := Lib.hid m2
  clear m1 m2 hxh hxl hyh hyl bx b_y va vb
  go_enter Tryz.func14, Tryz.ntmps14
  go_upto_region 1 with (fail)
  refine wp_region_mix2 14 #[.int .u64 0, .int .u64 0] 89 _ #[.int .u64 0, .int .u64 0] 89 _ (by kernel_rfl) (by kernel_rfl) rfl (makesU _ rfl rfl) rfl (makesU _ rfl rfl) (by decide) ?_
  intro wq hwq
  have kq := Keep.cl (l := [(⟨w.heap.size, 0, none⟩, .int .i64 (an)), (⟨w.heap.size, 1, none⟩, .int .i64 (ad)), (⟨w.heap.size + 1, 0, none⟩, .int .i64 (bn)), (⟨w.heap.size + 1, 1, none⟩, .int .i64 (bd))]) (by first|(simp [Keep, go_sem, *];done)|(simp [Keep, go_sem, *];omega)|(simp (disch := first | omega|(simp;omega)|(simp;done)) [Keep, go_sem, cell_far, cell_off, RowKit.frozen?_alloc_cells, frozen_new, *];done)|(simp (disch := first | omega|(simp;omega)|(simp;done)) [Keep, go_sem, cell_far, cell_off, RowKit.frozen?_alloc_cells, frozen_new, *];omega)) hwq
  simp only [KeepCl] at kq
  simp only [List.take_succ_cons, List.take_zero, List.drop_succ_cons, List.drop_zero]
  repeat (go_big_quiet_step (first|(go_at_call 53;exact calls_cl_same (rsize_any _ (by omega) (by omega) _))|(go_at_call 67;first | with_reducible exact calls_cl (M1.out _) | with_reducible exact calls_cl (M2.out _))))
  refine wpQuiet_nil ?_
  intro b b' w' hb hb' hne ht hz hz'
  have Kb := Keep.at2 hz;have Kb' := Keep.at2 hz';have K0 := Keep.tr (l := [(⟨w.heap.size, 0, none⟩, .int .i64 (an)), (⟨w.heap.size, 1, none⟩, .int .i64 (ad)), (⟨w.heap.size + 1, 0, none⟩, .int .i64 (bn)), (⟨w.heap.size + 1, 1, none⟩, .int .i64 (bd))]) (by first|(simp [Keep, go_sem, *];done)|(simp [Keep, go_sem, *];omega)|(simp (disch := first | omega|(simp;omega)|(simp;done)) [Keep, go_sem, cell_far, cell_off, RowKit.frozen?_alloc_cells, frozen_new, *];done)|(simp (disch := first | omega|(simp;omega)|(simp;done)) [Keep, go_sem, cell_far, cell_off, RowKit.frozen?_alloc_cells, frozen_new, *];omega)) ht;have T0 : Tr w w' := Tr.trans (by repeat (first | exact Tr.refl _ | assumption | apply Tr.al | apply Tr.drN | apply Tr.dr|(refine Tr.set ?_ (by first | omega|(simp;done)|(simp;omega)) _))) ht;have hs0 := Below.size ht;have hbl := lt_of_block hz;have hbl' := lt_of_block hz';(try simp at hb);(try simp at hb');(try simp at hs0);simp only [Keep] at Kb Kb' K0;clear ht hz hz'
  clear hwq kq
  simp only [Act.put, List.setIfInBounds_toArray, List.set_cons_succ, List.set_cons_zero]
  clear M1 M2
  go_upto_region 2 with (fail)
  refine wp_forget (w0 := w) [(⟨w.heap.size, 0, none⟩, .int .i64 (an)), (⟨w.heap.size, 1, none⟩, .int .i64 (ad)), (⟨w.heap.size + 1, 0, none⟩, .int .i64 (bn)), (⟨w.heap.size + 1, 1, none⟩, .int .i64 (bd)), (⟨b, 0, none⟩, .int .u64 (xh)), (⟨b, 1, none⟩, .int .u64 (xl)), (⟨b', 0, none⟩, .int .u64 (yh)), (⟨b', 1, none⟩, .int .u64 (yl))] (by first|(simp [Keep, go_sem, *];done)|(simp [Keep, go_sem, *];omega)|(simp (disch := first | omega|(simp;omega)|(simp;done)) [Keep, go_sem, cell_far, cell_off, RowKit.frozen?_alloc_cells, frozen_new, *];done)|(simp (disch := first | omega|(simp;omega)|(simp;done)) [Keep, go_sem, cell_far, cell_off, RowKit.frozen?_alloc_cells, frozen_new, *];omega)) (by repeat (first | exact Tr.refl _ | assumption | apply Tr.al | apply Tr.drN | apply Tr.dr|(refine Tr.set ?_ (by first | omega|(simp;done)|(simp;omega)) _))) ?_;intro w6 hs6 K6 T6;(try simp at hs6);simp only [Keep] at K6
  clear Kb Kb' K0 T0
  rcases cp with ⟨s1, s2, s3, s4, hr⟩ | ⟨s1, s2, s3, s4, hr⟩ | ⟨s1, s2, hc⟩
  · go_wp2_with fail
    go_ret
    exact ⟨by rw [hr.out];rfl, (by repeat (first | exact Tr.refl _ | assumption | apply Tr.al | apply Tr.drN | apply Tr.dr|(refine Tr.set ?_ (by first | omega|(simp;done)|(simp;omega)) _)))⟩
  · go_wp2_with fail
    go_ret
    exact ⟨by rw [hr.out];rfl, (by repeat (first | exact Tr.refl _ | assumption | apply Tr.al | apply Tr.drN | apply Tr.dr|(refine Tr.set ?_ (by first | omega|(simp;done)|(simp;omega)) _)))⟩
  · rcases hc with ⟨e, hr⟩ | ⟨e, s3, s4, hr⟩ | ⟨e, s3, s4, hr⟩ | ⟨e, s3, s4, hr⟩ | ⟨e, s3, s4, hr⟩
    · have e1 : xh = yh := by rw [WX.out.1, WY.out.1, e.out]
      have e2 : xl = yl := by rw [WX.out.2, WY.out.2, e.out]
      subst e1 e2
      clear WX WY BX BY e
      by_cases hn : an < 0
      · have t1 : decide (an < 0) = true := by simp [hn]
        have t2 : decide (0 ≤ an) = false := by simp;omega
        rw [t1] at s1
        rw [t2] at s2
        have t3 := s1.symm
        have t4 := s2.symm
        clear s1 s2 hn
        go_wp2_with fail
        go_ret
        exact ⟨by rw [hr.out];rfl, (by repeat (first | exact Tr.refl _ | assumption | apply Tr.al | apply Tr.drN | apply Tr.dr|(refine Tr.set ?_ (by first | omega|(simp;done)|(simp;omega)) _)))⟩
      · have t1 : decide (an < 0) = false := by simp [hn]
        have t2 : decide (0 ≤ an) = true := by simp;omega
        rw [t1] at s1
        rw [t2] at s2
        have t3 := s1.symm
        have t4 := s2.symm
        clear s1 s2 hn
        go_wp2_with fail
        go_ret
        exact ⟨by rw [hr.out];rfl, (by repeat (first | exact Tr.refl _ | assumption | apply Tr.al | apply Tr.drN | apply Tr.dr|(refine Tr.set ?_ (by first | omega|(simp;done)|(simp;omega)) _)))⟩
    · have hne := wd_ne WX.out WY.out (by have := e.out;omega)
      have C1 := Lib.hid fun W => rless_lt WX.out WY.out BX.out.1 BY.out.1 e.out W
      clear WX WY BX BY e
      rw [s3] at s1
      rw [s4] at s2
      have t3 := s1.symm
      have t4 := s2.symm
      clear s1 s2
      go_upto_region 6 with (fail)
      go_cut [39] (fun s wx => s = .bool false ∧ w6 = wx)
      case first =>
        rcases hne with hne | ⟨hne, hne2⟩
        all_goals
          go_wp2_with fail
          go_meet
          exact ⟨rfl, rfl⟩
      obtain ⟨rfl, rfl⟩ := hcut
      clear hne
      go_upto_region 8 with (fail)
      refine wp_region_mix0 7 (by kernel_rfl) (by kernel_rfl) ?_
      intro wq hwq
      have kq := Keep.cl (l := [(⟨w.heap.size, 0, none⟩, .int .i64 (an)), (⟨w.heap.size, 1, none⟩, .int .i64 (ad)), (⟨w.heap.size + 1, 0, none⟩, .int .i64 (bn)), (⟨w.heap.size + 1, 1, none⟩, .int .i64 (bd)), (⟨b, 0, none⟩, .int .u64 (xh)), (⟨b, 1, none⟩, .int .u64 (xl)), (⟨b', 0, none⟩, .int .u64 (yh)), (⟨b', 1, none⟩, .int .u64 (yl))]) (by first|(simp [Keep, go_sem, *];done)|(simp [Keep, go_sem, *];omega)|(simp (disch := first | omega|(simp;omega)|(simp;done)) [Keep, go_sem, cell_far, cell_off, RowKit.frozen?_alloc_cells, frozen_new, *];done)|(simp (disch := first | omega|(simp;omega)|(simp;done)) [Keep, go_sem, cell_far, cell_off, RowKit.frozen?_alloc_cells, frozen_new, *];omega)) hwq
      simp only [KeepCl] at kq
      simp only [List.take_succ_cons, List.take_zero, List.drop_succ_cons, List.drop_zero]
      repeat (go_big_quiet_step (first|(go_at_call 68;with_reducible exact calls_cl (C1.out _))))
      refine wpQuiet_nil ?_
      intro w7 ht7
      have K7 := Keep.tr (l := [(⟨w.heap.size, 0, none⟩, .int .i64 (an)), (⟨w.heap.size, 1, none⟩, .int .i64 (ad)), (⟨w.heap.size + 1, 0, none⟩, .int .i64 (bn)), (⟨w.heap.size + 1, 1, none⟩, .int .i64 (bd)), (⟨b, 0, none⟩, .int .u64 (xh)), (⟨b, 1, none⟩, .int .u64 (xl)), (⟨b', 0, none⟩, .int .u64 (yh)), (⟨b', 1, none⟩, .int .u64 (yl))]) (by first|(simp [Keep, go_sem, *];done)|(simp [Keep, go_sem, *];omega)|(simp (disch := first | omega|(simp;omega)|(simp;done)) [Keep, go_sem, cell_far, cell_off, RowKit.frozen?_alloc_cells, frozen_new, *];done)|(simp (disch := first | omega|(simp;omega)|(simp;done)) [Keep, go_sem, cell_far, cell_off, RowKit.frozen?_alloc_cells, frozen_new, *];omega)) ht7
      have T7 : Tr w w7 := Tr.trans (by repeat (first | exact Tr.refl _ | assumption | apply Tr.al | apply Tr.drN | apply Tr.dr|(refine Tr.set ?_ (by first | omega|(simp;done)|(simp;omega)) _))) ht7
      have hs7 := Below.size ht7
      (try simp at hs7)
      simp only [Keep] at K7
      clear ht7 hwq kq
      go_wp2
      go_ret
      exact ⟨by rw [hr.out];rfl, (by repeat (first | exact Tr.refl _ | assumption | apply Tr.al | apply Tr.drN | apply Tr.dr|(refine Tr.set ?_ (by first | omega|(simp;done)|(simp;omega)) _)))⟩
    · have hne := wd_ne WX.out WY.out (by have := e.out;omega)
      have C1 := Lib.hid fun W => rless_lt WX.out WY.out BX.out.1 BY.out.1 e.out W
      clear WX WY BX BY e
      rw [s3] at s1
      rw [s4] at s2
      have t3 := s1.symm
      have t4 := s2.symm
      clear s1 s2
      go_upto_region 6 with (fail)
      go_cut [39] (fun s wx => s = .bool false ∧ w6 = wx)
      case first =>
        rcases hne with hne | ⟨hne, hne2⟩
        all_goals
          go_wp2_with fail
          go_meet
          exact ⟨rfl, rfl⟩
      obtain ⟨rfl, rfl⟩ := hcut
      clear hne
      go_upto_region 8 with (fail)
      refine wp_region_mix0 7 (by kernel_rfl) (by kernel_rfl) ?_
      intro wq hwq
      have kq := Keep.cl (l := [(⟨w.heap.size, 0, none⟩, .int .i64 (an)), (⟨w.heap.size, 1, none⟩, .int .i64 (ad)), (⟨w.heap.size + 1, 0, none⟩, .int .i64 (bn)), (⟨w.heap.size + 1, 1, none⟩, .int .i64 (bd)), (⟨b, 0, none⟩, .int .u64 (xh)), (⟨b, 1, none⟩, .int .u64 (xl)), (⟨b', 0, none⟩, .int .u64 (yh)), (⟨b', 1, none⟩, .int .u64 (yl))]) (by first|(simp [Keep, go_sem, *];done)|(simp [Keep, go_sem, *];omega)|(simp (disch := first | omega|(simp;omega)|(simp;done)) [Keep, go_sem, cell_far, cell_off, RowKit.frozen?_alloc_cells, frozen_new, *];done)|(simp (disch := first | omega|(simp;omega)|(simp;done)) [Keep, go_sem, cell_far, cell_off, RowKit.frozen?_alloc_cells, frozen_new, *];omega)) hwq
      simp only [KeepCl] at kq
      simp only [List.take_succ_cons, List.take_zero, List.drop_succ_cons, List.drop_zero]
      repeat (go_big_quiet_step (first|(go_at_call 68;with_reducible exact calls_cl (C1.out _))))
      refine wpQuiet_nil ?_
      intro w7 ht7
      have K7 := Keep.tr (l := [(⟨w.heap.size, 0, none⟩, .int .i64 (an)), (⟨w.heap.size, 1, none⟩, .int .i64 (ad)), (⟨w.heap.size + 1, 0, none⟩, .int .i64 (bn)), (⟨w.heap.size + 1, 1, none⟩, .int .i64 (bd)), (⟨b, 0, none⟩, .int .u64 (xh)), (⟨b, 1, none⟩, .int .u64 (xl)), (⟨b', 0, none⟩, .int .u64 (yh)), (⟨b', 1, none⟩, .int .u64 (yl))]) (by first|(simp [Keep, go_sem, *];done)|(simp [Keep, go_sem, *];omega)|(simp (disch := first | omega|(simp;omega)|(simp;done)) [Keep, go_sem, cell_far, cell_off, RowKit.frozen?_alloc_cells, frozen_new, *];done)|(simp (disch := first | omega|(simp;omega)|(simp;done)) [Keep, go_sem, cell_far, cell_off, RowKit.frozen?_alloc_cells, frozen_new, *];omega)) ht7
      have T7 : Tr w w7 := Tr.trans (by repeat (first | exact Tr.refl _ | assumption | apply Tr.al | apply Tr.drN | apply Tr.dr|(refine Tr.set ?_ (by first | omega|(simp;done)|(simp;omega)) _))) ht7
      have hs7 := Below.size ht7
      (try simp at hs7)
      simp only [Keep] at K7
      clear ht7 hwq kq
      go_wp2
      go_ret
      exact ⟨by rw [hr.out];rfl, (by repeat (first | exact Tr.refl _ | assumption | apply Tr.al | apply Tr.drN | apply Tr.dr|(refine Tr.set ?_ (by first | omega|(simp;done)|(simp;omega)) _)))⟩
    · have hne := wd_ne WX.out WY.out (by have := e.out;omega)
      have C1 := Lib.hid fun W => rless_ge WX.out WY.out BX.out.1 BY.out.1 (by have := e.out;omega) W
      clear WX WY BX BY e
      rw [s3] at s1
      rw [s4] at s2
      have t3 := s1.symm
      have t4 := s2.symm
      clear s1 s2
      go_upto_region 6 with (fail)
      go_cut [39] (fun s wx => s = .bool false ∧ w6 = wx)
      case first =>
        rcases hne with hne | ⟨hne, hne2⟩
        all_goals
          go_wp2_with fail
          go_meet
          exact ⟨rfl, rfl⟩
      obtain ⟨rfl, rfl⟩ := hcut
      clear hne
      go_upto_region 8 with (fail)
      refine wp_region_mix0 7 (by kernel_rfl) (by kernel_rfl) ?_
      intro wq hwq
      have kq := Keep.cl (l := [(⟨w.heap.size, 0, none⟩, .int .i64 (an)), (⟨w.heap.size, 1, none⟩, .int .i64 (ad)), (⟨w.heap.size + 1, 0, none⟩, .int .i64 (bn)), (⟨w.heap.size + 1, 1, none⟩, .int .i64 (bd)), (⟨b, 0, none⟩, .int .u64 (xh)), (⟨b, 1, none⟩, .int .u64 (xl)), (⟨b', 0, none⟩, .int .u64 (yh)), (⟨b', 1, none⟩, .int .u64 (yl))]) (by first|(simp [Keep, go_sem, *];done)|(simp [Keep, go_sem, *];omega)|(simp (disch := first | omega|(simp;omega)|(simp;done)) [Keep, go_sem, cell_far, cell_off, RowKit.frozen?_alloc_cells, frozen_new, *];done)|(simp (disch := first | omega|(simp;omega)|(simp;done)) [Keep, go_sem, cell_far, cell_off, RowKit.frozen?_alloc_cells, frozen_new, *];omega)) hwq
      simp only [KeepCl] at kq
      simp only [List.take_succ_cons, List.take_zero, List.drop_succ_cons, List.drop_zero]
      repeat (go_big_quiet_step (first|(go_at_call 68;with_reducible exact calls_cl (C1.out _))))
      refine wpQuiet_nil ?_
      intro w7 ht7
      have K7 := Keep.tr (l := [(⟨w.heap.size, 0, none⟩, .int .i64 (an)), (⟨w.heap.size, 1, none⟩, .int .i64 (ad)), (⟨w.heap.size + 1, 0, none⟩, .int .i64 (bn)), (⟨w.heap.size + 1, 1, none⟩, .int .i64 (bd)), (⟨b, 0, none⟩, .int .u64 (xh)), (⟨b, 1, none⟩, .int .u64 (xl)), (⟨b', 0, none⟩, .int .u64 (yh)), (⟨b', 1, none⟩, .int .u64 (yl))]) (by first|(simp [Keep, go_sem, *];done)|(simp [Keep, go_sem, *];omega)|(simp (disch := first | omega|(simp;omega)|(simp;done)) [Keep, go_sem, cell_far, cell_off, RowKit.frozen?_alloc_cells, frozen_new, *];done)|(simp (disch := first | omega|(simp;omega)|(simp;done)) [Keep, go_sem, cell_far, cell_off, RowKit.frozen?_alloc_cells, frozen_new, *];omega)) ht7
      have T7 : Tr w w7 := Tr.trans (by repeat (first | exact Tr.refl _ | assumption | apply Tr.al | apply Tr.drN | apply Tr.dr|(refine Tr.set ?_ (by first | omega|(simp;done)|(simp;omega)) _))) ht7
      have hs7 := Below.size ht7
      (try simp at hs7)
      simp only [Keep] at K7
      clear ht7 hwq kq
      go_wp2
      go_ret
      exact ⟨by rw [hr.out];rfl, (by repeat (first | exact Tr.refl _ | assumption | apply Tr.al | apply Tr.drN | apply Tr.dr|(refine Tr.set ?_ (by first | omega|(simp;done)|(simp;omega)) _)))⟩
    · have hne := wd_ne WX.out WY.out (by have := e.out;omega)
      have C1 := Lib.hid fun W => rless_ge WX.out WY.out BX.out.1 BY.out.1 (by have := e.out;omega) W
      clear WX WY BX BY e
      rw [s3] at s1
      rw [s4] at s2
      have t3 := s1.symm
      have t4 := s2.symm
      clear s1 s2
      go_upto_region 6 with (fail)
      go_cut [39] (fun s wx => s = .bool false ∧ w6 = wx)
      case first =>
        rcases hne with hne | ⟨hne, hne2⟩
        all_goals
          go_wp2_with fail
          go_meet
          exact ⟨rfl, rfl⟩
      obtain ⟨rfl, rfl⟩ := hcut
      clear hne
      go_upto_region 8 with (fail)
      refine wp_region_mix0 7 (by kernel_rfl) (by kernel_rfl) ?_
      intro wq hwq
      have kq := Keep.cl (l := [(⟨w.heap.size, 0, none⟩, .int .i64 (an)), (⟨w.heap.size, 1, none⟩, .int .i64 (ad)), (⟨w.heap.size + 1, 0, none⟩, .int .i64 (bn)), (⟨w.heap.size + 1, 1, none⟩, .int .i64 (bd)), (⟨b, 0, none⟩, .int .u64 (xh)), (⟨b, 1, none⟩, .int .u64 (xl)), (⟨b', 0, none⟩, .int .u64 (yh)), (⟨b', 1, none⟩, .int .u64 (yl))]) (by first|(simp [Keep, go_sem, *];done)|(simp [Keep, go_sem, *];omega)|(simp (disch := first | omega|(simp;omega)|(simp;done)) [Keep, go_sem, cell_far, cell_off, RowKit.frozen?_alloc_cells, frozen_new, *];done)|(simp (disch := first | omega|(simp;omega)|(simp;done)) [Keep, go_sem, cell_far, cell_off, RowKit.frozen?_alloc_cells, frozen_new, *];omega)) hwq
      simp only [KeepCl] at kq
      simp only [List.take_succ_cons, List.take_zero, List.drop_succ_cons, List.drop_zero]
      repeat (go_big_quiet_step (first|(go_at_call 68;with_reducible exact calls_cl (C1.out _))))
      refine wpQuiet_nil ?_
      intro w7 ht7
      have K7 := Keep.tr (l := [(⟨w.heap.size, 0, none⟩, .int .i64 (an)), (⟨w.heap.size, 1, none⟩, .int .i64 (ad)), (⟨w.heap.size + 1, 0, none⟩, .int .i64 (bn)), (⟨w.heap.size + 1, 1, none⟩, .int .i64 (bd)), (⟨b, 0, none⟩, .int .u64 (xh)), (⟨b, 1, none⟩, .int .u64 (xl)), (⟨b', 0, none⟩, .int .u64 (yh)), (⟨b', 1, none⟩, .int .u64 (yl))]) (by first|(simp [Keep, go_sem, *];done)|(simp [Keep, go_sem, *];omega)|(simp (disch := first | omega|(simp;omega)|(simp;done)) [Keep, go_sem, cell_far, cell_off, RowKit.frozen?_alloc_cells, frozen_new, *];done)|(simp (disch := first | omega|(simp;omega)|(simp;done)) [Keep, go_sem, cell_far, cell_off, RowKit.frozen?_alloc_cells, frozen_new, *];omega)) ht7
      have T7 : Tr w w7 := Tr.trans (by repeat (first | exact Tr.refl _ | assumption | apply Tr.al | apply Tr.drN | apply Tr.dr|(refine Tr.set ?_ (by first | omega|(simp;done)|(simp;omega)) _))) ht7
      have hs7 := Below.size ht7
      (try simp at hs7)
      simp only [Keep] at K7
      clear ht7 hwq kq
      go_wp2
      go_ret
      exact ⟨by rw [hr.out];rfl, (by repeat (first | exact Tr.refl _ | assumption | apply Tr.al | apply Tr.drN | apply Tr.dr|(refine Tr.set ?_ (by first | omega|(simp;done)|(simp;omega)) _)))⟩

end Go.Proofs.YtgegcgfdffmoeaaGreat
