/- Contract of the reference's Div: the loop. -/
import Derived.Test.YtpjkiljgccjemaaDoorRefC
namespace Go.Proofs.YtpjkiljgccjemaaDoor
set_option linter.unusedVariables false
open Go.RowKit Go.Sort

theorem rless_lt {p q ph pl qh ql : Int} (h1 : Wd p ph pl) (h2 : Wd q qh ql) (hp : 0 ≤ p) (hq : 0 ≤ q) (h : p < q) (w : World) :
    Calls Tryd.prog 55 #[.agg #[.int .u64 ph, .int .u64 pl], .agg #[.int .u64 qh, .int .u64 ql]] w fun e w' => e = .returned (.bool true) ∧ Tr w w' := by
  obtain ⟨rfl, rfl⟩ := h1
  obtain ⟨rfl, rfl⟩ := h2
  have := rless_val p q hp hq w
  rw [decide_eq_true h] at this; exact this
theorem rless_ge {p q ph pl qh ql : Int} (h1 : Wd p ph pl) (h2 : Wd q qh ql) (hp : 0 ≤ p) (hq : 0 ≤ q) (h : ¬ p < q) (w : World) :
    Calls Tryd.prog 55 #[.agg #[.int .u64 ph, .int .u64 pl], .agg #[.int .u64 qh, .int .u64 ql]] w fun e w' => e = .returned (.bool false) ∧ Tr w w' := by
  obtain ⟨rfl, rfl⟩ := h1
  obtain ⟨rfl, rfl⟩ := h2
  have := rless_val p q hp hq w
  rw [decide_eq_false h] at this; exact this
theorem rminus_wd {p q r ph pl qh ql rh rl : Int} (h1 : Wd p ph pl) (h2 : Wd q qh ql) (h3 : Wd r rh rl) (hp : 0 ≤ p) (hq : 0 ≤ q) (hp' : p < 340282366920938463463374607431768211456) (hq' : q < 340282366920938463463374607431768211456) (hr : (p - q) % 340282366920938463463374607431768211456 = r) (w : World) :
    Calls Tryd.prog 56 #[.agg #[.int .u64 ph, .int .u64 pl], .agg #[.int .u64 qh, .int .u64 ql]] w fun e w' => e = .returned (.agg #[.int .u64 rh, .int .u64 rl]) ∧ Tr w w' := by
  obtain ⟨rfl, rfl⟩ := h1
  obtain ⟨rfl, rfl⟩ := h2
  obtain ⟨rfl, rfl⟩ := h3
  exact rminus_mod p q r hp hq hp' hq' hr w

theorem sh_in {R A r2 rh rl ah al : Int} (hR : Wd R rh rl) (hA : Wd A ah al) (h0 : 0 ≤ R) (h1 : R < 340282366920938463463374607431768211456) (h2 : 0 ≤ A) (h3 : A < 340282366920938463463374607431768211456)
    (h : r2 = (2 * R + A / 170141183460469231731687303715884105728) % 340282366920938463463374607431768211456) :
    IntKind.u64.wrap (IntKind.u64.wrap (rh * 2) + rl / 9223372036854775808) = r2 / 18446744073709551616 ∧ IntKind.u64.wrap (IntKind.u64.wrap (rl * 2) + ah / 9223372036854775808) = r2 % 18446744073709551616 := by
  obtain ⟨rfl, rfl⟩ := hR
  obtain ⟨rfl, rfl⟩ := hA
  simp only [wrap_u64]
  omega
theorem sh_0 {R r2 rh rl : Int} (hR : Wd R rh rl) (h0 : 0 ≤ R) (h1 : R < 340282366920938463463374607431768211456)
    (h : r2 = (2 * R) % 340282366920938463463374607431768211456) :
    IntKind.u64.wrap (IntKind.u64.wrap (rh * 2) + rl / 9223372036854775808) = r2 / 18446744073709551616 ∧ IntKind.u64.wrap (rl * 2) = r2 % 18446744073709551616 := by
  obtain ⟨rfl, rfl⟩ := hR
  simp only [wrap_u64]
  omega
theorem div_inv0 (p b T A Q R : Int) (hi : p * T = (Q * b + R) * 340282366920938463463374607431768211456 + A) :
    p * (2 * T) = (2 * Q * b + (2 * R + A / 170141183460469231731687303715884105728)) * 340282366920938463463374607431768211456 + (2 * A) % 340282366920938463463374607431768211456 := by
  have e1 : p * (2 * T) = 2 * (p * T) := by grind
  have e2 : 2 * Q * b = 2 * (Q * b) := by grind
  rw [e1, e2, hi]
  generalize Q * b = X
  omega
theorem div_inv1 (p b T A Q R : Int) (hi : p * T = (Q * b + R) * 340282366920938463463374607431768211456 + A) :
    p * (2 * T) = ((2 * Q + 1) * b + (2 * R + A / 170141183460469231731687303715884105728 - b)) * 340282366920938463463374607431768211456 + (2 * A) % 340282366920938463463374607431768211456 := by
  have e1 : p * (2 * T) = 2 * (p * T) := by grind
  have e2 : (2 * Q + 1) * b = 2 * (Q * b) + b := by grind
  rw [e1, e2, hi]
  generalize Q * b = X
  omega
theorem two_pow_le (i : Nat) (h : i < 128) : (0:Int) < 2 ^ i ∧ (2:Int) ^ i ≤ 170141183460469231731687303715884105728 := by
  refine ⟨Int.pow_pos (by decide), ?_⟩
  have h2 : (2:Nat) ^ i ≤ 2 ^ 127 := Nat.pow_le_pow_right (by decide) (by omega)
  have h3 : ((2 ^ i : Nat) : Int) ≤ ((2 ^ 127 : Nat) : Int) := Int.ofNat_le.2 h2
  rw [Int.natCast_pow] at h3
  simpa using h3
theorem two_pow_step (i : Nat) : (2:Int) ^ (i + 1) = 2 * 2 ^ i := by rw [Int.pow_succ]; omega
theorem div_end (p b A Q R : Int) (hi : p * 340282366920938463463374607431768211456 = (Q * b + R) * 340282366920938463463374607431768211456 + A) (h0 : 0 ≤ A) (h1 : A < 340282366920938463463374607431768211456) (h2 : 0 ≤ R) (h3 : R < b) : Q = p / b ∧ R = p % b := by
  have e : p = Q * b + R := by generalize Q * b = X at *; omega
  have h5 := div_unique p b Q R e h2 h3
  exact ⟨h5.1.symm, h5.2.symm⟩
def DivPost (p b : Int) (w : World) (e : Ending) (w' : World) : Prop :=
      ∃ A Q R qh ql rh rl : Int, Hid (0 ≤ A ∧ A < 340282366920938463463374607431768211456) ∧ Hid (0 ≤ R ∧ R < b) ∧ Hid (p * 340282366920938463463374607431768211456 = (Q * b + R) * 340282366920938463463374607431768211456 + A) ∧ Hid (Wd Q qh ql) ∧ Hid (Wd R rh rl) ∧
      e = .returned (.tuple #[.agg #[.int .u64 qh, .int .u64 ql], .agg #[.int .u64 rh, .int .u64 rl]]) ∧ Tr w w'
set_option maxRecDepth 100000 in
set_option maxHeartbeats 2000000 in
theorem rdiv_core (p b ah al bh bl : Int) (w : World) (hp : 0 ≤ p) (hp' : p < 340282366920938463463374607431768211456) (hb : 1 ≤ b) (hb' : b < 340282366920938463463374607431768211456)
    (hA : Hid (Wd p ah al)) (hB : Hid (Wd b bh bl)) (hne : ((ah == 0) = true ∧ (bh == 0) = false) ∨ (ah == 0) = false) :
    Calls Tryd.prog 69 #[.agg #[.int .u64 ah, .int .u64 al], .agg #[.int .u64 bh, .int .u64 bl]] w fun e w' =>
      e = .returned (.tuple #[.agg #[.int .u64 (p / b / 18446744073709551616), .int .u64 (p / b % 18446744073709551616)], .agg #[.int .u64 (p % b / 18446744073709551616), .int .u64 (p % b % 18446744073709551616)]]) ∧ Tr w w' := by
  have hL : Calls Tryd.prog 69 #[.agg #[.int .u64 ah, .int .u64 al], .agg #[.int .u64 bh, .int .u64 bl]] w (DivPost p b w) := by
    rcases hne with ⟨n1, n2⟩ | n1
    all_goals
      go_enter Tryd.func69, Tryd.ntmps69
      go_wp2
      go_loopw [8] (fun s wr => ∃ (i : Nat) (A Q R xh xl qh ql rh rl : Int), s = .int .i64 i ∧ i ≤ 128 ∧ Hid (0 ≤ A ∧ A < 340282366920938463463374607431768211456) ∧ Hid (0 ≤ R ∧ R < b) ∧ Hid (0 ≤ Q ∧ Q < 2 ^ i) ∧
        Hid (p * 2 ^ i = (Q * b + R) * 340282366920938463463374607431768211456 + A) ∧ Hid (Wd A xh xl) ∧ Hid (Wd Q qh ql) ∧ Hid (Wd R rh rl) ∧ Keep wr [(⟨w.heap.size, 0, none⟩, .int .u64 (xh)), (⟨w.heap.size, 1, none⟩, .int .u64 (xl)), (⟨w.heap.size + 1, 0, none⟩, .int .u64 (bh)), (⟨w.heap.size + 1, 1, none⟩, .int .u64 (bl)), (⟨w.heap.size + 1 + 1, 0, none⟩, .int .u64 (0)), (⟨w.heap.size + 1 + 1, 1, none⟩, .int .u64 (0)), (⟨w.heap.size + 1 + 1 + 1, 0, none⟩, .int .u64 (0)), (⟨w.heap.size + 1 + 1 + 1, 1, none⟩, .int .u64 (0)), (⟨w.heap.size + 1 + 1 + 1 + 1, 0, none⟩, .int .u64 (qh)), (⟨w.heap.size + 1 + 1 + 1 + 1, 1, none⟩, .int .u64 (ql)), (⟨w.heap.size + 1 + 1 + 1 + 1 + 1, 0, none⟩, .int .u64 (rh)), (⟨w.heap.size + 1 + 1 + 1 + 1 + 1, 1, none⟩, .int .u64 (rl))] ∧ Tr w wr) (fun s _ => 128 - (intOf s).toNat)
      case atStart => exact ⟨0, p, 0, 0, ah, al, 0, 0, 0, 0, rfl, by omega, ⟨hp, hp'⟩, (⟨by omega, by omega⟩ : (0:Int) ≤ 0 ∧ 0 < b), (by decide : (0:Int) ≤ 0 ∧ (0:Int) < 2 ^ 0), (by simp : p * 2 ^ 0 = (0 * b + 0) * 340282366920938463463374607431768211456 + p), hA, (by simp [Wd] : Wd 0 0 0), (by simp [Wd] : Wd 0 0 0), (by first | (simp [Keep, go_sem, *]; done) | (simp [Keep, go_sem, *]; omega) | (simp (disch := first | omega | (simp; omega) | (simp; done)) [Keep, go_sem, cell_far, cell_off, RowKit.frozen?_alloc_cells, frozen_new, *]; done) | (simp (disch := first | omega | (simp; omega) | (simp; done)) [Keep, go_sem, cell_far, cell_off, RowKit.frozen?_alloc_cells, frozen_new, *]; omega)), (by repeat (first | exact Tr.refl _ | assumption | apply Tr.al | apply Tr.drN | apply Tr.dr | (refine Tr.set ?_ (by first | omega | (simp; done) | (simp; omega)) _)))⟩
      case round =>
        obtain ⟨i, A, Q, R, xh, xl, qh, ql, rh, rl, rfl, hi, H1, H2, H3, H4, H5, H6, H7, K, T⟩ := hrel
        have hzz := Below.size T
        simp only [Keep] at K
        by_cases hlt : i < 128
        · obtain ⟨tp, tl⟩ := two_pow_le i hlt
          obtain ⟨T2, hT2⟩ : ∃ x : Int, (2:Int) ^ i = x := ⟨_, rfl⟩
          rw [hT2] at tp tl H3 H4
          have ha1 := H1.out
          have ha2 := H2.out
          have ha3 := H3.out
          obtain ⟨A2, hA2⟩ : ∃ x : Int, x = (2 * A) % 340282366920938463463374607431768211456 := ⟨_, rfl⟩
          obtain ⟨R3, hR3⟩ : ∃ x : Int, x = 2 * R + A / 170141183460469231731687303715884105728 := ⟨_, rfl⟩
          obtain ⟨R2, hR2⟩ : ∃ x : Int, x = (2 * R + A / 170141183460469231731687303715884105728) % 340282366920938463463374607431768211456 := ⟨_, rfl⟩
          obtain ⟨E1, E2⟩ := sh_in H7.out H5.out (by omega) (by omega) (by omega) (by omega) hR2
          obtain ⟨E3, E4⟩ := sh_0 H5.out (by omega) (by omega) hA2
          obtain ⟨E5, E6⟩ := sh_0 H6.out (by omega) (by omega) (r2 := 2 * Q) (by omega)
          have E7 : rh / 9223372036854775808 = R / 170141183460469231731687303715884105728 := by rw [H7.out.1]; omega
          obtain ⟨ov, hov⟩ : ∃ x : Int, x = R / 170141183460469231731687303715884105728 := ⟨_, rfl⟩
          rw [← hov] at E7
          have I0 := div_inv0 p b T2 A Q R H4.out
          have I1 := div_inv1 p b T2 A Q R H4.out
          rw [← hR3, ← hA2] at I0 I1
          obtain ⟨q2h, hq2h⟩ : ∃ x, x = 2 * Q / 18446744073709551616 := ⟨_, rfl⟩
          obtain ⟨q2l, hq2l⟩ : ∃ x, x = 2 * Q % 18446744073709551616 := ⟨_, rfl⟩
          obtain ⟨x2h, hx2h⟩ : ∃ x, x = A2 / 18446744073709551616 := ⟨_, rfl⟩
          obtain ⟨x2l, hx2l⟩ : ∃ x, x = A2 % 18446744073709551616 := ⟨_, rfl⟩
          obtain ⟨r2h, hr2h⟩ : ∃ x, x = R2 / 18446744073709551616 := ⟨_, rfl⟩
          obtain ⟨r2l, hr2l⟩ : ∃ x, x = R2 % 18446744073709551616 := ⟨_, rfl⟩
          rw [← hr2h] at E1
          rw [← hr2l] at E2
          rw [← hx2h] at E3
          rw [← hx2l] at E4
          rw [← hq2h] at E5
          rw [← hq2l] at E6
          have WR : Hid (Wd R2 r2h r2l) := ⟨hr2h, hr2l⟩
          have WX : Hid (Wd A2 x2h x2l) := ⟨hx2h, hx2l⟩
          have WQ : Hid (Wd (2 * Q) q2h q2l) := ⟨hq2h, hq2l⟩
          have WQ1 : Hid (Wd (2 * Q + 1) q2h (q2l + 1)) := (⟨by omega, by omega⟩ : Wd (2 * Q + 1) q2h (q2l + 1))
          have J0 := Lib.hid I0
          have J1 := Lib.hid I1
          have bq : 0 ≤ q2l ∧ q2l < 18446744073709551615 := by omega
          have hA3 : Hid (0 ≤ A2 ∧ A2 < 340282366920938463463374607431768211456) := (by omega : 0 ≤ A2 ∧ A2 < 340282366920938463463374607431768211456)
          have hR2b : Hid (0 ≤ R2 ∧ R2 < 340282366920938463463374607431768211456) := (by omega : 0 ≤ R2 ∧ R2 < 340282366920938463463374607431768211456)
          have hQ3 : Hid (0 ≤ 2 * Q ∧ 2 * Q + 1 < 2 * T2) := (by omega : 0 ≤ 2 * Q ∧ 2 * Q + 1 < 2 * T2)
          have hcase : (0 < ov ∧ Hid (0 ≤ R3 - b ∧ R3 - b < b ∧ (R2 - b) % 340282366920938463463374607431768211456 = R3 - b)) ∨ (ov = 0 ∧ Hid (¬ R2 < b) ∧ Hid (0 ≤ R3 - b ∧ R3 - b < b ∧ (R2 - b) % 340282366920938463463374607431768211456 = R3 - b)) ∨ (ov = 0 ∧ Hid (R2 < b) ∧ Hid (R2 = R3)) := by
            have key : (0 < ov ∧ (0 ≤ R3 - b ∧ R3 - b < b ∧ (R2 - b) % 340282366920938463463374607431768211456 = R3 - b)) ∨ (ov = 0 ∧ (¬ R2 < b) ∧ (0 ≤ R3 - b ∧ R3 - b < b ∧ (R2 - b) % 340282366920938463463374607431768211456 = R3 - b)) ∨ (ov = 0 ∧ (R2 < b) ∧ (R2 = R3)) := by omega
            exact key
          obtain ⟨r3h, hr3h⟩ : ∃ x, x = (R3 - b) / 18446744073709551616 := ⟨_, rfl⟩
          obtain ⟨r3l, hr3l⟩ : ∃ x, x = (R3 - b) % 18446744073709551616 := ⟨_, rfl⟩
          have WR3 : Hid (Wd (R3 - b) r3h r3l) := ⟨hr3h, hr3l⟩
          have hT3 : Hid ((2:Int) ^ (i + 1) = 2 * T2) := (by rw [two_pow_step, hT2] : (2:Int) ^ (i + 1) = 2 * T2)
          clear I0 I1 ha1 ha2 ha3 H1 H2 H3 H4 H5 H6 H7 hA2 hR3 hR2 hq2h hq2l hx2h hx2l hr2h hr2l hr3h hr3l hov tp tl hT2
          go_upto_region 9 with (fail)
          refine wp_forget (w0 := w) [(⟨w.heap.size, 0, none⟩, .int .u64 (xh)), (⟨w.heap.size, 1, none⟩, .int .u64 (xl)), (⟨w.heap.size + 1, 0, none⟩, .int .u64 (bh)), (⟨w.heap.size + 1, 1, none⟩, .int .u64 (bl)), (⟨w.heap.size + 1 + 1, 0, none⟩, .int .u64 (0)), (⟨w.heap.size + 1 + 1, 1, none⟩, .int .u64 (0)), (⟨w.heap.size + 1 + 1 + 1, 0, none⟩, .int .u64 (0)), (⟨w.heap.size + 1 + 1 + 1, 1, none⟩, .int .u64 (0)), (⟨w.heap.size + 1 + 1 + 1 + 1, 0, none⟩, .int .u64 (qh)), (⟨w.heap.size + 1 + 1 + 1 + 1, 1, none⟩, .int .u64 (ql)), (⟨w.heap.size + 1 + 1 + 1 + 1 + 1, 0, none⟩, .int .u64 (r2h)), (⟨w.heap.size + 1 + 1 + 1 + 1 + 1, 1, none⟩, .int .u64 (r2l))] (by first | (simp [Keep, go_sem, *]; done) | (simp [Keep, go_sem, *]; omega) | (simp (disch := first | omega | (simp; omega) | (simp; done)) [Keep, go_sem, cell_far, cell_off, RowKit.frozen?_alloc_cells, frozen_new, *]; done) | (simp (disch := first | omega | (simp; omega) | (simp; done)) [Keep, go_sem, cell_far, cell_off, RowKit.frozen?_alloc_cells, frozen_new, *]; omega)) (by repeat (first | exact Tr.refl _ | assumption | apply Tr.al | apply Tr.drN | apply Tr.dr | (refine Tr.set ?_ (by first | omega | (simp; done) | (simp; omega)) _))) ?_; intro w7 hs7 K7 T7; (try simp at hs7); simp only [Keep] at K7
          clear K T
          go_upto_region 10 with (fail)
          refine wp_forget (w0 := w) [(⟨w.heap.size, 0, none⟩, .int .u64 (x2h)), (⟨w.heap.size, 1, none⟩, .int .u64 (x2l)), (⟨w.heap.size + 1, 0, none⟩, .int .u64 (bh)), (⟨w.heap.size + 1, 1, none⟩, .int .u64 (bl)), (⟨w.heap.size + 1 + 1, 0, none⟩, .int .u64 (0)), (⟨w.heap.size + 1 + 1, 1, none⟩, .int .u64 (0)), (⟨w.heap.size + 1 + 1 + 1, 0, none⟩, .int .u64 (0)), (⟨w.heap.size + 1 + 1 + 1, 1, none⟩, .int .u64 (0)), (⟨w.heap.size + 1 + 1 + 1 + 1, 0, none⟩, .int .u64 (qh)), (⟨w.heap.size + 1 + 1 + 1 + 1, 1, none⟩, .int .u64 (ql)), (⟨w.heap.size + 1 + 1 + 1 + 1 + 1, 0, none⟩, .int .u64 (r2h)), (⟨w.heap.size + 1 + 1 + 1 + 1 + 1, 1, none⟩, .int .u64 (r2l))] (by first | (simp [Keep, go_sem, *]; done) | (simp [Keep, go_sem, *]; omega) | (simp (disch := first | omega | (simp; omega) | (simp; done)) [Keep, go_sem, cell_far, cell_off, RowKit.frozen?_alloc_cells, frozen_new, *]; done) | (simp (disch := first | omega | (simp; omega) | (simp; done)) [Keep, go_sem, cell_far, cell_off, RowKit.frozen?_alloc_cells, frozen_new, *]; omega)) (by repeat (first | exact Tr.refl _ | assumption | apply Tr.al | apply Tr.drN | apply Tr.dr | (refine Tr.set ?_ (by first | omega | (simp; done) | (simp; omega)) _))) ?_; intro w8 hs8 K8 T8; (try simp at hs8); simp only [Keep] at K8
          clear K7 T7
          go_upto_region 11 with (fail)
          refine wp_forget (w0 := w) [(⟨w.heap.size, 0, none⟩, .int .u64 (x2h)), (⟨w.heap.size, 1, none⟩, .int .u64 (x2l)), (⟨w.heap.size + 1, 0, none⟩, .int .u64 (bh)), (⟨w.heap.size + 1, 1, none⟩, .int .u64 (bl)), (⟨w.heap.size + 1 + 1, 0, none⟩, .int .u64 (0)), (⟨w.heap.size + 1 + 1, 1, none⟩, .int .u64 (0)), (⟨w.heap.size + 1 + 1 + 1, 0, none⟩, .int .u64 (0)), (⟨w.heap.size + 1 + 1 + 1, 1, none⟩, .int .u64 (0)), (⟨w.heap.size + 1 + 1 + 1 + 1, 0, none⟩, .int .u64 (q2h)), (⟨w.heap.size + 1 + 1 + 1 + 1, 1, none⟩, .int .u64 (q2l)), (⟨w.heap.size + 1 + 1 + 1 + 1 + 1, 0, none⟩, .int .u64 (r2h)), (⟨w.heap.size + 1 + 1 + 1 + 1 + 1, 1, none⟩, .int .u64 (r2l))] (by first | (simp [Keep, go_sem, *]; done) | (simp [Keep, go_sem, *]; omega) | (simp (disch := first | omega | (simp; omega) | (simp; done)) [Keep, go_sem, cell_far, cell_off, RowKit.frozen?_alloc_cells, frozen_new, *]; done) | (simp (disch := first | omega | (simp; omega) | (simp; done)) [Keep, go_sem, cell_far, cell_off, RowKit.frozen?_alloc_cells, frozen_new, *]; omega)) (by repeat (first | exact Tr.refl _ | assumption | apply Tr.al | apply Tr.drN | apply Tr.dr | (refine Tr.set ?_ (by first | omega | (simp; done) | (simp; omega)) _))) ?_; intro w2 hs2 K2 T2; (try simp at hs2); simp only [Keep] at K2
          clear K8 T8
          rcases hcase with ⟨c1, c2⟩ | ⟨c1, c2, c3⟩ | ⟨c1, c2, c3⟩
          · go_wp2_with (first
              | (go_at_call 56; (with_reducible refine (rminus_wd WR.out hB.out WR3.out hR2b.out.1 (by omega) hR2b.out.2 hb' c2.out.2.2 _).mono ?_); rintro e w3 ⟨rfl, ht3⟩; have T3 : Tr w w3 := Tr.trans (by repeat (first | exact Tr.refl _ | assumption | apply Tr.al | apply Tr.drN | apply Tr.dr | (refine Tr.set ?_ (by first | omega | (simp; done) | (simp; omega)) _))) ht3; have K3 := Keep.tr (l := [(⟨w.heap.size, 0, none⟩, .int .u64 (x2h)), (⟨w.heap.size, 1, none⟩, .int .u64 (x2l)), (⟨w.heap.size + 1, 0, none⟩, .int .u64 (bh)), (⟨w.heap.size + 1, 1, none⟩, .int .u64 (bl)), (⟨w.heap.size + 1 + 1, 0, none⟩, .int .u64 (0)), (⟨w.heap.size + 1 + 1, 1, none⟩, .int .u64 (0)), (⟨w.heap.size + 1 + 1 + 1, 0, none⟩, .int .u64 (0)), (⟨w.heap.size + 1 + 1 + 1, 1, none⟩, .int .u64 (0)), (⟨w.heap.size + 1 + 1 + 1 + 1, 0, none⟩, .int .u64 (q2h)), (⟨w.heap.size + 1 + 1 + 1 + 1, 1, none⟩, .int .u64 (q2l)), (⟨w.heap.size + 1 + 1 + 1 + 1 + 1, 0, none⟩, .int .u64 (r2h)), (⟨w.heap.size + 1 + 1 + 1 + 1 + 1, 1, none⟩, .int .u64 (r2l))]) (by first | (simp [Keep, go_sem, *]; done) | (simp [Keep, go_sem, *]; omega) | (simp (disch := first | omega | (simp; omega) | (simp; done)) [Keep, go_sem, cell_far, cell_off, RowKit.frozen?_alloc_cells, frozen_new, *]; done) | (simp (disch := first | omega | (simp; omega) | (simp; done)) [Keep, go_sem, cell_far, cell_off, RowKit.frozen?_alloc_cells, frozen_new, *]; omega)) ht3; have hz3 := Below.size ht3; (try simp at hz3); clear ht3; simp only [Keep] at K3))
            go_roundw
            case rel => exact ⟨i + 1, A2, 2 * Q + 1, R3 - b, x2h, x2l, q2h, q2l + 1, r3h, r3l, by go_num, by omega, hA3, ⟨c2.out.1, c2.out.2.1⟩, (by rw [hT3.out]; have := hQ3.out; omega : 0 ≤ 2 * Q + 1 ∧ 2 * Q + 1 < 2 ^ (i + 1)), (by rw [hT3.out]; exact J1.out : p * 2 ^ (i + 1) = ((2 * Q + 1) * b + (R3 - b)) * 340282366920938463463374607431768211456 + A2), WX, WQ1, WR3, (by first | (simp [Keep, go_sem, *]; done) | (simp [Keep, go_sem, *]; omega) | (simp (disch := first | omega | (simp; omega) | (simp; done)) [Keep, go_sem, cell_far, cell_off, RowKit.frozen?_alloc_cells, frozen_new, *]; done) | (simp (disch := first | omega | (simp; omega) | (simp; done)) [Keep, go_sem, cell_far, cell_off, RowKit.frozen?_alloc_cells, frozen_new, *]; omega)), (by repeat (first | exact Tr.refl _ | assumption | apply Tr.al | apply Tr.drN | apply Tr.dr | (refine Tr.set ?_ (by first | omega | (simp; done) | (simp; omega)) _)))⟩
            case measure => simp [intOf]; omega
          · go_wp2_with (first
              | (go_at_call 55; (with_reducible refine (rless_ge WR.out hB.out hR2b.out.1 (by omega) c2.out _).mono ?_); rintro e w3 ⟨rfl, ht3⟩; have T3 : Tr w w3 := Tr.trans (by repeat (first | exact Tr.refl _ | assumption | apply Tr.al | apply Tr.drN | apply Tr.dr | (refine Tr.set ?_ (by first | omega | (simp; done) | (simp; omega)) _))) ht3; have K3 := Keep.tr (l := [(⟨w.heap.size, 0, none⟩, .int .u64 (x2h)), (⟨w.heap.size, 1, none⟩, .int .u64 (x2l)), (⟨w.heap.size + 1, 0, none⟩, .int .u64 (bh)), (⟨w.heap.size + 1, 1, none⟩, .int .u64 (bl)), (⟨w.heap.size + 1 + 1, 0, none⟩, .int .u64 (0)), (⟨w.heap.size + 1 + 1, 1, none⟩, .int .u64 (0)), (⟨w.heap.size + 1 + 1 + 1, 0, none⟩, .int .u64 (0)), (⟨w.heap.size + 1 + 1 + 1, 1, none⟩, .int .u64 (0)), (⟨w.heap.size + 1 + 1 + 1 + 1, 0, none⟩, .int .u64 (q2h)), (⟨w.heap.size + 1 + 1 + 1 + 1, 1, none⟩, .int .u64 (q2l)), (⟨w.heap.size + 1 + 1 + 1 + 1 + 1, 0, none⟩, .int .u64 (r2h)), (⟨w.heap.size + 1 + 1 + 1 + 1 + 1, 1, none⟩, .int .u64 (r2l))]) (by first | (simp [Keep, go_sem, *]; done) | (simp [Keep, go_sem, *]; omega) | (simp (disch := first | omega | (simp; omega) | (simp; done)) [Keep, go_sem, cell_far, cell_off, RowKit.frozen?_alloc_cells, frozen_new, *]; done) | (simp (disch := first | omega | (simp; omega) | (simp; done)) [Keep, go_sem, cell_far, cell_off, RowKit.frozen?_alloc_cells, frozen_new, *]; omega)) ht3; have hz3 := Below.size ht3; (try simp at hz3); clear ht3; simp only [Keep] at K3)
              | (go_at_call 56; (with_reducible refine (rminus_wd WR.out hB.out WR3.out hR2b.out.1 (by omega) hR2b.out.2 hb' c3.out.2.2 _).mono ?_); rintro e w4 ⟨rfl, ht4⟩; have T4 : Tr w w4 := Tr.trans (by repeat (first | exact Tr.refl _ | assumption | apply Tr.al | apply Tr.drN | apply Tr.dr | (refine Tr.set ?_ (by first | omega | (simp; done) | (simp; omega)) _))) ht4; have K4 := Keep.tr (l := [(⟨w.heap.size, 0, none⟩, .int .u64 (x2h)), (⟨w.heap.size, 1, none⟩, .int .u64 (x2l)), (⟨w.heap.size + 1, 0, none⟩, .int .u64 (bh)), (⟨w.heap.size + 1, 1, none⟩, .int .u64 (bl)), (⟨w.heap.size + 1 + 1, 0, none⟩, .int .u64 (0)), (⟨w.heap.size + 1 + 1, 1, none⟩, .int .u64 (0)), (⟨w.heap.size + 1 + 1 + 1, 0, none⟩, .int .u64 (0)), (⟨w.heap.size + 1 + 1 + 1, 1, none⟩, .int .u64 (0)), (⟨w.heap.size + 1 + 1 + 1 + 1, 0, none⟩, .int .u64 (q2h)), (⟨w.heap.size + 1 + 1 + 1 + 1, 1, none⟩, .int .u64 (q2l)), (⟨w.heap.size + 1 + 1 + 1 + 1 + 1, 0, none⟩, .int .u64 (r2h)), (⟨w.heap.size + 1 + 1 + 1 + 1 + 1, 1, none⟩, .int .u64 (r2l))]) (by first | (simp [Keep, go_sem, *]; done) | (simp [Keep, go_sem, *]; omega) | (simp (disch := first | omega | (simp; omega) | (simp; done)) [Keep, go_sem, cell_far, cell_off, RowKit.frozen?_alloc_cells, frozen_new, *]; done) | (simp (disch := first | omega | (simp; omega) | (simp; done)) [Keep, go_sem, cell_far, cell_off, RowKit.frozen?_alloc_cells, frozen_new, *]; omega)) ht4; have hz4 := Below.size ht4; (try simp at hz4); clear ht4; simp only [Keep] at K4))
            go_roundw
            case rel => exact ⟨i + 1, A2, 2 * Q + 1, R3 - b, x2h, x2l, q2h, q2l + 1, r3h, r3l, by go_num, by omega, hA3, ⟨c3.out.1, c3.out.2.1⟩, (by rw [hT3.out]; have := hQ3.out; omega : 0 ≤ 2 * Q + 1 ∧ 2 * Q + 1 < 2 ^ (i + 1)), (by rw [hT3.out]; exact J1.out : p * 2 ^ (i + 1) = ((2 * Q + 1) * b + (R3 - b)) * 340282366920938463463374607431768211456 + A2), WX, WQ1, WR3, (by first | (simp [Keep, go_sem, *]; done) | (simp [Keep, go_sem, *]; omega) | (simp (disch := first | omega | (simp; omega) | (simp; done)) [Keep, go_sem, cell_far, cell_off, RowKit.frozen?_alloc_cells, frozen_new, *]; done) | (simp (disch := first | omega | (simp; omega) | (simp; done)) [Keep, go_sem, cell_far, cell_off, RowKit.frozen?_alloc_cells, frozen_new, *]; omega)), (by repeat (first | exact Tr.refl _ | assumption | apply Tr.al | apply Tr.drN | apply Tr.dr | (refine Tr.set ?_ (by first | omega | (simp; done) | (simp; omega)) _)))⟩
            case measure => simp [intOf]; omega
          · go_wp2_with (first
              | (go_at_call 55; (with_reducible refine (rless_lt WR.out hB.out hR2b.out.1 (by omega) c2.out _).mono ?_); rintro e w3 ⟨rfl, ht3⟩; have T3 : Tr w w3 := Tr.trans (by repeat (first | exact Tr.refl _ | assumption | apply Tr.al | apply Tr.drN | apply Tr.dr | (refine Tr.set ?_ (by first | omega | (simp; done) | (simp; omega)) _))) ht3; have K3 := Keep.tr (l := [(⟨w.heap.size, 0, none⟩, .int .u64 (x2h)), (⟨w.heap.size, 1, none⟩, .int .u64 (x2l)), (⟨w.heap.size + 1, 0, none⟩, .int .u64 (bh)), (⟨w.heap.size + 1, 1, none⟩, .int .u64 (bl)), (⟨w.heap.size + 1 + 1, 0, none⟩, .int .u64 (0)), (⟨w.heap.size + 1 + 1, 1, none⟩, .int .u64 (0)), (⟨w.heap.size + 1 + 1 + 1, 0, none⟩, .int .u64 (0)), (⟨w.heap.size + 1 + 1 + 1, 1, none⟩, .int .u64 (0)), (⟨w.heap.size + 1 + 1 + 1 + 1, 0, none⟩, .int .u64 (q2h)), (⟨w.heap.size + 1 + 1 + 1 + 1, 1, none⟩, .int .u64 (q2l)), (⟨w.heap.size + 1 + 1 + 1 + 1 + 1, 0, none⟩, .int .u64 (r2h)), (⟨w.heap.size + 1 + 1 + 1 + 1 + 1, 1, none⟩, .int .u64 (r2l))]) (by first | (simp [Keep, go_sem, *]; done) | (simp [Keep, go_sem, *]; omega) | (simp (disch := first | omega | (simp; omega) | (simp; done)) [Keep, go_sem, cell_far, cell_off, RowKit.frozen?_alloc_cells, frozen_new, *]; done) | (simp (disch := first | omega | (simp; omega) | (simp; done)) [Keep, go_sem, cell_far, cell_off, RowKit.frozen?_alloc_cells, frozen_new, *]; omega)) ht3; have hz3 := Below.size ht3; (try simp at hz3); clear ht3; simp only [Keep] at K3))
            go_roundw
            case rel => exact ⟨i + 1, A2, 2 * Q, R2, x2h, x2l, q2h, q2l, r2h, r2l, by go_num, by omega, hA3, ⟨hR2b.out.1, c2.out⟩, (by rw [hT3.out]; have := hQ3.out; omega : 0 ≤ 2 * Q ∧ 2 * Q < 2 ^ (i + 1)), (by rw [hT3.out, c3.out]; exact J0.out : p * 2 ^ (i + 1) = (2 * Q * b + R2) * 340282366920938463463374607431768211456 + A2), WX, WQ, WR, (by first | (simp [Keep, go_sem, *]; done) | (simp [Keep, go_sem, *]; omega) | (simp (disch := first | omega | (simp; omega) | (simp; done)) [Keep, go_sem, cell_far, cell_off, RowKit.frozen?_alloc_cells, frozen_new, *]; done) | (simp (disch := first | omega | (simp; omega) | (simp; done)) [Keep, go_sem, cell_far, cell_off, RowKit.frozen?_alloc_cells, frozen_new, *]; omega)), (by repeat (first | exact Tr.refl _ | assumption | apply Tr.al | apply Tr.drN | apply Tr.dr | (refine Tr.set ?_ (by first | omega | (simp; done) | (simp; omega)) _)))⟩
            case measure => simp [intOf]; omega
        · obtain rfl : i = 128 := by omega
          go_wp2
          go_region
          go_wp2
          have H4' : Hid (p * 340282366920938463463374607431768211456 = (Q * b + R) * 340282366920938463463374607431768211456 + A) := (by have := H4.out; simpa using this : p * 340282366920938463463374607431768211456 = (Q * b + R) * 340282366920938463463374607431768211456 + A)
          simp [bodyPost, results, Tryd.results69, go_sem, K]
          exact ⟨A, Q, R, qh, ql, rh, rl, H1, H2, H4', H6, H7, rfl, (by repeat (first | exact Tr.refl _ | assumption | apply Tr.al | apply Tr.drN | apply Tr.dr | (refine Tr.set ?_ (by first | omega | (simp; done) | (simp; omega)) _)))⟩
  refine hL.mono fun e w' ⟨A, Q, R, qh, ql, rh, rl, a1, a2, a3, a4, a5, he, ht⟩ => ⟨?_, ht⟩
  obtain ⟨e1, e2⟩ := div_end p b A Q R a3.out a1.out.1 a1.out.2 a2.out.1 a2.out.2
  obtain ⟨rfl, rfl⟩ := a4.out
  obtain ⟨rfl, rfl⟩ := a5.out
  rw [he, ← e1, ← e2]
end Go.Proofs.YtpjkiljgccjemaaDoor
