/- Contract of the reference's Gcd. -/
import Derived.Test.YtpjkiljgccjemaaDoorRefE
import Derived.IntWalk
namespace Go.Proofs.YtpjkiljgccjemaaDoor
set_option linter.unusedVariables false
open Go.RowKit Go.Sort

theorem wide_lt {w1 w2 : World} {b : Nat} {x1 h1 l1 x2 h2 l2 : Int} (a1 : Wd x1 h1 l1) (a2 : Wd x2 h2 l2) (c1 : w1.cell? ⟨b, 0, none⟩ = some (.int .u64 h1)) (c2 : w1.cell? ⟨b, 1, none⟩ = some (.int .u64 l1))
    (c3 : w2.cell? ⟨b, 0, none⟩ = some (.int .u64 h2)) (c4 : w2.cell? ⟨b, 1, none⟩ = some (.int .u64 l2)) (h0 : 0 ≤ x1) (h : x1 < x2) : wideAt w1 b < wideAt w2 b := by
  rw [wideAt_eq a1 c1 c2, wideAt_eq a2 c3 c4]; omega
theorem wide_lt2 {w1 w2 : World} {b b' : Nat} {x1 h1 l1 x2 h2 l2 y1 i1 j1 y2 i2 j2 : Int} (a1 : Wd x1 h1 l1) (a2 : Wd x2 h2 l2) (a3 : Wd y1 i1 j1) (a4 : Wd y2 i2 j2) (h0 : 0 ≤ x1 ∧ 0 ≤ y1 ∧ x1 + y1 < x2 + y2)
    (c1 : w1.cell? ⟨b, 0, none⟩ = some (.int .u64 h1)) (c2 : w1.cell? ⟨b, 1, none⟩ = some (.int .u64 l1)) (d1 : w1.cell? ⟨b', 0, none⟩ = some (.int .u64 i1)) (d2 : w1.cell? ⟨b', 1, none⟩ = some (.int .u64 j1))
    (c3 : w2.cell? ⟨b, 0, none⟩ = some (.int .u64 h2)) (c4 : w2.cell? ⟨b, 1, none⟩ = some (.int .u64 l2)) (d3 : w2.cell? ⟨b', 0, none⟩ = some (.int .u64 i2)) (d4 : w2.cell? ⟨b', 1, none⟩ = some (.int .u64 j2)) :
    wideAt w1 b + wideAt w1 b' < wideAt w2 b + wideAt w2 b' := by
  rw [wideAt_eq a1 c1 c2, wideAt_eq a2 c3 c4, wideAt_eq a3 d1 d2, wideAt_eq a4 d3 d4]; omega
theorem wd_mask {x h l : Int} (a : Wd x h l) : bits .and .u64 l 1 = x % 2 := by
  rw [a.2, mask1 _ (by omega) (by omega)]; omega
theorem wd_zero {x h l : Int} (a : Wd x h l) (h0 : 0 ≤ x) (h1 : x < 340282366920938463463374607431768211456) : (x = 0 ∧ h = 0 ∧ l = 0) ∨ (1 ≤ x ∧ (h == 0) = false) ∨ (1 ≤ x ∧ (h == 0) = true ∧ (l == 0) = false) := by
  obtain ⟨rfl, rfl⟩ := a
  by_cases e1 : x / 18446744073709551616 = 0
  · by_cases e2 : x % 18446744073709551616 = 0
    · exact .inl (by omega)
    · exact .inr (.inr ⟨by omega, by simp [e1], by simp [e2]⟩)
  · exact .inr (.inl ⟨by omega, by simp [e1]⟩)
def Big : Int := 340282366920938463463374607431768211456
theorem gcd_le_r {a b : Int} (hb : 1 ≤ b) : (Int.gcd a b : Int) ≤ b := Int.gcd_le_right _ (by omega)
theorem twos_lt {g t : Nat} {G : Int} (h : (g : Int) * 2 ^ t = G) (hg : 1 ≤ g) (hG : G < Big) : t < 128 := by
  rcases Nat.lt_or_ge t 128 with h1 | h1
  · exact h1
  · exfalso
    have h2 : (2:Nat) ^ 128 ≤ 2 ^ t := Nat.pow_le_pow_right (by decide) h1
    have h3 : ((2 ^ 128 : Nat) : Int) ≤ ((2 ^ t : Nat) : Int) := Int.ofNat_le.2 h2
    rw [Int.natCast_pow] at h3
    have h4 : (2:Int) ^ t ≤ (g : Int) * 2 ^ t := by
      have : (1:Int) * 2 ^ t ≤ (g : Int) * 2 ^ t := Int.mul_le_mul_of_nonneg_right (by omega) (Int.le_of_lt (Int.pow_pos (by decide)))
      simpa using this
    simp at h3
    rw [h] at h4
    have : ((2:Int) ^ t) = (((2:Nat) : Int) ^ t) := rfl
    unfold Big at hG
    omega

theorem gcd_half2 {x y : Int} {t : Nat} {G : Int} (hx : x % 2 = 0) (hy : y % 2 = 0) (h : (Int.gcd x y : Int) * 2 ^ t = G) : (Int.gcd (x / 2) (y / 2) : Int) * 2 ^ (t + 1) = G := by
  rw [gcd_twice x y hx hy] at h
  rw [← h, Int.pow_succ]
  push_cast
  grind
def GcdPost (p q : Int) (w : World) (e : Ending) (w' : World) : Prop :=
  ∃ gh gl : Int, Hid (Wd (Int.gcd p q) gh gl) ∧ e = .returned (.agg #[.int .u64 gh, .int .u64 gl]) ∧ Tr w w'
theorem gcd_lt_big {p q : Int} (hq : 1 ≤ q) (h : q < Big) : (Int.gcd p q : Int) < Big := Int.lt_of_le_of_lt (gcd_le_r hq) h

set_option maxRecDepth 100000 in
set_option maxHeartbeats 4000000 in
theorem rgcd_core (p q ah al bh bl : Int) (w : World) (hp : 1 ≤ p) (hp' : Hid (p < Big)) (hq : 1 ≤ q) (hq' : Hid (q < Big)) (hA : Hid (Wd p ah al)) (hB : Hid (Wd q bh bl)) (hz : (ah == 0) = false ∨ ((ah == 0) = true ∧ (al == 0) = false)) :
    Calls Tryd.prog 51 #[.agg #[.int .u64 ah, .int .u64 al], .agg #[.int .u64 bh, .int .u64 bl]] w (GcdPost p q w) := by
  go_enter Tryd.func51, Tryd.ntmps51
  go_upto_region 1 with (fail)
  refine wp_forget (w0 := w) [(⟨w.heap.size, 0, none⟩, .int .u64 (ah)), (⟨w.heap.size, 1, none⟩, .int .u64 (al)), (⟨w.heap.size + 1, 0, none⟩, .int .u64 (bh)), (⟨w.heap.size + 1, 1, none⟩, .int .u64 (bl)), (⟨w.heap.size + 1 + 1, 0, none⟩, .int .u64 (0)), (⟨w.heap.size + 1 + 1, 1, none⟩, .int .u64 (0))] (by first | (simp [Keep, go_sem, *]; done) | (simp [Keep, go_sem, *]; omega) | (simp (disch := first | omega | (simp; omega) | (simp; done)) [Keep, go_sem, cell_far, cell_off, RowKit.frozen?_alloc_cells, frozen_new, *]; done) | (simp (disch := first | omega | (simp; omega) | (simp; done)) [Keep, go_sem, cell_far, cell_off, RowKit.frozen?_alloc_cells, frozen_new, *]; omega)) (by repeat (first | exact Tr.refl _ | assumption | apply Tr.al | apply Tr.drN | apply Tr.dr | (refine Tr.set ?_ (by first | omega | (simp; done) | (simp; omega)) _))) ?_; intro w9 hs9 K9 T9; (try simp at hs9); simp only [Keep] at K9
  go_cut [8] (fun s wx => s = .bool false ∧ w9 = wx)
  case first =>
    rcases hz with hz | ⟨hz, hz'⟩
    all_goals
      go_wp2_with fail
      go_meet
      exact ⟨rfl, rfl⟩
  obtain ⟨rfl, rfl⟩ := hcut
  clear hz
  go_wp2
  go_loopw [5] (fun s wr => ∃ (t : Nat) (x y xh xl yh yl : Int), s = .int .i64 t ∧ t < 128 ∧ Hid (1 ≤ x ∧ x < Big) ∧ Hid (1 ≤ y ∧ y < Big) ∧ Hid ((Int.gcd x y : Int) * 2 ^ t = Int.gcd p q) ∧ Hid (Wd x xh xl) ∧ Hid (Wd y yh yl) ∧ Keep wr [(⟨w.heap.size, 0, none⟩, .int .u64 (xh)), (⟨w.heap.size, 1, none⟩, .int .u64 (xl)), (⟨w.heap.size + 1, 0, none⟩, .int .u64 (yh)), (⟨w.heap.size + 1, 1, none⟩, .int .u64 (yl)), (⟨w.heap.size + 1 + 1, 0, none⟩, .int .u64 (0)), (⟨w.heap.size + 1 + 1, 1, none⟩, .int .u64 (0))] ∧ Tr w wr) (fun _ wr => wideAt wr w.heap.size)
  case atStart => exact ⟨0, p, q, ah, al, bh, bl, rfl, by omega, ⟨hp, hp'.out⟩, ⟨hq, hq'.out⟩, (by simp : (Int.gcd p q : Int) * 2 ^ 0 = Int.gcd p q), hA, hB, (by first | (simp [Keep, go_sem, *]; done) | (simp [Keep, go_sem, *]; omega) | (simp (disch := first | omega | (simp; omega) | (simp; done)) [Keep, go_sem, cell_far, cell_off, RowKit.frozen?_alloc_cells, frozen_new, *]; done) | (simp (disch := first | omega | (simp; omega) | (simp; done)) [Keep, go_sem, cell_far, cell_off, RowKit.frozen?_alloc_cells, frozen_new, *]; omega)), (by repeat (first | exact Tr.refl _ | assumption | apply Tr.al | apply Tr.drN | apply Tr.dr | (refine Tr.set ?_ (by first | omega | (simp; done) | (simp; omega)) _)))⟩
  case round =>
    obtain ⟨t, x, y, xh, xl, yh, yl, rfl, ht, H1, H2, H3, H4, H5, K, T⟩ := hrel
    have hzz := Below.size T
    simp only [Keep] at K
    have mx := wd_mask H4.out
    have my := wd_mask H5.out
    have hx2 : x % 2 = 0 ∨ x % 2 = 1 := by omega
    have hy2 : y % 2 = 0 ∨ y % 2 = 1 := by omega
    by_cases hee : x % 2 = 0 ∧ y % 2 = 0
    · obtain ⟨e1, e2⟩ := hee
      rw [e1] at mx
      rw [e2] at my
      have E1 := Lib.hid e1
      have E2 := Lib.hid e2
      obtain ⟨x2h, hx2h⟩ : ∃ z, z = x / 2 / 18446744073709551616 := ⟨_, rfl⟩
      obtain ⟨x2l, hx2l⟩ : ∃ z, z = x / 2 % 18446744073709551616 := ⟨_, rfl⟩
      obtain ⟨y2h, hy2h⟩ : ∃ z, z = y / 2 / 18446744073709551616 := ⟨_, rfl⟩
      obtain ⟨y2l, hy2l⟩ : ∃ z, z = y / 2 % 18446744073709551616 := ⟨_, rfl⟩
      have WX : Hid (Wd (x / 2) x2h x2l) := ⟨hx2h, hx2l⟩
      have WY : Hid (Wd (y / 2) y2h y2l) := ⟨hy2h, hy2l⟩
      have C1 := Lib.hid fun W => rhalf_wd H4.out WX.out (by have := H1.out; omega) H1.out.2 W
      have C2 := Lib.hid fun W => rhalf_wd H5.out WY.out (by have := H2.out; omega) H2.out.2 W
      clear e1 e2 hx2h hx2l hy2h hy2l hx2 hy2
      have G : (Int.gcd (x / 2) (y / 2) : Int) * 2 ^ (t + 1) = Int.gcd p q := gcd_half2 E1.out E2.out H3.out
      have ht' : t + 1 < 128 := twos_lt (g := Int.gcd (x / 2) (y / 2)) G (by have := H1.out; have := E1.out; exact Int.gcd_pos_of_ne_zero_left _ (by omega)) (gcd_lt_big hq hq'.out)
      have GH := Lib.hid G
      clear G
      go_upto_region 5 with (fail)
      have ew : IntKind.i64.wrap ((t : Int) + 1) = (t : Int) + 1 := IntWalk.i64_in _ (by omega)
      go_region_with (first
        | (go_at_call 70; (with_reducible refine (C1.out _).mono ?_); rintro e w3 ⟨rfl, ht3⟩; have T3 : Tr w w3 := Tr.trans (by repeat (first | exact Tr.refl _ | assumption | apply Tr.al | apply Tr.drN | apply Tr.dr | (refine Tr.set ?_ (by first | omega | (simp; done) | (simp; omega)) _))) ht3; have K3 := Keep.tr (l := [(⟨w.heap.size, 0, none⟩, .int .u64 (xh)), (⟨w.heap.size, 1, none⟩, .int .u64 (xl)), (⟨w.heap.size + 1, 0, none⟩, .int .u64 (yh)), (⟨w.heap.size + 1, 1, none⟩, .int .u64 (yl)), (⟨w.heap.size + 1 + 1, 0, none⟩, .int .u64 (0)), (⟨w.heap.size + 1 + 1, 1, none⟩, .int .u64 (0))]) (by first | (simp [Keep, go_sem, *]; done) | (simp [Keep, go_sem, *]; omega) | (simp (disch := first | omega | (simp; omega) | (simp; done)) [Keep, go_sem, cell_far, cell_off, RowKit.frozen?_alloc_cells, frozen_new, *]; done) | (simp (disch := first | omega | (simp; omega) | (simp; done)) [Keep, go_sem, cell_far, cell_off, RowKit.frozen?_alloc_cells, frozen_new, *]; omega)) ht3; simp only [Keep] at K3; clear ht3)
        | (go_at_call 70; (with_reducible refine (C2.out _).mono ?_); rintro e w4 ⟨rfl, ht4⟩; have T4 : Tr w w4 := Tr.trans (by repeat (first | exact Tr.refl _ | assumption | apply Tr.al | apply Tr.drN | apply Tr.dr | (refine Tr.set ?_ (by first | omega | (simp; done) | (simp; omega)) _))) ht4; have K4 := Keep.tr (l := [(⟨w.heap.size, 0, none⟩, .int .u64 (xh)), (⟨w.heap.size, 1, none⟩, .int .u64 (xl)), (⟨w.heap.size + 1, 0, none⟩, .int .u64 (yh)), (⟨w.heap.size + 1, 1, none⟩, .int .u64 (yl)), (⟨w.heap.size + 1 + 1, 0, none⟩, .int .u64 (0)), (⟨w.heap.size + 1 + 1, 1, none⟩, .int .u64 (0))]) (by first | (simp [Keep, go_sem, *]; done) | (simp [Keep, go_sem, *]; omega) | (simp (disch := first | omega | (simp; omega) | (simp; done)) [Keep, go_sem, cell_far, cell_off, RowKit.frozen?_alloc_cells, frozen_new, *]; done) | (simp (disch := first | omega | (simp; omega) | (simp; done)) [Keep, go_sem, cell_far, cell_off, RowKit.frozen?_alloc_cells, frozen_new, *]; omega)) ht4; simp only [Keep] at K4; clear ht4))
      all_goals
        go_wp2
        clear ew
        go_roundw
        case rel => (repeat apply Exists.intro); exact ⟨⟨t + 1, x / 2, y / 2, x2h, x2l, y2h, y2l, by go_num, ht', (by have := H1.out; have := E1.out; omega : 1 ≤ x / 2 ∧ x / 2 < Big), (by have := H2.out; have := E2.out; omega : 1 ≤ y / 2 ∧ y / 2 < Big), GH.out, WX, WY, (by first | (simp [Keep, go_sem, *]; done) | (simp [Keep, go_sem, *]; omega) | (simp (disch := first | omega | (simp; omega) | (simp; done)) [Keep, go_sem, cell_far, cell_off, RowKit.frozen?_alloc_cells, frozen_new, *]; done) | (simp (disch := first | omega | (simp; omega) | (simp; done)) [Keep, go_sem, cell_far, cell_off, RowKit.frozen?_alloc_cells, frozen_new, *]; omega)), (by repeat (first | exact Tr.refl _ | assumption | apply Tr.al | apply Tr.drN | apply Tr.dr | (refine Tr.set ?_ (by first | omega | (simp; done) | (simp; omega)) _)))⟩, rfl⟩
        case measure =>
          refine wide_lt WX.out H4.out ?_ ?_ ?_ ?_ ?_ ?_
          · (first | (simp [go_sem, *]; done) | (simp (disch := first | omega | (simp; omega) | (simp; done)) [go_sem, cell_far, cell_off, *]; done))
          · (first | (simp [go_sem, *]; done) | (simp (disch := first | omega | (simp; omega) | (simp; done)) [go_sem, cell_far, cell_off, *]; done))
          · simp [K]
          · simp [K]
          · have := H1.out; omega
          · have := H1.out; have := E1.out; omega
    · have hodd : Hid (x % 2 = 1 ∨ y % 2 = 1) := (by omega : x % 2 = 1 ∨ y % 2 = 1)
      have hcases : (bits .and .u64 xl 1 = 1) ∨ (bits .and .u64 xl 1 = 0 ∧ bits .and .u64 yl 1 = 1) := by rw [mx, my]; omega
      obtain ⟨g, hg⟩ : ∃ g : Int, (Int.gcd x y : Int) = g := ⟨_, rfl⟩
      have HG : Hid (g * 2 ^ t = Int.gcd p q) := (by rw [← hg]; exact H3.out : g * 2 ^ t = Int.gcd p q)
      have hg' := Lib.hid hg
      clear mx my hx2 hy2 hee H3 hg
      go_upto_region 4 with (fail)
      go_cut [19] (fun s wx => s = .bool false ∧ wr = wx)
      case first =>
        rcases hcases with mx | ⟨mx, my⟩
        all_goals
          go_wp2_with fail
          go_meet
          exact ⟨rfl, rfl⟩
      obtain ⟨rfl, rfl⟩ := hcut
      clear hcases
      go_wp2
      obtain ⟨wo, rfl⟩ : ∃ wo : World, wo = wr := ⟨_, rfl⟩
      go_loopw [] (fun wr => ∃ (x y xh xl yh yl : Int), Hid (0 ≤ x ∧ x < Big) ∧ Hid (1 ≤ y ∧ y < Big) ∧ Hid ((Int.gcd x y : Int) = g) ∧ Hid (x % 2 = 1 ∨ y % 2 = 1) ∧ Hid (Wd x xh xl) ∧ Hid (Wd y yh yl) ∧ Keep wr [(⟨w.heap.size, 0, none⟩, .int .u64 (xh)), (⟨w.heap.size, 1, none⟩, .int .u64 (xl)), (⟨w.heap.size + 1, 0, none⟩, .int .u64 (yh)), (⟨w.heap.size + 1, 1, none⟩, .int .u64 (yl)), (⟨w.heap.size + 1 + 1, 0, none⟩, .int .u64 (0)), (⟨w.heap.size + 1 + 1, 1, none⟩, .int .u64 (0))] ∧ Tr w wr) (fun wr => wideAt wr w.heap.size + wideAt wr (w.heap.size + 1))
      case atStart => exact ⟨x, y, xh, xl, yh, yl, ⟨by have := H1.out; omega, H1.out.2⟩, H2, hg', hodd, H4, H5, (by first | (simp [Keep, go_sem, *]; done) | (simp [Keep, go_sem, *]; omega) | (simp (disch := first | omega | (simp; omega) | (simp; done)) [Keep, go_sem, cell_far, cell_off, RowKit.frozen?_alloc_cells, frozen_new, *]; done) | (simp (disch := first | omega | (simp; omega) | (simp; done)) [Keep, go_sem, cell_far, cell_off, RowKit.frozen?_alloc_cells, frozen_new, *]; omega)), (by repeat (first | exact Tr.refl _ | assumption | apply Tr.al | apply Tr.drN | apply Tr.dr | (refine Tr.set ?_ (by first | omega | (simp; done) | (simp; omega)) _)))⟩
      case round =>
        clear H1 H2 H4 H5 hg' hodd K T hzz
        clear x y xh xl yh yl
        obtain ⟨x, y, xh, xl, yh, yl, J1, J2, J3, J4, J5, J6, K, T⟩ := hrel
        have hzz := Below.size T
        simp only [Keep] at K
        rcases wd_zero J5.out J1.out.1 J1.out.2 with ⟨z1, rfl, rfl⟩ | hnz
        · have hy : Hid (y * 2 ^ t = Int.gcd p q) := (by have h3 := J3.out; have h2 := J2.out; rw [z1] at h3; have e : (Int.gcd 0 y : Int) = y := (by simp; omega); rw [← HG.out, ← h3, e] : y * 2 ^ t = Int.gcd p q)
          clear z1 J1 J3 J4 J5
          go_wp2
          obtain ⟨wo2, rfl⟩ : ∃ wo : World, wo = wr := ⟨_, rfl⟩
          go_loopw [5] (fun s wr => ∃ (k : Nat) (y yh yl : Int), s = .int .i64 k ∧ k < 128 ∧ Hid (1 ≤ y) ∧ Hid (y * 2 ^ k = Int.gcd p q) ∧ Hid (Wd y yh yl) ∧ Keep wr [(⟨w.heap.size + 1, 0, none⟩, .int .u64 (yh)), (⟨w.heap.size + 1, 1, none⟩, .int .u64 (yl)), (⟨w.heap.size + 1 + 1, 0, none⟩, .int .u64 (0)), (⟨w.heap.size + 1 + 1, 1, none⟩, .int .u64 (0))] ∧ Tr w wr) (fun s _ => (intOf s).toNat)
          case atStart => exact ⟨t, y, yh, yl, rfl, ht, J2.out.1, hy, J6, (by first | (simp [Keep, go_sem, *]; done) | (simp [Keep, go_sem, *]; omega) | (simp (disch := first | omega | (simp; omega) | (simp; done)) [Keep, go_sem, cell_far, cell_off, RowKit.frozen?_alloc_cells, frozen_new, *]; done) | (simp (disch := first | omega | (simp; omega) | (simp; done)) [Keep, go_sem, cell_far, cell_off, RowKit.frozen?_alloc_cells, frozen_new, *]; omega)), (by repeat (first | exact Tr.refl _ | assumption | apply Tr.al | apply Tr.drN | apply Tr.dr | (refine Tr.set ?_ (by first | omega | (simp; done) | (simp; omega)) _)))⟩
          case round =>
            clear hy J6 J2 K T hzz HG ht
            clear y yh yl
            obtain ⟨k, y, yh, yl, rfl, hk, J1, J2, J3, K, T⟩ := hrel
            have hzz := Below.size T
            simp only [Keep] at K
            by_cases h0 : 0 < k
            · have hb : Hid (y + y < Big) := (by
                have h3 := J2.out
                have h4 := gcd_lt_big (p := p) hq hq'.out
                have h5 := J1.out
                obtain ⟨k, rfl⟩ : ∃ j, k = j + 1 := ⟨k - 1, by omega⟩
                rw [Int.pow_succ] at h3
                have h6 : (1:Int) ≤ 2 ^ k := Int.pow_pos (by decide)
                have h7 : y * 1 ≤ y * 2 ^ k := Int.mul_le_mul_of_nonneg_left h6 (by omega)
                have h8 : y * (2 ^ k * 2) = 2 * (y * 2 ^ k) := by grind
                omega : y + y < Big)
              obtain ⟨zh, hzh⟩ : ∃ z, z = (y + y) / 18446744073709551616 := ⟨_, rfl⟩
              obtain ⟨zl, hzl⟩ : ∃ z, z = (y + y) % 18446744073709551616 := ⟨_, rfl⟩
              have WZ : Hid (Wd (y + y) zh zl) := ⟨hzh, hzl⟩
              clear hzh hzl
              have CP := Lib.hid fun W => rplus_wd J3.out J3.out WZ.out (by have := J1.out; omega) (by have := J1.out; omega) hb.out W
              go_wp2_with (go_at_call 54; (with_reducible refine (CP.out _).mono ?_); rintro e w3 ⟨rfl, ht3⟩; have T3 : Tr w w3 := Tr.trans (by repeat (first | exact Tr.refl _ | assumption | apply Tr.al | apply Tr.drN | apply Tr.dr | (refine Tr.set ?_ (by first | omega | (simp; done) | (simp; omega)) _))) ht3; have K3 := Keep.tr (l := [(⟨w.heap.size + 1, 0, none⟩, .int .u64 (yh)), (⟨w.heap.size + 1, 1, none⟩, .int .u64 (yl)), (⟨w.heap.size + 1 + 1, 0, none⟩, .int .u64 (0)), (⟨w.heap.size + 1 + 1, 1, none⟩, .int .u64 (0))]) (by first | (simp [Keep, go_sem, *]; done) | (simp [Keep, go_sem, *]; omega) | (simp (disch := first | omega | (simp; omega) | (simp; done)) [Keep, go_sem, cell_far, cell_off, RowKit.frozen?_alloc_cells, frozen_new, *]; done) | (simp (disch := first | omega | (simp; omega) | (simp; done)) [Keep, go_sem, cell_far, cell_off, RowKit.frozen?_alloc_cells, frozen_new, *]; omega)) ht3; have hz3 := Below.size ht3; (try simp at hz3); clear ht3; simp only [Keep] at K3)
              go_roundw
              case rel => exact ⟨k - 1, y + y, zh, zl, by go_num, by omega, (by have := J1.out; omega : 1 ≤ y + y), (by
                have h3 := J2.out
                obtain ⟨k, rfl⟩ : ∃ j, k = j + 1 := ⟨k - 1, by omega⟩
                rw [← h3, Int.pow_succ]; simp only [Nat.add_sub_cancel]; grind : (y + y) * 2 ^ (k - 1) = Int.gcd p q), WZ, (by first | (simp [Keep, go_sem, *]; done) | (simp [Keep, go_sem, *]; omega) | (simp (disch := first | omega | (simp; omega) | (simp; done)) [Keep, go_sem, cell_far, cell_off, RowKit.frozen?_alloc_cells, frozen_new, *]; done) | (simp (disch := first | omega | (simp; omega) | (simp; done)) [Keep, go_sem, cell_far, cell_off, RowKit.frozen?_alloc_cells, frozen_new, *]; omega)), (by repeat (first | exact Tr.refl _ | assumption | apply Tr.al | apply Tr.drN | apply Tr.dr | (refine Tr.set ?_ (by first | omega | (simp; done) | (simp; omega)) _)))⟩
              case measure => simp [intOf]; omega
            · obtain rfl : k = 0 := by omega
              go_wp2
              simp [bodyPost, results, Tryd.results51, go_sem, K]
              exact ⟨yh, yl, (by have := J2.out; simp at this; rw [← this]; exact J3.out : Wd (Int.gcd p q) yh yl), rfl, (by repeat (first | exact Tr.refl _ | assumption | apply Tr.al | apply Tr.drN | apply Tr.dr | (refine Tr.set ?_ (by first | omega | (simp; done) | (simp; omega)) _)))⟩
        · obtain ⟨z1, hnz⟩ : 1 ≤ x ∧ ((xh == 0) = false ∨ ((xh == 0) = true ∧ (xl == 0) = false)) := by
            rcases hnz with ⟨a, b⟩ | ⟨a, b, c⟩
            · exact ⟨a, .inl b⟩
            · exact ⟨a, .inr ⟨b, c⟩⟩
          go_upto_region 6 with (fail)
          go_cut [28] (fun s wx => s = .bool true ∧ wr = wx)
          case first =>
            rcases hnz with z2 | ⟨z2, z3⟩
            all_goals
              go_wp2_with fail
              go_meet
              exact ⟨rfl, rfl⟩
          obtain ⟨rfl, rfl⟩ := hcut
          clear hnz
          have Z1 := Lib.hid z1
          clear z1
          go_wp2
          obtain ⟨wo2, rfl⟩ : ∃ wo : World, wo = wr := ⟨_, rfl⟩
          clear hA hB
          go_loopw [] (fun wr => ∃ (a ah al : Int), Hid (1 ≤ a ∧ a ≤ x) ∧ Hid ((Int.gcd a y : Int) = g) ∧ Hid (a % 2 = 1 ∨ y % 2 = 1) ∧ Hid (Wd a ah al) ∧ Keep wr [(⟨w.heap.size, 0, none⟩, .int .u64 (ah)), (⟨w.heap.size, 1, none⟩, .int .u64 (al)), (⟨w.heap.size + 1, 0, none⟩, .int .u64 (yh)), (⟨w.heap.size + 1, 1, none⟩, .int .u64 (yl)), (⟨w.heap.size + 1 + 1, 0, none⟩, .int .u64 (0)), (⟨w.heap.size + 1 + 1, 1, none⟩, .int .u64 (0))] ∧ Tr w wr) (fun wr => wideAt wr w.heap.size)
          case atStart => exact ⟨x, xh, xl, ⟨Z1.out, Int.le_refl _⟩, J3, J4, J5, (by first | (simp [Keep, go_sem, *]; done) | (simp [Keep, go_sem, *]; omega) | (simp (disch := first | omega | (simp; omega) | (simp; done)) [Keep, go_sem, cell_far, cell_off, RowKit.frozen?_alloc_cells, frozen_new, *]; done) | (simp (disch := first | omega | (simp; omega) | (simp; done)) [Keep, go_sem, cell_far, cell_off, RowKit.frozen?_alloc_cells, frozen_new, *]; omega)), (by repeat (first | exact Tr.refl _ | assumption | apply Tr.al | apply Tr.drN | apply Tr.dr | (refine Tr.set ?_ (by first | omega | (simp; done) | (simp; omega)) _)))⟩
          case round =>
            have KO := Lib.hid K
            clear K T hzz
            obtain ⟨a, ah, al, L1, L3, L4, L5, K, T⟩ := hrel
            have hzz := Below.size T
            simp only [Keep] at K
            have mx := wd_mask L5.out
            by_cases e1 : a % 2 = 0
            · rw [e1] at mx
              have E1 := Lib.hid e1
              obtain ⟨ch, hch⟩ : ∃ z, z = a / 2 / 18446744073709551616 := ⟨_, rfl⟩
              obtain ⟨cl, hcl⟩ : ∃ z, z = a / 2 % 18446744073709551616 := ⟨_, rfl⟩
              have WC : Hid (Wd (a / 2) ch cl) := ⟨hch, hcl⟩
              clear e1 hch hcl
              have CP := Lib.hid fun W => rhalf_wd L5.out WC.out (by have := L1.out; omega) (by have := L1.out; have := J1.out; unfold Big at *; omega) W
              go_wp2_with (go_at_call 70; (with_reducible refine (CP.out _).mono ?_); rintro e w3 ⟨rfl, ht3⟩; have T3 : Tr w w3 := Tr.trans (by repeat (first | exact Tr.refl _ | assumption | apply Tr.al | apply Tr.drN | apply Tr.dr | (refine Tr.set ?_ (by first | omega | (simp; done) | (simp; omega)) _))) ht3; have K3 := Keep.tr (l := [(⟨w.heap.size, 0, none⟩, .int .u64 (ah)), (⟨w.heap.size, 1, none⟩, .int .u64 (al)), (⟨w.heap.size + 1, 0, none⟩, .int .u64 (yh)), (⟨w.heap.size + 1, 1, none⟩, .int .u64 (yl)), (⟨w.heap.size + 1 + 1, 0, none⟩, .int .u64 (0)), (⟨w.heap.size + 1 + 1, 1, none⟩, .int .u64 (0))]) (by first | (simp [Keep, go_sem, *]; done) | (simp [Keep, go_sem, *]; omega) | (simp (disch := first | omega | (simp; omega) | (simp; done)) [Keep, go_sem, cell_far, cell_off, RowKit.frozen?_alloc_cells, frozen_new, *]; done) | (simp (disch := first | omega | (simp; omega) | (simp; done)) [Keep, go_sem, cell_far, cell_off, RowKit.frozen?_alloc_cells, frozen_new, *]; omega)) ht3; have hz3 := Below.size ht3; (try simp at hz3); clear ht3; simp only [Keep] at K3)
              go_roundw
              case rel => exact ⟨a / 2, ch, cl, (by have := L1.out; have := E1.out; omega : 1 ≤ a / 2 ∧ a / 2 ≤ x), (by rw [gcd_half_left a y E1.out (by have := L4.out; have := E1.out; omega)]; exact L3.out : (Int.gcd (a / 2) y : Int) = g), (by have := L4.out; have := E1.out; omega : a / 2 % 2 = 1 ∨ y % 2 = 1), WC, (by first | (simp [Keep, go_sem, *]; done) | (simp [Keep, go_sem, *]; omega) | (simp (disch := first | omega | (simp; omega) | (simp; done)) [Keep, go_sem, cell_far, cell_off, RowKit.frozen?_alloc_cells, frozen_new, *]; done) | (simp (disch := first | omega | (simp; omega) | (simp; done)) [Keep, go_sem, cell_far, cell_off, RowKit.frozen?_alloc_cells, frozen_new, *]; omega)), (by repeat (first | exact Tr.refl _ | assumption | apply Tr.al | apply Tr.drN | apply Tr.dr | (refine Tr.set ?_ (by first | omega | (simp; done) | (simp; omega)) _)))⟩
              case measure =>
                refine wide_lt WC.out L5.out ?_ ?_ ?_ ?_ ?_ ?_
                · (first | (simp [go_sem, *]; done) | (simp (disch := first | omega | (simp; omega) | (simp; done)) [go_sem, cell_far, cell_off, *]; done))
                · (first | (simp [go_sem, *]; done) | (simp (disch := first | omega | (simp; omega) | (simp; done)) [go_sem, cell_far, cell_off, *]; done))
                · simp [K]
                · simp [K]
                · have := L1.out; omega
                · have := L1.out; have := E1.out; omega
            · have e2 : a % 2 = 1 := by omega
              rw [e2] at mx
              have E2 := Lib.hid e2
              clear e1 e2
              go_wp2
              clear mx
              obtain ⟨wo3, rfl⟩ : ∃ wo : World, wo = wr := ⟨_, rfl⟩
              go_loopw [] (fun wr => ∃ (b bh bl : Int), Hid (1 ≤ b ∧ b ≤ y) ∧ Hid ((Int.gcd a b : Int) = g) ∧ Hid (Wd b bh bl) ∧ Keep wr [(⟨w.heap.size, 0, none⟩, .int .u64 (ah)), (⟨w.heap.size, 1, none⟩, .int .u64 (al)), (⟨w.heap.size + 1, 0, none⟩, .int .u64 (bh)), (⟨w.heap.size + 1, 1, none⟩, .int .u64 (bl)), (⟨w.heap.size + 1 + 1, 0, none⟩, .int .u64 (0)), (⟨w.heap.size + 1 + 1, 1, none⟩, .int .u64 (0))] ∧ Tr w wr) (fun wr => wideAt wr (w.heap.size + 1))
              case atStart => exact ⟨y, yh, yl, ⟨J2.out.1, Int.le_refl _⟩, L3, J6, (by first | (simp [Keep, go_sem, *]; done) | (simp [Keep, go_sem, *]; omega) | (simp (disch := first | omega | (simp; omega) | (simp; done)) [Keep, go_sem, cell_far, cell_off, RowKit.frozen?_alloc_cells, frozen_new, *]; done) | (simp (disch := first | omega | (simp; omega) | (simp; done)) [Keep, go_sem, cell_far, cell_off, RowKit.frozen?_alloc_cells, frozen_new, *]; omega)), (by repeat (first | exact Tr.refl _ | assumption | apply Tr.al | apply Tr.drN | apply Tr.dr | (refine Tr.set ?_ (by first | omega | (simp; done) | (simp; omega)) _)))⟩
              case round =>
                clear K T hzz
                obtain ⟨b, bh, bl, N1, N3, N5, K, T⟩ := hrel
                have hzz := Below.size T
                simp only [Keep] at K
                have my := wd_mask N5.out
                by_cases e1 : b % 2 = 0
                · rw [e1] at my
                  have E1 := Lib.hid e1
                  obtain ⟨ch, hch⟩ : ∃ z, z = b / 2 / 18446744073709551616 := ⟨_, rfl⟩
                  obtain ⟨cl, hcl⟩ : ∃ z, z = b / 2 % 18446744073709551616 := ⟨_, rfl⟩
                  have WC : Hid (Wd (b / 2) ch cl) := ⟨hch, hcl⟩
                  clear e1 hch hcl
                  have CP := Lib.hid fun W => rhalf_wd N5.out WC.out (by have := N1.out; omega) (by have := N1.out; have := J2.out; unfold Big at *; omega) W
                  go_wp2_with (go_at_call 70; (with_reducible refine (CP.out _).mono ?_); rintro e w3 ⟨rfl, ht3⟩; have T3 : Tr w w3 := Tr.trans (by repeat (first | exact Tr.refl _ | assumption | apply Tr.al | apply Tr.drN | apply Tr.dr | (refine Tr.set ?_ (by first | omega | (simp; done) | (simp; omega)) _))) ht3; have K3 := Keep.tr (l := [(⟨w.heap.size, 0, none⟩, .int .u64 (ah)), (⟨w.heap.size, 1, none⟩, .int .u64 (al)), (⟨w.heap.size + 1, 0, none⟩, .int .u64 (bh)), (⟨w.heap.size + 1, 1, none⟩, .int .u64 (bl)), (⟨w.heap.size + 1 + 1, 0, none⟩, .int .u64 (0)), (⟨w.heap.size + 1 + 1, 1, none⟩, .int .u64 (0))]) (by first | (simp [Keep, go_sem, *]; done) | (simp [Keep, go_sem, *]; omega) | (simp (disch := first | omega | (simp; omega) | (simp; done)) [Keep, go_sem, cell_far, cell_off, RowKit.frozen?_alloc_cells, frozen_new, *]; done) | (simp (disch := first | omega | (simp; omega) | (simp; done)) [Keep, go_sem, cell_far, cell_off, RowKit.frozen?_alloc_cells, frozen_new, *]; omega)) ht3; have hz3 := Below.size ht3; (try simp at hz3); clear ht3; simp only [Keep] at K3)
                  go_roundw
                  case rel => exact ⟨b / 2, ch, cl, (by have := N1.out; have := E1.out; omega : 1 ≤ b / 2 ∧ b / 2 ≤ y), (by rw [gcd_half_right a b E2.out E1.out]; exact N3.out : (Int.gcd a (b / 2) : Int) = g), WC, (by first | (simp [Keep, go_sem, *]; done) | (simp [Keep, go_sem, *]; omega) | (simp (disch := first | omega | (simp; omega) | (simp; done)) [Keep, go_sem, cell_far, cell_off, RowKit.frozen?_alloc_cells, frozen_new, *]; done) | (simp (disch := first | omega | (simp; omega) | (simp; done)) [Keep, go_sem, cell_far, cell_off, RowKit.frozen?_alloc_cells, frozen_new, *]; omega)), (by repeat (first | exact Tr.refl _ | assumption | apply Tr.al | apply Tr.drN | apply Tr.dr | (refine Tr.set ?_ (by first | omega | (simp; done) | (simp; omega)) _)))⟩
                  case measure =>
                    refine wide_lt WC.out N5.out ?_ ?_ ?_ ?_ ?_ ?_
                    · (first | (simp [go_sem, *]; done) | (simp (disch := first | omega | (simp; omega) | (simp; done)) [go_sem, cell_far, cell_off, *]; done))
                    · (first | (simp [go_sem, *]; done) | (simp (disch := first | omega | (simp; omega) | (simp; done)) [go_sem, cell_far, cell_off, *]; done))
                    · simp [K]
                    · simp [K]
                    · have := N1.out; omega
                    · have := N1.out; have := E1.out; omega
                · have e2 : b % 2 = 1 := by omega
                  rw [e2] at my
                  have E3 := Lib.hid e2
                  clear e1 e2
                  have BB : Hid (1 ≤ a ∧ a ≤ x ∧ 1 ≤ b ∧ b ≤ y ∧ x < Big ∧ y < Big) := (⟨L1.out.1, L1.out.2, N1.out.1, N1.out.2, J1.out.2, J2.out.2⟩ : 1 ≤ a ∧ a ≤ x ∧ 1 ≤ b ∧ b ≤ y ∧ x < Big ∧ y < Big)
                  by_cases hlt : a < b
                  · have HL := Lib.hid hlt
                    clear hlt
                    obtain ⟨ch, hch⟩ : ∃ z, z = (b - a) / 18446744073709551616 := ⟨_, rfl⟩
                    obtain ⟨cl, hcl⟩ : ∃ z, z = (b - a) % 18446744073709551616 := ⟨_, rfl⟩
                    have WC : Hid (Wd (b - a) ch cl) := ⟨hch, hcl⟩
                    clear hch hcl
                    have CL := Lib.hid fun W => rless_lt L5.out N5.out (by have := BB.out; omega) (by have := BB.out; omega) HL.out W
                    have CM := Lib.hid fun W => rminus_wd N5.out L5.out WC.out (by have := BB.out; omega) (by have := BB.out; omega) (by have := BB.out; unfold Big at *; omega) (by have := BB.out; unfold Big at *; omega) (by have := BB.out; have := HL.out; unfold Big at *; omega) W
                    go_wp2_with (first
                      | (go_at_call 55; (with_reducible refine (CL.out _).mono ?_); rintro e w3 ⟨rfl, ht3⟩; have T3 : Tr w w3 := Tr.trans (by repeat (first | exact Tr.refl _ | assumption | apply Tr.al | apply Tr.drN | apply Tr.dr | (refine Tr.set ?_ (by first | omega | (simp; done) | (simp; omega)) _))) ht3; have K3 := Keep.tr (l := [(⟨w.heap.size, 0, none⟩, .int .u64 (ah)), (⟨w.heap.size, 1, none⟩, .int .u64 (al)), (⟨w.heap.size + 1, 0, none⟩, .int .u64 (bh)), (⟨w.heap.size + 1, 1, none⟩, .int .u64 (bl)), (⟨w.heap.size + 1 + 1, 0, none⟩, .int .u64 (0)), (⟨w.heap.size + 1 + 1, 1, none⟩, .int .u64 (0))]) (by first | (simp [Keep, go_sem, *]; done) | (simp [Keep, go_sem, *]; omega) | (simp (disch := first | omega | (simp; omega) | (simp; done)) [Keep, go_sem, cell_far, cell_off, RowKit.frozen?_alloc_cells, frozen_new, *]; done) | (simp (disch := first | omega | (simp; omega) | (simp; done)) [Keep, go_sem, cell_far, cell_off, RowKit.frozen?_alloc_cells, frozen_new, *]; omega)) ht3; have hz3 := Below.size ht3; (try simp at hz3); clear ht3; simp only [Keep] at K3)
                      | (go_at_call 56; (with_reducible refine (CM.out _).mono ?_); rintro e w4 ⟨rfl, ht4⟩; have T4 : Tr w w4 := Tr.trans (by repeat (first | exact Tr.refl _ | assumption | apply Tr.al | apply Tr.drN | apply Tr.dr | (refine Tr.set ?_ (by first | omega | (simp; done) | (simp; omega)) _))) ht4; have K4 := Keep.tr (l := [(⟨w.heap.size, 0, none⟩, .int .u64 (bh)), (⟨w.heap.size, 1, none⟩, .int .u64 (bl)), (⟨w.heap.size + 1, 0, none⟩, .int .u64 (ah)), (⟨w.heap.size + 1, 1, none⟩, .int .u64 (al)), (⟨w.heap.size + 1 + 1, 0, none⟩, .int .u64 (0)), (⟨w.heap.size + 1 + 1, 1, none⟩, .int .u64 (0))]) (by first | (simp [Keep, go_sem, *]; done) | (simp [Keep, go_sem, *]; omega) | (simp (disch := first | omega | (simp; omega) | (simp; done)) [Keep, go_sem, cell_far, cell_off, RowKit.frozen?_alloc_cells, frozen_new, *]; done) | (simp (disch := first | omega | (simp; omega) | (simp; done)) [Keep, go_sem, cell_far, cell_off, RowKit.frozen?_alloc_cells, frozen_new, *]; omega)) ht4; have hz4 := Below.size ht4; (try simp at hz4); clear ht4; simp only [Keep] at K4))
                    go_roundw
                    case rel => exact ⟨b - a, a, ch, cl, ah, al, (by have := BB.out; have := HL.out; omega : 0 ≤ b - a ∧ b - a < Big), (by have := BB.out; omega : 1 ≤ a ∧ a < Big), (by rw [gcd_sub b a, Int.gcd_comm]; exact N3.out : (Int.gcd (b - a) a : Int) = g), (by have := E2.out; omega : (b - a) % 2 = 1 ∨ a % 2 = 1), WC, L5, (by first | (simp [Keep, go_sem, *]; done) | (simp [Keep, go_sem, *]; omega) | (simp (disch := first | omega | (simp; omega) | (simp; done)) [Keep, go_sem, cell_far, cell_off, RowKit.frozen?_alloc_cells, frozen_new, *]; done) | (simp (disch := first | omega | (simp; omega) | (simp; done)) [Keep, go_sem, cell_far, cell_off, RowKit.frozen?_alloc_cells, frozen_new, *]; omega)), (by repeat (first | exact Tr.refl _ | assumption | apply Tr.al | apply Tr.drN | apply Tr.dr | (refine Tr.set ?_ (by first | omega | (simp; done) | (simp; omega)) _)))⟩
                    case measure =>
                      have K0 := KO.out
                      refine wide_lt2 WC.out J5.out L5.out J6.out (by have := BB.out; have := HL.out; omega) ?_ ?_ ?_ ?_ ?_ ?_ ?_ ?_
                      · (first | (simp [go_sem, *]; done) | (simp (disch := first | omega | (simp; omega) | (simp; done)) [go_sem, cell_far, cell_off, *]; done))
                      · (first | (simp [go_sem, *]; done) | (simp (disch := first | omega | (simp; omega) | (simp; done)) [go_sem, cell_far, cell_off, *]; done))
                      · (first | (simp [go_sem, *]; done) | (simp (disch := first | omega | (simp; omega) | (simp; done)) [go_sem, cell_far, cell_off, *]; done))
                      · (first | (simp [go_sem, *]; done) | (simp (disch := first | omega | (simp; omega) | (simp; done)) [go_sem, cell_far, cell_off, *]; done))
                      · simp [K0]
                      · simp [K0]
                      · simp [K0]
                      · simp [K0]
                  · have HL := Lib.hid hlt
                    clear hlt
                    obtain ⟨ch, hch⟩ : ∃ z, z = (a - b) / 18446744073709551616 := ⟨_, rfl⟩
                    obtain ⟨cl, hcl⟩ : ∃ z, z = (a - b) % 18446744073709551616 := ⟨_, rfl⟩
                    have WC : Hid (Wd (a - b) ch cl) := ⟨hch, hcl⟩
                    clear hch hcl
                    have CL := Lib.hid fun W => rless_ge L5.out N5.out (by have := BB.out; omega) (by have := BB.out; omega) HL.out W
                    have CM := Lib.hid fun W => rminus_wd L5.out N5.out WC.out (by have := BB.out; omega) (by have := BB.out; omega) (by have := BB.out; unfold Big at *; omega) (by have := BB.out; unfold Big at *; omega) (by have := BB.out; have := HL.out; unfold Big at *; omega) W
                    go_wp2_with (first
                      | (go_at_call 55; (with_reducible refine (CL.out _).mono ?_); rintro e w3 ⟨rfl, ht3⟩; have T3 : Tr w w3 := Tr.trans (by repeat (first | exact Tr.refl _ | assumption | apply Tr.al | apply Tr.drN | apply Tr.dr | (refine Tr.set ?_ (by first | omega | (simp; done) | (simp; omega)) _))) ht3; have K3 := Keep.tr (l := [(⟨w.heap.size, 0, none⟩, .int .u64 (ah)), (⟨w.heap.size, 1, none⟩, .int .u64 (al)), (⟨w.heap.size + 1, 0, none⟩, .int .u64 (bh)), (⟨w.heap.size + 1, 1, none⟩, .int .u64 (bl)), (⟨w.heap.size + 1 + 1, 0, none⟩, .int .u64 (0)), (⟨w.heap.size + 1 + 1, 1, none⟩, .int .u64 (0))]) (by first | (simp [Keep, go_sem, *]; done) | (simp [Keep, go_sem, *]; omega) | (simp (disch := first | omega | (simp; omega) | (simp; done)) [Keep, go_sem, cell_far, cell_off, RowKit.frozen?_alloc_cells, frozen_new, *]; done) | (simp (disch := first | omega | (simp; omega) | (simp; done)) [Keep, go_sem, cell_far, cell_off, RowKit.frozen?_alloc_cells, frozen_new, *]; omega)) ht3; have hz3 := Below.size ht3; (try simp at hz3); clear ht3; simp only [Keep] at K3)
                      | (go_at_call 56; (with_reducible refine (CM.out _).mono ?_); rintro e w4 ⟨rfl, ht4⟩; have T4 : Tr w w4 := Tr.trans (by repeat (first | exact Tr.refl _ | assumption | apply Tr.al | apply Tr.drN | apply Tr.dr | (refine Tr.set ?_ (by first | omega | (simp; done) | (simp; omega)) _))) ht4; have K4 := Keep.tr (l := [(⟨w.heap.size, 0, none⟩, .int .u64 (ah)), (⟨w.heap.size, 1, none⟩, .int .u64 (al)), (⟨w.heap.size + 1, 0, none⟩, .int .u64 (bh)), (⟨w.heap.size + 1, 1, none⟩, .int .u64 (bl)), (⟨w.heap.size + 1 + 1, 0, none⟩, .int .u64 (0)), (⟨w.heap.size + 1 + 1, 1, none⟩, .int .u64 (0))]) (by first | (simp [Keep, go_sem, *]; done) | (simp [Keep, go_sem, *]; omega) | (simp (disch := first | omega | (simp; omega) | (simp; done)) [Keep, go_sem, cell_far, cell_off, RowKit.frozen?_alloc_cells, frozen_new, *]; done) | (simp (disch := first | omega | (simp; omega) | (simp; done)) [Keep, go_sem, cell_far, cell_off, RowKit.frozen?_alloc_cells, frozen_new, *]; omega)) ht4; have hz4 := Below.size ht4; (try simp at hz4); clear ht4; simp only [Keep] at K4))
                    go_roundw
                    case rel => exact ⟨a - b, b, ch, cl, bh, bl, (by have := BB.out; have := HL.out; omega : 0 ≤ a - b ∧ a - b < Big), (by have := BB.out; omega : 1 ≤ b ∧ b < Big), (by rw [gcd_sub a b]; exact N3.out : (Int.gcd (a - b) b : Int) = g), (by have := E3.out; omega : (a - b) % 2 = 1 ∨ b % 2 = 1), WC, N5, (by first | (simp [Keep, go_sem, *]; done) | (simp [Keep, go_sem, *]; omega) | (simp (disch := first | omega | (simp; omega) | (simp; done)) [Keep, go_sem, cell_far, cell_off, RowKit.frozen?_alloc_cells, frozen_new, *]; done) | (simp (disch := first | omega | (simp; omega) | (simp; done)) [Keep, go_sem, cell_far, cell_off, RowKit.frozen?_alloc_cells, frozen_new, *]; omega)), (by repeat (first | exact Tr.refl _ | assumption | apply Tr.al | apply Tr.drN | apply Tr.dr | (refine Tr.set ?_ (by first | omega | (simp; done) | (simp; omega)) _)))⟩
                    case measure =>
                      have K0 := KO.out
                      refine wide_lt2 WC.out J5.out N5.out J6.out (by have := BB.out; have := HL.out; omega) ?_ ?_ ?_ ?_ ?_ ?_ ?_ ?_
                      · (first | (simp [go_sem, *]; done) | (simp (disch := first | omega | (simp; omega) | (simp; done)) [go_sem, cell_far, cell_off, *]; done))
                      · (first | (simp [go_sem, *]; done) | (simp (disch := first | omega | (simp; omega) | (simp; done)) [go_sem, cell_far, cell_off, *]; done))
                      · (first | (simp [go_sem, *]; done) | (simp (disch := first | omega | (simp; omega) | (simp; done)) [go_sem, cell_far, cell_off, *]; done))
                      · (first | (simp [go_sem, *]; done) | (simp (disch := first | omega | (simp; omega) | (simp; done)) [go_sem, cell_far, cell_off, *]; done))
                      · simp [K0]
                      · simp [K0]
                      · simp [K0]
                      · simp [K0]
end Go.Proofs.YtpjkiljgccjemaaDoor
