/- Contracts: the error of a distance and a move. No conditions but those of each statement. | Contracts: the top speed of a move (the program's side). No conditions but those of each statement. | Contracts: the top speed of a move (the reference's side). No conditions but those of each statement. -/
import Derived.Test.YtfchdagalklgpaaGreatDoorMn
set_option linter.unusedSimpArgs false
namespace Go.Proofs.YtfchdagalklgpaaGreatDoor
set_option linter.unusedVariables false
open Go.RowKit
def wayE (d : Int) (m : MoveR) : Int := if moveP m then (if 0 ≤ d ∧ d ≤ 1048576 then 0 else 2) else 1
theorem prof_given (d : Int) (m : MoveR) : Fn0 Tryz.prog 126 [.i d, rowA m.row] (.i (wayE d m)) := by
  refine Fn0.of Tryz.func126 Tryz.ntmps126 rfl rfl rfl ?_
  simp only [entryTm]
  repeat' (first
    | (apply S.move; exact rfl; exact rfl)
    | (apply S.assign; exact rfl; exact rfl)
    | (apply S.call; exact rfl; exact rfl; exact prof_valid m; exact rfl)
    | (apply S.call; exact rfl; exact rfl; exact prof_within _ _ _; exact rfl)
    | (apply S.loadPA; exact rfl; exact rfl; exact rfl; exact rfl)
    | (apply S.box; exact rfl; exact rfl; exact rfl; exact rfl; exact rfl; exact rfl)
    | (apply S.notP; exact rfl; exact rfl)
    | apply S.nil
    | apply T.regs
    | (apply T.cSn; exact rfl; intro hc; rotate_left; intro hc; rotate_right)
    | apply T.seq
    | (apply T.skip; first | change T _ _ _ _ _ | change Done _ _ _ _ _ | change Next _ _ _ _ _ _ | skip)
    | (apply T.ret; change Done _ _ _ _ _)
    | apply T.block)
  all_goals exact doneV (by simp) Tryz.results126 rfl (by unfold wayE; simp [*])
end Go.Proofs.YtfchdagalklgpaaGreatDoor
set_option linter.unusedSimpArgs false
namespace Go.Proofs.YtfchdagalklgpaaGreatDoor
set_option linter.unusedVariables false
open Go.RowKit
def topN (P : Nat → Bool) : Nat → Nat
  | 0 => 0
  | k + 1 => if P (k + 1) = true then k + 1 else topN P k
theorem topN_eq {P : Nat → Bool} {lo : Nat} : ∀ {k : Nat}, (lo = 0 ∨ P lo = true) → lo ≤ k → (∀ w, lo < w → w ≤ k → ¬ P w = true) → topN P k = lo
  | 0, _, h, _ => by simp [topN]; omega
  | k + 1, h0, h, hn => by
    rw [topN]
    by_cases e : lo = k + 1
    · rw [if_pos]
      · exact e.symm
      · rcases h0 with h0 | h0
        · omega
        · rw [← e]; exact h0
    · rw [if_neg (hn (k + 1) (by omega) (Nat.le_refl _))]
      exact topN_eq h0 (by omega) fun w h1 h2 => hn w h1 (by omega)
def fitsW (d : Int) (m : MoveR) (w : Int) : Prop := w * w * (m.rise + m.fall) ≤ 2 * d * m.rise * m.fall
instance (d : Int) (m : MoveR) (w : Int) : Decidable (fitsW d m w) := by unfold fitsW; exact inferInstance
theorem fitsW_le {d : Int} {m : MoveR} {v w : Int} (hm : 0 ≤ m.rise + m.fall) (h0 : 0 ≤ v) (h : v ≤ w) (hw : fitsW d m w) : fitsW d m v := by
  unfold fitsW at hw ⊢
  have h1 : v * v ≤ w * w := Int.mul_le_mul h h h0 (by omega)
  have h2 := Int.mul_le_mul_of_nonneg_right h1 hm
  omega
def topS (d : Int) (m : MoveR) : Nat := if d = 0 then 0 else topN (fun w => decide (fitsW d m w)) m.speed.toNat
set_option maxHeartbeats 4000000 in
theorem prof_top (d : Int) (m : MoveR) (hm : moveP m) (hd : 0 ≤ d ∧ d ≤ 1048576) : Fn0 Tryz.prog 127 [.i d, rowA m.row] (.i (topS d m)) := by
  obtain ⟨_, _, h3, h4, h5⟩ := hm
  by_cases hd0 : d = 0
  · skip
    refine Fn0.of Tryz.func127 Tryz.ntmps127 rfl rfl rfl ?_
    simp only [entryTm]
    repeat' (first
      | (apply S.move; exact rfl; exact rfl)
      | (apply S.assign; exact rfl; exact rfl)
      | (apply S.fieldP; exact rfl; exact rfl; exact rfl)
      | (apply S.loadP; exact rfl; exact rfl; exact rfl; exact rfl)
      | (apply T.drawAll anyOrder (by kernel_rfl))
      | (apply S.box; exact rfl; exact rfl; exact rfl; exact rfl; exact rfl; exact rfl)
      | (apply S.cmp; exact rfl; exact rfl; exact rfl; exact rfl)
      | apply S.nil
      | apply T.regs
      | (apply T.cT; exact rfl; assumption)
      | apply T.seq
      | (apply T.ret; change Done _ _ _ _ _))
    all_goals exact doneV (by simp) Tryz.results127 rfl (by simp [topS, hd0])
  · have c1 : 0 ≤ 2 * d * m.rise ∧ 2 * d * m.rise ≤ 2097152 * 16384 := ⟨Int.mul_nonneg (by omega) (by omega), Int.mul_le_mul (by omega) h4.2 (by omega) (by omega)⟩
    have c2 : 0 ≤ 2 * d * m.rise * m.fall ∧ 2 * d * m.rise * m.fall ≤ 2097152 * 16384 * 16384 := ⟨Int.mul_nonneg c1.1 (by omega), Int.mul_le_mul c1.2 h5.2 (by omega) (by omega)⟩
    have key : ∀ w : Int, 0 ≤ w → w ≤ 8192 → (0 ≤ w * w ∧ w * w ≤ 8192 * 8192) ∧ 0 ≤ w * w * (m.rise + m.fall) ∧ w * w * (m.rise + m.fall) ≤ 8192 * 8192 * 32768 := fun w g1 g2 => by
      have b1 : 0 ≤ w * w ∧ w * w ≤ 8192 * 8192 := ⟨Int.mul_nonneg g1 g1, Int.mul_le_mul g2 g2 g1 (by omega)⟩
      exact ⟨b1, Int.mul_nonneg b1.1 (by omega), Int.mul_le_mul b1.2 (by omega) (by omega) (by omega)⟩
    have hsp : ((m.speed.toNat : Nat) : Int) = m.speed := Int.toNat_of_nonneg (by omega)
    refine Fn0.of Tryz.func127 Tryz.ntmps127 rfl rfl rfl ?_
    simp only [entryTm]
    repeat' (first
      | (apply S.move; exact rfl; exact rfl)
      | (apply S.assign; exact rfl; exact rfl)
      | (apply S.fieldP; exact rfl; exact rfl; exact rfl)
      | (apply S.loadP; exact rfl; exact rfl; exact rfl; exact rfl)
      | (apply T.drawAll anyOrder (by kernel_rfl))
      | (apply S.box; exact rfl; exact rfl; exact rfl; exact rfl; exact rfl; exact rfl)
      | (apply S.cmp; exact rfl; exact rfl; exact rfl; exact rfl)
      | apply S.nil
      | apply T.regs
      | (apply T.cF; exact rfl; assumption)
      | apply T.seq
      | (apply T.skip; first | change T _ _ _ _ _ | change Done _ _ _ _ _ | change Next _ _ _ _ _ _ | skip)
      | apply T.block)
    refine T.loopS (fun (p : Nat × Nat) => p.1 ≤ p.2 ∧ p.2 ≤ m.speed.toNat ∧ fitsW d m p.1 ∧ ∀ w : Nat, p.2 < w → w ≤ m.speed.toNat → ¬ fitsW d m w) (fun p => p.2 - p.1) (fun p => [(5, .i p.1), (6, .i p.2), (0, .i d), (3, .ptr 0 0)]) (fun _ => [.live (m.row.map .lf)]) (0, m.speed.toNat) ⟨by omega, Nat.le_refl _, by unfold fitsW; simp only [Int.natCast_zero, Int.zero_mul, Int.ofNat_zero]; omega, by intro w h1 h2; omega⟩ (.cons rfl rfl (.cons (by rw [hsp]; rfl) rfl (.cons rfl rfl (.cons rfl rfl .nil)))) (.live rfl .nil) ?_
    rintro p ⟨i1, i2, i3, i4⟩
    by_cases hlt : p.1 < p.2
    · have h1 : (p.1 : Int) < p.2 := by omega
      have kb := key (((p.1 : Int) + p.2 + 1) / 2) (by omega) (by omega)
      have hmid : ((p.1 : Int) + p.2 + 1) / 2 = (((p.1 + p.2 + 1) / 2 : Nat) : Int) := by omega
      repeat' (first
        | (apply S.move; exact rfl; exact rfl)
        | (apply S.assign; exact rfl; exact rfl)
        | (apply S.fieldP; exact rfl; exact rfl; exact rfl)
        | (apply S.loadP; exact rfl; exact rfl; exact rfl; exact rfl)
        | (apply S.quo; exact rfl; exact rfl; exact rfl; omega)
        | (apply S.arith; exact rfl; exact rfl; exact rfl; exact rfl; omega)
        | (apply S.cmp; exact rfl; exact rfl; exact rfl; exact rfl)
        | apply S.nil
        | apply T.regs
        | apply T.reg
        | (apply T.cT; exact rfl; assumption)
        | (apply T.cS; exact rfl; intro hc; rotate_left; intro hc; rotate_right)
        | apply T.seq
        | (apply T.skip; first | change T _ _ _ _ _ | change Done _ _ _ _ _ | change Next _ _ _ _ _ _ | skip)
        | apply T.block)
      all_goals (try change Next _ _ _ _ _ _)
      all_goals first
        | exact Next.go ((p.1 + p.2 + 1) / 2, p.2) ⟨by simp only; omega, i2, by simp only; rw [← hmid]; assumption, i4⟩ (by simp only; omega) (.cons (by rw [← hmid]; rfl) rfl (.cons rfl rfl (.cons rfl rfl (.cons rfl rfl .nil)))) (.live rfl .nil)
        | exact Next.go (p.1, (p.1 + p.2 + 1) / 2 - 1) ⟨by simp only; omega, by simp only; omega, i3, by
            intro w g1 g2 g3
            simp only at g1
            have g4 : fitsW d m (((p.1 : Int) + p.2 + 1) / 2) := fitsW_le (v := ((p.1 : Int) + p.2 + 1) / 2) (by omega) (by omega) (by omega) g3
            exact absurd g4 (by assumption)⟩ (by simp only; omega) (.cons rfl rfl (.cons (by rw [show (((p.1 + p.2 + 1) / 2 - 1 : Nat) : Int) = ((p.1 : Int) + p.2 + 1) / 2 - 1 by omega]; rfl) rfl (.cons rfl rfl (.cons rfl rfl .nil)))) (.live rfl .nil)
    · have h1 : ¬ (p.1 : Int) < p.2 := by omega
      have ht : topS d m = p.1 := by
        unfold topS
        rw [if_neg hd0]
        exact topN_eq (.inr (decide_eq_true i3)) (by omega) fun w g1 g2 g3 => i4 w (by omega) g2 (of_decide_eq_true g3)
      repeat' (first
        | (apply S.move; exact rfl; exact rfl)
        | (apply S.assign; exact rfl; exact rfl)
        | (apply S.cmp; exact rfl; exact rfl; exact rfl; exact rfl)
        | apply S.nil
        | apply T.regs
        | (apply T.cF; exact rfl; assumption)
        | apply T.seq
        | (apply T.ret; change Done _ _ _ _ _)
        | (apply T.exit; first | change T _ _ _ _ _ | change Done _ _ _ _ _ | change Next _ _ _ _ _ _ | skip))
      exact doneV (by simp) Tryz.results127 rfl (by rw [ht])
end Go.Proofs.YtfchdagalklgpaaGreatDoor
set_option linter.unusedSimpArgs false
namespace Go.Proofs.YtfchdagalklgpaaGreatDoor
set_option linter.unusedVariables false
open Go.RowKit
theorem room_fits (d w : Int) (m : MoveR) : (w * w * (m.rise + m.fall) ≤ 2 * m.rise * m.fall * d) ↔ fitsW d m w := by
  unfold fitsW
  rw [show 2 * m.rise * m.fall * d = 2 * d * m.rise * m.fall by ac_rfl]
end Go.Proofs.YtfchdagalklgpaaGreatDoor
