/- Contracts: the reference's integers: Neg, Sum, Int, Product. No conditions but those of each statement. | Contracts: the reference's integers: Product; its exact fractions. No conditions but those of each statement. | Contracts: the reference's exact, fall, enclosed. No conditions but those of each statement. -/
import Derived.Test.YtgegcgfdffmoeaaGreatNq
import Derived.Test.YtgegcgfdffmoeaaGreatMf
import Derived.Test.YtgegcgfdffmoeaaGreatNl
import Derived.Test.YtgegcgfdffmoeaaGreatNi
set_option linter.unusedSimpArgs false
namespace Go.Proofs.YtgegcgfdffmoeaaGreat
set_option linter.unusedVariables false
open Go.RowKit
theorem rf_neg_s (s : Bool) (n : Nat) : Fn0 Tryz.prog 107 [rowA (bgR s (R24.wds n))] (rowA (bgR (!s && decide (n ≠ 0)) (R24.wds n))) := by
  by_cases h0 : n = 0
  · have h : ¬ (0 : Int) < ((w24 (R24.wds n)).length : Nat) := by rw [wsR_len, h0, R24.wds_zero]; decide
    cases s with
    | true =>
      rw [show (!true && decide (n ≠ 0)) = false from rfl]
      refine Fn0.of Tryz.func107 Tryz.ntmps107 rfl rfl rfl ?_
      simp only [entryTm]
      repeat' (first | (apply S.move; exact rfl; exact rfl) | (apply S.gCN; (iterate 4 exact rfl)) | (apply S.fieldP; exact rfl; exact rfl; exact rfl) | (apply S.loadP; (iterate 4 exact rfl)) | (apply S.pCN; exact rfl; exact rfl; exact rfl) | (apply S.loadPA; (iterate 4 exact rfl)) | (apply S.box; (iterate 6 exact rfl)) | (apply S.alloc; (iterate 5 exact rfl)) | (apply S.store; (iterate 7 exact rfl)) | (apply S.not; exact rfl; exact rfl; exact rfl) | apply S.nil | apply T.regs | (apply T.ret; change Done _ _ _ _ _))
      exact ⟨.inr rfl, [rowA (bgR false (R24.wds n))], .cons (Res.row (bgR false (R24.wds n)) rfl rfl rfl rfl rfl) .nil, .one (.agg (outL_refl _))⟩
    | false =>
      rw [show (!false && decide (n ≠ 0)) = decide ((0 : Int) < ((w24 (R24.wds n)).length : Nat)) by rw [decide_eq_false h]; simp [h0]]
      refine Fn0.of Tryz.func107 Tryz.ntmps107 rfl rfl rfl ?_
      simp only [entryTm]
      repeat' (first | (apply S.move; exact rfl; exact rfl) | (apply S.gC; exact rfl; exact rfl; exact rfl) | (apply S.fieldP; exact rfl; exact rfl; exact rfl) | (apply S.loadP; (iterate 4 exact rfl)) | (apply S.pC; exact rfl; exact rfl; exact rfl) | (apply S.loadPA; (iterate 4 exact rfl)) | (apply S.box; (iterate 6 exact rfl)) | (apply S.alloc; (iterate 5 exact rfl)) | (apply S.store; (iterate 7 exact rfl)) | (apply S.cmp; (iterate 4 exact rfl)) | (apply S.not; exact rfl; exact rfl; exact rfl) | (apply S.lenR; exact rfl; exact rfl) | apply S.nil | apply T.regs | (apply T.ret; change Done _ _ _ _ _))
      exact ⟨.inr rfl, [rowA (bgR _ (R24.wds n))], .cons (Res.row (bgR _ (R24.wds n)) rfl rfl rfl rfl rfl) .nil, .one (.agg (outL_refl _))⟩
  · have h : (0 : Int) < ((w24 (R24.wds n)).length : Nat) := by
      have : R24.wds n ≠ [] := fun e => h0 (R24.wds_nil.1 e)
      have := List.length_pos_iff.2 this
      rw [wsR_len]; omega
    cases s with
    | true =>
      rw [show (!true && decide (n ≠ 0)) = false from rfl]
      refine Fn0.of Tryz.func107 Tryz.ntmps107 rfl rfl rfl ?_
      simp only [entryTm]
      repeat' (first | (apply S.move; exact rfl; exact rfl) | (apply S.gCN; (iterate 4 exact rfl)) | (apply S.fieldP; exact rfl; exact rfl; exact rfl) | (apply S.loadP; (iterate 4 exact rfl)) | (apply S.pCN; exact rfl; exact rfl; exact rfl) | (apply S.loadPA; (iterate 4 exact rfl)) | (apply S.box; (iterate 6 exact rfl)) | (apply S.alloc; (iterate 5 exact rfl)) | (apply S.store; (iterate 7 exact rfl)) | (apply S.not; exact rfl; exact rfl; exact rfl) | apply S.nil | apply T.regs | (apply T.ret; change Done _ _ _ _ _))
      exact ⟨.inr rfl, [rowA (bgR false (R24.wds n))], .cons (Res.row (bgR false (R24.wds n)) rfl rfl rfl rfl rfl) .nil, .one (.agg (outL_refl _))⟩
    | false =>
      rw [show (!false && decide (n ≠ 0)) = decide ((0 : Int) < ((w24 (R24.wds n)).length : Nat)) by rw [decide_eq_true h]; simp [h0]]
      refine Fn0.of Tryz.func107 Tryz.ntmps107 rfl rfl rfl ?_
      simp only [entryTm]
      repeat' (first | (apply S.move; exact rfl; exact rfl) | (apply S.gC; exact rfl; exact rfl; exact rfl) | (apply S.fieldP; exact rfl; exact rfl; exact rfl) | (apply S.loadP; (iterate 4 exact rfl)) | (apply S.pC; exact rfl; exact rfl; exact rfl) | (apply S.loadPA; (iterate 4 exact rfl)) | (apply S.box; (iterate 6 exact rfl)) | (apply S.alloc; (iterate 5 exact rfl)) | (apply S.store; (iterate 7 exact rfl)) | (apply S.cmp; (iterate 4 exact rfl)) | (apply S.not; exact rfl; exact rfl; exact rfl) | (apply S.lenR; exact rfl; exact rfl) | apply S.nil | apply T.regs | (apply T.ret; change Done _ _ _ _ _))
      exact ⟨.inr rfl, [rowA (bgR _ (R24.wds n))], .cons (Res.row (bgR _ (R24.wds n)) rfl rfl rfl rfl rfl) .nil, .one (.agg (outL_refl _))⟩
theorem rf_minus (a b : Nat) (ha : (R24.wds a).length ≤ 4000) (hab : b ≤ a) : Fn0 Tryz.prog 125 [.sl (w24 (R24.wds a)), .sl (w24 (R24.wds b))] (.sl (w24 (R24.pw (R24.wds a).length (a - b)))) := by
  have := rf_minus_l (R24.wds a) (R24.wds b) (R24.wds_dig a) (R24.wds_dig b) ha (R24.trim_le (R24.wds_trim b) (R24.wds_dig a) (by rw [R24.wds_val, R24.wds_val]; exact hab)) (by rw [R24.wds_val, R24.wds_val]; exact hab)
  rwa [R24.wds_val, R24.wds_val] at this
theorem rf_trim_pw (s : Bool) (a b : Nat) (ha : (R24.wds a).length ≤ 4000) : Fn0 Tryz.prog 124 [rowA (bgR s (R24.pw (R24.wds a).length (a - b)))] (rowA (bgR (s && decide (a - b ≠ 0)) (R24.wds (a - b)))) :=
  rf_trim s _ _ (R24.pw_dig _ _) (by rw [R24.pw_len]; omega) (R24.pw_val _ _ (by have := R24.val_lt (R24.wds a) (R24.wds_dig a); rw [R24.wds_val] at this; omega))
set_option maxHeartbeats 8000000 in
theorem rf_sum_eq (s : Bool) (a b : Nat) (ha : (R24.wds a).length ≤ 4000) (hb : (R24.wds b).length ≤ 4000) : Fn0 Tryz.prog 103 [rowA (bgR s (R24.wds a)), rowA (bgR s (R24.wds b))] (rowA (bgR s (R24.wds (a + b)))) := by
  have c1 := rf_plus a b ha hb
  cases s <;>
  · skip
    refine Fn0.of Tryz.func103 Tryz.ntmps103 rfl rfl rfl ?_
    simp only [entryTm]
    repeat' (first | (apply S.fieldP; exact rfl; exact rfl; exact rfl) | (apply S.loadP; (iterate 4 exact rfl)) | (apply S.boolEqB; (iterate 4 exact rfl)) | (apply S.call; exact rfl; exact rfl; exact c1; exact rfl) | (apply T.draw 8 anyOrder (by decide +kernel); simp only [List.take_succ_cons, List.take_zero, List.drop_succ_cons, List.drop_zero]) | (apply S.box; (iterate 6 exact rfl)) | (apply S.alloc; (iterate 5 exact rfl)) | (apply S.store; (iterate 7 exact rfl)) | (apply S.build; exact rfl; exact rfl; exact rfl) | apply S.nil | apply T.regs | (apply T.cC; exact rfl) | apply T.seq | (apply T.ret; change Done _ _ _ _ _))
    exact ⟨.inr rfl, [rowA (bgR _ (R24.wds (a + b)))], .cons (Res.row (bgR _ (R24.wds (a + b))) rfl rfl rfl rfl rfl) .nil, .one (.agg (outL_refl _))⟩
set_option maxHeartbeats 8000000 in
theorem rf_sum_lt (s : Bool) (a b : Nat) (ha : (R24.wds a).length ≤ 4000) (hb : (R24.wds b).length ≤ 4000) (h : a < b) : Fn0 Tryz.prog 103 [rowA (bgR s (R24.wds a)), rowA (bgR (!s) (R24.wds b))] (rowA (bgR (!s && decide (b - a ≠ 0)) (R24.wds (b - a)))) := by
  have c1 := rf_larger b a hb ha
  have c2 := rf_minus b a hb (by omega)
  have c3 := rf_trim_pw (!s) b a hb
  cases s <;>
  · skip
    refine Fn0.of Tryz.func103 Tryz.ntmps103 rfl rfl rfl ?_
    simp only [entryTm]
    repeat' (first | (apply S.fieldP; exact rfl; exact rfl; exact rfl) | (apply S.loadP; (iterate 4 exact rfl)) | (apply S.boolEqB; (iterate 4 exact rfl)) | (apply S.call; exact rfl; exact rfl; exact c1; exact rfl) | (apply S.call; exact rfl; exact rfl; exact c2; exact rfl) | (apply S.call; exact rfl; exact rfl; exact c3; exact rfl) | (apply T.draw 9 anyOrder (by decide +kernel); simp only [List.take_succ_cons, List.take_zero, List.drop_succ_cons, List.drop_zero]) | (apply S.loadPA; (iterate 4 exact rfl)) | (apply S.box; (iterate 6 exact rfl)) | (apply S.alloc; (iterate 5 exact rfl)) | (apply S.store; (iterate 7 exact rfl)) | (apply S.build; exact rfl; exact rfl; exact rfl) | apply S.nil | apply T.regs | apply T.reg | (apply T.cCN; exact rfl) | (apply T.cT; exact rfl; assumption) | apply T.seq | (apply T.skip; first | change T _ _ _ _ _ | change Done _ _ _ _ _ | change Next _ _ _ _ _ _ | skip) | (apply T.ret; change Done _ _ _ _ _))
    exact ⟨.inr rfl, [rowA (bgR _ (R24.wds (b - a)))], .cons (Res.row (bgR _ (R24.wds (b - a))) rfl rfl rfl rfl rfl) .nil, .one (.agg (outL_refl _))⟩
set_option maxHeartbeats 8000000 in
theorem rf_sum_ge (s : Bool) (a b : Nat) (ha : (R24.wds a).length ≤ 4000) (hb : (R24.wds b).length ≤ 4000) (h : b ≤ a) : Fn0 Tryz.prog 103 [rowA (bgR s (R24.wds a)), rowA (bgR (!s) (R24.wds b))] (rowA (bgR (s && decide (a - b ≠ 0)) (R24.wds (a - b)))) := by
  have c1 := rf_larger b a hb ha
  have hn : ¬ a < b := by omega
  have c2 := rf_minus a b ha h
  have c3 := rf_trim_pw s a b ha
  cases s <;>
  · skip
    refine Fn0.of Tryz.func103 Tryz.ntmps103 rfl rfl rfl ?_
    simp only [entryTm]
    repeat' (first | (apply S.fieldP; exact rfl; exact rfl; exact rfl) | (apply S.loadP; (iterate 4 exact rfl)) | (apply S.boolEqB; (iterate 4 exact rfl)) | (apply S.call; exact rfl; exact rfl; exact c1; exact rfl) | (apply S.call; exact rfl; exact rfl; exact c2; exact rfl) | (apply S.call; exact rfl; exact rfl; exact c3; exact rfl) | (apply T.draw 9 anyOrder (by decide +kernel); simp only [List.take_succ_cons, List.take_zero, List.drop_succ_cons, List.drop_zero]) | (apply S.box; (iterate 6 exact rfl)) | (apply S.alloc; (iterate 5 exact rfl)) | (apply S.store; (iterate 7 exact rfl)) | (apply S.build; exact rfl; exact rfl; exact rfl) | apply S.nil | apply T.regs | (apply T.cCN; exact rfl) | (apply T.cF; exact rfl; assumption) | apply T.seq | (apply T.skip; first | change T _ _ _ _ _ | change Done _ _ _ _ _ | change Next _ _ _ _ _ _ | skip) | (apply T.ret; change Done _ _ _ _ _))
    exact ⟨.inr rfl, [rowA (bgR _ (R24.wds (a - b)))], .cons (Res.row (bgR _ (R24.wds (a - b))) rfl rfl rfl rfl rfl) .nil, .one (.agg (outL_refl _))⟩
/-- An integer as the reference keeps it. -/
abbrev zR (z : Int) : List Lf := bgR (decide (z < 0)) (R24.wds z.natAbs)
def bz (k : Nat) (z : Int) : Prop := z.natAbs < 16777216 ^ k
theorem bz.len {k : Nat} {z : Int} (h : bz k z) : (R24.wds z.natAbs).length ≤ k := R24.wds_len h
theorem bz.mono {j k : Nat} {z : Int} (h : bz j z) (hj : j ≤ k) : bz k z := Nat.lt_of_lt_of_le h (Nat.pow_le_pow_right (by decide) hj)
theorem bz.mul {j k : Nat} {x y : Int} (hx : bz j x) (hy : bz k y) : bz (j + k) (x * y) := by
  unfold bz at *
  rw [Int.natAbs_mul, Nat.pow_add]
  exact Nat.mul_lt_mul'' hx hy
theorem bz.neg {k : Nat} {x : Int} (hx : bz k x) : bz k (-x) := by
  unfold bz at *
  rwa [Int.natAbs_neg]
theorem bz.add {k : Nat} {x y : Int} (hx : bz k x) (hy : bz k y) : bz (k + 1) (x + y) := by
  unfold bz at *
  have := Int.natAbs_add_le x y
  rw [Nat.pow_succ]
  omega
theorem rf_neg (z : Int) : Fn0 Tryz.prog 107 [rowA (zR z)] (rowA (zR (-z))) := by
  have := rf_neg_s (decide (z < 0)) z.natAbs
  rw [show (!decide (z < 0) && decide (z.natAbs ≠ 0)) = decide (-z < 0) by
    rw [Bool.eq_iff_iff]
    simp only [Bool.and_eq_true, Bool.not_eq_true', decide_eq_true_eq, decide_eq_false_iff_not]
    omega] at this
  rw [show zR (-z) = bgR (decide (-z < 0)) (R24.wds z.natAbs) by rw [zR, Int.natAbs_neg]]
  exact this
theorem rf_sum (x y : Int) (hx : (R24.wds x.natAbs).length ≤ 4000) (hy : (R24.wds y.natAbs).length ≤ 4000) : Fn0 Tryz.prog 103 [rowA (zR x), rowA (zR y)] (rowA (zR (x + y))) := by
  by_cases e : decide (x < 0) = decide (y < 0)
  · have := rf_sum_eq (decide (x < 0)) x.natAbs y.natAbs hx hy
    rw [show zR (x + y) = bgR (decide (x < 0)) (R24.wds (x.natAbs + y.natAbs)) by
      have h1 := decide_eq_decide.1 e
      rw [zR, show (x + y).natAbs = x.natAbs + y.natAbs by omega, show decide (x + y < 0) = decide (x < 0) from decide_eq_decide.2 (by omega)]]
    rw [show zR y = bgR (decide (x < 0)) (R24.wds y.natAbs) by rw [zR, e]]
    exact this
  · have e2 : decide (y < 0) = !decide (x < 0) := by
      cases h1 : decide (y < 0) <;> cases h2 : decide (x < 0) <;> simp_all
    have h1 : (y < 0 ↔ ¬ x < 0) := by
      have := Bool.eq_iff_iff.1 e2
      simpa using this
    rcases Nat.lt_or_ge x.natAbs y.natAbs with h | h
    · have := rf_sum_lt (decide (x < 0)) x.natAbs y.natAbs hx hy h
      rw [show zR (x + y) = bgR (!decide (x < 0) && decide (y.natAbs - x.natAbs ≠ 0)) (R24.wds (y.natAbs - x.natAbs)) by
        rw [zR, show (x + y).natAbs = y.natAbs - x.natAbs by omega]
        congr 2
        rw [← e2, Bool.eq_iff_iff]
        simp only [Bool.and_eq_true, decide_eq_true_eq]
        omega]
      rw [show zR y = bgR (!decide (x < 0)) (R24.wds y.natAbs) by rw [zR, e2]]
      exact this
    · have := rf_sum_ge (decide (x < 0)) x.natAbs y.natAbs hx hy h
      rw [show zR (x + y) = bgR (decide (x < 0) && decide (x.natAbs - y.natAbs ≠ 0)) (R24.wds (x.natAbs - y.natAbs)) by
        rw [zR, show (x + y).natAbs = x.natAbs - y.natAbs by omega]
        congr 2
        rw [Bool.eq_iff_iff]
        simp only [Bool.and_eq_true, decide_eq_true_eq]
        omega]
      rw [show zR y = bgR (!decide (x < 0)) (R24.wds y.natAbs) by rw [zR, e2]]
      exact this
/-! ### Int -/
theorem r02_size (n : Int) (h0 : -9223372036854775808 ≤ n) (h1 : n ≤ 9223372036854775807) : Fn0 Tryz.prog 53 [.i n] (.val (.int .u64 (n.natAbs : Int))) := by
  refine Fn0.of_calls (us := [.int .i64 n]) ⟨_, Tryz.func53, rfl, rfl⟩ rfl (fun w L => relV_val _) fun w => ?_
  exact (rsize_any n h0 h1 w).mono fun e w' ⟨h, k⟩ => ⟨h, k ▸ Below.refl _ _⟩
/-- Round i of Int: the digits so far, and what is left. -/
structure IntInv (n : Nat) (m : List Nat) (r i : Nat) : Prop where
  len : m.length = i
  eq : m ++ R24.wds r = R24.wds n
  le : r ≤ n
theorem int_step {n : Nat} {m : List Nat} {r i : Nat} (h : IntInv n m r i) (hr : 0 < r) : IntInv n (m ++ [r % 16777216]) (r / 16777216) (i + 1) := by
  obtain ⟨h1, h2, h3⟩ := h
  refine ⟨by simp [h1], ?_, by omega⟩
  rw [R24.wds_pos (by omega)] at h2
  rw [List.append_assoc]
  exact h2
theorem int_len {n : Nat} {m : List Nat} {r i : Nat} (hn : n < 18446744073709551616) (h : IntInv n m r i) : i ≤ 3 := by
  have h4 : (R24.wds n).length ≤ 3 := R24.wds_len (by omega)
  rw [← h.eq, List.length_append, h.len] at h4
  omega
structure IntS where
  i : Nat
  m : List Nat
  r : Nat
set_option maxHeartbeats 16000000 in
theorem rf_int (n : Int) (h0 : -9223372036854775808 ≤ n) (h1 : n ≤ 9223372036854775807) : Fn0 Tryz.prog 65 [.i n] (rowA (zR n)) := by
  have c1 := r02_size n h0 h1
  obtain ⟨u, hu⟩ : ∃ u, u = n.natAbs := ⟨_, rfl⟩
  rw [show zR n = bgR (decide (n < 0)) (R24.wds u) by rw [hu]]
  rw [← hu] at c1
  refine Fn0.of Tryz.func65 Tryz.ntmps65 rfl rfl rfl ?_
  simp only [entryTm]
  repeat' (first | (apply S.move; exact rfl; exact rfl) | (apply S.assign; exact rfl; exact rfl) | (apply S.fieldP; exact rfl; exact rfl; exact rfl) | (apply S.call; exact rfl; exact rfl; exact c1; exact rfl) | (apply S.alloc; (iterate 5 exact rfl)) | (apply S.store; (iterate 7 exact rfl)) | (apply S.cmp; (iterate 4 exact rfl)) | apply S.nil | apply T.regs | apply T.seq | apply T.block)
  refine T.kill 2 ?_
  refine T.kill 3 ?_
  refine T.loopS (fun (s : IntS) => IntInv u s.m s.r s.i) (fun s => s.r) (fun s => [(4, .val (.int .u64 (s.r : Int))), (3, .ptr 1 0), (2, .ptr 0 0)]) (fun s => [.live [.val (.bool false), .val (.slice none 0 0)], .live [.b (decide (n < 0)), slT 2 s.i], slB .i64 s.m s.i, .dead]) ⟨0, [], u⟩ ⟨rfl, rfl, Nat.le_refl _⟩ (.cons rfl rfl (.cons rfl rfl (.cons rfl rfl .nil))) (.live rfl (.live rfl (.dead (.dead .nil)))) ?_
  rintro ⟨i, m, r⟩ hinv
  dsimp only at hinv ⊢
  have hm := hinv.len
  have hle := hinv.le
  have hi3 := int_len (by omega) hinv
  by_cases hr : 0 < r
  · have hr' : (0 : Int) < (r : Int) := by omega
    have hst := int_step hinv hr
    have hw : IntKind.i64.wrap ((r : Int) % 16777216) = (r : Int) % 16777216 := wrap_i64 _ (by omega)
    have hd : (r : Int) % 16777216 = ((r % 16777216 : Nat) : Int) := by omega
    have hq : (r : Int) / 16777216 = ((r / 16777216 : Nat) : Int) := by omega
    cases i with
    | zero =>
      repeat' (first | (apply S.move; exact rfl; exact rfl) | (apply S.assign; exact rfl; exact rfl) | (apply S.fieldP; exact rfl; exact rfl; exact rfl) | (apply S.loadP; (iterate 4 exact rfl)) | (apply S.buildSliceF; (iterate 8 exact rfl)) | (apply S.convW; exact rfl; exact hw; exact rfl) | (apply S.remU; exact rfl; exact rfl; exact rfl; omega) | (apply S.quoU; exact rfl; exact rfl; exact rfl; omega) | (apply S.appendNU 2; (iterate 7 exact rfl); exact hd; decide) | (apply S.store; (iterate 7 exact rfl)) | (apply S.cmp; (iterate 4 exact rfl)) | apply S.nil | apply T.regs | apply T.reg | (apply T.cT; exact rfl; assumption) | apply T.seq | (apply T.skip; first | change T _ _ _ _ _ | change Done _ _ _ _ _ | change Next _ _ _ _ _ _ | skip) | apply T.block)
      change Next _ _ _ _ _ _
      exact Next.go ⟨0 + 1, m ++ [r % 16777216], r / 16777216⟩ hst (by dsimp only; omega) (.cons (by rw [← hq]; rfl) rfl (.cons rfl rfl (.cons rfl rfl .nil))) (by rw [show m = [] from List.eq_nil_of_length_eq_zero hm]; exact .live rfl (.live rfl (.live rfl (.dead .nil))))
    | succ i =>
      repeat' (first | (apply S.move; exact rfl; exact rfl) | (apply S.assign; exact rfl; exact rfl) | (apply S.fieldP; exact rfl; exact rfl; exact rfl) | (apply S.loadP; (iterate 4 exact rfl)) | (apply S.buildSliceF; (iterate 8 exact rfl)) | (apply S.convW; exact rfl; exact hw; exact rfl) | (apply S.remU; exact rfl; exact rfl; exact rfl; omega) | (apply S.quoU; exact rfl; exact rfl; exact rfl; omega) | (refine Reg.blur 1 1 3 rfl rfl rfl ?_; apply S.appendU; (iterate 7 exact rfl); exact hm; exact hd; decide; omega) | (apply S.store; (iterate 7 exact rfl)) | (apply S.cmp; (iterate 4 exact rfl)) | apply S.nil | apply T.regs | apply T.reg | (apply T.cT; exact rfl; assumption) | apply T.seq | (apply T.skip; first | change T _ _ _ _ _ | change Done _ _ _ _ _ | change Next _ _ _ _ _ _ | skip) | apply T.block)
      change Next _ _ _ _ _ _
      exact Next.go ⟨i + 1 + 1, m ++ [r % 16777216], r / 16777216⟩ hst (by dsimp only; omega) (.cons (by rw [← hq]; rfl) rfl (.cons rfl rfl (.cons rfl rfl .nil))) (.live rfl (.live rfl (.live (wsA_under _ _ _) (.dead .nil))))
  · have hr' : ¬ (0 : Int) < (r : Int) := by omega
    obtain rfl : r = 0 := by omega
    have he : m = R24.wds u := by
      have := hinv.eq
      rwa [R24.wds_zero, List.append_nil] at this
    rw [← he]
    cases i with
    | zero =>
      obtain rfl := List.eq_nil_of_length_eq_zero hm
      refine T.nilH 1 1 rfl rfl ?_
      repeat' (first | (apply S.move; exact rfl; exact rfl) | (apply S.loadPA; (iterate 4 exact rfl)) | (apply S.store; (iterate 7 exact rfl)) | (apply S.cmp; (iterate 4 exact rfl)) | apply S.nil | apply T.regs | (apply T.cCN; exact rfl) | apply T.seq | (apply T.ret; change Done _ _ _ _ _) | (apply T.exit; first | change T _ _ _ _ _ | change Done _ _ _ _ _ | change Next _ _ _ _ _ _ | skip))
      exact ⟨.inr rfl, [rowA (bgR (decide (n < 0)) [])], .cons (Res.row (bgR (decide (n < 0)) []) rfl rfl rfl rfl rfl) .nil, .one (.agg (outL_refl _))⟩
    | succ i =>
      refine T.freezeH 1 1 rfl rfl rfl rfl (ownRows_ws .i64 m hm.symm) ?_
      repeat' (first | (apply S.move; exact rfl; exact rfl) | (apply S.loadPA; (iterate 4 exact rfl)) | (apply S.store; (iterate 7 exact rfl)) | (apply S.cmp; (iterate 4 exact rfl)) | apply S.nil | apply T.regs | (apply T.cCN; exact rfl) | apply T.seq | (apply T.ret; change Done _ _ _ _ _) | (apply T.exit; first | change T _ _ _ _ _ | change Done _ _ _ _ _ | change Next _ _ _ _ _ _ | skip))
      exact ⟨.inr rfl, [rowA (bgR (decide (n < 0)) m)], .cons (Res.row (bgR (decide (n < 0)) m) rfl rfl rfl rfl rfl) .nil, .one (.agg (outL_refl _))⟩
end Go.Proofs.YtgegcgfdffmoeaaGreat
set_option linter.unusedSimpArgs false
namespace Go.Proofs.YtgegcgfdffmoeaaGreat
set_option linter.unusedVariables false
open Go.RowKit
structure MulA where
  i : Nat
  m : List Nat
structure MulB where
  k : Nat
  m : List Nat
  c : Nat
set_option maxHeartbeats 16000000 in
theorem rf_product_l (s t : Bool) (a b : List Nat) (da : R24.Dig a) (db : R24.Dig b) (hla : a.length ≤ 2000) (hlb : b.length ≤ 2000) : Fn0 Tryz.prog 104 [rowA (bgR s a), rowA (bgR t b)] (rowA (bgR ((s != t) && decide (R24.val a * R24.val b ≠ 0)) (R24.wds (R24.val a * R24.val b)))) := by
  have e1 : (w24 a).length = a.length := wsR_len _ _
  have e2 : (w24 b).length = b.length := wsR_len _ _
  have h1 : (((w24 a).length : Nat) : Int) + ((w24 b).length : Nat) + 1 = ((a.length + b.length + 1 : Nat) : Int) := by omega
  refine Fn0.of Tryz.func104 Tryz.ntmps104 rfl rfl rfl ?_
  simp only [entryTm]
  repeat' (first | (apply S.assign; exact rfl; exact rfl) | (apply S.fieldP; exact rfl; exact rfl; exact rfl) | (apply S.loadP; (iterate 4 exact rfl)) | (apply S.arith; (iterate 4 exact rfl); omega) | (apply S.makeU (n := a.length + b.length + 1); exact rfl; rw [← h1]; exact rfl; omega; exact rfl; exact rfl) | (apply S.box; (iterate 6 exact rfl)) | (apply S.alloc; (iterate 5 exact rfl)) | (apply S.lenR; exact rfl; exact rfl) | apply S.nil | apply T.regs | apply T.seq | apply T.block)
  refine T.loopS (fun (o : MulA) => o.i ≤ a.length ∧ R24.MulR a b o.m o.i) (fun o => a.length - o.i) (fun o => [(6, .i o.i), (5, .own 3 0 (a.length + b.length + 1) 1), (2, .ptr 0 0), (3, .ptr 1 0), (4, .ptr 2 0)])
    (fun o => [.live [.val (.bool s), .sl (w24 a)], .live [.val (.bool t), .sl (w24 b)], .live [.val (.bool false), .val (.slice none 0 0)], .live (wsA .i64 o.m)]) ⟨0, List.replicate (a.length + b.length + 1) 0⟩ ⟨Nat.zero_le _, R24.mulR_start a b⟩ (.cons rfl rfl (.cons rfl rfl (.cons rfl rfl (.cons rfl rfl (.cons rfl rfl .nil))))) (.live rfl (.live rfl (.live rfl (.live (wsA_under _ _ _) .nil)))) ?_
  rintro ⟨i, m⟩ ⟨hi, hinv⟩
  dsimp only at hi hinv ⊢
  have hm := hinv.len
  by_cases hil : i < a.length
  · have h3 : (i : Int) < ((w24 a).length : Nat) := by omega
    obtain ⟨x, hx⟩ : ∃ x, a[i]? = some x := ⟨a[i], List.getElem?_eq_getElem hil⟩
    have hbx := wsR_ati (k := .i64) hx
    have hxl := da.get hx
    repeat' (first | (apply S.move; exact rfl; exact rfl) | (apply S.assign; exact rfl; exact rfl) | (apply S.fieldP; exact rfl; exact rfl; exact rfl) | (apply S.loadP; (iterate 4 exact rfl)) | (apply S.cmp; (iterate 4 exact rfl)) | (apply S.lenR; exact rfl; exact rfl) | apply S.nil | apply T.regs | (apply T.cT; exact rfl; assumption) | apply T.seq | (apply T.skip; first | change T _ _ _ _ _ | change Done _ _ _ _ _ | change Next _ _ _ _ _ _ | skip) | apply T.block)
    refine T.loopS (fun (q : MulB) => q.k ≤ b.length + 1 ∧ R24.MulRI a b q.m i x q.k q.c) (fun q => b.length + 1 - q.k) (fun q => [(8, .i q.k), (7, .i q.c), (6, .i i), (5, .own 3 0 (a.length + b.length + 1) 1), (2, .ptr 0 0), (3, .ptr 1 0), (4, .ptr 2 0)])
      (fun q => [.live [.val (.bool s), .sl (w24 a)], .live [.val (.bool t), .sl (w24 b)], .live [.val (.bool false), .val (.slice none 0 0)], .live (wsA .i64 q.m)]) ⟨0, m, 0⟩ ⟨Nat.zero_le _, R24.mulR_in x hinv⟩ (.cons rfl rfl (.cons rfl rfl (.cons rfl rfl (.cons rfl rfl (.cons rfl rfl (.cons rfl rfl (.cons rfl rfl .nil))))))) (.live rfl (.live rfl (.live rfl (.live (wsA_under _ _ _) .nil)))) ?_
    rintro ⟨k, m1, c⟩ ⟨hk, hin⟩
    dsimp only at hk hin ⊢
    have hm1 := hin.len
    have hcl := hin.cd
    have hno := R24.mulR_none da db hx hin
    by_cases hon : k < b.length ∨ 0 < c
    · have hkl : k ≤ b.length := by omega
      obtain ⟨z, hz⟩ : ∃ z, m1[i + k]? = some z := ⟨m1[i + k]'(by omega), List.getElem?_eq_getElem (by omega)⟩
      have hzl := hin.dig.get hz
      have d2 := rf_digit b k
      have hyl := R24.get_lt db k
      obtain ⟨y, hyy⟩ : ∃ y, y = b[k]?.getD 0 := ⟨_, rfl⟩
      rw [← hyy] at d2 hyl
      obtain ⟨f1, f2⟩ := R24.mulR_fits hxl hyl hzl hcl
      have hxy : (x : Int) * (y : Int) = ((x * y : Nat) : Int) := (Int.natCast_mul x y).symm
      have hst := R24.mulR_step (r := (z + x * y + c) % 16777216) (q := (z + x * y + c) / 16777216) hin hz (Nat.mod_lt _ (by decide)) (by rw [← hyy]; omega) f2
      obtain ⟨p, hp⟩ : ∃ p, p = x * y := ⟨_, rfl⟩
      rw [← hp] at hxy f1 f2 hst
      have hr : ((z : Int) + (x : Int) * (y : Int) + (c : Int)) % 16777216 = (((z + p + c) % 16777216 : Nat) : Int) := by rw [hxy]; omega
      have hq : ((z : Int) + (x : Int) * (y : Int) + (c : Int)) / 16777216 = (((z + p + c) / 16777216 : Nat) : Int) := by rw [hxy]; omega
      repeat' (first | (apply S.move; exact rfl; exact rfl) | (apply S.assign; exact rfl; exact rfl) | (apply S.gFF; exact rfl; exact rfl; assumption) | (apply S.gFT; exact rfl; exact rfl; assumption; exact rfl) | (apply S.fieldP; exact rfl; exact rfl; exact rfl) | (apply S.loadP; (iterate 4 exact rfl)) | (apply S.loadR; exact rfl; exact rfl; exact rfl) | (apply S.pTp; exact rfl; assumption; exact rfl; exact rfl) | (apply S.pFp; exact rfl; assumption; exact rfl; exact rfl) | (apply S.arith; (iterate 4 exact rfl); (first | omega | (rw [hxy]; omega))) | (apply S.rem; exact rfl; exact rfl; exact rfl; (rw [hxy]; omega)) | (apply S.quo; exact rfl; exact rfl; exact rfl; (rw [hxy]; omega)) | (apply S.call; exact rfl; exact rfl; exact d2; exact rfl) | (apply S.indexR; exact rfl; exact rfl; exact rfl; exact hbx; omega; exact rfl) | (apply S.indexU (i + k); (iterate 4 exact rfl); omega; omega) | (apply S.loadU; (iterate 4 exact rfl); exact hz) | (apply S.storeU; exact rfl; exact rfl; exact rfl; exact hr; omega) | (apply T.draw 19 anyOrder (by decide +kernel); simp only [List.take_succ_cons, List.take_zero, List.drop_succ_cons, List.drop_zero]) | (apply S.cmp; (iterate 4 exact rfl)) | (apply S.lenR; exact rfl; exact rfl) | (apply S.gsF; exact rfl; exact rfl; exact rfl; intro hc; rotate_left; intro hc; rotate_right) | apply S.nil | apply T.regs | apply T.reg | (apply T.cC; exact rfl) | (apply T.cS; exact rfl; intro hc; rotate_left; intro hc; rotate_right) | apply T.seq | (apply T.skip; first | change T _ _ _ _ _ | change Done _ _ _ _ _ | change Next _ _ _ _ _ _ | skip) | (apply T.exit; first | change T _ _ _ _ _ | change Done _ _ _ _ _ | change Next _ _ _ _ _ _ | skip) | apply T.block)
      all_goals first
        | (change Next _ _ _ _ _ _; exact Next.go ⟨k + 1, m1.set (i + k) ((z + p + c) % 16777216), (z + p + c) / 16777216⟩ ⟨by dsimp only; omega, hst⟩ (by dsimp only; omega) (.cons rfl rfl (.cons (by rw [← hq]; rfl) rfl (.cons rfl rfl (.cons rfl rfl (.cons rfl rfl (.cons rfl rfl (.cons rfl rfl .nil))))))) (.live rfl (.live rfl (.live rfl (.live (wsA_under _ _ _) .nil)))))
        | (exfalso; omega)
    · obtain ⟨g1, rfl⟩ : b.length ≤ k ∧ c = 0 := by omega
      have g2 : ¬ (k : Int) < ((w24 b).length : Nat) := by omega
      repeat' (first | (apply S.move; exact rfl; exact rfl) | (apply S.assign; exact rfl; exact rfl) | (apply S.gFF; exact rfl; exact rfl; assumption) | (apply S.fieldP; exact rfl; exact rfl; exact rfl) | (apply S.loadP; (iterate 4 exact rfl)) | (apply S.pFp; exact rfl; assumption; exact rfl; exact rfl) | (apply S.arith; (iterate 4 exact rfl); omega) | (apply S.cmp; (iterate 4 exact rfl)) | (apply S.lenR; exact rfl; exact rfl) | apply S.nil | apply T.regs | apply T.reg | (apply T.cCN; exact rfl) | apply T.seq | (apply T.exit; first | change T _ _ _ _ _ | change Done _ _ _ _ _ | change Next _ _ _ _ _ _ | skip))
      change Next _ _ _ _ _ _
      exact Next.go ⟨i + 1, m1⟩ ⟨by dsimp only; omega, R24.mulR_out hin hx g1⟩ (by dsimp only; omega) (.cons rfl rfl (.cons rfl rfl (.cons rfl rfl (.cons rfl rfl (.cons rfl rfl .nil))))) (.live rfl (.live rfl (.live rfl (.live (wsA_under _ _ _) .nil))))
  · have h3 : ¬ (i : Int) < ((w24 a).length : Nat) := by omega
    obtain rfl : i = a.length := by omega
    have c3 := rf_trim (s != t) m (R24.val a * R24.val b) hinv.dig (by omega) (R24.mulR_end hinv)
    repeat' (first | (apply S.move; exact rfl; exact rfl) | (apply S.fieldP; exact rfl; exact rfl; exact rfl) | (apply S.loadP; (iterate 4 exact rfl)) | (refine T.freeze 5 rfl rfl (ownRows_ws .i64 m hm.symm) ?_) | (apply S.boolNeB; (iterate 4 exact rfl)) | (apply S.call; exact rfl; exact rfl; exact c3; exact rfl) | (apply S.store; (iterate 7 exact rfl)) | (apply S.cmp; (iterate 4 exact rfl)) | (apply S.lenR; exact rfl; exact rfl) | (apply S.build; exact rfl; exact rfl; exact rfl) | apply S.nil | apply T.regs | (apply T.cF; exact rfl; assumption) | apply T.seq | (apply T.ret; change Done _ _ _ _ _) | (apply T.exit; first | change T _ _ _ _ _ | change Done _ _ _ _ _ | change Next _ _ _ _ _ _ | skip))
    exact ⟨.inr rfl, [rowA (bgR ((s != t) && decide (R24.val a * R24.val b ≠ 0)) (R24.wds (R24.val a * R24.val b)))], .cons (Res.row (bgR ((s != t) && decide (R24.val a * R24.val b ≠ 0)) (R24.wds (R24.val a * R24.val b))) rfl rfl rfl rfl rfl) .nil, .one (.agg (outL_refl _))⟩
theorem rf_product (x y : Int) (hx : (R24.wds x.natAbs).length ≤ 2000) (hy : (R24.wds y.natAbs).length ≤ 2000) : Fn0 Tryz.prog 104 [rowA (zR x), rowA (zR y)] (rowA (zR (x * y))) := by
  have := rf_product_l (decide (x < 0)) (decide (y < 0)) (R24.wds x.natAbs) (R24.wds y.natAbs) (R24.wds_dig _) (R24.wds_dig _) hx hy
  rw [R24.wds_val, R24.wds_val] at this
  rw [show zR (x * y) = bgR ((decide (x < 0) != decide (y < 0)) && decide (x.natAbs * y.natAbs ≠ 0)) (R24.wds (x.natAbs * y.natAbs)) by
    rw [zR, Int.natAbs_mul]
    congr 2
    rcases Int.lt_trichotomy x 0 with hx | rfl | hx
    · rcases Int.lt_trichotomy y 0 with hy | rfl | hy
      · have h1 : ¬ x * y < 0 := by have := Int.mul_pos_of_neg_of_neg hx hy; omega
        simp [h1, hx, hy]
      · simp
      · have h1 : x * y < 0 := Int.mul_neg_of_neg_of_pos hx hy
        have h2 : ¬ y < 0 := by omega
        have h3 : x ≠ 0 := by omega
        have h4 : y ≠ 0 := by omega
        simp [h1, hx, h2]
        exact Nat.mul_ne_zero (by omega) (by omega)
    · simp
    · have h0 : ¬ x < 0 := by omega
      rcases Int.lt_trichotomy y 0 with hy | rfl | hy
      · have h1 : x * y < 0 := Int.mul_neg_of_pos_of_neg hx hy
        have h3 : x ≠ 0 := by omega
        have h4 : y ≠ 0 := by omega
        simp [h1, h0, hy]
        exact Nat.mul_ne_zero (by omega) (by omega)
      · simp
      · have h1 : ¬ x * y < 0 := by have := Int.mul_pos hx hy; omega
        have h2 : ¬ y < 0 := by omega
        simp [h1, h0, h2]]
  exact this
/-! ### Exact fractions -/
structure XN where
  n : Int
  d : Int
abbrev xR (n d : Int) : List Lf := [.val (.bool (decide (n < 0))), .sl (w24 (R24.wds n.natAbs)), .val (.bool (decide (d < 0))), .sl (w24 (R24.wds d.natAbs))]
abbrev XN.row (x : XN) : List Lf := xR x.n x.d
structure XN.bd (k : Nat) (x : XN) : Prop where
  n : bz k x.n
  d : bz k x.d
  p : 0 < x.d
def XN.plus (x y : XN) : XN := ⟨x.n * y.d + y.n * x.d, x.d * y.d⟩
def XN.less (x y : XN) : XN := ⟨x.n * y.d + -y.n * x.d, x.d * y.d⟩
def XN.times (x y : XN) : XN := ⟨x.n * y.n, x.d * y.d⟩
def XN.over (x y : XN) : XN := ⟨x.n * y.d, x.d * y.n⟩
def XN.val (x : XN) : Rat := Rat.divInt x.n x.d
theorem XN.bd.mono {j k : Nat} {x : XN} (h : x.bd j) (hj : j ≤ k) : x.bd k := ⟨h.n.mono hj, h.d.mono hj, h.p⟩
theorem XN.bd_plus {j k : Nat} {x y : XN} (hx : x.bd j) (hy : y.bd k) : (x.plus y).bd (j + k + 1) :=
  ⟨(hx.n.mul hy.d).add (Nat.add_comm k j ▸ hy.n.mul hx.d), (hx.d.mul hy.d).mono (by omega), Int.mul_pos hx.p hy.p⟩
theorem XN.bd_less {j k : Nat} {x y : XN} (hx : x.bd j) (hy : y.bd k) : (x.less y).bd (j + k + 1) :=
  ⟨(hx.n.mul hy.d).add (Nat.add_comm k j ▸ hy.n.neg.mul hx.d), (hx.d.mul hy.d).mono (by omega), Int.mul_pos hx.p hy.p⟩
theorem XN.bd_times {j k : Nat} {x y : XN} (hx : x.bd j) (hy : y.bd k) : (x.times y).bd (j + k) := ⟨hx.n.mul hy.n, hx.d.mul hy.d, Int.mul_pos hx.p hy.p⟩
theorem XN.bd_over {j k : Nat} {x y : XN} (hx : x.bd j) (hy : y.bd k) (h : 0 < y.n) : (x.over y).bd (j + k) := ⟨hx.n.mul hy.d, hx.d.mul hy.n, Int.mul_pos hx.p h⟩
theorem XN.val_plus {x y : XN} (hx : 0 < x.d) (hy : 0 < y.d) : (x.plus y).val = x.val + y.val := by
  unfold XN.val XN.plus
  rw [Rat.divInt_add_divInt _ _ (by omega) (by omega)]
theorem XN.val_less {x y : XN} (hx : 0 < x.d) (hy : 0 < y.d) : (x.less y).val = x.val - y.val := by
  unfold XN.val XN.less
  rw [Rat.sub_eq_add_neg, Rat.neg_divInt, Rat.divInt_add_divInt _ _ (by omega) (by omega)]
theorem XN.val_times (x y : XN) : (x.times y).val = x.val * y.val := by
  unfold XN.val XN.times
  rw [Rat.divInt_mul_divInt]
theorem XN.val_over {x y : XN} : (x.over y).val = x.val / y.val := by
  unfold XN.val XN.over
  rw [Rat.div_def, Rat.inv_divInt, Rat.divInt_mul_divInt]
def XN.sgn (x : XN) : Int := if x.n < 0 then -1 else if x.n = 0 then 0 else 1
theorem XN.sgn_val {x : XN} (hx : 0 < x.d) : x.sgn = x.val.num.sign := by
  rw [XN.val, sign_divInt' hx]
  unfold XN.sgn
  split
  · rw [Int.sign_eq_neg_one_of_neg (by omega)]
  · split
    · rename_i h; rw [h]; rfl
    · rw [Int.sign_eq_one_of_pos (by omega)]
set_option maxHeartbeats 8000000 in
theorem rf_of (n d : Int) (h0 : -9223372036854775808 ≤ n) (h1 : n ≤ 9223372036854775807) (h2 : -9223372036854775808 ≤ d) (h3 : d ≤ 9223372036854775807) : Fn0 Tryz.prog 57 [rowA [.i n, .i d]] (rowA (xR n d)) := by
  have c1 := rf_int n h0 h1
  have c2 := rf_int d h2 h3
  refine Fn0.of Tryz.func57 Tryz.ntmps57 rfl rfl rfl ?_
  simp only [entryTm]
  repeat' (first | (apply S.fieldP; exact rfl; exact rfl; exact rfl) | (apply S.loadP; (iterate 4 exact rfl)) | (apply S.call; exact rfl; exact rfl; exact c1; exact rfl) | (apply S.call; exact rfl; exact rfl; exact c2; exact rfl) | (apply T.draw 7 anyOrder (by decide +kernel); simp only [List.take_succ_cons, List.take_zero, List.drop_succ_cons, List.drop_zero]) | (apply S.box; (iterate 6 exact rfl)) | (apply S.alloc; (iterate 5 exact rfl)) | (apply S.store; (iterate 7 exact rfl)) | (apply S.build; exact rfl; exact rfl; exact rfl) | apply S.nil | apply T.regs | (apply T.ret; change Done _ _ _ _ _))
  exact ⟨.inr rfl, [rowA (xR n d)], .cons (Res.row (xR n d) rfl rfl rfl rfl rfl) .nil, .one (.agg (outL_refl _))⟩
set_option maxHeartbeats 16000000 in
theorem rf_xplus {j k : Nat} {x y : XN} (hx : x.bd j) (hy : y.bd k) (hjk : j + k ≤ 2000) : Fn0 Tryz.prog 63 [rowA x.row, rowA y.row] (rowA (x.plus y).row) := by
  have l1 := hx.n.len
  have l2 := hx.d.len
  have l3 := hy.n.len
  have l4 := hy.d.len
  have c1 := rf_product x.n y.d (by omega) (by omega)
  have c2 := rf_product y.n x.d (by omega) (by omega)
  have c3 := rf_sum (x.n * y.d) (y.n * x.d) (by have := (hx.n.mul hy.d).len; omega) (by have := (hy.n.mul hx.d).len; omega)
  have c4 := rf_product x.d y.d (by omega) (by omega)
  refine Fn0.of Tryz.func63 Tryz.ntmps63 rfl rfl rfl ?_
  simp only [entryTm]
  repeat' (first | (apply S.fieldP; exact rfl; exact rfl; exact rfl) | (apply S.call; exact rfl; exact rfl; exact c1; exact rfl) | (apply S.call; exact rfl; exact rfl; exact c2; exact rfl) | (apply S.call; exact rfl; exact rfl; exact c3; exact rfl) | (apply S.call; exact rfl; exact rfl; exact c4; exact rfl) | (apply T.draw 17 anyOrder (by decide +kernel); simp only [List.take_succ_cons, List.take_zero, List.drop_succ_cons, List.drop_zero]) | (apply S.loadPA; (iterate 4 exact rfl)) | (apply S.box; (iterate 6 exact rfl)) | (apply S.alloc; (iterate 5 exact rfl)) | (apply S.store; (iterate 7 exact rfl)) | (apply S.build; exact rfl; exact rfl; exact rfl) | apply S.nil | apply T.regs | (apply T.ret; change Done _ _ _ _ _))
  exact ⟨.inr rfl, [rowA (x.plus y).row], .cons (Res.row (x.plus y).row rfl rfl rfl rfl rfl) .nil, .one (.agg (outL_refl _))⟩
set_option maxHeartbeats 16000000 in
theorem rf_xless {j k : Nat} {x y : XN} (hx : x.bd j) (hy : y.bd k) (hjk : j + k ≤ 2000) : Fn0 Tryz.prog 72 [rowA x.row, rowA y.row] (rowA (x.less y).row) := by
  have c1 := rf_neg y.n
  have c2 := rf_xplus (x := x) (y := ⟨-y.n, y.d⟩) hx ⟨hy.n.neg, hy.d, hy.p⟩ hjk
  refine Fn0.of Tryz.func72 Tryz.ntmps72 rfl rfl rfl ?_
  simp only [entryTm]
  repeat' (first | (apply S.fieldP; exact rfl; exact rfl; exact rfl) | (apply S.call; exact rfl; exact rfl; exact c1; exact rfl) | (apply S.call; exact rfl; exact rfl; exact c2; exact rfl) | (apply T.draw 8 anyOrder (by decide +kernel); simp only [List.take_succ_cons, List.take_zero, List.drop_succ_cons, List.drop_zero]) | (apply S.loadPA; (iterate 4 exact rfl)) | (apply S.box; (iterate 6 exact rfl)) | (apply S.alloc; (iterate 5 exact rfl)) | (apply S.store; (iterate 7 exact rfl)) | (apply S.build; exact rfl; exact rfl; exact rfl) | apply S.nil | apply T.regs | (apply T.ret; change Done _ _ _ _ _))
  exact ⟨.inr rfl, [rowA (x.less y).row], .cons (Res.row (x.less y).row rfl rfl rfl rfl rfl) .nil, .one (.agg (outL_refl _))⟩
set_option maxHeartbeats 16000000 in
theorem rf_xtimes {j k : Nat} {x y : XN} (hx : x.bd j) (hy : y.bd k) (hjk : j + k ≤ 2000) : Fn0 Tryz.prog 66 [rowA x.row, rowA y.row] (rowA (x.times y).row) := by
  have l1 := hx.n.len
  have l2 := hx.d.len
  have l3 := hy.n.len
  have l4 := hy.d.len
  have c1 := rf_product x.n y.n (by omega) (by omega)
  have c4 := rf_product x.d y.d (by omega) (by omega)
  refine Fn0.of Tryz.func66 Tryz.ntmps66 rfl rfl rfl ?_
  simp only [entryTm]
  repeat' (first | (apply S.fieldP; exact rfl; exact rfl; exact rfl) | (apply S.call; exact rfl; exact rfl; exact c1; exact rfl) | (apply S.call; exact rfl; exact rfl; exact c4; exact rfl) | (apply T.draw 11 anyOrder (by decide +kernel); simp only [List.take_succ_cons, List.take_zero, List.drop_succ_cons, List.drop_zero]) | (apply S.loadPA; (iterate 4 exact rfl)) | (apply S.box; (iterate 6 exact rfl)) | (apply S.alloc; (iterate 5 exact rfl)) | (apply S.store; (iterate 7 exact rfl)) | (apply S.build; exact rfl; exact rfl; exact rfl) | apply S.nil | apply T.regs | (apply T.ret; change Done _ _ _ _ _))
  exact ⟨.inr rfl, [rowA (x.times y).row], .cons (Res.row (x.times y).row rfl rfl rfl rfl rfl) .nil, .one (.agg (outL_refl _))⟩
set_option maxHeartbeats 16000000 in
theorem rf_xover {j k : Nat} {x y : XN} (hx : x.bd j) (hy : y.bd k) (hjk : j + k ≤ 2000) : Fn0 Tryz.prog 64 [rowA x.row, rowA y.row] (rowA (x.over y).row) := by
  have l1 := hx.n.len
  have l2 := hx.d.len
  have l3 := hy.n.len
  have l4 := hy.d.len
  have c1 := rf_product x.n y.d (by omega) (by omega)
  have c4 := rf_product x.d y.n (by omega) (by omega)
  refine Fn0.of Tryz.func64 Tryz.ntmps64 rfl rfl rfl ?_
  simp only [entryTm]
  repeat' (first | (apply S.fieldP; exact rfl; exact rfl; exact rfl) | (apply S.call; exact rfl; exact rfl; exact c1; exact rfl) | (apply S.call; exact rfl; exact rfl; exact c4; exact rfl) | (apply T.draw 11 anyOrder (by decide +kernel); simp only [List.take_succ_cons, List.take_zero, List.drop_succ_cons, List.drop_zero]) | (apply S.loadPA; (iterate 4 exact rfl)) | (apply S.box; (iterate 6 exact rfl)) | (apply S.alloc; (iterate 5 exact rfl)) | (apply S.store; (iterate 7 exact rfl)) | (apply S.build; exact rfl; exact rfl; exact rfl) | apply S.nil | apply T.regs | (apply T.ret; change Done _ _ _ _ _))
  exact ⟨.inr rfl, [rowA (x.over y).row], .cons (Res.row (x.over y).row rfl rfl rfl rfl rfl) .nil, .one (.agg (outL_refl _))⟩
set_option maxHeartbeats 4000000 in
theorem rf_xsign (x : XN) : Fn0 Tryz.prog 58 [rowA x.row] (.i x.sgn) := by
  unfold XN.sgn
  by_cases h1 : x.n < 0
  · rw [if_pos h1]
    refine Fn0.of Tryz.func58 Tryz.ntmps58 rfl rfl rfl ?_
    simp only [entryTm]
    repeat' (first | (apply S.assign; exact rfl; exact rfl) | (apply S.fieldP; exact rfl; exact rfl; exact rfl) | (apply S.loadP; (iterate 4 exact rfl)) | (apply S.box; (iterate 6 exact rfl)) | apply S.nil | apply T.regs | (apply T.cT; exact rfl; assumption) | apply T.seq | (apply T.ret; change Done _ _ _ _ _))
    exact doneV (by simp) Tryz.results58 rfl rfl
  · rw [if_neg h1]
    by_cases h0 : x.n = 0
    · rw [if_pos h0]
      have h : (((w24 (R24.wds x.n.natAbs)).length : Nat) : Int) = 0 := by rw [wsR_len, h0, show (0 : Int).natAbs = 0 from rfl, R24.wds_zero]; rfl
      refine Fn0.of Tryz.func58 Tryz.ntmps58 rfl rfl rfl ?_
      simp only [entryTm]
      repeat' (first | (apply S.assign; exact rfl; exact rfl) | (apply S.fieldP; exact rfl; exact rfl; exact rfl) | (apply S.loadP; (iterate 4 exact rfl)) | (apply S.box; (iterate 6 exact rfl)) | (apply S.cmp; (iterate 4 exact rfl)) | (apply S.lenR; exact rfl; exact rfl) | apply S.nil | apply T.regs | (apply T.cT; exact rfl; assumption) | (apply T.cF; exact rfl; assumption) | apply T.seq | (apply T.skip; first | change T _ _ _ _ _ | change Done _ _ _ _ _ | change Next _ _ _ _ _ _ | skip) | (apply T.ret; change Done _ _ _ _ _))
      exact doneV (by simp) Tryz.results58 rfl rfl
    · rw [if_neg h0]
      have h : ¬ (((w24 (R24.wds x.n.natAbs)).length : Nat) : Int) = 0 := fun e => h0 (by
        have := R24.wds_nil (n := x.n.natAbs) |>.1 (List.eq_nil_of_length_eq_zero (by rw [wsR_len] at e; omega))
        omega)
      refine Fn0.of Tryz.func58 Tryz.ntmps58 rfl rfl rfl ?_
      simp only [entryTm]
      repeat' (first | (apply S.assign; exact rfl; exact rfl) | (apply S.fieldP; exact rfl; exact rfl; exact rfl) | (apply S.loadP; (iterate 4 exact rfl)) | (apply S.box; (iterate 6 exact rfl)) | (apply S.cmp; (iterate 4 exact rfl)) | (apply S.lenR; exact rfl; exact rfl) | apply S.nil | apply T.regs | (apply T.cF; exact rfl; assumption) | apply T.seq | (apply T.skip; first | change T _ _ _ _ _ | change Done _ _ _ _ _ | change Next _ _ _ _ _ _ | skip) | (apply T.ret; change Done _ _ _ _ _))
      exact doneV (by simp) Tryz.results58 rfl rfl
theorem rf_xcmp {j k : Nat} {x y : XN} (hx : x.bd j) (hy : y.bd k) (hjk : j + k ≤ 2000) : Fn0 Tryz.prog 61 [rowA x.row, rowA y.row] (.i (x.less y).sgn) := by
  have c1 := rf_xless hx hy hjk
  have c2 := rf_xsign (x.less y)
  refine Fn0.of Tryz.func61 Tryz.ntmps61 rfl rfl rfl ?_
  simp only [entryTm]
  repeat' (first | (apply S.assign; exact rfl; exact rfl) | (apply S.call; exact rfl; exact rfl; exact c1; exact rfl) | (apply S.call; exact rfl; exact rfl; exact c2; exact rfl) | (apply S.loadPA; (iterate 4 exact rfl)) | (apply S.box; (iterate 6 exact rfl)) | apply S.nil | apply T.regs | (apply T.ret; change Done _ _ _ _ _))
  exact doneV (by simp) Tryz.results61 rfl rfl
end Go.Proofs.YtgegcgfdffmoeaaGreat
set_option linter.unusedSimpArgs false
namespace Go.Proofs.YtgegcgfdffmoeaaGreat
set_option linter.unusedVariables false
open Go.RowKit
def XN.ofQ (q : Rat) : XN := ⟨q.num, q.den⟩
theorem XN.val_ofQ (q : Rat) : (XN.ofQ q).val = q := by
  unfold XN.val XN.ofQ
  rw [Rat.divInt_ofNat]
  exact Rat.mkRat_self q
theorem XN.bd_ofQ {q : Rat} (h : Fits q) : (XN.ofQ q).bd 3 := by
  obtain ⟨h1, h2⟩ := h
  have h3 := q.den_pos
  refine ⟨?_, ?_, ?_⟩
  · show q.num.natAbs < _
    omega
  · show ((q.den : Int)).natAbs < _
    rw [Int.natAbs_natCast]
    omega
  · show (0 : Int) < (q.den : Int)
    omega
theorem rf_ofQ (q : Rat) (h : Fits q) : Fn0 Tryz.prog 57 [rowA (frR q)] (rowA (XN.ofQ q).row) := by
  obtain ⟨h1, h2⟩ := h
  exact rf_of q.num q.den (by omega) (by omega) (by omega) (by omega)
def exU (p : PcQ) (t : XN) : XN := t.less (XN.ofQ p.f)
def exV (p : PcQ) (t : XN) : XN := (XN.ofQ p.a).plus (((XN.ofQ p.b).plus ((XN.ofQ p.c).times (exU p t))).times (exU p t))
def exD (p : PcQ) (t : XN) : XN := (XN.ofQ p.b).plus ((XN.ofQ 2).times ((XN.ofQ p.c).times (exU p t)))
theorem exU_bd {p : PcQ} {t : XN} {k : Nat} (hp : p.ok) (ht : t.bd k) : (exU p t).bd (k + 4) := (XN.bd_less ht (XN.bd_ofQ hp.f)).mono (by omega)
theorem exV_bd {p : PcQ} {t : XN} {k : Nat} (hp : p.ok) (ht : t.bd k) : (exV p t).bd (2 * k + 20) := by
  have u := exU_bd hp ht
  exact (XN.bd_plus (XN.bd_ofQ hp.a) (XN.bd_times (XN.bd_plus (XN.bd_ofQ hp.b) (XN.bd_times (XN.bd_ofQ hp.c) u)) u)).mono (by omega)
theorem exD_bd {p : PcQ} {t : XN} {k : Nat} (hp : p.ok) (ht : t.bd k) : (exD p t).bd (k + 20) := by
  have u := exU_bd hp ht
  exact (XN.bd_plus (XN.bd_ofQ hp.b) (XN.bd_times (XN.bd_ofQ (by decide : Fits 2)) (XN.bd_times (XN.bd_ofQ hp.c) u))).mono (by omega)
theorem exU_val {p : PcQ} {t : XN} {k : Nat} (hp : p.ok) (ht : t.bd k) : (exU p t).val = t.val - p.f := by
  unfold exU
  rw [XN.val_less ht.p (XN.bd_ofQ hp.f).p, XN.val_ofQ]
theorem exV_val {p : PcQ} {t : XN} {k : Nat} (hp : p.ok) (ht : t.bd k) : (exV p t).val = vR p t.val := by
  have u := exU_bd hp ht
  have b1 := XN.bd_times (XN.bd_ofQ hp.c) u
  have b2 := XN.bd_plus (XN.bd_ofQ hp.b) b1
  have b3 := XN.bd_times b2 u
  unfold exV vR
  rw [XN.val_plus (XN.bd_ofQ hp.a).p b3.p, XN.val_times, XN.val_plus (XN.bd_ofQ hp.b).p b1.p, XN.val_times, XN.val_ofQ, XN.val_ofQ, XN.val_ofQ, exU_val hp ht]
theorem exD_val {p : PcQ} {t : XN} {k : Nat} (hp : p.ok) (ht : t.bd k) : (exD p t).val = sR p t.val := by
  have u := exU_bd hp ht
  have b1 := XN.bd_times (XN.bd_ofQ hp.c) u
  have b2 := XN.bd_times (XN.bd_ofQ (by decide : Fits 2)) b1
  unfold exD sR
  rw [XN.val_plus (XN.bd_ofQ hp.b).p b2.p, XN.val_times, XN.val_times, XN.val_ofQ, XN.val_ofQ, XN.val_ofQ, exU_val hp ht]
  grind
theorem XN.sgn_neg {x : XN} (hx : 0 < x.d) : x.sgn < 0 ↔ x.val < 0 := by
  rw [XN.sgn_val hx, Int.sign_neg_iff, ← Int.not_le, Rat.num_nonneg, Rat.not_le]
theorem XN.sgn_zero {x : XN} (hx : 0 < x.d) : x.sgn = 0 ↔ x.val = 0 := by
  rw [XN.sgn_val hx, Int.sign_eq_zero_iff_zero, Rat.num_eq_zero]
theorem XN.sgn_le {x : XN} (hx : 0 < x.d) : x.sgn ≤ 0 ↔ x.val ≤ 0 := by
  have h1 := XN.sgn_neg hx
  have h2 := XN.sgn_zero hx
  constructor
  · intro h
    by_cases e : x.sgn = 0
    · rw [h2.1 e]; exact Rat.le_refl
    · exact Rat.le_of_lt (h1.1 (by omega))
  · intro h
    by_cases e : x.val = 0
    · rw [h2.2 e]; exact Int.le_refl _
    · have := h1.2 (Rat.lt_of_le_of_ne h e)
      omega
theorem XN.cmp_neg {x y : XN} {j k : Nat} (hx : x.bd j) (hy : y.bd k) : (x.less y).sgn < 0 ↔ x.val < y.val := by
  rw [XN.sgn_neg (XN.bd_less hx hy).p, XN.val_less hx.p hy.p]
  constructor
  · intro h; grind
  · intro h; grind
theorem XN.cmp_le {x y : XN} {j k : Nat} (hx : x.bd j) (hy : y.bd k) : (x.less y).sgn ≤ 0 ↔ x.val ≤ y.val := by
  rw [XN.sgn_le (XN.bd_less hx hy).p, XN.val_less hx.p hy.p]
  constructor
  · intro h; grind
  · intro h; grind
theorem XN.cmp_zero {x y : XN} {j k : Nat} (hx : x.bd j) (hy : y.bd k) : (x.less y).sgn = 0 ↔ x.val = y.val := by
  rw [XN.sgn_zero (XN.bd_less hx hy).p, XN.val_less hx.p hy.p]
  constructor
  · intro h; grind
  · intro h; grind
set_option maxHeartbeats 16000000 in
theorem rf_exact (p : PcQ) (t : XN) {k : Nat} (hp : p.ok) (ht : t.bd k) (hk : k ≤ 400) : Fn0 Tryz.prog 59 [rowA p.row, rowA t.row] (rowA (exV p t).row) := by
  have u := exU_bd hp ht
  have b1 := XN.bd_times (XN.bd_ofQ hp.c) u
  have b2 := XN.bd_plus (XN.bd_ofQ hp.b) b1
  have b3 := XN.bd_times b2 u
  have of := rf_ofQ p.f hp.f
  have oa := rf_ofQ p.a hp.a
  have ob := rf_ofQ p.b hp.b
  have oc := rf_ofQ p.c hp.c
  have c0 := rf_xless ht (XN.bd_ofQ hp.f) (by omega)
  have c1 := rf_xtimes (XN.bd_ofQ hp.c) u (by omega)
  have c2 := rf_xplus (XN.bd_ofQ hp.b) b1 (by omega)
  have c3 := rf_xtimes b2 u (by omega)
  have c4 := rf_xplus (XN.bd_ofQ hp.a) b3 (by omega)
  refine Fn0.of Tryz.func59 Tryz.ntmps59 rfl rfl rfl ?_
  simp only [entryTm]
  repeat' (first | (apply S.fieldP; exact rfl; exact rfl; exact rfl) | (apply S.call; exact rfl; exact rfl; exact of; exact rfl) | (apply S.call; exact rfl; exact rfl; exact oa; exact rfl) | (apply S.call; exact rfl; exact rfl; exact ob; exact rfl) | (apply S.call; exact rfl; exact rfl; exact oc; exact rfl) | (apply S.call; exact rfl; exact rfl; exact c0; exact rfl) | (apply S.call; exact rfl; exact rfl; exact c1; exact rfl) | (apply S.call; exact rfl; exact rfl; exact c2; exact rfl) | (apply S.call; exact rfl; exact rfl; exact c3; exact rfl) | (apply S.call; exact rfl; exact rfl; exact c4; exact rfl) | (apply T.draw 15 anyOrder (by decide +kernel); simp only [List.take_succ_cons, List.take_zero, List.drop_succ_cons, List.drop_zero]) | (apply T.drawAll anyOrder (by decide +kernel)) | (apply S.loadPA; (iterate 4 exact rfl)) | (apply S.box; (iterate 6 exact rfl)) | (apply S.alloc; (iterate 5 exact rfl)) | (apply S.store; (iterate 7 exact rfl)) | (apply S.storeD; (iterate 8 exact rfl)) | apply S.nil | apply T.regs | (apply T.ret; change Done _ _ _ _ _))
  exact ⟨.inr rfl, [rowA (exV p t).row], .cons (Res.row (exV p t).row rfl rfl rfl rfl rfl) .nil, .one (.agg (outL_refl _))⟩
def falR (p : PcQ) (t : Rat) : Prop := sR p t < 0 ∨ sR p t = 0 ∧ p.c.num < 0
instance (p : PcQ) (t : Rat) : Decidable (falR p t) := by unfold falR; exact inferInstance
set_option maxHeartbeats 16000000 in
theorem rf_fall (p : PcQ) (t : XN) {k : Nat} (hp : p.ok) (ht : t.bd k) (hk : k ≤ 400) : Fn0 Tryz.prog 60 [rowA p.row, rowA t.row] (.b (decide (falR p t.val))) := by
  have u := exU_bd hp ht
  have b1 := XN.bd_times (XN.bd_ofQ hp.c) u
  have b2 := XN.bd_times (XN.bd_ofQ (by decide : Fits 2)) b1
  have of := rf_ofQ p.f hp.f
  have o2 : Fn0 Tryz.prog 54 [.i 2] (rowA (frR 2)) := r02_of 2
  have o2' := rf_ofQ 2 (by decide)
  have ob := rf_ofQ p.b hp.b
  have oc := rf_ofQ p.c hp.c
  have c0 := rf_xless ht (XN.bd_ofQ hp.f) (by omega)
  have c1 := rf_xtimes (XN.bd_ofQ hp.c) u (by omega)
  have c2 := rf_xtimes (XN.bd_ofQ (by decide : Fits 2)) b1 (by omega)
  have c3 := rf_xplus (XN.bd_ofQ hp.b) b2 (by omega)
  have c4 := rf_xsign (exD p t)
  have k1 := XN.sgn_neg (exD_bd hp ht).p
  have k2 := XN.sgn_zero (exD_bd hp ht).p
  rw [exD_val hp ht] at k1 k2
  rw [show decide (falR p t.val) = decide ((exD p t).sgn < 0 ∨ (exD p t).sgn = 0 ∧ p.c.num < 0) from decide_eq_decide.2 (by unfold falR; rw [k1, k2])]
  generalize hs : (exD p t).sgn = s at *
  refine Fn0.of Tryz.func60 Tryz.ntmps60 rfl rfl rfl ?_
  simp only [entryTm]
  repeat' (first | (apply S.move; exact rfl; exact rfl) | (apply S.assign; exact rfl; exact rfl) | (apply S.gU; exact rfl; exact rfl; exact rfl) | (apply S.gTT; exact rfl; exact rfl; assumption) | (apply S.gTF; exact rfl; exact rfl; assumption; exact rfl) | (apply S.gFF; exact rfl; exact rfl; assumption) | (apply S.gFT; exact rfl; exact rfl; assumption; exact rfl) | (apply S.fieldP; exact rfl; exact rfl; exact rfl) | (apply S.loadP; (iterate 4 exact rfl)) | (apply S.pTp; exact rfl; assumption; exact rfl; exact rfl) | (apply S.pFp; exact rfl; assumption; exact rfl; exact rfl) | (apply S.call; exact rfl; exact rfl; exact of; exact rfl) | (apply S.call; exact rfl; exact rfl; exact o2; exact rfl) | (apply S.call; exact rfl; exact rfl; exact o2'; exact rfl) | (apply S.call; exact rfl; exact rfl; exact ob; exact rfl) | (apply S.call; exact rfl; exact rfl; exact oc; exact rfl) | (apply S.call; exact rfl; exact rfl; exact c0; exact rfl) | (apply S.call; exact rfl; exact rfl; exact c1; exact rfl) | (apply S.call; exact rfl; exact rfl; exact c2; exact rfl) | (apply S.call; exact rfl; exact rfl; exact c3; exact rfl) | (apply S.call; exact rfl; exact rfl; exact c4; exact rfl) | (apply T.draw 13 anyOrder (by decide +kernel); simp only [List.take_succ_cons, List.take_zero, List.drop_succ_cons, List.drop_zero]) | (apply T.drawAll anyOrder (by decide +kernel)) | (apply S.loadPA; (iterate 4 exact rfl)) | (apply S.box; (iterate 6 exact rfl)) | (apply S.alloc; (iterate 5 exact rfl)) | (apply S.storeD; (iterate 8 exact rfl)) | (apply S.cmp; (iterate 4 exact rfl)) | (apply S.gsT; exact rfl; exact rfl; exact rfl; intro hc; rotate_left; intro hc; rotate_right) | (apply S.gsF; exact rfl; exact rfl; exact rfl; intro hc; rotate_left; intro hc; rotate_right) | apply S.nil | apply T.regs | (apply T.ret; change Done _ _ _ _ _))
  all_goals exact doneV (by simp) Tryz.results60 rfl (congrArg Value.bool (by first | (symm; apply decide_eq_true; omega) | (symm; apply decide_eq_false; omega) | (apply decide_eq_decide.2; omega)))
/-! ### enclosed -/
def half2 (lo hi : Int) : Int := (lo + hi).tdiv 2
theorem half2_bd {lo hi : Int} (h : 1 < hi - lo) : lo < half2 lo hi ∧ half2 lo hi < hi ∧ hi - half2 lo hi ≤ (hi - lo + 1) / 2 ∧ half2 lo hi - lo ≤ (hi - lo + 1) / 2 := by
  unfold half2
  rcases Int.lt_or_le (lo + hi) 0 with h1 | h1
  · have : (lo + hi).tdiv 2 = -((-(lo + hi)) / 2) := by
      rw [← Int.tdiv_eq_ediv_of_nonneg (by omega : 0 ≤ -(lo + hi)), Int.neg_tdiv, Int.neg_neg]
    rw [this]
    omega
  · rw [Int.tdiv_eq_ediv_of_nonneg h1]
    omega
def bisT (B : Int → Prop) [DecidablePred B] : Nat → Int → Int → Int
  | 0, lo, _ => lo
  | n + 1, lo, hi => if 1 < hi - lo then (if B (half2 lo hi) then bisT B n (half2 lo hi) hi else bisT B n lo (half2 lo hi)) else lo
theorem bisT_lo {B : Int → Prop} [DecidablePred B] {n : Nat} {lo hi : Int} (h : ¬ 1 < hi - lo) : bisT B n lo hi = lo := by
  cases n with
  | zero => rfl
  | succ n => rw [bisT, if_neg h]
def encP (p : PcQ) (x y : Rat) (bg : Bool) (m : Int) : Prop := mil m ≤ x ∨ bg = false ∧ mil m ≤ y ∧ 0 ≤ vR p (mil m)
instance (p : PcQ) (x y : Rat) (bg : Bool) : DecidablePred (encP p x y bg) := fun m => by unfold encP; exact inferInstance
def encLo (p : PcQ) (x y : Rat) (bg : Bool) : Int := bisT (encP p x y bg) 52 (-2251799813685248) 2251799813685248
def encI (p : PcQ) (x : Rat) (bg : Bool) (m : Int) : Prop := bg = true ∧ mil m = x ∨ bg = false ∧ x ≤ mil m ∧ vR p (mil m) = 0 ∧ falR p (mil m)
instance (p : PcQ) (x : Rat) (bg : Bool) (m : Int) : Decidable (encI p x bg m) := by unfold encI; exact inferInstance
def encR (p : PcQ) (x y : Rat) (bg : Bool) : List Lf := if encI p x bg (encLo p x y bg) then [.i (encLo p x y bg), .i (encLo p x y bg)] else [.i (encLo p x y bg), .i (encLo p x y bg + 1)]
def XN.ofM (m : Int) : XN := ⟨m, 1000⟩
theorem XN.val_ofM (m : Int) : (XN.ofM m).val = mil m := Rat.divInt_ofNat m 1000
theorem XN.bd_ofM {m : Int} (h0 : -9223372036854775808 ≤ m) (h1 : m ≤ 9223372036854775807) : (XN.ofM m).bd 3 := by
  refine ⟨?_, ?_, ?_⟩
  · show m.natAbs < _
    omega
  · show (1000 : Int).natAbs < _
    decide
  · show (0 : Int) < 1000
    decide
structure BisU where
  n : Nat
  lo : Int
  hi : Int
set_option maxHeartbeats 32000000 in
theorem rf_enclosed (p : PcQ) (x y : XN) (bg : Bool) {j k : Nat} (hp : p.ok) (hx : x.bd j) (hy : y.bd k) (hj : j ≤ 400) (hk : k ≤ 400) : Fn0 Tryz.prog 62 [rowA p.row, rowA x.row, rowA y.row, .b bg] (rowA (encR p x.val y.val bg)) := by
  have i1 : Fn0 Tryz.prog 65 [.i 1000] (rowA (zR 1000)) := rf_int 1000 (by decide) (by decide)
  refine Fn0.of Tryz.func62 Tryz.ntmps62 rfl rfl rfl ?_
  simp only [entryTm]
  repeat' (first | (apply S.assign; exact rfl; exact rfl) | (apply S.box; (iterate 6 exact rfl)) | (apply S.alloc; (iterate 5 exact rfl)) | apply S.nil | apply T.regs | apply T.seq | apply T.block)
  refine T.loopS (fun (s : BisU) => bisT (encP p x.val y.val bg) s.n s.lo s.hi = encLo p x.val y.val bg ∧ s.hi - s.lo ≤ 2 ^ s.n ∧ -2251799813685248 ≤ s.lo ∧ s.lo < s.hi ∧ s.hi ≤ 2251799813685248) (fun s => (s.hi - s.lo).toNat) (fun s => [(9, .i s.lo), (10, .i s.hi), (3, .b bg), (4, .ptr 0 0), (5, .ptr 1 0), (6, .ptr 2 0), (8, .ptr 3 0)]) (fun _ => [.live (p.row.map .lf), .live (x.row.map .lf), .live (y.row.map .lf), .live [.i 0, .i 0]]) ⟨52, -2251799813685248, 2251799813685248⟩ ⟨rfl, by decide, by decide, by decide, by decide⟩ (.cons rfl rfl (.cons rfl rfl (.cons rfl rfl (.cons rfl rfl (.cons rfl rfl (.cons rfl rfl (.cons rfl rfl .nil))))))) (.live rfl (.live rfl (.live rfl (.live rfl .nil)))) ?_
  rintro ⟨n, lo, hi⟩ ⟨hb, hn, h1, h2, h3⟩
  dsimp only at hb hn h1 h2 h3 ⊢
  by_cases hlt : 1 < hi - lo
  · obtain ⟨m1, m2, m3, m4⟩ := half2_bd hlt
    cases n with
    | zero => exfalso; simp at hn; omega
    | succ n =>
      rw [bisT, if_pos hlt] at hb
      have hn' : hi - lo ≤ 2 * 2 ^ n := by rw [Int.pow_succ] at hn; omega
      have hw : IntKind.i64.wrap ((lo + hi).tdiv 2) = (lo + hi).tdiv 2 := wrap_i64 _ (by show -9223372036854775808 ≤ half2 lo hi ∧ half2 lo hi ≤ _; omega)
      change lo < (lo + hi).tdiv 2 at m1
      change (lo + hi).tdiv 2 < hi at m2
      change hi - (lo + hi).tdiv 2 ≤ _ at m3
      change (lo + hi).tdiv 2 - lo ≤ _ at m4
      change (if encP p x.val y.val bg ((lo + hi).tdiv 2) then bisT (encP p x.val y.val bg) n ((lo + hi).tdiv 2) hi else bisT (encP p x.val y.val bg) n lo ((lo + hi).tdiv 2)) = _ at hb
      have i2 := rf_int ((lo + hi).tdiv 2) (by omega) (by omega)
      have bm := XN.bd_ofM (m := (lo + hi).tdiv 2) (by omega) (by omega)
      have d1 := rf_xcmp bm hx (by omega)
      have d2 := rf_xcmp bm hy (by omega)
      have d3 := rf_exact p (XN.ofM ((lo + hi).tdiv 2)) hp bm (by omega)
      have d4 := rf_xsign (exV p (XN.ofM ((lo + hi).tdiv 2)))
      have k1 := XN.cmp_le bm hx
      have k2 := XN.cmp_le bm hy
      have k3 := XN.sgn_neg (exV_bd hp bm).p
      rw [exV_val hp bm, XN.val_ofM] at k3
      rw [XN.val_ofM] at k1 k2
      generalize ((XN.ofM ((lo + hi).tdiv 2)).less x).sgn = s1 at d1 k1
      generalize ((XN.ofM ((lo + hi).tdiv 2)).less y).sgn = s2 at d2 k2
      generalize (exV p (XN.ofM ((lo + hi).tdiv 2))).sgn = s3 at d4 k3
      have kE : encP p x.val y.val bg ((lo + hi).tdiv 2) ↔ s1 ≤ 0 ∨ bg = false ∧ s2 ≤ 0 ∧ 0 ≤ s3 := by
        unfold encP
        rw [k1, k2, show (0 ≤ vR p (mil ((lo + hi).tdiv 2))) ↔ 0 ≤ s3 by rw [← Int.not_lt, k3, Rat.not_lt]]
      have g1 : hi - (lo + hi).tdiv 2 ≤ 2 ^ n := by generalize (2 : Int) ^ n = W at *; omega
      have g2 : (lo + hi).tdiv 2 - lo ≤ 2 ^ n := by generalize (2 : Int) ^ n = W at *; omega
      clear hn hn'
      cases bg <;> simp only [true_and, reduceCtorEq, false_and, or_false, false_or] at kE
      all_goals
        repeat' (first | (apply S.move; exact rfl; exact rfl) | (apply S.assign; exact rfl; exact rfl) | (apply S.gC; exact rfl; exact rfl; exact rfl) | (apply S.gCN; (iterate 4 exact rfl)) | (apply S.gTT; exact rfl; exact rfl; assumption) | (apply S.gTFn; exact rfl; exact rfl; assumption; exact rfl) | (apply S.pC; exact rfl; exact rfl; exact rfl) | (apply S.pCN; exact rfl; exact rfl; exact rfl) | (apply S.pTp; exact rfl; assumption; exact rfl; exact rfl) | (apply S.pFn; exact rfl; assumption; exact rfl; exact rfl) | (apply S.arith; (iterate 4 exact rfl); omega) | (apply S.quoT; exact rfl; exact rfl; exact rfl; omega; exact hw) | (apply S.call; exact rfl; exact rfl; exact i1; exact rfl) | (apply S.call; exact rfl; exact rfl; exact i2; exact rfl) | (apply S.call; exact rfl; exact rfl; exact d1; exact rfl) | (apply S.call; exact rfl; exact rfl; exact d2; exact rfl) | (apply S.call; exact rfl; exact rfl; exact d3; exact rfl) | (apply S.call; exact rfl; exact rfl; exact d4; exact rfl) | (apply S.loadPA; (iterate 4 exact rfl)) | (apply S.alloc; (iterate 5 exact rfl)) | (apply S.store; (iterate 7 exact rfl)) | (apply S.cmp; (iterate 4 exact rfl)) | (apply S.notP; exact rfl; exact rfl) | (apply S.not; exact rfl; exact rfl; exact rfl) | (apply S.build; exact rfl; exact rfl; exact rfl) | (apply S.gsTn; exact rfl; exact rfl; exact rfl; intro hc; rotate_left; intro hc; rotate_right) | apply S.nil | apply T.regs | apply T.reg | (apply T.cCN; exact rfl) | (apply T.cT; exact rfl; assumption) | (apply T.cF; exact rfl; assumption) | (apply T.cS; exact rfl; intro hc; rotate_left; intro hc; rotate_right) | apply T.seq | (apply T.skip; first | change T _ _ _ _ _ | change Done _ _ _ _ _ | change Next _ _ _ _ _ _ | skip) | apply T.block)
        all_goals first
          | (change Next _ _ _ _ _ _; exact Next.go ⟨n, (lo + hi).tdiv 2, hi⟩ ⟨by rw [← hb, if_pos (kE.2 (by omega))], g1, by dsimp only; omega, m2, h3⟩ (by dsimp only; omega) (.cons rfl rfl (.cons rfl rfl (.cons rfl rfl (.cons rfl rfl (.cons rfl rfl (.cons rfl rfl (.cons rfl rfl .nil))))))) (.live rfl (.live rfl (.live rfl (.live rfl .nil)))))
          | (change Next _ _ _ _ _ _; exact Next.go ⟨n, lo, (lo + hi).tdiv 2⟩ ⟨by rw [← hb, if_neg (fun h => by have := kE.1 h; omega)], g2, h1, m1, by dsimp only; omega⟩ (by dsimp only; omega) (.cons rfl rfl (.cons rfl rfl (.cons rfl rfl (.cons rfl rfl (.cons rfl rfl (.cons rfl rfl (.cons rfl rfl .nil))))))) (.live rfl (.live rfl (.live rfl (.live rfl .nil)))))
          | (exfalso; omega)
  · have hlo : encLo p x.val y.val bg = lo := by rw [← hb, bisT_lo hlt]
    have i2 := rf_int lo (by omega) (by omega)
    have bm := XN.bd_ofM (m := lo) (by omega) (by omega)
    have d1 := rf_xcmp bm hx (by omega)
    have d3 := rf_exact p (XN.ofM lo) hp bm (by omega)
    have d4 := rf_xsign (exV p (XN.ofM lo))
    have d5 := rf_fall p (XN.ofM lo) hp bm (by omega)
    have k1 := XN.cmp_neg bm hx
    have k2 := XN.cmp_zero bm hx
    have k3 := XN.sgn_zero (exV_bd hp bm).p
    rw [exV_val hp bm, XN.val_ofM] at k3
    rw [XN.val_ofM] at k1 k2 d5
    generalize ((XN.ofM lo).less x).sgn = s1 at d1 k1 k2
    generalize (exV p (XN.ofM lo)).sgn = s3 at d4 k3
    have kI : encI p x.val bg lo ↔ (bg = true ∧ s1 = 0 ∨ bg = false ∧ 0 ≤ s1 ∧ s3 = 0 ∧ falR p (mil lo)) := by
      unfold encI
      rw [k2, k3, show (x.val ≤ mil lo) ↔ 0 ≤ s1 by rw [← Int.not_lt, k1, Rat.not_lt]]
    cases bg <;> simp only [true_and, reduceCtorEq, false_and, or_false, false_or] at kI
    · skip
      repeat' (first | (apply S.move; exact rfl; exact rfl) | (apply S.assign; exact rfl; exact rfl) | (apply S.gCN; (iterate 4 exact rfl)) | (apply S.gTT; exact rfl; exact rfl; assumption) | (apply S.gTF; exact rfl; exact rfl; assumption; exact rfl) | (apply S.pCN; exact rfl; exact rfl; exact rfl) | (apply S.pTp; exact rfl; assumption; exact rfl; exact rfl) | (apply S.pFp; exact rfl; assumption; exact rfl; exact rfl) | (apply S.arith; (iterate 4 exact rfl); omega) | (apply S.call; exact rfl; exact rfl; exact i1; exact rfl) | (apply S.call; exact rfl; exact rfl; exact i2; exact rfl) | (apply S.call; exact rfl; exact rfl; exact d1; exact rfl) | (apply S.call; exact rfl; exact rfl; exact d3; exact rfl) | (apply S.call; exact rfl; exact rfl; exact d4; exact rfl) | (apply S.call; exact rfl; exact rfl; exact d5; exact rfl) | (apply S.loadPA; (iterate 4 exact rfl)) | (apply S.alloc; (iterate 5 exact rfl)) | (apply S.store; (iterate 7 exact rfl)) | (apply S.cmp; (iterate 4 exact rfl)) | (apply S.not; exact rfl; exact rfl; exact rfl) | (apply S.build; exact rfl; exact rfl; exact rfl) | (apply S.gsT; exact rfl; exact rfl; exact rfl; intro hc; rotate_left; intro hc; rotate_right) | apply S.nil | apply T.regs | apply T.reg | (apply T.cC; exact rfl) | (apply T.cCN; exact rfl) | (apply T.cF; exact rfl; assumption) | (apply T.cS; exact rfl; intro hc; rotate_left; intro hc; rotate_right) | apply T.seq | (apply T.skip; first | change T _ _ _ _ _ | change Done _ _ _ _ _ | change Next _ _ _ _ _ _ | skip) | (apply T.ret; change Done _ _ _ _ _) | (apply T.exit; first | change T _ _ _ _ _ | change Done _ _ _ _ _ | change Next _ _ _ _ _ _ | skip))
      all_goals first
        | (rw [show encR p x.val y.val false = [.i lo, .i lo] by unfold encR; rw [hlo]; exact if_pos (kI.2 ⟨by omega, by omega, by assumption⟩)]; exact ⟨.inr rfl, [rowA [.i lo, .i lo]], .cons (Res.row [.i lo, .i lo] rfl rfl rfl rfl rfl) .nil, .one (.agg (outL_refl _))⟩)
        | (rw [show encR p x.val y.val false = [.i lo, .i (lo + 1)] by unfold encR; rw [hlo]; exact if_neg (fun h => by obtain ⟨q1, q2, q3⟩ := kI.1 h; first | omega | exact absurd q3 (by assumption))]; exact ⟨.inr rfl, [rowA [.i lo, .i (lo + 1)]], .cons (Res.row [.i lo, .i (lo + 1)] rfl rfl rfl rfl rfl) .nil, .one (.agg (outL_refl _))⟩)
    · skip
      repeat' (first | (apply S.move; exact rfl; exact rfl) | (apply S.assign; exact rfl; exact rfl) | (apply S.arith; (iterate 4 exact rfl); omega) | (apply S.call; exact rfl; exact rfl; exact i1; exact rfl) | (apply S.call; exact rfl; exact rfl; exact i2; exact rfl) | (apply S.call; exact rfl; exact rfl; exact d1; exact rfl) | (apply S.loadPA; (iterate 4 exact rfl)) | (apply S.alloc; (iterate 5 exact rfl)) | (apply S.store; (iterate 7 exact rfl)) | (apply S.cmp; (iterate 4 exact rfl)) | (apply S.not; exact rfl; exact rfl; exact rfl) | (apply S.build; exact rfl; exact rfl; exact rfl) | apply S.nil | apply T.regs | (apply T.cCN; exact rfl) | (apply T.cF; exact rfl; assumption) | (apply T.cS; exact rfl; intro hc; rotate_left; intro hc; rotate_right) | apply T.seq | (apply T.skip; first | change T _ _ _ _ _ | change Done _ _ _ _ _ | change Next _ _ _ _ _ _ | skip) | (apply T.ret; change Done _ _ _ _ _) | (apply T.exit; first | change T _ _ _ _ _ | change Done _ _ _ _ _ | change Next _ _ _ _ _ _ | skip))
      all_goals first
        | (rw [show encR p x.val y.val true = [.i lo, .i lo] by unfold encR; rw [hlo]; exact if_pos (kI.2 (by omega))]; exact ⟨.inr rfl, [rowA [.i lo, .i lo]], .cons (Res.row [.i lo, .i lo] rfl rfl rfl rfl rfl) .nil, .one (.agg (outL_refl _))⟩)
        | (rw [show encR p x.val y.val true = [.i lo, .i (lo + 1)] by unfold encR; rw [hlo]; exact if_neg (fun h => by have := kI.1 h; omega)]; exact ⟨.inr rfl, [rowA [.i lo, .i (lo + 1)]], .cons (Res.row [.i lo, .i (lo + 1)] rfl rfl rfl rfl rfl) .nil, .one (.agg (outL_refl _))⟩)
end Go.Proofs.YtgegcgfdffmoeaaGreat
