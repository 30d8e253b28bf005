/- Contracts of the reference's Made, Make and Valid. | Contracts of the reference's Make, Valid, Times, Over, Floor and Ceil. | Contracts of the reference's Add, Sub, Cmp, Floor and Ceil. | Contracts of the reference's Sub, Cmp, Floor and Ceil. -/
import Derived.Test.YtlncmkafjjomgaaGreatMf
import Derived.Test.YtlncmkafjjomgaaGreatMe
namespace Go.Proofs.YtlncmkafjjomgaaGreat
set_option linter.unusedVariables false
open Go.RowKit Go.Sort

theorem rgcd_wd {p q ph pl qh ql gh gl : Int} (h1 : Wd p ph pl) (h2 : Wd q qh ql) (h3 : Wd (Int.gcd p q) gh gl) (hp : 0 ≤ p) (hp' : p < Big) (hq : 1 ≤ q) (hq' : q < Big) (w : World) :
  Calls Tryz.prog 98 #[.agg #[.int .u64 ph, .int .u64 pl], .agg #[.int .u64 qh, .int .u64 ql]] w fun e w' => e = .returned (.agg #[.int .u64 gh, .int .u64 gl]) ∧ Tr w w' := by
 rcases wd_zero h1 hp hp' with ⟨rfl, rfl, rfl⟩ | hz
 ·have e : (Int.gcd 0 q : Int) = q := by simp;omega
  rw [e] at h3
  obtain ⟨rfl, rfl⟩ := h3
  obtain ⟨rfl, rfl⟩ := h2
  generalize q / 18446744073709551616 = qh at *
  generalize q % 18446744073709551616 = ql at *
  clear h1 hp hp' hq hq' e
  go_enter Tryz.func98, Tryz.ntmps98
  go_wp2
  simp [bodyPost, results, Tryz.results98, go_sem, *]
  exact (by repeat (first | exact Tr.refl _ | assumption | apply Tr.al | apply Tr.drN | apply Tr.dr|(refine Tr.set ?_ (by first | omega|(simp;done)|(simp;omega)) _)))
 ·have hp1 : 1 ≤ p := by rcases hz with h | h <;> exact h.1
  have hz' : (ph == 0) = false ∨ ((ph == 0) = true ∧ (pl == 0) = false) := by
   rcases hz with ⟨_, h⟩ | ⟨_, h, h'⟩
   ·exact .inl h
   ·exact .inr ⟨h, h'⟩
  refine (rgcd_core p q ph pl qh ql w hp1 hp' hq hq' h1 h2 hz').mono fun e w' ⟨gh', gl', hw, he, ht⟩ => ⟨?_, ht⟩
  obtain ⟨rfl, rfl⟩ := hw.out
  obtain ⟨rfl, rfl⟩ := h3
  exact he
end Go.Proofs.YtlncmkafjjomgaaGreat
namespace Go.Proofs.YtlncmkafjjomgaaGreat
set_option linter.unusedVariables false
open Go.RowKit Go.Sort

theorem makesU (o : Oper) (hg : o.guard = none) (ho : o.op = .alloc 81) : MakesBlock Tryz.prog o #[.int .u64 0, .int .u64 0] 81 :=
 ⟨hg, fun a w => by unfold execOp;simp [ho, go_sem]⟩
theorem wd0 {x : Int} (h0 : 0 ≤ x) (h1 : x < 18446744073709551616) : Wd x 0 x := ⟨by omega, by omega⟩
theorem big_of {x : Int} (h : x < 18446744073709551616) : x < Big := by unfold Big;omega
set_option maxHeartbeats 1000000 in
theorem rvalid_any (n d : Int) (w : World) :
  Calls Tryz.prog 60 #[.agg #[.int .i64 n, .int .i64 d]] w fun e w' => e = .returned (.bool (validB n d)) ∧ Tr w w' := by
 by_cases hv : 1 ≤ d ∧ d ≤ 1152921504606846976 ∧ -1152921504606846976 ≤ n ∧ n ≤ 1152921504606846976
 ·obtain ⟨h1, h2, h3, h4⟩ := hv
  have e1 : validB n d = ((Int.gcd n d : Int) == 1) := by
   rw [Bool.eq_iff_iff, validB_spec]
   simp
   exact ⟨fun h => by omega, fun h => ⟨h1, h2, h3, h4, by omega⟩⟩
  rw [e1]
  have hg : (Int.gcd n.natAbs d.natAbs : Int) = Int.gcd n d := by simp [Int.gcd]
  have hgp := Int.gcd_pos_of_ne_zero_right n (b := d) (by omega)
  have hgl : (Int.gcd n d : Int) ≤ d := Int.gcd_le_right _ (by omega)
  have c1 := fun W => rgcd_wd (wd0 (x := n.natAbs) (by omega) (by omega)) (wd0 (x := d.natAbs) (by omega) (by omega)) (by rw [hg];exact wd0 (x := Int.gcd n d) (by omega) (by omega)) (by omega) (big_of (by omega)) (by omega) (big_of (by omega)) W
  have C1 := Lib.hid c1
  clear c1 hg hgp hgl e1
  generalize (Int.gcd n d : Int) = G at *
  obtain ⟨B, hB⟩ : ∃ B : Bool, (G == 1) = B := ⟨_, rfl⟩
  rw [hB]
  cases B
  all_goals
   go_enter Tryz.func60, Tryz.ntmps60
   go_upto_region 3 with (fail)
   refine wp_region_mix0 12 (by kernel_rfl) (by kernel_rfl) ?_
   intro wq hwq
   have kq := Keep.cl (l := [(⟨w.heap.size, 0, none⟩, .int .i64 (n)), (⟨w.heap.size, 1, none⟩, .int .i64 (d))]) (by first|(simp [Keep, go_sem, *];done)|(simp [Keep, go_sem, *];omega)|(simp (disch := first | omega|(simp;omega)|(simp;done)) [Keep, go_sem, cell_far, cell_off, RowKit.frozen?_alloc_cells, frozen_new, *];done)|(simp (disch := first | omega|(simp;omega)|(simp;done)) [Keep, go_sem, cell_far, cell_off, RowKit.frozen?_alloc_cells, frozen_new, *];omega)) hwq
   simp only [KeepCl] at kq
   simp only [List.take_succ_cons, List.take_zero, List.drop_succ_cons, List.drop_zero]
   repeat (go_big_quiet_step (first|(go_at_call 34;exact calls_cl_same (rsize_any _ (by omega) (by omega) _))|(go_at_call 98;with_reducible exact calls_cl (C1.out _))))
   refine wpQuiet_nil ?_
   intro w3 ht3
   have K3 := Keep.tr (l := [(⟨w.heap.size, 0, none⟩, .int .i64 (n)), (⟨w.heap.size, 1, none⟩, .int .i64 (d))]) (by first|(simp [Keep, go_sem, *];done)|(simp [Keep, go_sem, *];omega)|(simp (disch := first | omega|(simp;omega)|(simp;done)) [Keep, go_sem, cell_far, cell_off, RowKit.frozen?_alloc_cells, frozen_new, *];done)|(simp (disch := first | omega|(simp;omega)|(simp;done)) [Keep, go_sem, cell_far, cell_off, RowKit.frozen?_alloc_cells, frozen_new, *];omega)) ht3
   have T3 : Tr w w3 := Tr.trans (by repeat (first | exact Tr.refl _ | assumption | apply Tr.al | apply Tr.drN | apply Tr.dr|(refine Tr.set ?_ (by first | omega|(simp;done)|(simp;omega)) _))) ht3
   have hs3 := Below.size ht3
   (try simp at hs3)
   simp only [Keep] at K3
   clear ht3 hwq kq
   go_wp2
   go_ret
   exact ⟨rfl, (by repeat (first | exact Tr.refl _ | assumption | apply Tr.al | apply Tr.drN | apply Tr.dr|(refine Tr.set ?_ (by first | omega|(simp;done)|(simp;omega)) _)))⟩
 ·rw [validB_not (fun h => hv ⟨h.1, h.2.1, h.2.2.1, h.2.2.2.1⟩)]
  have hc : d < 1 ∨ (1 ≤ d ∧ 1152921504606846976 < d) ∨ (1 ≤ d ∧ d ≤ 1152921504606846976 ∧ n < -1152921504606846976) ∨ (1 ≤ d ∧ d ≤ 1152921504606846976 ∧ -1152921504606846976 ≤ n ∧ 1152921504606846976 < n) := by omega
  clear hv
  rcases hc with h | ⟨h1, h2⟩ | ⟨h1, h2, h3⟩ | ⟨h1, h2, h3, h4⟩
  all_goals
   go_enter Tryz.func60, Tryz.ntmps60
   go_wp2
   go_ret
   exact ⟨rfl, (by repeat (first | exact Tr.refl _ | assumption | apply Tr.al | apply Tr.drN | apply Tr.dr|(refine Tr.set ?_ (by first | omega|(simp;done)|(simp;omega)) _)))⟩

theorem prod_big {a b : Int} (ha : 0 ≤ a) (ha' : a ≤ 1152921504606846976) (hb : 0 ≤ b) (hb' : b ≤ 1152921504606846976) : 0 ≤ a * b ∧ a * b < Big := by
 obtain ⟨h1, h2⟩ := mul_le60 a b ha ha' hb hb'
 exact ⟨h1, by unfold Big;omega⟩
end Go.Proofs.YtlncmkafjjomgaaGreat
namespace Go.Proofs.YtlncmkafjjomgaaGreat
set_option linter.unusedVariables false
open Go.RowKit Go.Sort

end Go.Proofs.YtlncmkafjjomgaaGreat
namespace Go.Proofs.YtlncmkafjjomgaaGreat
set_option linter.unusedVariables false
open Go.RowKit Go.Sort

theorem wd_ne {x y xh xl yh yl : Int} (h1 : Wd x xh xl) (h2 : Wd y yh yl) (h : x ≠ y) : (xh == yh) = false ∨ ((xh == yh) = true ∧ (xl == yl) = false) := by
 obtain ⟨rfl, rfl⟩ := h1
 obtain ⟨rfl, rfl⟩ := h2
 by_cases a : x / 18446744073709551616 = y / 18446744073709551616
 ·have b : x % 18446744073709551616 ≠ y % 18446744073709551616 := by omega
  exact .inr ⟨by simp [a], by simp [b]⟩
 ·exact .inl (by simp [a])
theorem cmp_parts {an ad bn bd : Int} (va : validB an ad = true) (vb : validB bn bd = true) :
  (decide (an < 0) = true ∧ decide (0 ≤ an) = false ∧ decide (bn < 0) = false ∧ decide (0 ≤ bn) = true ∧ Hid (cmpQ (ratV an ad) (ratV bn bd) = -1)) ∨
  (decide (an < 0) = false ∧ decide (0 ≤ an) = true ∧ decide (bn < 0) = true ∧ decide (0 ≤ bn) = false ∧ Hid (cmpQ (ratV an ad) (ratV bn bd) = 1)) ∨
  (decide (an < 0) = decide (bn < 0) ∧ decide (0 ≤ an) = decide (0 ≤ bn) ∧
   ((Hid ((an.natAbs : Int) * bd.natAbs = (bn.natAbs : Int) * ad.natAbs) ∧ Hid (cmpQ (ratV an ad) (ratV bn bd) = 0)) ∨
    (Hid ((an.natAbs : Int) * bd.natAbs < (bn.natAbs : Int) * ad.natAbs) ∧ decide (an < 0) = false ∧ decide (0 ≤ an) = true ∧ Hid (cmpQ (ratV an ad) (ratV bn bd) = -1)) ∨
    (Hid ((an.natAbs : Int) * bd.natAbs < (bn.natAbs : Int) * ad.natAbs) ∧ decide (an < 0) = true ∧ decide (0 ≤ an) = false ∧ Hid (cmpQ (ratV an ad) (ratV bn bd) = 1)) ∨
    (Hid ((bn.natAbs : Int) * ad.natAbs < (an.natAbs : Int) * bd.natAbs) ∧ decide (an < 0) = false ∧ decide (0 ≤ an) = true ∧ Hid (cmpQ (ratV an ad) (ratV bn bd) = 1)) ∨
    (Hid ((bn.natAbs : Int) * ad.natAbs < (an.natAbs : Int) * bd.natAbs) ∧ decide (an < 0) = true ∧ decide (0 ≤ an) = false ∧ Hid (cmpQ (ratV an ad) (ratV bn bd) = -1)))) := by
 obtain ⟨a1, _⟩ := validB_spec.1 va
 obtain ⟨b1, _⟩ := validB_spec.1 vb
 rw [show ((ad.natAbs : Nat) : Int) = ad by omega, show ((bd.natAbs : Nat) : Int) = bd by omega]
 have l1 := lt_ratV va vb
 have l2 := lt_ratV vb va
 unfold cmpQ
 simp only [l1, l2]
 by_cases h1 : an < 0 <;> by_cases h2 : bn < 0
 ·refine .inr (.inr ⟨by simp [h1, h2], by simp;omega, ?_⟩)
  rw [show ((an.natAbs : Nat) : Int) = -an by omega, show ((bn.natAbs : Nat) : Int) = -bn by omega, Int.neg_mul, Int.neg_mul]
  generalize an * bd = X at *
  generalize bn * ad = Y at *
  by_cases e : X = Y
  ·subst e;exact .inl ⟨rfl, by show _ = _;rw [if_neg (by omega), if_neg (by omega)]⟩
  ·by_cases e2 : -X < -Y
   ·exact .inr (.inr (.inl ⟨e2, by simp [h1], by simp;omega, by show _ = _;rw [if_neg (by omega), if_pos (by omega)]⟩))
   ·exact .inr (.inr (.inr (.inr ⟨(by omega : -Y < -X), by simp [h1], by simp;omega, by show _ = _;rw [if_pos (by omega)]⟩)))
 ·have e1 : an * bd < 0 := Int.mul_neg_of_neg_of_pos h1 (by omega)
  have e2 : 0 ≤ bn * ad := Int.mul_nonneg (by omega) (by omega)
  exact .inl ⟨by simp [h1], by simp;omega, by simp [h2], by simp;omega, by show _ = _;rw [if_pos (by omega)]⟩
 ·have e1 : 0 ≤ an * bd := Int.mul_nonneg (by omega) (by omega)
  have e2 : bn * ad < 0 := Int.mul_neg_of_neg_of_pos h2 (by omega)
  exact .inr (.inl ⟨by simp [h1], by simp;omega, by simp [h2], by simp;omega, by show _ = _;rw [if_neg (by omega), if_pos (by omega)]⟩)
 ·refine .inr (.inr ⟨by simp [h1, h2], by simp;omega, ?_⟩)
  rw [show ((an.natAbs : Nat) : Int) = an by omega, show ((bn.natAbs : Nat) : Int) = bn by omega]
  generalize an * bd = X at *
  generalize bn * ad = Y at *
  by_cases e : X = Y
  ·subst e;exact .inl ⟨rfl, by show _ = _;rw [if_neg (by omega), if_neg (by omega)]⟩
  ·by_cases e2 : X < Y
   ·exact .inr (.inl ⟨e2, by simp [h1], by simp;omega, by show _ = _;rw [if_pos (by omega)]⟩)
   ·exact .inr (.inr (.inr (.inl ⟨(by omega : Y < X), by simp [h1], by simp;omega, by show _ = _;rw [if_neg (by omega), if_pos (by omega)]⟩)))

set_option maxRecDepth 100000 in
set_option maxHeartbeats 4000000 in
theorem rcmp_any (an ad bn bd : Int) (w : World) (va : validB an ad = true) (vb : validB bn bd = true) :
  Calls Tryz.prog 9 #[.agg #[.int .i64 an, .int .i64 ad], .agg #[.int .i64 bn, .int .i64 bd]] w fun e w' =>
   e = .returned (.int .i64 (cmpQ (ratV an ad) (ratV bn bd))) ∧ Tr w w' := by
 obtain ⟨p1, p2, p3, p4, _⟩ := validB_spec.1 va
 obtain ⟨q1, q2, q3, q4, _⟩ := validB_spec.1 vb
 have m1 := fun W => rmul_any an.natAbs bd.natAbs W (by omega) (by omega) (by omega) (by omega)
 have m2 := fun W => rmul_any bn.natAbs ad.natAbs W (by omega) (by omega) (by omega) (by omega)
 have cp := cmp_parts va vb
 have bx := prod_big (a := (an.natAbs : Int)) (b := bd.natAbs) (by omega) (by omega) (by omega) (by omega)
 have b_y := prod_big (a := (bn.natAbs : Int)) (b := ad.natAbs) (by omega) (by omega) (by omega) (by omega)
 generalize cmpQ (ratV an ad) (ratV bn bd) = r at *
 generalize ((an.natAbs : Int) * bd.natAbs) = X at *
 generalize ((bn.natAbs : Int) * ad.natAbs) = Y at *
 obtain ⟨xh, hxh⟩ : ∃ z, z = X / 18446744073709551616 := ⟨_, rfl⟩
 obtain ⟨xl, hxl⟩ : ∃ z, z = X % 18446744073709551616 := ⟨_, rfl⟩
 obtain ⟨yh, hyh⟩ : ∃ z, z = Y / 18446744073709551616 := ⟨_, rfl⟩
 obtain ⟨yl, hyl⟩ : ∃ z, z = Y % 18446744073709551616 := ⟨_, rfl⟩
 rw [← hxh, ← hxl] at m1
 rw [← hyh, ← hyl] at m2
 have WX : Hid (Wd X xh xl) := ⟨hxh, hxl⟩
 have WY : Hid (Wd Y yh yl) := ⟨hyh, hyl⟩
 have BX := Lib.hid bx
 have BY := Lib.hid b_y
 have M1 := Lib.hid m1
 have M2 := Lib.hid m2
 clear m1 m2 hxh hxl hyh hyl bx b_y va vb
 go_enter Tryz.func9, Tryz.ntmps9
 go_upto_region 1 with (fail)
 refine wp_region_mix2 14 #[.int .u64 0, .int .u64 0] 81 _ #[.int .u64 0, .int .u64 0] 81 _ (by kernel_rfl) (by kernel_rfl) rfl (makesU _ rfl rfl) rfl (makesU _ rfl rfl) (by decide) ?_
 intro wq hwq
 have kq := Keep.cl (l := [(⟨w.heap.size, 0, none⟩, .int .i64 (an)), (⟨w.heap.size, 1, none⟩, .int .i64 (ad)), (⟨w.heap.size + 1, 0, none⟩, .int .i64 (bn)), (⟨w.heap.size + 1, 1, none⟩, .int .i64 (bd))]) (by first|(simp [Keep, go_sem, *];done)|(simp [Keep, go_sem, *];omega)|(simp (disch := first | omega|(simp;omega)|(simp;done)) [Keep, go_sem, cell_far, cell_off, RowKit.frozen?_alloc_cells, frozen_new, *];done)|(simp (disch := first | omega|(simp;omega)|(simp;done)) [Keep, go_sem, cell_far, cell_off, RowKit.frozen?_alloc_cells, frozen_new, *];omega)) hwq
 simp only [KeepCl] at kq
 simp only [List.take_succ_cons, List.take_zero, List.drop_succ_cons, List.drop_zero]
 repeat (go_big_quiet_step (first|(go_at_call 34;exact calls_cl_same (rsize_any _ (by omega) (by omega) _))|(go_at_call 33;first | with_reducible exact calls_cl (M1.out _) | with_reducible exact calls_cl (M2.out _))))
 refine wpQuiet_nil ?_
 intro b b' w' hb hb' hne ht hz hz'
 have Kb := Keep.at2 hz;have Kb' := Keep.at2 hz';have K0 := Keep.tr (l := [(⟨w.heap.size, 0, none⟩, .int .i64 (an)), (⟨w.heap.size, 1, none⟩, .int .i64 (ad)), (⟨w.heap.size + 1, 0, none⟩, .int .i64 (bn)), (⟨w.heap.size + 1, 1, none⟩, .int .i64 (bd))]) (by first|(simp [Keep, go_sem, *];done)|(simp [Keep, go_sem, *];omega)|(simp (disch := first | omega|(simp;omega)|(simp;done)) [Keep, go_sem, cell_far, cell_off, RowKit.frozen?_alloc_cells, frozen_new, *];done)|(simp (disch := first | omega|(simp;omega)|(simp;done)) [Keep, go_sem, cell_far, cell_off, RowKit.frozen?_alloc_cells, frozen_new, *];omega)) ht;have T0 : Tr w w' := Tr.trans (by repeat (first | exact Tr.refl _ | assumption | apply Tr.al | apply Tr.drN | apply Tr.dr|(refine Tr.set ?_ (by first | omega|(simp;done)|(simp;omega)) _))) ht;have hs0 := Below.size ht;have hbl := lt_of_block hz;have hbl' := lt_of_block hz';(try simp at hb);(try simp at hb');(try simp at hs0);simp only [Keep] at Kb Kb' K0;clear ht hz hz'
 clear hwq kq
 simp only [Act.put, List.setIfInBounds_toArray, List.set_cons_succ, List.set_cons_zero]
 clear M1 M2
 go_upto_region 2 with (fail)
 refine wp_forget (w0 := w) [(⟨w.heap.size, 0, none⟩, .int .i64 (an)), (⟨w.heap.size, 1, none⟩, .int .i64 (ad)), (⟨w.heap.size + 1, 0, none⟩, .int .i64 (bn)), (⟨w.heap.size + 1, 1, none⟩, .int .i64 (bd)), (⟨b, 0, none⟩, .int .u64 (xh)), (⟨b, 1, none⟩, .int .u64 (xl)), (⟨b', 0, none⟩, .int .u64 (yh)), (⟨b', 1, none⟩, .int .u64 (yl))] (by first|(simp [Keep, go_sem, *];done)|(simp [Keep, go_sem, *];omega)|(simp (disch := first | omega|(simp;omega)|(simp;done)) [Keep, go_sem, cell_far, cell_off, RowKit.frozen?_alloc_cells, frozen_new, *];done)|(simp (disch := first | omega|(simp;omega)|(simp;done)) [Keep, go_sem, cell_far, cell_off, RowKit.frozen?_alloc_cells, frozen_new, *];omega)) (by repeat (first | exact Tr.refl _ | assumption | apply Tr.al | apply Tr.drN | apply Tr.dr|(refine Tr.set ?_ (by first | omega|(simp;done)|(simp;omega)) _))) ?_;intro w6 hs6 K6 T6;(try simp at hs6);simp only [Keep] at K6
 clear Kb Kb' K0 T0
 rcases cp with ⟨s1, s2, s3, s4, hr⟩ | ⟨s1, s2, s3, s4, hr⟩ | ⟨s1, s2, hc⟩
 ·go_wp2_with fail
  go_ret
  exact ⟨by rw [hr.out];rfl, (by repeat (first | exact Tr.refl _ | assumption | apply Tr.al | apply Tr.drN | apply Tr.dr|(refine Tr.set ?_ (by first | omega|(simp;done)|(simp;omega)) _)))⟩
 ·go_wp2_with fail
  go_ret
  exact ⟨by rw [hr.out];rfl, (by repeat (first | exact Tr.refl _ | assumption | apply Tr.al | apply Tr.drN | apply Tr.dr|(refine Tr.set ?_ (by first | omega|(simp;done)|(simp;omega)) _)))⟩
 ·rcases hc with ⟨e, hr⟩ | ⟨e, s3, s4, hr⟩ | ⟨e, s3, s4, hr⟩ | ⟨e, s3, s4, hr⟩ | ⟨e, s3, s4, hr⟩
  ·have e1 : xh = yh := by rw [WX.out.1, WY.out.1, e.out]
   have e2 : xl = yl := by rw [WX.out.2, WY.out.2, e.out]
   subst e1 e2
   clear WX WY BX BY e
   by_cases hn : an < 0
   ·have t1 : decide (an < 0) = true := by simp [hn]
    have t2 : decide (0 ≤ an) = false := by simp;omega
    rw [t1] at s1
    rw [t2] at s2
    have t3 := s1.symm
    have t4 := s2.symm
    clear s1 s2 hn
    go_wp2_with fail
    go_ret
    exact ⟨by rw [hr.out];rfl, (by repeat (first | exact Tr.refl _ | assumption | apply Tr.al | apply Tr.drN | apply Tr.dr|(refine Tr.set ?_ (by first | omega|(simp;done)|(simp;omega)) _)))⟩
   ·have t1 : decide (an < 0) = false := by simp [hn]
    have t2 : decide (0 ≤ an) = true := by simp;omega
    rw [t1] at s1
    rw [t2] at s2
    have t3 := s1.symm
    have t4 := s2.symm
    clear s1 s2 hn
    go_wp2_with fail
    go_ret
    exact ⟨by rw [hr.out];rfl, (by repeat (first | exact Tr.refl _ | assumption | apply Tr.al | apply Tr.drN | apply Tr.dr|(refine Tr.set ?_ (by first | omega|(simp;done)|(simp;omega)) _)))⟩
  ·have hne := wd_ne WX.out WY.out (by have := e.out;omega)
   have C1 := Lib.hid fun W => rless_lt WX.out WY.out BX.out.1 BY.out.1 e.out W
   clear WX WY BX BY e
   rw [s3] at s1
   rw [s4] at s2
   have t3 := s1.symm
   have t4 := s2.symm
   clear s1 s2
   go_upto_region 6 with (fail)
   go_cut [39] (fun s wx => s = .bool false ∧ w6 = wx)
   case first =>
    rcases hne with hne | ⟨hne, hne2⟩
    all_goals
     go_wp2_with fail
     go_meet
     exact ⟨rfl, rfl⟩
   obtain ⟨rfl, rfl⟩ := hcut
   clear hne
   go_upto_region 8 with (fail)
   refine wp_region_mix0 7 (by kernel_rfl) (by kernel_rfl) ?_
   intro wq hwq
   have kq := Keep.cl (l := [(⟨w.heap.size, 0, none⟩, .int .i64 (an)), (⟨w.heap.size, 1, none⟩, .int .i64 (ad)), (⟨w.heap.size + 1, 0, none⟩, .int .i64 (bn)), (⟨w.heap.size + 1, 1, none⟩, .int .i64 (bd)), (⟨b, 0, none⟩, .int .u64 (xh)), (⟨b, 1, none⟩, .int .u64 (xl)), (⟨b', 0, none⟩, .int .u64 (yh)), (⟨b', 1, none⟩, .int .u64 (yl))]) (by first|(simp [Keep, go_sem, *];done)|(simp [Keep, go_sem, *];omega)|(simp (disch := first | omega|(simp;omega)|(simp;done)) [Keep, go_sem, cell_far, cell_off, RowKit.frozen?_alloc_cells, frozen_new, *];done)|(simp (disch := first | omega|(simp;omega)|(simp;done)) [Keep, go_sem, cell_far, cell_off, RowKit.frozen?_alloc_cells, frozen_new, *];omega)) hwq
   simp only [KeepCl] at kq
   simp only [List.take_succ_cons, List.take_zero, List.drop_succ_cons, List.drop_zero]
   repeat (go_big_quiet_step (first|(go_at_call 35;with_reducible exact calls_cl (C1.out _))))
   refine wpQuiet_nil ?_
   intro w7 ht7
   have K7 := Keep.tr (l := [(⟨w.heap.size, 0, none⟩, .int .i64 (an)), (⟨w.heap.size, 1, none⟩, .int .i64 (ad)), (⟨w.heap.size + 1, 0, none⟩, .int .i64 (bn)), (⟨w.heap.size + 1, 1, none⟩, .int .i64 (bd)), (⟨b, 0, none⟩, .int .u64 (xh)), (⟨b, 1, none⟩, .int .u64 (xl)), (⟨b', 0, none⟩, .int .u64 (yh)), (⟨b', 1, none⟩, .int .u64 (yl))]) (by first|(simp [Keep, go_sem, *];done)|(simp [Keep, go_sem, *];omega)|(simp (disch := first | omega|(simp;omega)|(simp;done)) [Keep, go_sem, cell_far, cell_off, RowKit.frozen?_alloc_cells, frozen_new, *];done)|(simp (disch := first | omega|(simp;omega)|(simp;done)) [Keep, go_sem, cell_far, cell_off, RowKit.frozen?_alloc_cells, frozen_new, *];omega)) ht7
   have T7 : Tr w w7 := Tr.trans (by repeat (first | exact Tr.refl _ | assumption | apply Tr.al | apply Tr.drN | apply Tr.dr|(refine Tr.set ?_ (by first | omega|(simp;done)|(simp;omega)) _))) ht7
   have hs7 := Below.size ht7
   (try simp at hs7)
   simp only [Keep] at K7
   clear ht7 hwq kq
   go_wp2
   go_ret
   exact ⟨by rw [hr.out];rfl, (by repeat (first | exact Tr.refl _ | assumption | apply Tr.al | apply Tr.drN | apply Tr.dr|(refine Tr.set ?_ (by first | omega|(simp;done)|(simp;omega)) _)))⟩
  ·have hne := wd_ne WX.out WY.out (by have := e.out;omega)
   have C1 := Lib.hid fun W => rless_lt WX.out WY.out BX.out.1 BY.out.1 e.out W
   clear WX WY BX BY e
   rw [s3] at s1
   rw [s4] at s2
   have t3 := s1.symm
   have t4 := s2.symm
   clear s1 s2
   go_upto_region 6 with (fail)
   go_cut [39] (fun s wx => s = .bool false ∧ w6 = wx)
   case first =>
    rcases hne with hne | ⟨hne, hne2⟩
    all_goals
     go_wp2_with fail
     go_meet
     exact ⟨rfl, rfl⟩
   obtain ⟨rfl, rfl⟩ := hcut
   clear hne
   go_upto_region 8 with (fail)
   refine wp_region_mix0 7 (by kernel_rfl) (by kernel_rfl) ?_
   intro wq hwq
   have kq := Keep.cl (l := [(⟨w.heap.size, 0, none⟩, .int .i64 (an)), (⟨w.heap.size, 1, none⟩, .int .i64 (ad)), (⟨w.heap.size + 1, 0, none⟩, .int .i64 (bn)), (⟨w.heap.size + 1, 1, none⟩, .int .i64 (bd)), (⟨b, 0, none⟩, .int .u64 (xh)), (⟨b, 1, none⟩, .int .u64 (xl)), (⟨b', 0, none⟩, .int .u64 (yh)), (⟨b', 1, none⟩, .int .u64 (yl))]) (by first|(simp [Keep, go_sem, *];done)|(simp [Keep, go_sem, *];omega)|(simp (disch := first | omega|(simp;omega)|(simp;done)) [Keep, go_sem, cell_far, cell_off, RowKit.frozen?_alloc_cells, frozen_new, *];done)|(simp (disch := first | omega|(simp;omega)|(simp;done)) [Keep, go_sem, cell_far, cell_off, RowKit.frozen?_alloc_cells, frozen_new, *];omega)) hwq
   simp only [KeepCl] at kq
   simp only [List.take_succ_cons, List.take_zero, List.drop_succ_cons, List.drop_zero]
   repeat (go_big_quiet_step (first|(go_at_call 35;with_reducible exact calls_cl (C1.out _))))
   refine wpQuiet_nil ?_
   intro w7 ht7
   have K7 := Keep.tr (l := [(⟨w.heap.size, 0, none⟩, .int .i64 (an)), (⟨w.heap.size, 1, none⟩, .int .i64 (ad)), (⟨w.heap.size + 1, 0, none⟩, .int .i64 (bn)), (⟨w.heap.size + 1, 1, none⟩, .int .i64 (bd)), (⟨b, 0, none⟩, .int .u64 (xh)), (⟨b, 1, none⟩, .int .u64 (xl)), (⟨b', 0, none⟩, .int .u64 (yh)), (⟨b', 1, none⟩, .int .u64 (yl))]) (by first|(simp [Keep, go_sem, *];done)|(simp [Keep, go_sem, *];omega)|(simp (disch := first | omega|(simp;omega)|(simp;done)) [Keep, go_sem, cell_far, cell_off, RowKit.frozen?_alloc_cells, frozen_new, *];done)|(simp (disch := first | omega|(simp;omega)|(simp;done)) [Keep, go_sem, cell_far, cell_off, RowKit.frozen?_alloc_cells, frozen_new, *];omega)) ht7
   have T7 : Tr w w7 := Tr.trans (by repeat (first | exact Tr.refl _ | assumption | apply Tr.al | apply Tr.drN | apply Tr.dr|(refine Tr.set ?_ (by first | omega|(simp;done)|(simp;omega)) _))) ht7
   have hs7 := Below.size ht7
   (try simp at hs7)
   simp only [Keep] at K7
   clear ht7 hwq kq
   go_wp2
   go_ret
   exact ⟨by rw [hr.out];rfl, (by repeat (first | exact Tr.refl _ | assumption | apply Tr.al | apply Tr.drN | apply Tr.dr|(refine Tr.set ?_ (by first | omega|(simp;done)|(simp;omega)) _)))⟩
  ·have hne := wd_ne WX.out WY.out (by have := e.out;omega)
   have C1 := Lib.hid fun W => rless_ge WX.out WY.out BX.out.1 BY.out.1 (by have := e.out;omega) W
   clear WX WY BX BY e
   rw [s3] at s1
   rw [s4] at s2
   have t3 := s1.symm
   have t4 := s2.symm
   clear s1 s2
   go_upto_region 6 with (fail)
   go_cut [39] (fun s wx => s = .bool false ∧ w6 = wx)
   case first =>
    rcases hne with hne | ⟨hne, hne2⟩
    all_goals
     go_wp2_with fail
     go_meet
     exact ⟨rfl, rfl⟩
   obtain ⟨rfl, rfl⟩ := hcut
   clear hne
   go_upto_region 8 with (fail)
   refine wp_region_mix0 7 (by kernel_rfl) (by kernel_rfl) ?_
   intro wq hwq
   have kq := Keep.cl (l := [(⟨w.heap.size, 0, none⟩, .int .i64 (an)), (⟨w.heap.size, 1, none⟩, .int .i64 (ad)), (⟨w.heap.size + 1, 0, none⟩, .int .i64 (bn)), (⟨w.heap.size + 1, 1, none⟩, .int .i64 (bd)), (⟨b, 0, none⟩, .int .u64 (xh)), (⟨b, 1, none⟩, .int .u64 (xl)), (⟨b', 0, none⟩, .int .u64 (yh)), (⟨b', 1, none⟩, .int .u64 (yl))]) (by first|(simp [Keep, go_sem, *];done)|(simp [Keep, go_sem, *];omega)|(simp (disch := first | omega|(simp;omega)|(simp;done)) [Keep, go_sem, cell_far, cell_off, RowKit.frozen?_alloc_cells, frozen_new, *];done)|(simp (disch := first | omega|(simp;omega)|(simp;done)) [Keep, go_sem, cell_far, cell_off, RowKit.frozen?_alloc_cells, frozen_new, *];omega)) hwq
   simp only [KeepCl] at kq
   simp only [List.take_succ_cons, List.take_zero, List.drop_succ_cons, List.drop_zero]
   repeat (go_big_quiet_step (first|(go_at_call 35;with_reducible exact calls_cl (C1.out _))))
   refine wpQuiet_nil ?_
   intro w7 ht7
   have K7 := Keep.tr (l := [(⟨w.heap.size, 0, none⟩, .int .i64 (an)), (⟨w.heap.size, 1, none⟩, .int .i64 (ad)), (⟨w.heap.size + 1, 0, none⟩, .int .i64 (bn)), (⟨w.heap.size + 1, 1, none⟩, .int .i64 (bd)), (⟨b, 0, none⟩, .int .u64 (xh)), (⟨b, 1, none⟩, .int .u64 (xl)), (⟨b', 0, none⟩, .int .u64 (yh)), (⟨b', 1, none⟩, .int .u64 (yl))]) (by first|(simp [Keep, go_sem, *];done)|(simp [Keep, go_sem, *];omega)|(simp (disch := first | omega|(simp;omega)|(simp;done)) [Keep, go_sem, cell_far, cell_off, RowKit.frozen?_alloc_cells, frozen_new, *];done)|(simp (disch := first | omega|(simp;omega)|(simp;done)) [Keep, go_sem, cell_far, cell_off, RowKit.frozen?_alloc_cells, frozen_new, *];omega)) ht7
   have T7 : Tr w w7 := Tr.trans (by repeat (first | exact Tr.refl _ | assumption | apply Tr.al | apply Tr.drN | apply Tr.dr|(refine Tr.set ?_ (by first | omega|(simp;done)|(simp;omega)) _))) ht7
   have hs7 := Below.size ht7
   (try simp at hs7)
   simp only [Keep] at K7
   clear ht7 hwq kq
   go_wp2
   go_ret
   exact ⟨by rw [hr.out];rfl, (by repeat (first | exact Tr.refl _ | assumption | apply Tr.al | apply Tr.drN | apply Tr.dr|(refine Tr.set ?_ (by first | omega|(simp;done)|(simp;omega)) _)))⟩
  ·have hne := wd_ne WX.out WY.out (by have := e.out;omega)
   have C1 := Lib.hid fun W => rless_ge WX.out WY.out BX.out.1 BY.out.1 (by have := e.out;omega) W
   clear WX WY BX BY e
   rw [s3] at s1
   rw [s4] at s2
   have t3 := s1.symm
   have t4 := s2.symm
   clear s1 s2
   go_upto_region 6 with (fail)
   go_cut [39] (fun s wx => s = .bool false ∧ w6 = wx)
   case first =>
    rcases hne with hne | ⟨hne, hne2⟩
    all_goals
     go_wp2_with fail
     go_meet
     exact ⟨rfl, rfl⟩
   obtain ⟨rfl, rfl⟩ := hcut
   clear hne
   go_upto_region 8 with (fail)
   refine wp_region_mix0 7 (by kernel_rfl) (by kernel_rfl) ?_
   intro wq hwq
   have kq := Keep.cl (l := [(⟨w.heap.size, 0, none⟩, .int .i64 (an)), (⟨w.heap.size, 1, none⟩, .int .i64 (ad)), (⟨w.heap.size + 1, 0, none⟩, .int .i64 (bn)), (⟨w.heap.size + 1, 1, none⟩, .int .i64 (bd)), (⟨b, 0, none⟩, .int .u64 (xh)), (⟨b, 1, none⟩, .int .u64 (xl)), (⟨b', 0, none⟩, .int .u64 (yh)), (⟨b', 1, none⟩, .int .u64 (yl))]) (by first|(simp [Keep, go_sem, *];done)|(simp [Keep, go_sem, *];omega)|(simp (disch := first | omega|(simp;omega)|(simp;done)) [Keep, go_sem, cell_far, cell_off, RowKit.frozen?_alloc_cells, frozen_new, *];done)|(simp (disch := first | omega|(simp;omega)|(simp;done)) [Keep, go_sem, cell_far, cell_off, RowKit.frozen?_alloc_cells, frozen_new, *];omega)) hwq
   simp only [KeepCl] at kq
   simp only [List.take_succ_cons, List.take_zero, List.drop_succ_cons, List.drop_zero]
   repeat (go_big_quiet_step (first|(go_at_call 35;with_reducible exact calls_cl (C1.out _))))
   refine wpQuiet_nil ?_
   intro w7 ht7
   have K7 := Keep.tr (l := [(⟨w.heap.size, 0, none⟩, .int .i64 (an)), (⟨w.heap.size, 1, none⟩, .int .i64 (ad)), (⟨w.heap.size + 1, 0, none⟩, .int .i64 (bn)), (⟨w.heap.size + 1, 1, none⟩, .int .i64 (bd)), (⟨b, 0, none⟩, .int .u64 (xh)), (⟨b, 1, none⟩, .int .u64 (xl)), (⟨b', 0, none⟩, .int .u64 (yh)), (⟨b', 1, none⟩, .int .u64 (yl))]) (by first|(simp [Keep, go_sem, *];done)|(simp [Keep, go_sem, *];omega)|(simp (disch := first | omega|(simp;omega)|(simp;done)) [Keep, go_sem, cell_far, cell_off, RowKit.frozen?_alloc_cells, frozen_new, *];done)|(simp (disch := first | omega|(simp;omega)|(simp;done)) [Keep, go_sem, cell_far, cell_off, RowKit.frozen?_alloc_cells, frozen_new, *];omega)) ht7
   have T7 : Tr w w7 := Tr.trans (by repeat (first | exact Tr.refl _ | assumption | apply Tr.al | apply Tr.drN | apply Tr.dr|(refine Tr.set ?_ (by first | omega|(simp;done)|(simp;omega)) _))) ht7
   have hs7 := Below.size ht7
   (try simp at hs7)
   simp only [Keep] at K7
   clear ht7 hwq kq
   go_wp2
   go_ret
   exact ⟨by rw [hr.out];rfl, (by repeat (first | exact Tr.refl _ | assumption | apply Tr.al | apply Tr.drN | apply Tr.dr|(refine Tr.set ?_ (by first | omega|(simp;done)|(simp;omega)) _)))⟩

end Go.Proofs.YtlncmkafjjomgaaGreat
