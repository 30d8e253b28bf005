/- ratio.Add: the sum of two valid fractions, if it fits;the specified errors else. For every pair of fractions. -/
import Derived.Test.YtbceahipbdmocaaGreatMd
set_option linter.unusedSimpArgs false
set_option linter.unusedVariables false
namespace Go.Proofs.YtbceahipbdmocaaGreat
open Go.RowKit Go.Sort
def Gd (an ad bn bd : Int) : Int × Int × Int := if Ad an ad = true /\ Ad bn bd = true then Cj (Aa an ad + Aa bn bd) else (0, 0, 1)

theorem My (a b : Int) (h0 : 0 <= a) (h1 : a <= 1152921504606846976) (h2 : 0 <= b) (h3 : b <= 1152921504606846976) : 0 <= a * b /\ a * b <= 1329227995784915872903807060280344576 := by
 refine ⟨Int.mul_nonneg h0 h2, ?_⟩
 have := Int.mul_le_mul h1 h3 h2 (by omega)
 omega

theorem Aa5 (an bn bG aG : Int) (hb : 0 <= bG) (ha : 0 <= aG) : ∃ (N : Int) (neg : Bool), an * bG + bn * aG = (if neg then -N else N) /\ 0 <= N /\ N <= (an.natAbs : Int) * bG + (bn.natAbs : Int) * aG /\
  ((decide (an < 0) = neg /\ decide (bn < 0) = neg /\ (an.natAbs : Int) * bG + (bn.natAbs : Int) * aG = N) \/
   (decide (an < 0) = (!neg) /\ decide (bn < 0) = neg /\ decide ((an.natAbs : Int) * bG < (bn.natAbs : Int) * aG) = true /\ (bn.natAbs : Int) * aG - (an.natAbs : Int) * bG = N) \/
   (decide (an < 0) = neg /\ decide (bn < 0) = (!neg) /\ decide ((an.natAbs : Int) * bG < (bn.natAbs : Int) * aG) = false /\ (an.natAbs : Int) * bG - (bn.natAbs : Int) * aG = N)) := by
 have x0 : 0 <= (an.natAbs : Int) * bG := Int.mul_nonneg (by omega) hb
 have y0 : 0 <= (bn.natAbs : Int) * aG := Int.mul_nonneg (by omega) ha
 by_cases h1 : an < 0
 ·have e1 : an * bG = -((an.natAbs : Int) * bG) := by rw [<- Int.neg_mul];congr 1;omega
  by_cases h2 : bn < 0
  ·have e2 : bn * aG = -((bn.natAbs : Int) * aG) := by rw [<- Int.neg_mul];congr 1;omega
   rw [e1, e2]
   generalize (an.natAbs : Int) * bG = X at *
   generalize (bn.natAbs : Int) * aG = Y at *
   exact ⟨X + Y, true, by simp;omega, by omega, by omega, .inl ⟨by simp [h1], by simp [h2], rfl⟩⟩
  ·have e2 : bn * aG = ((bn.natAbs : Int) * aG) := by congr 1;omega
   rw [e1, e2]
   generalize (an.natAbs : Int) * bG = X at *
   generalize (bn.natAbs : Int) * aG = Y at *
   by_cases h3 : X < Y
   ·exact ⟨Y - X, false, by simp;omega, by omega, by omega, .inr (.inl ⟨by simp [h1], by simp [h2], by simp [h3], rfl⟩)⟩
   ·exact ⟨X - Y, true, by simp;omega, by omega, by omega, .inr (.inr ⟨by simp [h1], by simp [h2], by simp [h3], rfl⟩)⟩
 ·have e1 : an * bG = ((an.natAbs : Int) * bG) := by congr 1;omega
  by_cases h2 : bn < 0
  ·have e2 : bn * aG = -((bn.natAbs : Int) * aG) := by rw [<- Int.neg_mul];congr 1;omega
   rw [e1, e2]
   generalize (an.natAbs : Int) * bG = X at *
   generalize (bn.natAbs : Int) * aG = Y at *
   by_cases h3 : X < Y
   ·exact ⟨Y - X, true, by simp;omega, by omega, by omega, .inr (.inl ⟨by simp [h1], by simp [h2], by simp [h3], rfl⟩)⟩
   ·exact ⟨X - Y, false, by simp;omega, by omega, by omega, .inr (.inr ⟨by simp [h1], by simp [h2], by simp [h3], rfl⟩)⟩
  ·have e2 : bn * aG = ((bn.natAbs : Int) * aG) := by congr 1;omega
   rw [e1, e2]
   generalize (an.natAbs : Int) * bG = X at *
   generalize (bn.natAbs : Int) * aG = Y at *
   exact ⟨X + Y, false, by simp, by omega, by omega, .inl ⟨by simp [h1], by simp [h2], rfl⟩⟩

theorem Nx (q : Rat) (NC D : Int) (neg : Bool) (h0 : 0 <= NC) (h1 : NC <= 340282366920938463463374607431768211455) (h2 : 1 <= D) (hn : q.num = if neg then -NC else NC) (hd : (q.den : Int) = D) :
  (0 < NC / 18446744073709551616 /\ Hid ((Cj q).1 = 0 /\ (Cj q).2.1 = 0 /\ (Cj q).2.2 = 5)) \/ (NC / 18446744073709551616 = 0 /\ 0 < D / 18446744073709551616 /\ Hid ((Cj q).1 = 0 /\ (Cj q).2.1 = 0 /\ (Cj q).2.2 = 5)) \/
   (NC / 18446744073709551616 = 0 /\ D / 18446744073709551616 = 0 /\ (1152921504606846976 < NC \/ 1152921504606846976 < D) /\ (NC % 18446744073709551616 = NC /\ D % 18446744073709551616 = D) /\ Hid ((Cj q).1 = 0 /\ (Cj q).2.1 = 0 /\ (Cj q).2.2 = 5)) \/
   (NC / 18446744073709551616 = 0 /\ D / 18446744073709551616 = 0 /\ NC <= 1152921504606846976 /\ D <= 1152921504606846976 /\ NC % 18446744073709551616 = NC /\ D % 18446744073709551616 = D /\ Hid ((Cj q).1 = (if neg then -NC else NC) /\ (Cj q).2.1 = D /\ (Cj q).2.2 = 0)) := by
 have ha : (q.num.natAbs : Int) = NC := by rw [hn];cases neg <;> simp <;> omega
 by_cases hf : NC <= 1152921504606846976 /\ D <= 1152921504606846976
 ·have : q.num.natAbs <= 1152921504606846976 /\ q.den <= 1152921504606846976 := by omega
  refine .inr (.inr (.inr ⟨by omega, by omega, hf.1, hf.2, by omega, by omega, ?_⟩))
  show _ /\ _
  unfold Cj
  rw [if_pos this]
  exact ⟨hn, hd, rfl⟩
 ·have : ¬ (q.num.natAbs <= 1152921504606846976 /\ q.den <= 1152921504606846976) := by omega
  have ho : Hid ((Cj q).1 = 0 /\ (Cj q).2.1 = 0 /\ (Cj q).2.2 = 5) := by
   show _ /\ _
   unfold Cj
   rw [if_neg this]
   exact ⟨rfl, rfl, rfl⟩
  by_cases c1 : 0 < NC / 18446744073709551616
  ·exact .inl ⟨c1, ho⟩
  ·by_cases c2 : 0 < D / 18446744073709551616
   ·exact .inr (.inl ⟨by omega, c2, ho⟩)
   ·exact .inr (.inr (.inl ⟨by omega, by omega, by omega, by omega, ho⟩))

theorem Us (an ad bn bd : Int) (w : World) :
  Calls Tryz.prog 108 #[.agg #[.int .i64 an, .int .i64 ad], .agg #[.int .i64 bn, .int .i64 bd]] w fun e w' =>
   e = .returned (.tuple #[.agg #[.int .i64 (Gd an ad bn bd).1, .int .i64 (Gd an ad bn bd).2.1], .int .i64 (Gd an ad bn bd).2.2]) /\ Tr w w' := by
 by_cases va : Ad an ad = true
 ·by_cases vb : Ad bn bd = true
  ·obtain ⟨a1, a2, a3, a4, _⟩ := validB_spec.1 va
   obtain ⟨b1, b2, b3, b4, _⟩ := validB_spec.1 vb
   obtain ⟨an', ad'⟩ := Ec va
   obtain ⟨bn', bd'⟩ := Ec vb
   have hS : Gd an ad bn bd = Cj (Aa an ad + Aa bn bd) := by unfold Gd;rw [if_pos ⟨va, vb⟩]
   rw [hS]
   generalize Aa an ad = a at *
   generalize Aa bn bd = b at *
   obtain ⟨p1, p2⟩ := A3u a b _ _ _ rfl rfl rfl
   have gp : 0 < a.den.gcd b.den := Nat.gcd_pos_of_pos_left _ a.den_pos
   have ga : a.den.gcd b.den ∣ a.den := Nat.gcd_dvd_left ..
   have gb : a.den.gcd b.den ∣ b.den := Nat.gcd_dvd_right ..
   have hG : Int.gcd ad bd = a.den.gcd b.den := by rw [<- ad', <- bd'];simp [Int.gcd]
   have gl : a.den.gcd b.den <= a.den := Nat.le_of_dvd a.den_pos ga
   have aG0 : 1 <= a.den / a.den.gcd b.den := Nat.div_pos gl gp
   have bG0 : 1 <= b.den / a.den.gcd b.den := Nat.div_pos (Nat.le_of_dvd b.den_pos gb) gp
   have aG1 : a.den / a.den.gcd b.den <= a.den := Nat.div_le_self ..
   have bG1 : b.den / a.den.gcd b.den <= b.den := Nat.div_le_self ..
   generalize hg : a.den.gcd b.den = g at *
   obtain ⟨N, neg, hs, n0, nle, hpath⟩ := Aa5 an bn ((b.den / g : Nat) : Int) ((a.den / g : Nat) : Int) (by omega) (by omega)
   rw [an', bn', hs] at p1 p2
   have x12 := My (an.natAbs : Int) ((b.den / g : Nat) : Int) (by omega) (by omega) (by omega) (by omega)
   have y12 := My (bn.natAbs : Int) ((a.den / g : Nat) : Int) (by omega) (by omega) (by omega) (by omega)
   have ebG : bd / (g : Int) = ((b.den / g : Nat) : Int) := by rw [<- bd'];simp
   have eaG : ad / (g : Int) = ((a.den / g : Nat) : Int) := by rw [<- ad'];simp
   by_cases hN : N = 0
   ·subst hN
    have hz : a + b = 0 := by
     rw [<- Rat.num_eq_zero, p1];cases neg <;> simp
    rw [hz]
    exact add_zero an ad bn bd g _ _ _ _ 0 0 0 0 0 0 neg w va vb a1 a2 a3 a4 b1 b2 b3 b4 (by rw [hG]) (by omega) (by omega) ebG eaG (by omega) (by omega) (by omega) (by omega) rfl rfl x12.1 x12.2 y12.1 y12.2 hpath rfl
   ·have hna : (if neg = true then -N else N).natAbs = N.natAbs := by cases neg <;> simp
    rw [hna] at p1 p2
    have hCN : Int.gcd (g : Int) (N % (g : Int)) = N.natAbs.gcd g := by
     rw [Xf N g];simp [Int.gcd]
    have cg : N.natAbs.gcd g ∣ g := Nat.gcd_dvd_right ..
    have cN : N.natAbs.gcd g ∣ N.natAbs := Nat.gcd_dvd_left ..
    have cp : 0 < N.natAbs.gcd g := Nat.pos_of_dvd_of_pos cg (by omega)
    have cle : N.natAbs.gcd g <= g := Nat.le_of_dvd (by omega) cg
    have cbd : N.natAbs.gcd g ∣ b.den := Nat.dvd_trans cg gb
    generalize hc : N.natAbs.gcd g = c at *
    have cN' : (c : Int) ∣ N := by rw [<- Int.dvd_natAbs];exact Int.ofNat_dvd.2 cN
    have p1' : (a + b).num = if neg then -(N / c) else N / c := by
     rw [p1];cases neg <;> simp [Int.neg_ediv_of_dvd cN']
    have bC1 : b.den / c <= b.den := Nat.div_le_self ..
    have bC0 : 1 <= b.den / c := Nat.div_pos (Nat.le_of_dvd b.den_pos cbd) cp
    have D12 := My ((a.den / g : Nat) : Int) ((b.den / c : Nat) : Int) (by omega) (by omega) (by omega) (by omega)
    have D1 : 1 <= (a.den / g) * (b.den / c) := Nat.mul_pos aG0 bC0
    have nc0 : 0 <= N / (c : Int) := Int.ediv_nonneg n0 (by omega)
    have nc1 : N / (c : Int) <= N := Int.ediv_le_self _ n0
    have rr0 : 0 <= N % (g : Int) := Int.emod_nonneg _ (by omega)
    have rr1 : N % (g : Int) < g := Int.emod_lt_of_pos _ (by omega)
    have pd : ((a + b).den : Int) = ((a.den / g : Nat) : Int) * ((b.den / c : Nat) : Int) := by rw [p2, Int.natCast_mul]
    exact A8u an ad bn bd g _ _ _ _ N _ c _ _ _ neg w va vb a1 a2 a3 a4 b1 b2 b3 b4 (by rw [hG]) (by omega) (by omega) ebG eaG (by omega) (by omega) (by omega) (by omega) rfl rfl x12.1 x12.2 y12.1 y12.2 hpath
     (by omega) (by omega) rfl rr0 rr1 (by rw [hCN]) (by omega) (by omega) rfl nc0 nc1 (by rw [<- bd'];simp) (by omega) (by omega) rfl (by rw [<- Int.natCast_mul];omega) D12.2 _ _ _
     (Nx (a + b) (N / c) _ neg nc0 (by omega) (by rw [<- Int.natCast_mul];omega) p1' pd)
  ·have vb' : Ad bn bd = false := by simpa using vb
   rw [show Gd an ad bn bd = (0, 0, 1) by unfold Gd;rw [if_neg (fun h => vb h.2)]]
   exact A9z an ad bn bd w va vb'
 ·have va' : Ad an ad = false := by simpa using va
  rw [show Gd an ad bn bd = (0, 0, 1) by unfold Gd;rw [if_neg (fun h => va h.1)]]
  exact Aam an ad bn bd w va'
set_option maxRecDepth 100000 in
set_option maxHeartbeats 2000000 in
theorem A8p (an ad bn bd G H p q r t NC D : Int) (neg : Bool) (w : World) (va : Ad an ad = true) (vb : Ad bn bd = true)
  (a1 : 1 <= ad) (a2 : ad <= 1152921504606846976) (a3 : -1152921504606846976 <= an) (a4 : an <= 1152921504606846976)
  (b1 : 1 <= bd) (b2 : bd <= 1152921504606846976) (b3 : -1152921504606846976 <= bn) (b4 : bn <= 1152921504606846976)
  (hG : (Int.gcd (an.natAbs : Int) bd : Int) = G) (g1 : 1 <= G) (hH : (Int.gcd (bn.natAbs : Int) ad : Int) = H) (g2 : 1 <= H)
  (hp : (an.natAbs : Int) / G = p) (hq : (bn.natAbs : Int) / H = q) (hr : ad / H = r) (ht : bd / G = t)
  (p1 : 0 <= p) (p2 : p <= 1152921504606846976) (q1 : 0 <= q) (q2 : q <= 1152921504606846976) (r1 : 0 <= r) (r2 : r <= 1152921504606846976) (t1 : 0 <= t) (t2 : t <= 1152921504606846976)
  (hNC : p * q = NC) (n1 : 0 <= NC) (hD : r * t = D) (d1 : 1 <= D)
  (on od oe : Int) (hout : (0 < NC / 18446744073709551616 /\ Hid (on = 0 /\ od = 0 /\ oe = 5)) \/ (NC / 18446744073709551616 = 0 /\ 0 < D / 18446744073709551616 /\ Hid (on = 0 /\ od = 0 /\ oe = 5)) \/
   (NC / 18446744073709551616 = 0 /\ D / 18446744073709551616 = 0 /\ (1152921504606846976 < NC \/ 1152921504606846976 < D) /\ (NC % 18446744073709551616 = NC /\ D % 18446744073709551616 = D) /\ Hid (on = 0 /\ od = 0 /\ oe = 5)) \/
   (NC / 18446744073709551616 = 0 /\ D / 18446744073709551616 = 0 /\ NC <= 1152921504606846976 /\ D <= 1152921504606846976 /\ NC % 18446744073709551616 = NC /\ D % 18446744073709551616 = D /\ Hid (on = (if neg then -NC else NC) /\ od = D /\ oe = 0)))
  (hsign : (decide (0 < NC) = false /\ neg = false) \/ (decide (0 < NC) = true /\ decide (an < 0) = true /\ decide (bn < 0) = true /\ neg = false) \/ (decide (0 < NC) = true /\ decide (an < 0) = true /\ decide (bn < 0) = false /\ neg = true) \/
   (decide (0 < NC) = true /\ decide (an < 0) = false /\ decide (bn < 0) = true /\ neg = true) \/ (decide (0 < NC) = true /\ decide (an < 0) = false /\ decide (bn < 0) = false /\ neg = false)) :
  Calls Tryz.prog 89 #[.agg #[.int .i64 an, .int .i64 ad], .agg #[.int .i64 bn, .int .i64 bd]] w fun e w' =>
   e = .returned (.tuple #[.agg #[.int .i64 on, .int .i64 od], .int .i64 oe]) /\ Tr w w' := by
 go_enter Tryz.func89, Tryz.ntmps89
 go_wp2_with (go_at_call 52;(with_reducible refine (Au _ _ _).mono ?_);rintro e w1 ⟨rfl, ht1⟩;have T1 : Tr w w1 := Tr.trans (by repeat (first | exact Tr.refl _ | assumption | apply Tr.al | apply Tr.drN | apply Tr.dr|(refine Tr.set ?_ (by first | omega|(simp;done)|(simp;omega)) _))) ht1;have K1 := Keep.tr (l := [(⟨w.heap.size, 0, none⟩, .int .i64 an), (⟨w.heap.size, 1, none⟩, .int .i64 ad), (⟨w.heap.size + 1, 0, none⟩, .int .i64 bn), (⟨w.heap.size + 1, 1, none⟩, .int .i64 bd), (⟨w.heap.size + 1 + 1, 0, none⟩, .int .i64 0), (⟨w.heap.size + 1 + 1, 1, none⟩, .int .i64 0)]) (by first|(simp [Keep, go_sem, *];done)|(simp [Keep, go_sem, *];omega)|(simp (disch := first | omega|(simp;omega)|(simp;done)) [Keep, go_sem, A5, A6, RowKit.frozen?_alloc_cells, A4, *];done)|(simp (disch := first | omega|(simp;omega)|(simp;done)) [Keep, go_sem, A5, A6, RowKit.frozen?_alloc_cells, A4, *];omega)) ht1;have hz1 := Below.size ht1;(try simp at hz1);clear ht1;simp only [Keep] at K1)
 refine Hx 16 (by kernel_rfl) (by kernel_rfl) ?_
 intro w3 hw3
 have k3 := Keep.cl (l := [(⟨w.heap.size, 0, none⟩, .int .i64 an), (⟨w.heap.size, 1, none⟩, .int .i64 ad), (⟨w.heap.size + 1, 0, none⟩, .int .i64 bn), (⟨w.heap.size + 1, 1, none⟩, .int .i64 bd), (⟨w.heap.size + 1 + 1, 0, none⟩, .int .i64 0), (⟨w.heap.size + 1 + 1, 1, none⟩, .int .i64 0)]) (by first|(simp [Keep, go_sem, *];done)|(simp [Keep, go_sem, *];omega)|(simp (disch := first | omega|(simp;omega)|(simp;done)) [Keep, go_sem, A5, A6, RowKit.frozen?_alloc_cells, A4, *];done)|(simp (disch := first | omega|(simp;omega)|(simp;done)) [Keep, go_sem, A5, A6, RowKit.frozen?_alloc_cells, A4, *];omega)) hw3
 simp only [Il] at k3
 simp only [List.take_succ_cons, List.take_zero, List.drop_succ_cons, List.drop_zero]
 repeat (go_big_quiet_step (first
  | (go_at_call 94;exact El (Ge _ (by omega) (by omega) _))
  | (go_at_call 95;exact W9 (Jc _ _ _ (by omega) (by omega) (by omega) (by omega)))))
 refine wpQuiet_nil ?_
 intro w4 ht4
 have K4 := Keep.tr (l := [(⟨w.heap.size, 0, none⟩, .int .i64 an), (⟨w.heap.size, 1, none⟩, .int .i64 ad), (⟨w.heap.size + 1, 0, none⟩, .int .i64 bn), (⟨w.heap.size + 1, 1, none⟩, .int .i64 bd), (⟨w.heap.size + 1 + 1, 0, none⟩, .int .i64 0), (⟨w.heap.size + 1 + 1, 1, none⟩, .int .i64 0)]) (by first|(simp [Keep, go_sem, *];done)|(simp [Keep, go_sem, *];omega)|(simp (disch := first | omega|(simp;omega)|(simp;done)) [Keep, go_sem, A5, A6, RowKit.frozen?_alloc_cells, A4, *];done)|(simp (disch := first | omega|(simp;omega)|(simp;done)) [Keep, go_sem, A5, A6, RowKit.frozen?_alloc_cells, A4, *];omega)) ht4
 have T4 : Tr w w4 := Tr.trans (by repeat (first | exact Tr.refl _ | assumption | apply Tr.al | apply Tr.drN | apply Tr.dr|(refine Tr.set ?_ (by first | omega|(simp;done)|(simp;omega)) _))) ht4
 have hs4 := Below.size ht4
 (try simp at hs4)
 simp only [Keep] at K4
 clear ht4 hw3 k3
 clear K1 T1
 go_upto_region 4 with (fail)
 refine Fl 22 #[.int .u64 0, .int .u64 0] 205 _ #[.int .u64 0, .int .u64 0] 205 _ (by kernel_rfl) (by kernel_rfl) rfl (Dn _ rfl rfl) rfl (Dn _ rfl rfl) (by decide) ?_
 intro w5 hw5
 have k5 := Keep.cl (l := [(⟨w.heap.size, 0, none⟩, .int .i64 an), (⟨w.heap.size, 1, none⟩, .int .i64 ad), (⟨w.heap.size + 1, 0, none⟩, .int .i64 bn), (⟨w.heap.size + 1, 1, none⟩, .int .i64 bd), (⟨w.heap.size + 1 + 1, 0, none⟩, .int .i64 0), (⟨w.heap.size + 1 + 1, 1, none⟩, .int .i64 0)]) (by first|(simp [Keep, go_sem, *];done)|(simp [Keep, go_sem, *];omega)|(simp (disch := first | omega|(simp;omega)|(simp;done)) [Keep, go_sem, A5, A6, RowKit.frozen?_alloc_cells, A4, *];done)|(simp (disch := first | omega|(simp;omega)|(simp;done)) [Keep, go_sem, A5, A6, RowKit.frozen?_alloc_cells, A4, *];omega)) hw5
 simp only [Il] at k5
 simp only [List.take_succ_cons, List.take_zero, List.drop_succ_cons, List.drop_zero]
 repeat (go_big_quiet_step (first
  | (go_at_call 94;exact El (Ge _ (by omega) (by omega) _))
  | (go_at_call 109;exact Dt (Fz _ _ _ (by omega) (by omega) (by omega) (by omega)))))
 refine wpQuiet_nil ?_
 intro b b' w' hb hb' hne ht hz hz'
 have Kb := Keep.at2 hz;have Kb' := Keep.at2 hz';have K0 := Keep.tr (l := [(⟨w.heap.size, 0, none⟩, .int .i64 an), (⟨w.heap.size, 1, none⟩, .int .i64 ad), (⟨w.heap.size + 1, 0, none⟩, .int .i64 bn), (⟨w.heap.size + 1, 1, none⟩, .int .i64 bd), (⟨w.heap.size + 1 + 1, 0, none⟩, .int .i64 0), (⟨w.heap.size + 1 + 1, 1, none⟩, .int .i64 0)]) (by first|(simp [Keep, go_sem, *];done)|(simp [Keep, go_sem, *];omega)|(simp (disch := first | omega|(simp;omega)|(simp;done)) [Keep, go_sem, A5, A6, RowKit.frozen?_alloc_cells, A4, *];done)|(simp (disch := first | omega|(simp;omega)|(simp;done)) [Keep, go_sem, A5, A6, RowKit.frozen?_alloc_cells, A4, *];omega)) ht;have T0 : Tr w w' := Tr.trans (by repeat (first | exact Tr.refl _ | assumption | apply Tr.al | apply Tr.drN | apply Tr.dr|(refine Tr.set ?_ (by first | omega|(simp;done)|(simp;omega)) _))) ht;have hs0 := Below.size ht;have hbl := lt_of_block hz;have hbl' := lt_of_block hz';(try simp at hb);(try simp at hb');(try simp at hs0);simp only [Keep] at Kb Kb' K0;clear ht hz hz'
 clear hw5 k5
 simp only [Act.put, List.setIfInBounds_toArray, List.set_cons_succ, List.set_cons_zero]
 go_upto_region 5 with (fail)
 refine Cz (w0 := w) [(⟨w.heap.size, 0, none⟩, .int .i64 (an)), (⟨w.heap.size, 1, none⟩, .int .i64 (ad)), (⟨w.heap.size + 1, 0, none⟩, .int .i64 (bn)), (⟨w.heap.size + 1, 1, none⟩, .int .i64 (bd)), (⟨w.heap.size + 1 + 1, 0, none⟩, .int .i64 (0)), (⟨w.heap.size + 1 + 1, 1, none⟩, .int .i64 (0)), (⟨b, 0, none⟩, .int .u64 (NC / 18446744073709551616)), (⟨b, 1, none⟩, .int .u64 (NC % 18446744073709551616)), (⟨b', 0, none⟩, .int .u64 (D / 18446744073709551616)), (⟨b', 1, none⟩, .int .u64 (D % 18446744073709551616))] (by first|(simp [Keep, go_sem, *];done)|(simp [Keep, go_sem, *];omega)|(simp (disch := first | omega|(simp;omega)|(simp;done)) [Keep, go_sem, A5, A6, RowKit.frozen?_alloc_cells, A4, *];done)|(simp (disch := first | omega|(simp;omega)|(simp;done)) [Keep, go_sem, A5, A6, RowKit.frozen?_alloc_cells, A4, *];omega)) (by repeat (first | exact Tr.refl _ | assumption | apply Tr.al | apply Tr.drN | apply Tr.dr|(refine Tr.set ?_ (by first | omega|(simp;done)|(simp;omega)) _))) ?_;intro w6 hs6 K6 T6;(try simp at hs6);simp only [Keep] at K6
 clear Kb Kb' K0 T0 K4 T4
 rcases hout with ⟨o1, o2⟩ | ⟨o1, o3, o2⟩ | ⟨o1, o3, o4, o5, o2⟩ | ⟨o1, o3, o4, o5, o6, o7, o2⟩
 ·clear hsign
  go_wp2_with fail
  obtain ⟨rfl, rfl, rfl⟩ := o2.out
  simp [bodyPost, results, Tryz.results89, go_sem, *]
  exact (by repeat (first | exact Tr.refl _ | assumption | apply Tr.al | apply Tr.drN | apply Tr.dr|(refine Tr.set ?_ (by first | omega|(simp;done)|(simp;omega)) _)))
 ·clear hsign
  go_wp2_with fail
  obtain ⟨rfl, rfl, rfl⟩ := o2.out
  simp [bodyPost, results, Tryz.results89, go_sem, *]
  exact (by repeat (first | exact Tr.refl _ | assumption | apply Tr.al | apply Tr.drN | apply Tr.dr|(refine Tr.set ?_ (by first | omega|(simp;done)|(simp;omega)) _)))
 all_goals
  rcases hsign with ⟨s1, rfl⟩ | ⟨s1, s2, s3, rfl⟩ | ⟨s1, s2, s3, rfl⟩ | ⟨s1, s2, s3, rfl⟩ | ⟨s1, s2, s3, rfl⟩
  all_goals
   go_wp2_with (first
    | (go_at_call 96;(with_reducible refine (N8 _ NC D _ o4).mono ?_);rintro e w1 ⟨rfl, ht1⟩;have T1 : Tr w w1 := Tr.trans (by repeat (first | exact Tr.refl _ | assumption | apply Tr.al | apply Tr.drN | apply Tr.dr|(refine Tr.set ?_ (by first | omega|(simp;done)|(simp;omega)) _))) ht1;have K1 := Keep.tr (l := [(⟨w.heap.size, 0, none⟩, .int .i64 (an)), (⟨w.heap.size, 1, none⟩, .int .i64 (ad)), (⟨w.heap.size + 1, 0, none⟩, .int .i64 (bn)), (⟨w.heap.size + 1, 1, none⟩, .int .i64 (bd)), (⟨w.heap.size + 1 + 1, 0, none⟩, .int .i64 (0)), (⟨w.heap.size + 1 + 1, 1, none⟩, .int .i64 (0)), (⟨b, 0, none⟩, .int .u64 (NC / 18446744073709551616)), (⟨b, 1, none⟩, .int .u64 (NC % 18446744073709551616)), (⟨b', 0, none⟩, .int .u64 (D / 18446744073709551616)), (⟨b', 1, none⟩, .int .u64 (D % 18446744073709551616))]) (by first|(simp [Keep, go_sem, *];done)|(simp [Keep, go_sem, *];omega)|(simp (disch := first | omega|(simp;omega)|(simp;done)) [Keep, go_sem, A5, A6, RowKit.frozen?_alloc_cells, A4, *];done)|(simp (disch := first | omega|(simp;omega)|(simp;done)) [Keep, go_sem, A5, A6, RowKit.frozen?_alloc_cells, A4, *];omega)) ht1;have hz1 := Below.size ht1;(try simp at hz1);clear ht1;simp only [Keep] at K1)
    | (go_at_call 96;(with_reducible refine (Kw _ NC D _ (by omega) (by omega) (by omega) (by omega)).mono ?_);rintro e w1 ⟨rfl, ht1⟩;have T1 : Tr w w1 := Tr.trans (by repeat (first | exact Tr.refl _ | assumption | apply Tr.al | apply Tr.drN | apply Tr.dr|(refine Tr.set ?_ (by first | omega|(simp;done)|(simp;omega)) _))) ht1;have K1 := Keep.tr (l := [(⟨w.heap.size, 0, none⟩, .int .i64 (an)), (⟨w.heap.size, 1, none⟩, .int .i64 (ad)), (⟨w.heap.size + 1, 0, none⟩, .int .i64 (bn)), (⟨w.heap.size + 1, 1, none⟩, .int .i64 (bd)), (⟨w.heap.size + 1 + 1, 0, none⟩, .int .i64 (0)), (⟨w.heap.size + 1 + 1, 1, none⟩, .int .i64 (0)), (⟨b, 0, none⟩, .int .u64 (NC / 18446744073709551616)), (⟨b, 1, none⟩, .int .u64 (NC % 18446744073709551616)), (⟨b', 0, none⟩, .int .u64 (D / 18446744073709551616)), (⟨b', 1, none⟩, .int .u64 (D % 18446744073709551616))]) (by first|(simp [Keep, go_sem, *];done)|(simp [Keep, go_sem, *];omega)|(simp (disch := first | omega|(simp;omega)|(simp;done)) [Keep, go_sem, A5, A6, RowKit.frozen?_alloc_cells, A4, *];done)|(simp (disch := first | omega|(simp;omega)|(simp;done)) [Keep, go_sem, A5, A6, RowKit.frozen?_alloc_cells, A4, *];omega)) ht1;have hz1 := Below.size ht1;(try simp at hz1);clear ht1;simp only [Keep] at K1))
   obtain ⟨rfl, rfl, rfl⟩ := o2.out
   simp [bodyPost, results, Tryz.results89, go_sem, *]
   exact (by repeat (first | exact Tr.refl _ | assumption | apply Tr.al | apply Tr.drN | apply Tr.dr|(refine Tr.set ?_ (by first | omega|(simp;done)|(simp;omega)) _)))

theorem Aat (an ad bn bd : Int) (w : World) (va : Ad an ad = false) :
  Calls Tryz.prog 89 #[.agg #[.int .i64 an, .int .i64 ad], .agg #[.int .i64 bn, .int .i64 bd]] w fun e w' =>
   e = .returned (.tuple #[.agg #[.int .i64 0, .int .i64 0], .int .i64 1]) /\ Tr w w' := by
 go_enter Tryz.func89, Tryz.ntmps89
 go_wp2_with (go_at_call 52;(with_reducible refine (Au _ _ _).mono ?_);rintro e w1 ⟨rfl, ht1⟩;have T1 : Tr w w1 := Tr.trans (by repeat (first | exact Tr.refl _ | assumption | apply Tr.al | apply Tr.drN | apply Tr.dr|(refine Tr.set ?_ (by first | omega|(simp;done)|(simp;omega)) _))) ht1;have K1 := Keep.tr (l := [(⟨w.heap.size, 0, none⟩, .int .i64 an), (⟨w.heap.size, 1, none⟩, .int .i64 ad), (⟨w.heap.size + 1, 0, none⟩, .int .i64 bn), (⟨w.heap.size + 1, 1, none⟩, .int .i64 bd), (⟨w.heap.size + 1 + 1, 0, none⟩, .int .i64 0), (⟨w.heap.size + 1 + 1, 1, none⟩, .int .i64 0)]) (by first|(simp [Keep, go_sem, *];done)|(simp [Keep, go_sem, *];omega)|(simp (disch := first | omega|(simp;omega)|(simp;done)) [Keep, go_sem, A5, A6, RowKit.frozen?_alloc_cells, A4, *];done)|(simp (disch := first | omega|(simp;omega)|(simp;done)) [Keep, go_sem, A5, A6, RowKit.frozen?_alloc_cells, A4, *];omega)) ht1;have hz1 := Below.size ht1;(try simp at hz1);clear ht1;simp only [Keep] at K1)
 simp [bodyPost, results, Tryz.results89, go_sem, *]
 exact (by repeat (first | exact Tr.refl _ | assumption | apply Tr.al | apply Tr.drN | apply Tr.dr|(refine Tr.set ?_ (by first | omega|(simp;done)|(simp;omega)) _)))
theorem A9l (an ad bn bd : Int) (w : World) (va : Ad an ad = true) (vb : Ad bn bd = false) :
  Calls Tryz.prog 89 #[.agg #[.int .i64 an, .int .i64 ad], .agg #[.int .i64 bn, .int .i64 bd]] w fun e w' =>
   e = .returned (.tuple #[.agg #[.int .i64 0, .int .i64 0], .int .i64 1]) /\ Tr w w' := by
 go_enter Tryz.func89, Tryz.ntmps89
 go_wp2_with (go_at_call 52;(with_reducible refine (Au _ _ _).mono ?_);rintro e w1 ⟨rfl, ht1⟩;have T1 : Tr w w1 := Tr.trans (by repeat (first | exact Tr.refl _ | assumption | apply Tr.al | apply Tr.drN | apply Tr.dr|(refine Tr.set ?_ (by first | omega|(simp;done)|(simp;omega)) _))) ht1;have K1 := Keep.tr (l := [(⟨w.heap.size, 0, none⟩, .int .i64 an), (⟨w.heap.size, 1, none⟩, .int .i64 ad), (⟨w.heap.size + 1, 0, none⟩, .int .i64 bn), (⟨w.heap.size + 1, 1, none⟩, .int .i64 bd), (⟨w.heap.size + 1 + 1, 0, none⟩, .int .i64 0), (⟨w.heap.size + 1 + 1, 1, none⟩, .int .i64 0)]) (by first|(simp [Keep, go_sem, *];done)|(simp [Keep, go_sem, *];omega)|(simp (disch := first | omega|(simp;omega)|(simp;done)) [Keep, go_sem, A5, A6, RowKit.frozen?_alloc_cells, A4, *];done)|(simp (disch := first | omega|(simp;omega)|(simp;done)) [Keep, go_sem, A5, A6, RowKit.frozen?_alloc_cells, A4, *];omega)) ht1;have hz1 := Below.size ht1;(try simp at hz1);clear ht1;simp only [Keep] at K1)
 simp [bodyPost, results, Tryz.results89, go_sem, *]
 exact (by repeat (first | exact Tr.refl _ | assumption | apply Tr.al | apply Tr.drN | apply Tr.dr|(refine Tr.set ?_ (by first | omega|(simp;done)|(simp;omega)) _)))
def Gc (an ad bn bd : Int) : Int × Int × Int := if Ad an ad = true /\ Ad bn bd = true then Cj (Aa an ad * Aa bn bd) else (0, 0, 1)
def I1 (an ad bn bd : Int) : Int × Int × Int := if Ad an ad = true /\ Ad bn bd = true then Cj (Aa an ad - Aa bn bd) else (0, 0, 1)
def Hv (an ad bn bd : Int) : Int × Int × Int := if Ad an ad = true /\ Ad bn bd = true then (if bn = 0 then (0, 0, 16) else Cj (Aa an ad * (Aa bn bd)⁻¹)) else (0, 0, 1)
def Iy (n d : Int) : Int × Int × Int := if d = 0 then (0, 0, 16) else Cj (Aa n d)

theorem Aal (an bn : Int) (g h : Nat) : ∃ neg : Bool, an.tdiv g * bn.tdiv h = (if neg then -(((an.natAbs / g : Nat) : Int) * ((bn.natAbs / h : Nat) : Int)) else ((an.natAbs / g : Nat) : Int) * ((bn.natAbs / h : Nat) : Int)) /\
  ((decide (0 < ((an.natAbs / g : Nat) : Int) * ((bn.natAbs / h : Nat) : Int)) = false /\ neg = false) \/ (decide (0 < ((an.natAbs / g : Nat) : Int) * ((bn.natAbs / h : Nat) : Int)) = true /\ decide (an < 0) = true /\ decide (bn < 0) = true /\ neg = false) \/
    (decide (0 < ((an.natAbs / g : Nat) : Int) * ((bn.natAbs / h : Nat) : Int)) = true /\ decide (an < 0) = true /\ decide (bn < 0) = false /\ neg = true) \/
    (decide (0 < ((an.natAbs / g : Nat) : Int) * ((bn.natAbs / h : Nat) : Int)) = true /\ decide (an < 0) = false /\ decide (bn < 0) = true /\ neg = true) \/
    (decide (0 < ((an.natAbs / g : Nat) : Int) * ((bn.natAbs / h : Nat) : Int)) = true /\ decide (an < 0) = false /\ decide (bn < 0) = false /\ neg = false)) := by
 rw [Se, Se]
 have n0 : 0 <= ((an.natAbs / g : Nat) : Int) * ((bn.natAbs / h : Nat) : Int) := Int.mul_nonneg (Int.natCast_nonneg _) (Int.natCast_nonneg _)
 generalize ((an.natAbs / g : Nat) : Int) = p at *
 generalize ((bn.natAbs / h : Nat) : Int) = q at *
 by_cases z : 0 < p * q
 ·by_cases h1 : an < 0 <;> by_cases h2 : bn < 0 <;> simp only [h1, h2, z, if_true, if_false, Int.neg_mul, Int.mul_neg, Int.neg_neg, decide_true, decide_false, Bool.true_eq_false, Bool.false_eq_true, false_and, true_and, false_or, or_false]
  ·exact ⟨false, by simp, rfl⟩
  ·exact ⟨true, by simp, rfl⟩
  ·exact ⟨true, by simp, rfl⟩
  ·exact ⟨false, by simp, rfl⟩
 ·have z' : p * q = 0 := by omega
  refine ⟨false, ?_, .inl ⟨by simp [z], rfl⟩⟩
  by_cases h1 : an < 0 <;> by_cases h2 : bn < 0 <;> simp [h1, h2, Int.neg_mul, Int.mul_neg, z']

theorem P6 (an ad bn bd : Int) (w : World) :
  Calls Tryz.prog 89 #[.agg #[.int .i64 an, .int .i64 ad], .agg #[.int .i64 bn, .int .i64 bd]] w fun e w' =>
   e = .returned (.tuple #[.agg #[.int .i64 (Gc an ad bn bd).1, .int .i64 (Gc an ad bn bd).2.1], .int .i64 (Gc an ad bn bd).2.2]) /\ Tr w w' := by
 by_cases va : Ad an ad = true
 ·by_cases vb : Ad bn bd = true
  ·obtain ⟨a1, a2, a3, a4, _⟩ := validB_spec.1 va
   obtain ⟨b1, b2, b3, b4, _⟩ := validB_spec.1 vb
   obtain ⟨an', ad'⟩ := Ec va
   obtain ⟨bn', bd'⟩ := Ec vb
   have hS : Gc an ad bn bd = Cj (Aa an ad * Aa bn bd) := by unfold Gc;rw [if_pos ⟨va, vb⟩]
   rw [hS]
   generalize Aa an ad = a at *
   generalize Aa bn bd = b at *
   obtain ⟨p1, p2⟩ := A48 a b _ _ rfl rfl
   rw [an', bn'] at p1 p2
   have hG : Int.gcd (an.natAbs : Int) bd = an.natAbs.gcd b.den := by rw [<- bd'];simp [Int.gcd]
   have hH : Int.gcd (bn.natAbs : Int) ad = bn.natAbs.gcd a.den := by rw [<- ad'];simp [Int.gcd]
   have gp : 0 < an.natAbs.gcd b.den := Nat.gcd_pos_of_pos_right _ b.den_pos
   have hp : 0 < bn.natAbs.gcd a.den := Nat.gcd_pos_of_pos_right _ a.den_pos
   have gb : an.natAbs.gcd b.den ∣ b.den := Nat.gcd_dvd_right ..
   have ha : bn.natAbs.gcd a.den ∣ a.den := Nat.gcd_dvd_right ..
   have r0 : 1 <= a.den / bn.natAbs.gcd a.den := Nat.div_pos (Nat.le_of_dvd a.den_pos ha) hp
   have t0 : 1 <= b.den / an.natAbs.gcd b.den := Nat.div_pos (Nat.le_of_dvd b.den_pos gb) gp
   generalize an.natAbs.gcd b.den = g at *
   generalize bn.natAbs.gcd a.den = h at *
   obtain ⟨neg, hs, hsign⟩ := Aal an bn g h
   rw [hs] at p1
   have pl : an.natAbs / g <= an.natAbs := Nat.div_le_self ..
   have ql : bn.natAbs / h <= bn.natAbs := Nat.div_le_self ..
   have rl : a.den / h <= a.den := Nat.div_le_self ..
   have tl : b.den / g <= b.den := Nat.div_le_self ..
   have NN := My ((an.natAbs / g : Nat) : Int) ((bn.natAbs / h : Nat) : Int) (Int.natCast_nonneg _) (by omega) (Int.natCast_nonneg _) (by omega)
   have D1 : 1 <= (a.den / h) * (b.den / g) := Nat.mul_pos r0 t0
   have pd : ((a * b).den : Int) = ((a.den / h : Nat) : Int) * ((b.den / g : Nat) : Int) := by rw [p2, Int.natCast_mul]
   exact A8p an ad bn bd g h _ _ _ _ _ _ neg w va vb a1 a2 a3 a4 b1 b2 b3 b4 (by rw [hG]) (by omega) (by rw [hH]) (by omega) rfl rfl (by rw [<- ad'];rfl) (by rw [<- bd'];rfl)
    (Int.natCast_nonneg _) (by omega) (Int.natCast_nonneg _) (by omega) (Int.natCast_nonneg _) (by omega) (Int.natCast_nonneg _) (by omega) rfl NN.1 rfl (by rw [<- Int.natCast_mul];omega) _ _ _
    (Nx (a * b) _ _ neg NN.1 (Int.le_trans NN.2 (by decide)) (by rw [<- Int.natCast_mul];omega) p1 pd) hsign
  ·have vb' : Ad bn bd = false := by simpa using vb
   rw [show Gc an ad bn bd = (0, 0, 1) by unfold Gc;rw [if_neg (fun h => vb h.2)]]
   exact A9l an ad bn bd w va vb'
 ·have va' : Ad an ad = false := by simpa using va
  rw [show Gc an ad bn bd = (0, 0, 1) by unfold Gc;rw [if_neg (fun h => va h.1)]]
  exact Aat an ad bn bd w va'

theorem A1k (an ad bn bd : Int) (w : World) :
  Calls Tryz.prog 53 #[.agg #[.int .i64 an, .int .i64 ad], .agg #[.int .i64 bn, .int .i64 bd]] w fun e w' =>
   e = .returned (.tuple #[.agg #[.int .i64 (I1 an ad bn bd).1, .int .i64 (I1 an ad bn bd).2.1], .int .i64 (I1 an ad bn bd).2.2]) /\ Tr w w' := by
 by_cases va : Ad an ad = true
 ·by_cases vb : Ad bn bd = true
  ·obtain ⟨b1, b2, b3, b4, _⟩ := validB_spec.1 vb
   have hS : I1 an ad bn bd = Gd an ad (-bn) bd := by
    unfold I1 Gd;rw [if_pos ⟨va, vb⟩, if_pos ⟨va, by rw [A3k];exact vb⟩, A74, Rat.sub_eq_add_neg]
   rw [hS]
   go_enter Tryz.func53, Tryz.ntmps53
   go_wp2_with (first
    | (go_at_call 52;(with_reducible refine (Au _ _ _).mono ?_);rintro e w1 ⟨rfl, ht1⟩;have T1 : Tr w w1 := Tr.trans (by repeat (first | exact Tr.refl _ | assumption | apply Tr.al | apply Tr.drN | apply Tr.dr|(refine Tr.set ?_ (by first | omega|(simp;done)|(simp;omega)) _))) ht1;have K1 := Keep.tr (l := [(⟨w.heap.size, 0, none⟩, .int .i64 an), (⟨w.heap.size, 1, none⟩, .int .i64 ad), (⟨w.heap.size + 1, 0, none⟩, .int .i64 bn), (⟨w.heap.size + 1, 1, none⟩, .int .i64 bd), (⟨w.heap.size + 1 + 1, 0, none⟩, .int .i64 0), (⟨w.heap.size + 1 + 1, 1, none⟩, .int .i64 0)]) (by first|(simp [Keep, go_sem, *];done)|(simp [Keep, go_sem, *];omega)|(simp (disch := first | omega|(simp;omega)|(simp;done)) [Keep, go_sem, A5, A6, RowKit.frozen?_alloc_cells, A4, *];done)|(simp (disch := first | omega|(simp;omega)|(simp;done)) [Keep, go_sem, A5, A6, RowKit.frozen?_alloc_cells, A4, *];omega)) ht1;have hz1 := Below.size ht1;(try simp at hz1);clear ht1;simp only [Keep] at K1)
    | (go_at_call 108;(with_reducible refine (Us _ _ _ _ _).mono ?_);rintro e w1 ⟨rfl, ht1⟩;have T1 : Tr w w1 := Tr.trans (by repeat (first | exact Tr.refl _ | assumption | apply Tr.al | apply Tr.drN | apply Tr.dr|(refine Tr.set ?_ (by first | omega|(simp;done)|(simp;omega)) _))) ht1;have K1 := Keep.tr (l := [(⟨w.heap.size, 0, none⟩, .int .i64 an), (⟨w.heap.size, 1, none⟩, .int .i64 ad), (⟨w.heap.size + 1, 0, none⟩, .int .i64 bn), (⟨w.heap.size + 1, 1, none⟩, .int .i64 bd), (⟨w.heap.size + 1 + 1, 0, none⟩, .int .i64 0), (⟨w.heap.size + 1 + 1, 1, none⟩, .int .i64 0)]) (by first|(simp [Keep, go_sem, *];done)|(simp [Keep, go_sem, *];omega)|(simp (disch := first | omega|(simp;omega)|(simp;done)) [Keep, go_sem, A5, A6, RowKit.frozen?_alloc_cells, A4, *];done)|(simp (disch := first | omega|(simp;omega)|(simp;done)) [Keep, go_sem, A5, A6, RowKit.frozen?_alloc_cells, A4, *];omega)) ht1;have hz1 := Below.size ht1;(try simp at hz1);clear ht1;simp only [Keep] at K1))
   simp [bodyPost, results, Tryz.results53, go_sem, *]
   exact (by repeat (first | exact Tr.refl _ | assumption | apply Tr.al | apply Tr.drN | apply Tr.dr|(refine Tr.set ?_ (by first | omega|(simp;done)|(simp;omega)) _)))
  ·have vb' : Ad bn bd = false := by simpa using vb
   rw [show I1 an ad bn bd = (0, 0, 1) by unfold I1;rw [if_neg (fun h => vb h.2)]]
   clear vb
   go_enter Tryz.func53, Tryz.ntmps53
   go_wp2_with (go_at_call 52;(with_reducible refine (Au _ _ _).mono ?_);rintro e w1 ⟨rfl, ht1⟩;have T1 : Tr w w1 := Tr.trans (by repeat (first | exact Tr.refl _ | assumption | apply Tr.al | apply Tr.drN | apply Tr.dr|(refine Tr.set ?_ (by first | omega|(simp;done)|(simp;omega)) _))) ht1;have K1 := Keep.tr (l := [(⟨w.heap.size, 0, none⟩, .int .i64 an), (⟨w.heap.size, 1, none⟩, .int .i64 ad), (⟨w.heap.size + 1, 0, none⟩, .int .i64 bn), (⟨w.heap.size + 1, 1, none⟩, .int .i64 bd), (⟨w.heap.size + 1 + 1, 0, none⟩, .int .i64 0), (⟨w.heap.size + 1 + 1, 1, none⟩, .int .i64 0)]) (by first|(simp [Keep, go_sem, *];done)|(simp [Keep, go_sem, *];omega)|(simp (disch := first | omega|(simp;omega)|(simp;done)) [Keep, go_sem, A5, A6, RowKit.frozen?_alloc_cells, A4, *];done)|(simp (disch := first | omega|(simp;omega)|(simp;done)) [Keep, go_sem, A5, A6, RowKit.frozen?_alloc_cells, A4, *];omega)) ht1;have hz1 := Below.size ht1;(try simp at hz1);clear ht1;simp only [Keep] at K1)
   simp [bodyPost, results, Tryz.results53, go_sem, *]
   exact (by repeat (first | exact Tr.refl _ | assumption | apply Tr.al | apply Tr.drN | apply Tr.dr|(refine Tr.set ?_ (by first | omega|(simp;done)|(simp;omega)) _)))
 ·have va' : Ad an ad = false := by simpa using va
  rw [show I1 an ad bn bd = (0, 0, 1) by unfold I1;rw [if_neg (fun h => va h.1)]]
  clear va
  go_enter Tryz.func53, Tryz.ntmps53
  go_wp2_with (go_at_call 52;(with_reducible refine (Au _ _ _).mono ?_);rintro e w1 ⟨rfl, ht1⟩;have T1 : Tr w w1 := Tr.trans (by repeat (first | exact Tr.refl _ | assumption | apply Tr.al | apply Tr.drN | apply Tr.dr|(refine Tr.set ?_ (by first | omega|(simp;done)|(simp;omega)) _))) ht1;have K1 := Keep.tr (l := [(⟨w.heap.size, 0, none⟩, .int .i64 an), (⟨w.heap.size, 1, none⟩, .int .i64 ad), (⟨w.heap.size + 1, 0, none⟩, .int .i64 bn), (⟨w.heap.size + 1, 1, none⟩, .int .i64 bd), (⟨w.heap.size + 1 + 1, 0, none⟩, .int .i64 0), (⟨w.heap.size + 1 + 1, 1, none⟩, .int .i64 0)]) (by first|(simp [Keep, go_sem, *];done)|(simp [Keep, go_sem, *];omega)|(simp (disch := first | omega|(simp;omega)|(simp;done)) [Keep, go_sem, A5, A6, RowKit.frozen?_alloc_cells, A4, *];done)|(simp (disch := first | omega|(simp;omega)|(simp;done)) [Keep, go_sem, A5, A6, RowKit.frozen?_alloc_cells, A4, *];omega)) ht1;have hz1 := Below.size ht1;(try simp at hz1);clear ht1;simp only [Keep] at K1)
  simp [bodyPost, results, Tryz.results53, go_sem, *]
  exact (by repeat (first | exact Tr.refl _ | assumption | apply Tr.al | apply Tr.drN | apply Tr.dr|(refine Tr.set ?_ (by first | omega|(simp;done)|(simp;omega)) _)))

theorem Aap (an ad bn bd : Int) (w : World) :
  Calls Tryz.prog 170 #[.agg #[.int .i64 an, .int .i64 ad], .agg #[.int .i64 bn, .int .i64 bd]] w fun e w' =>
   e = .returned (.tuple #[.agg #[.int .i64 (Hv an ad bn bd).1, .int .i64 (Hv an ad bn bd).2.1], .int .i64 (Hv an ad bn bd).2.2]) /\ Tr w w' := by
 by_cases va : Ad an ad = true
 ·by_cases vb : Ad bn bd = true
  ·obtain ⟨b1, b2, b3, b4, _⟩ := validB_spec.1 vb
   by_cases hz : bn = 0
   ·rw [show Hv an ad bn bd = (0, 0, 16) by unfold Hv;rw [if_pos ⟨va, vb⟩, if_pos hz]]
    have hz' : (bn == 0) = true := by simp [hz]
    clear hz
    go_enter Tryz.func170, Tryz.ntmps170
    go_wp2_with (go_at_call 52;(with_reducible refine (Au _ _ _).mono ?_);rintro e w1 ⟨rfl, ht1⟩;have T1 : Tr w w1 := Tr.trans (by repeat (first | exact Tr.refl _ | assumption | apply Tr.al | apply Tr.drN | apply Tr.dr|(refine Tr.set ?_ (by first | omega|(simp;done)|(simp;omega)) _))) ht1;have K1 := Keep.tr (l := [(⟨w.heap.size, 0, none⟩, .int .i64 an), (⟨w.heap.size, 1, none⟩, .int .i64 ad), (⟨w.heap.size + 1, 0, none⟩, .int .i64 bn), (⟨w.heap.size + 1, 1, none⟩, .int .i64 bd), (⟨w.heap.size + 1 + 1, 0, none⟩, .int .i64 0), (⟨w.heap.size + 1 + 1, 1, none⟩, .int .i64 0)]) (by first|(simp [Keep, go_sem, *];done)|(simp [Keep, go_sem, *];omega)|(simp (disch := first | omega|(simp;omega)|(simp;done)) [Keep, go_sem, A5, A6, RowKit.frozen?_alloc_cells, A4, *];done)|(simp (disch := first | omega|(simp;omega)|(simp;done)) [Keep, go_sem, A5, A6, RowKit.frozen?_alloc_cells, A4, *];omega)) ht1;have hz1 := Below.size ht1;(try simp at hz1);clear ht1;simp only [Keep] at K1)
    simp [bodyPost, results, Tryz.results170, go_sem, *]
    exact (by repeat (first | exact Tr.refl _ | assumption | apply Tr.al | apply Tr.drN | apply Tr.dr|(refine Tr.set ?_ (by first | omega|(simp;done)|(simp;omega)) _)))
   ·obtain ⟨i1, i2⟩ := A2t vb hz
    have hS : Hv an ad bn bd = Gc an ad (if bn < 0 then -bd else bd) (bn.natAbs : Int) := by
     unfold Hv Gc;rw [if_pos ⟨va, vb⟩, if_neg hz, if_pos ⟨va, i1⟩, i2]
    rw [hS]
    have hz' : (bn == 0) = false := by simp [hz]
    clear hS i1 i2 hz
    by_cases hn : bn < 0
    ·rw [if_pos hn, show ((bn.natAbs : Nat) : Int) = -bn by omega]
     go_enter Tryz.func170, Tryz.ntmps170
     go_wp2_with (first
      | (go_at_call 52;(with_reducible refine (Au _ _ _).mono ?_);rintro e w1 ⟨rfl, ht1⟩;have T1 : Tr w w1 := Tr.trans (by repeat (first | exact Tr.refl _ | assumption | apply Tr.al | apply Tr.drN | apply Tr.dr|(refine Tr.set ?_ (by first | omega|(simp;done)|(simp;omega)) _))) ht1;have K1 := Keep.tr (l := [(⟨w.heap.size, 0, none⟩, .int .i64 an), (⟨w.heap.size, 1, none⟩, .int .i64 ad), (⟨w.heap.size + 1, 0, none⟩, .int .i64 bn), (⟨w.heap.size + 1, 1, none⟩, .int .i64 bd), (⟨w.heap.size + 1 + 1, 0, none⟩, .int .i64 0), (⟨w.heap.size + 1 + 1, 1, none⟩, .int .i64 0)]) (by first|(simp [Keep, go_sem, *];done)|(simp [Keep, go_sem, *];omega)|(simp (disch := first | omega|(simp;omega)|(simp;done)) [Keep, go_sem, A5, A6, RowKit.frozen?_alloc_cells, A4, *];done)|(simp (disch := first | omega|(simp;omega)|(simp;done)) [Keep, go_sem, A5, A6, RowKit.frozen?_alloc_cells, A4, *];omega)) ht1;have hz1 := Below.size ht1;(try simp at hz1);clear ht1;simp only [Keep] at K1)
      | (go_at_call 89;(with_reducible refine (P6 _ _ _ _ _).mono ?_);rintro e w1 ⟨rfl, ht1⟩;have T1 : Tr w w1 := Tr.trans (by repeat (first | exact Tr.refl _ | assumption | apply Tr.al | apply Tr.drN | apply Tr.dr|(refine Tr.set ?_ (by first | omega|(simp;done)|(simp;omega)) _))) ht1;have K1 := Keep.tr (l := [(⟨w.heap.size, 0, none⟩, .int .i64 an), (⟨w.heap.size, 1, none⟩, .int .i64 ad), (⟨w.heap.size + 1, 0, none⟩, .int .i64 bn), (⟨w.heap.size + 1, 1, none⟩, .int .i64 bd), (⟨w.heap.size + 1 + 1, 0, none⟩, .int .i64 0), (⟨w.heap.size + 1 + 1, 1, none⟩, .int .i64 0)]) (by first|(simp [Keep, go_sem, *];done)|(simp [Keep, go_sem, *];omega)|(simp (disch := first | omega|(simp;omega)|(simp;done)) [Keep, go_sem, A5, A6, RowKit.frozen?_alloc_cells, A4, *];done)|(simp (disch := first | omega|(simp;omega)|(simp;done)) [Keep, go_sem, A5, A6, RowKit.frozen?_alloc_cells, A4, *];omega)) ht1;have hz1 := Below.size ht1;(try simp at hz1);clear ht1;simp only [Keep] at K1))
     simp [bodyPost, results, Tryz.results170, go_sem, *]
     exact (by repeat (first | exact Tr.refl _ | assumption | apply Tr.al | apply Tr.drN | apply Tr.dr|(refine Tr.set ?_ (by first | omega|(simp;done)|(simp;omega)) _)))
    ·rw [if_neg hn, show ((bn.natAbs : Nat) : Int) = bn by omega]
     go_enter Tryz.func170, Tryz.ntmps170
     go_wp2_with (first
      | (go_at_call 52;(with_reducible refine (Au _ _ _).mono ?_);rintro e w1 ⟨rfl, ht1⟩;have T1 : Tr w w1 := Tr.trans (by repeat (first | exact Tr.refl _ | assumption | apply Tr.al | apply Tr.drN | apply Tr.dr|(refine Tr.set ?_ (by first | omega|(simp;done)|(simp;omega)) _))) ht1;have K1 := Keep.tr (l := [(⟨w.heap.size, 0, none⟩, .int .i64 an), (⟨w.heap.size, 1, none⟩, .int .i64 ad), (⟨w.heap.size + 1, 0, none⟩, .int .i64 bn), (⟨w.heap.size + 1, 1, none⟩, .int .i64 bd), (⟨w.heap.size + 1 + 1, 0, none⟩, .int .i64 0), (⟨w.heap.size + 1 + 1, 1, none⟩, .int .i64 0)]) (by first|(simp [Keep, go_sem, *];done)|(simp [Keep, go_sem, *];omega)|(simp (disch := first | omega|(simp;omega)|(simp;done)) [Keep, go_sem, A5, A6, RowKit.frozen?_alloc_cells, A4, *];done)|(simp (disch := first | omega|(simp;omega)|(simp;done)) [Keep, go_sem, A5, A6, RowKit.frozen?_alloc_cells, A4, *];omega)) ht1;have hz1 := Below.size ht1;(try simp at hz1);clear ht1;simp only [Keep] at K1)
      | (go_at_call 89;(with_reducible refine (P6 _ _ _ _ _).mono ?_);rintro e w1 ⟨rfl, ht1⟩;have T1 : Tr w w1 := Tr.trans (by repeat (first | exact Tr.refl _ | assumption | apply Tr.al | apply Tr.drN | apply Tr.dr|(refine Tr.set ?_ (by first | omega|(simp;done)|(simp;omega)) _))) ht1;have K1 := Keep.tr (l := [(⟨w.heap.size, 0, none⟩, .int .i64 an), (⟨w.heap.size, 1, none⟩, .int .i64 ad), (⟨w.heap.size + 1, 0, none⟩, .int .i64 bn), (⟨w.heap.size + 1, 1, none⟩, .int .i64 bd), (⟨w.heap.size + 1 + 1, 0, none⟩, .int .i64 0), (⟨w.heap.size + 1 + 1, 1, none⟩, .int .i64 0)]) (by first|(simp [Keep, go_sem, *];done)|(simp [Keep, go_sem, *];omega)|(simp (disch := first | omega|(simp;omega)|(simp;done)) [Keep, go_sem, A5, A6, RowKit.frozen?_alloc_cells, A4, *];done)|(simp (disch := first | omega|(simp;omega)|(simp;done)) [Keep, go_sem, A5, A6, RowKit.frozen?_alloc_cells, A4, *];omega)) ht1;have hz1 := Below.size ht1;(try simp at hz1);clear ht1;simp only [Keep] at K1))
     simp [bodyPost, results, Tryz.results170, go_sem, *]
     exact (by repeat (first | exact Tr.refl _ | assumption | apply Tr.al | apply Tr.drN | apply Tr.dr|(refine Tr.set ?_ (by first | omega|(simp;done)|(simp;omega)) _)))
  ·have vb' : Ad bn bd = false := by simpa using vb
   rw [show Hv an ad bn bd = (0, 0, 1) by unfold Hv;rw [if_neg (fun h => vb h.2)]]
   clear vb
   go_enter Tryz.func170, Tryz.ntmps170
   go_wp2_with (go_at_call 52;(with_reducible refine (Au _ _ _).mono ?_);rintro e w1 ⟨rfl, ht1⟩;have T1 : Tr w w1 := Tr.trans (by repeat (first | exact Tr.refl _ | assumption | apply Tr.al | apply Tr.drN | apply Tr.dr|(refine Tr.set ?_ (by first | omega|(simp;done)|(simp;omega)) _))) ht1;have K1 := Keep.tr (l := [(⟨w.heap.size, 0, none⟩, .int .i64 an), (⟨w.heap.size, 1, none⟩, .int .i64 ad), (⟨w.heap.size + 1, 0, none⟩, .int .i64 bn), (⟨w.heap.size + 1, 1, none⟩, .int .i64 bd), (⟨w.heap.size + 1 + 1, 0, none⟩, .int .i64 0), (⟨w.heap.size + 1 + 1, 1, none⟩, .int .i64 0)]) (by first|(simp [Keep, go_sem, *];done)|(simp [Keep, go_sem, *];omega)|(simp (disch := first | omega|(simp;omega)|(simp;done)) [Keep, go_sem, A5, A6, RowKit.frozen?_alloc_cells, A4, *];done)|(simp (disch := first | omega|(simp;omega)|(simp;done)) [Keep, go_sem, A5, A6, RowKit.frozen?_alloc_cells, A4, *];omega)) ht1;have hz1 := Below.size ht1;(try simp at hz1);clear ht1;simp only [Keep] at K1)
   simp [bodyPost, results, Tryz.results170, go_sem, *]
   exact (by repeat (first | exact Tr.refl _ | assumption | apply Tr.al | apply Tr.drN | apply Tr.dr|(refine Tr.set ?_ (by first | omega|(simp;done)|(simp;omega)) _)))
 ·have va' : Ad an ad = false := by simpa using va
  rw [show Hv an ad bn bd = (0, 0, 1) by unfold Hv;rw [if_neg (fun h => va h.1)]]
  clear va
  go_enter Tryz.func170, Tryz.ntmps170
  go_wp2_with (go_at_call 52;(with_reducible refine (Au _ _ _).mono ?_);rintro e w1 ⟨rfl, ht1⟩;have T1 : Tr w w1 := Tr.trans (by repeat (first | exact Tr.refl _ | assumption | apply Tr.al | apply Tr.drN | apply Tr.dr|(refine Tr.set ?_ (by first | omega|(simp;done)|(simp;omega)) _))) ht1;have K1 := Keep.tr (l := [(⟨w.heap.size, 0, none⟩, .int .i64 an), (⟨w.heap.size, 1, none⟩, .int .i64 ad), (⟨w.heap.size + 1, 0, none⟩, .int .i64 bn), (⟨w.heap.size + 1, 1, none⟩, .int .i64 bd), (⟨w.heap.size + 1 + 1, 0, none⟩, .int .i64 0), (⟨w.heap.size + 1 + 1, 1, none⟩, .int .i64 0)]) (by first|(simp [Keep, go_sem, *];done)|(simp [Keep, go_sem, *];omega)|(simp (disch := first | omega|(simp;omega)|(simp;done)) [Keep, go_sem, A5, A6, RowKit.frozen?_alloc_cells, A4, *];done)|(simp (disch := first | omega|(simp;omega)|(simp;done)) [Keep, go_sem, A5, A6, RowKit.frozen?_alloc_cells, A4, *];omega)) ht1;have hz1 := Below.size ht1;(try simp at hz1);clear ht1;simp only [Keep] at K1)
  simp [bodyPost, results, Tryz.results170, go_sem, *]
  exact (by repeat (first | exact Tr.refl _ | assumption | apply Tr.al | apply Tr.drN | apply Tr.dr|(refine Tr.set ?_ (by first | omega|(simp;done)|(simp;omega)) _)))
theorem A50 (n d : Int) (hd : d ≠ 0) : ∃ neg : Bool, (Aa n d).num = (if neg then -((n.natAbs : Int) / (Int.gcd n d : Int)) else (n.natAbs : Int) / (Int.gcd n d : Int)) /\ ((Aa n d).den : Int) = (d.natAbs : Int) / (Int.gcd n d : Int) /\
  (((n != 0) = false /\ neg = false) \/ ((n != 0) = true /\ decide (n < 0) = true /\ decide (d < 0) = true /\ neg = false) \/ ((n != 0) = true /\ decide (n < 0) = true /\ decide (d < 0) = false /\ neg = true) \/
    ((n != 0) = true /\ decide (n < 0) = false /\ decide (d < 0) = true /\ neg = true) \/ ((n != 0) = true /\ decide (n < 0) = false /\ decide (d < 0) = false /\ neg = false)) := by
 have e1 := Rat.num_divInt n d
 have e2 := Rat.den_divInt n d
 rw [if_neg hd, Int.gcd_comm] at e2
 rw [Int.gcd_comm] at e1
 have hden : ((Aa n d).den : Int) = (d.natAbs : Int) / (Int.gcd n d : Int) := by unfold Aa;rw [e2];rfl
 have dv : (Int.gcd n d : Int) ∣ (n.natAbs : Int) := Int.dvd_natAbs.2 (Int.gcd_dvd_left ..)
 have hnum : (Aa n d).num = d.sign * n / (Int.gcd n d : Int) := e1
 by_cases hz : n = 0
 ·subst hz
  exact ⟨false, by rw [hnum];simp, hden, .inl ⟨by simp, rfl⟩⟩
 ·have hz' : (n != 0) = true := by simp [hz]
  by_cases h1 : n < 0 <;> by_cases h2 : d < 0
  ·refine ⟨false, ?_, hden, .inr (.inl ⟨hz', by simp [h1], by simp [h2], rfl⟩)⟩
   rw [hnum, Int.sign_eq_neg_one_of_neg h2];simp;congr 1;omega
  ·refine ⟨true, ?_, hden, .inr (.inr (.inl ⟨hz', by simp [h1], by simp [h2], rfl⟩))⟩
   rw [hnum, Int.sign_eq_one_of_pos (by omega), if_pos rfl, <- Int.neg_ediv_of_dvd dv];congr 1;omega
  ·refine ⟨true, ?_, hden, .inr (.inr (.inr (.inl ⟨hz', by simp [h1], by simp [h2], rfl⟩)))⟩
   rw [hnum, Int.sign_eq_neg_one_of_neg h2, if_pos rfl, <- Int.neg_ediv_of_dvd dv];congr 1;omega
  ·refine ⟨false, ?_, hden, .inr (.inr (.inr (.inr ⟨hz', by simp [h1], by simp [h2], rfl⟩)))⟩
   rw [hnum, Int.sign_eq_one_of_pos (by omega)];simp;congr 1;omega

set_option maxRecDepth 100000 in
theorem A7t (n d : Int) (w : World) (n1 : -9223372036854775808 <= n) (n2 : n <= 9223372036854775807) (d1 : -9223372036854775808 <= d) (d2 : d <= 9223372036854775807) :
  Calls Tryz.prog 48 #[.int .i64 n, .int .i64 d] w fun e w' =>
   e = .returned (.tuple #[.agg #[.int .i64 (Iy n d).1, .int .i64 (Iy n d).2.1], .int .i64 (Iy n d).2.2]) /\ Tr w w' := by
 by_cases hd : d = 0
 ·rw [show Iy n d = (0, 0, 16) by unfold Iy;rw [if_pos hd]]
  have hd' : (d == 0) = true := by simp [hd]
  clear hd
  go_enter Tryz.func48, Tryz.ntmps48
  go_wp2
  simp [bodyPost, results, Tryz.results48, go_sem, *]
  exact (by repeat (first | exact Tr.refl _ | assumption | apply Tr.al | apply Tr.drN | apply Tr.dr|(refine Tr.set ?_ (by first | omega|(simp;done)|(simp;omega)) _)))
 ·rw [show Iy n d = Cj (Aa n d) by unfold Iy;rw [if_neg hd]]
  obtain ⟨neg, q1, q2, hsign⟩ := A50 n d hd
  have hg0 : 0 < Int.gcd n d := Int.gcd_pos_of_ne_zero_right n hd
  have hG : ((n.natAbs.gcd d.natAbs : Nat) : Int) = (Int.gcd n d : Int) := by simp [Int.gcd]
  have nc0 : 0 <= (n.natAbs : Int) / (Int.gcd n d : Int) := Int.ediv_nonneg (by omega) (by omega)
  have nc1 : (n.natAbs : Int) / (Int.gcd n d : Int) <= n.natAbs := Int.ediv_le_self _ (by omega)
  have dd1 : (d.natAbs : Int) / (Int.gcd n d : Int) <= d.natAbs := Int.ediv_le_self _ (by omega)
  have dd0 : 1 <= (d.natAbs : Int) / (Int.gcd n d : Int) := by rw [<- q2];have := (Aa n d).den_pos;omega
  have oc := Nx (Aa n d) _ _ neg nc0 (by omega) dd0 q1 q2
  have hd' : (d == 0) = false := by simp [hd]
  clear q1 q2 hd
  generalize hN : (n.natAbs : Int) / (Int.gcd n d : Int) = NC at *
  generalize hD : (d.natAbs : Int) / (Int.gcd n d : Int) = D at *
  generalize hGG : (Int.gcd n d : Int) = G at *
  have g1 : 1 <= G := by omega
  clear hg0 hGG
  rcases oc with ⟨o1, _⟩ | ⟨_, o1, _⟩ | ⟨_, _, o4, _, o2⟩ | ⟨_, _, o4, o5, _, _, o2⟩
  ·exfalso;omega
  ·exfalso;omega
  all_goals
   rcases hsign with ⟨s1, rfl⟩ | ⟨s1, s2, s3, rfl⟩ | ⟨s1, s2, s3, rfl⟩ | ⟨s1, s2, s3, rfl⟩ | ⟨s1, s2, s3, rfl⟩
   all_goals
    go_enter Tryz.func48, Tryz.ntmps48
    go_wp2_with (first
     | (go_at_call 94;(with_reducible refine (Ge _ (by omega) (by omega) _).mono ?_);rintro e w1 ⟨rfl, rfl⟩)
     | (go_at_call 95;(with_reducible refine (Jc _ _ _ (by omega) (by omega) (by omega) (by omega)).mono ?_);rintro e w1 ⟨rfl, nn1, rfl⟩))
    refine Hx 18 (by kernel_rfl) (by kernel_rfl) ?_
    intro w3 hw3
    simp only [List.take_succ_cons, List.take_zero, List.drop_succ_cons, List.drop_zero]
    repeat (go_big_quiet_step (first
     | (go_at_call 96;exact Dt (N8 _ NC D _ o4))
     | (go_at_call 96;exact Dt (Kw _ NC D _ (by omega) (by omega) (by omega) (by omega)))))
    refine wpQuiet_nil ?_
    intro w4 ht4
    have K4 := Keep.tr (l := [(⟨w.heap.size, 0, none⟩, .int .i64 (0)), (⟨w.heap.size, 1, none⟩, .int .i64 (0))]) (by first|(simp [Keep, go_sem, *];done)|(simp [Keep, go_sem, *];omega)|(simp (disch := first | omega|(simp;omega)|(simp;done)) [Keep, go_sem, A5, A6, RowKit.frozen?_alloc_cells, A4, *];done)|(simp (disch := first | omega|(simp;omega)|(simp;done)) [Keep, go_sem, A5, A6, RowKit.frozen?_alloc_cells, A4, *];omega)) ht4
    have T4 : Tr w w4 := Tr.trans (by repeat (first | exact Tr.refl _ | apply Tr.al | apply Tr.drN | apply Tr.dr)) ht4
    simp only [Keep] at K4
    clear ht4 hw3
    go_wp2
    obtain ⟨x1, x2, x3⟩ := o2.out
    rw [x1, x2, x3]
    simp [bodyPost, results, Tryz.results48, go_sem, *]
    exact (T4.set (by simp) _).set (by simp) _
def L1 (an ad bn bd : Int) : Int × Int := if Ad an ad = true /\ Ad bn bd = true then (Bv (Aa an ad) (Aa bn bd), 0) else (0, 1)
def Ik (n d : Int) : Int × Int := if Ad n d = true then (n / d, 0) else (0, 1)
def Ki (n d : Int) : Int × Int := if Ad n d = true then (-(-n / d), 0) else (0, 1)

set_option maxRecDepth 100000 in
set_option maxHeartbeats 1000000 in
theorem A92 (an ad bn bd X Y r : Int) (w : World) (va : Ad an ad = true) (vb : Ad bn bd = true)
  (a1 : 1 <= ad) (a2 : ad <= 1152921504606846976) (a3 : -1152921504606846976 <= an) (a4 : an <= 1152921504606846976)
  (b1 : 1 <= bd) (b2 : bd <= 1152921504606846976) (b3 : -1152921504606846976 <= bn) (b4 : bn <= 1152921504606846976)
  (hX : (an.natAbs : Int) * bd = X) (hY : (bn.natAbs : Int) * ad = Y) (x1 : 0 <= X) (y1 : 0 <= Y)
  (hr : (decide (an < 0) = true /\ decide (bn < 0) = false /\ Hid (r = -1)) \/ (decide (an < 0) = false /\ decide (bn < 0) = true /\ Hid (r = 1)) \/
   (decide (an < 0) = true /\ decide (bn < 0) = true /\ ((decide (Y < X) = true /\ decide (X < Y) = false /\ Hid (r = -1)) \/ (decide (Y < X) = false /\ decide (X < Y) = true /\ Hid (r = 1)) \/ (decide (Y < X) = false /\ decide (X < Y) = false /\ Hid (r = 0)))) \/
   (decide (an < 0) = false /\ decide (bn < 0) = false /\ ((decide (X < Y) = true /\ decide (Y < X) = false /\ Hid (r = -1)) \/ (decide (X < Y) = false /\ decide (Y < X) = true /\ Hid (r = 1)) \/ (decide (X < Y) = false /\ decide (Y < X) = false /\ Hid (r = 0))))) :
  Calls Tryz.prog 55 #[.agg #[.int .i64 an, .int .i64 ad], .agg #[.int .i64 bn, .int .i64 bd]] w fun e w' =>
   e = .returned (.tuple #[.int .i64 r, .int .i64 0]) /\ Tr w w' := by
 go_enter Tryz.func55, Tryz.ntmps55
 go_wp2_with (go_at_call 52;(with_reducible refine (Au _ _ _).mono ?_);rintro e w1 ⟨rfl, ht1⟩;have T1 : Tr w w1 := Tr.trans (by repeat (first | exact Tr.refl _ | assumption | apply Tr.al | apply Tr.drN | apply Tr.dr|(refine Tr.set ?_ (by first | omega|(simp;done)|(simp;omega)) _))) ht1;have K1 := Keep.tr (l := [(⟨w.heap.size, 0, none⟩, .int .i64 (an)), (⟨w.heap.size, 1, none⟩, .int .i64 (ad)), (⟨w.heap.size + 1, 0, none⟩, .int .i64 (bn)), (⟨w.heap.size + 1, 1, none⟩, .int .i64 (bd))]) (by first|(simp [Keep, go_sem, *];done)|(simp [Keep, go_sem, *];omega)|(simp (disch := first | omega|(simp;omega)|(simp;done)) [Keep, go_sem, A5, A6, RowKit.frozen?_alloc_cells, A4, *];done)|(simp (disch := first | omega|(simp;omega)|(simp;done)) [Keep, go_sem, A5, A6, RowKit.frozen?_alloc_cells, A4, *];omega)) ht1;have hz1 := Below.size ht1;(try simp at hz1);clear ht1;simp only [Keep] at K1)
 refine Fl 14 #[.int .u64 0, .int .u64 0] 205 _ #[.int .u64 0, .int .u64 0] 205 _ (by kernel_rfl) (by kernel_rfl) rfl (Dn _ rfl rfl) rfl (Dn _ rfl rfl) (by decide) ?_
 intro w5 hw5
 have k5 := Keep.cl (l := [(⟨w.heap.size, 0, none⟩, .int .i64 (an)), (⟨w.heap.size, 1, none⟩, .int .i64 (ad)), (⟨w.heap.size + 1, 0, none⟩, .int .i64 (bn)), (⟨w.heap.size + 1, 1, none⟩, .int .i64 (bd))]) (by first|(simp [Keep, go_sem, *];done)|(simp [Keep, go_sem, *];omega)|(simp (disch := first | omega|(simp;omega)|(simp;done)) [Keep, go_sem, A5, A6, RowKit.frozen?_alloc_cells, A4, *];done)|(simp (disch := first | omega|(simp;omega)|(simp;done)) [Keep, go_sem, A5, A6, RowKit.frozen?_alloc_cells, A4, *];omega)) hw5
 simp only [Il] at k5
 simp only [List.take_succ_cons, List.take_zero, List.drop_succ_cons, List.drop_zero]
 repeat (go_big_quiet_step (first
  | (go_at_call 94;exact El (Ge _ (by omega) (by omega) _))
  | (go_at_call 109;exact Dt (Fz _ _ _ (by omega) (by omega) (by omega) (by omega)))))
 refine wpQuiet_nil ?_
 intro b b' w' hb hb' hne ht hz hz'
 have Kb := Keep.at2 hz;have Kb' := Keep.at2 hz';have K0 := Keep.tr (l := [(⟨w.heap.size, 0, none⟩, .int .i64 (an)), (⟨w.heap.size, 1, none⟩, .int .i64 (ad)), (⟨w.heap.size + 1, 0, none⟩, .int .i64 (bn)), (⟨w.heap.size + 1, 1, none⟩, .int .i64 (bd))]) (by first|(simp [Keep, go_sem, *];done)|(simp [Keep, go_sem, *];omega)|(simp (disch := first | omega|(simp;omega)|(simp;done)) [Keep, go_sem, A5, A6, RowKit.frozen?_alloc_cells, A4, *];done)|(simp (disch := first | omega|(simp;omega)|(simp;done)) [Keep, go_sem, A5, A6, RowKit.frozen?_alloc_cells, A4, *];omega)) ht;have T0 : Tr w w' := Tr.trans (by repeat (first | exact Tr.refl _ | assumption | apply Tr.al | apply Tr.drN | apply Tr.dr|(refine Tr.set ?_ (by first | omega|(simp;done)|(simp;omega)) _))) ht;have hs0 := Below.size ht;have hbl := lt_of_block hz;have hbl' := lt_of_block hz';(try simp at hb);(try simp at hb');(try simp at hs0);simp only [Keep] at Kb Kb' K0;clear ht hz hz'
 clear hw5 k5
 simp only [Act.put, List.setIfInBounds_toArray, List.set_cons_succ, List.set_cons_zero]
 go_upto_block 0 with (fail)
 rcases hr with ⟨s1, s2, hr⟩ | ⟨s1, s2, hr⟩ | ⟨s1, s2, hr⟩ | ⟨s1, s2, hr⟩
 ·refine Cz (w0 := w) [(⟨w.heap.size, 0, none⟩, .int .i64 (an)), (⟨w.heap.size, 1, none⟩, .int .i64 (ad)), (⟨w.heap.size + 1, 0, none⟩, .int .i64 (bn)), (⟨w.heap.size + 1, 1, none⟩, .int .i64 (bd)), (⟨b, 0, none⟩, .int .u64 (X / 18446744073709551616)), (⟨b, 1, none⟩, .int .u64 (X % 18446744073709551616)), (⟨b', 0, none⟩, .int .u64 (Y / 18446744073709551616)), (⟨b', 1, none⟩, .int .u64 (Y % 18446744073709551616))] (by first|(simp [Keep, go_sem, *];done)|(simp [Keep, go_sem, *];omega)|(simp (disch := first | omega|(simp;omega)|(simp;done)) [Keep, go_sem, A5, A6, RowKit.frozen?_alloc_cells, A4, *];done)|(simp (disch := first | omega|(simp;omega)|(simp;done)) [Keep, go_sem, A5, A6, RowKit.frozen?_alloc_cells, A4, *];omega)) (by repeat (first | exact Tr.refl _ | assumption | apply Tr.al | apply Tr.drN | apply Tr.dr|(refine Tr.set ?_ (by first | omega|(simp;done)|(simp;omega)) _))) ?_;intro w6 hs6 K6 T6;(try simp at hs6);simp only [Keep] at K6
  clear Kb Kb' K0 T0 K1 T1
  go_wp2_with fail
  go_ret2
  exact ⟨by rw [hr.out];rfl, (by repeat (first | exact Tr.refl _ | assumption | apply Tr.al | apply Tr.drN | apply Tr.dr|(refine Tr.set ?_ (by first | omega|(simp;done)|(simp;omega)) _)))⟩
 ·refine Cz (w0 := w) [(⟨w.heap.size, 0, none⟩, .int .i64 (an)), (⟨w.heap.size, 1, none⟩, .int .i64 (ad)), (⟨w.heap.size + 1, 0, none⟩, .int .i64 (bn)), (⟨w.heap.size + 1, 1, none⟩, .int .i64 (bd)), (⟨b, 0, none⟩, .int .u64 (X / 18446744073709551616)), (⟨b, 1, none⟩, .int .u64 (X % 18446744073709551616)), (⟨b', 0, none⟩, .int .u64 (Y / 18446744073709551616)), (⟨b', 1, none⟩, .int .u64 (Y % 18446744073709551616))] (by first|(simp [Keep, go_sem, *];done)|(simp [Keep, go_sem, *];omega)|(simp (disch := first | omega|(simp;omega)|(simp;done)) [Keep, go_sem, A5, A6, RowKit.frozen?_alloc_cells, A4, *];done)|(simp (disch := first | omega|(simp;omega)|(simp;done)) [Keep, go_sem, A5, A6, RowKit.frozen?_alloc_cells, A4, *];omega)) (by repeat (first | exact Tr.refl _ | assumption | apply Tr.al | apply Tr.drN | apply Tr.dr|(refine Tr.set ?_ (by first | omega|(simp;done)|(simp;omega)) _))) ?_;intro w6 hs6 K6 T6;(try simp at hs6);simp only [Keep] at K6
  clear Kb Kb' K0 T0 K1 T1
  go_wp2_with fail
  go_ret2
  exact ⟨by rw [hr.out];rfl, (by repeat (first | exact Tr.refl _ | assumption | apply Tr.al | apply Tr.drN | apply Tr.dr|(refine Tr.set ?_ (by first | omega|(simp;done)|(simp;omega)) _)))⟩
 ·refine Cz (w0 := w) [(⟨w.heap.size, 0, none⟩, .int .i64 (an)), (⟨w.heap.size, 1, none⟩, .int .i64 (ad)), (⟨w.heap.size + 1, 0, none⟩, .int .i64 (bn)), (⟨w.heap.size + 1, 1, none⟩, .int .i64 (bd)), (⟨b, 0, none⟩, .int .u64 (X / 18446744073709551616)), (⟨b, 1, none⟩, .int .u64 (X % 18446744073709551616)), (⟨b', 0, none⟩, .int .u64 (Y / 18446744073709551616)), (⟨b', 1, none⟩, .int .u64 (Y % 18446744073709551616))] (by first|(simp [Keep, go_sem, *];done)|(simp [Keep, go_sem, *];omega)|(simp (disch := first | omega|(simp;omega)|(simp;done)) [Keep, go_sem, A5, A6, RowKit.frozen?_alloc_cells, A4, *];done)|(simp (disch := first | omega|(simp;omega)|(simp;done)) [Keep, go_sem, A5, A6, RowKit.frozen?_alloc_cells, A4, *];omega)) (by repeat (first | exact Tr.refl _ | assumption | apply Tr.al | apply Tr.drN | apply Tr.dr|(refine Tr.set ?_ (by first | omega|(simp;done)|(simp;omega)) _))) ?_;intro w6 hs6 K6 T6;(try simp at hs6);simp only [Keep] at K6
  clear Kb Kb' K0 T0 K1 T1
  go_upto_region 10 with (fail)
  refine Cz (w0 := w) [(⟨b, 0, none⟩, .int .u64 (Y / 18446744073709551616)), (⟨b, 1, none⟩, .int .u64 (Y % 18446744073709551616)), (⟨b', 0, none⟩, .int .u64 (X / 18446744073709551616)), (⟨b', 1, none⟩, .int .u64 (X % 18446744073709551616))] (by first|(simp [Keep, go_sem, *];done)|(simp [Keep, go_sem, *];omega)|(simp (disch := first | omega|(simp;omega)|(simp;done)) [Keep, go_sem, A5, A6, RowKit.frozen?_alloc_cells, A4, *];done)|(simp (disch := first | omega|(simp;omega)|(simp;done)) [Keep, go_sem, A5, A6, RowKit.frozen?_alloc_cells, A4, *];omega)) (by repeat (first | exact Tr.refl _ | assumption | apply Tr.al | apply Tr.drN | apply Tr.dr|(refine Tr.set ?_ (by first | omega|(simp;done)|(simp;omega)) _))) ?_;intro w7 hs7 K7 T7;(try simp at hs7);simp only [Keep] at K7
  clear K6 T6
  rcases hr with ⟨s3, s4, hr⟩ | ⟨s3, s4, hr⟩ | ⟨s3, s4, hr⟩
  all_goals
   go_wp2_with (go_at_call 110;(with_reducible refine (M6 _ _ (by omega) (by omega) _).mono ?_);rintro e w1 ⟨rfl, ht1⟩;have T1 : Tr w w1 := Tr.trans (by repeat (first | exact Tr.refl _ | assumption | apply Tr.al | apply Tr.drN | apply Tr.dr|(refine Tr.set ?_ (by first | omega|(simp;done)|(simp;omega)) _))) ht1;have K1 := Keep.tr (l := [(⟨b, 0, none⟩, .int .u64 (Y / 18446744073709551616)), (⟨b, 1, none⟩, .int .u64 (Y % 18446744073709551616)), (⟨b', 0, none⟩, .int .u64 (X / 18446744073709551616)), (⟨b', 1, none⟩, .int .u64 (X % 18446744073709551616))]) (by first|(simp [Keep, go_sem, *];done)|(simp [Keep, go_sem, *];omega)|(simp (disch := first | omega|(simp;omega)|(simp;done)) [Keep, go_sem, A5, A6, RowKit.frozen?_alloc_cells, A4, *];done)|(simp (disch := first | omega|(simp;omega)|(simp;done)) [Keep, go_sem, A5, A6, RowKit.frozen?_alloc_cells, A4, *];omega)) ht1;have hz1 := Below.size ht1;(try simp at hz1);clear ht1;simp only [Keep] at K1)
   go_ret2
   exact ⟨by rw [hr.out];rfl, (by repeat (first | exact Tr.refl _ | assumption | apply Tr.al | apply Tr.drN | apply Tr.dr|(refine Tr.set ?_ (by first | omega|(simp;done)|(simp;omega)) _)))⟩
 ·refine Cz (w0 := w) [(⟨w.heap.size, 0, none⟩, .int .i64 (an)), (⟨w.heap.size, 1, none⟩, .int .i64 (ad)), (⟨w.heap.size + 1, 0, none⟩, .int .i64 (bn)), (⟨w.heap.size + 1, 1, none⟩, .int .i64 (bd)), (⟨b, 0, none⟩, .int .u64 (X / 18446744073709551616)), (⟨b, 1, none⟩, .int .u64 (X % 18446744073709551616)), (⟨b', 0, none⟩, .int .u64 (Y / 18446744073709551616)), (⟨b', 1, none⟩, .int .u64 (Y % 18446744073709551616))] (by first|(simp [Keep, go_sem, *];done)|(simp [Keep, go_sem, *];omega)|(simp (disch := first | omega|(simp;omega)|(simp;done)) [Keep, go_sem, A5, A6, RowKit.frozen?_alloc_cells, A4, *];done)|(simp (disch := first | omega|(simp;omega)|(simp;done)) [Keep, go_sem, A5, A6, RowKit.frozen?_alloc_cells, A4, *];omega)) (by repeat (first | exact Tr.refl _ | assumption | apply Tr.al | apply Tr.drN | apply Tr.dr|(refine Tr.set ?_ (by first | omega|(simp;done)|(simp;omega)) _))) ?_;intro w6 hs6 K6 T6;(try simp at hs6);simp only [Keep] at K6
  clear Kb Kb' K0 T0 K1 T1
  rcases hr with ⟨s3, s4, hr⟩ | ⟨s3, s4, hr⟩ | ⟨s3, s4, hr⟩
  all_goals
   go_wp2_with (go_at_call 110;(with_reducible refine (M6 _ _ (by omega) (by omega) _).mono ?_);rintro e w1 ⟨rfl, ht1⟩;have T1 : Tr w w1 := Tr.trans (by repeat (first | exact Tr.refl _ | assumption | apply Tr.al | apply Tr.drN | apply Tr.dr|(refine Tr.set ?_ (by first | omega|(simp;done)|(simp;omega)) _))) ht1;have K1 := Keep.tr (l := [(⟨w.heap.size, 0, none⟩, .int .i64 (an)), (⟨w.heap.size, 1, none⟩, .int .i64 (ad)), (⟨w.heap.size + 1, 0, none⟩, .int .i64 (bn)), (⟨w.heap.size + 1, 1, none⟩, .int .i64 (bd)), (⟨b, 0, none⟩, .int .u64 (X / 18446744073709551616)), (⟨b, 1, none⟩, .int .u64 (X % 18446744073709551616)), (⟨b', 0, none⟩, .int .u64 (Y / 18446744073709551616)), (⟨b', 1, none⟩, .int .u64 (Y % 18446744073709551616))]) (by first|(simp [Keep, go_sem, *];done)|(simp [Keep, go_sem, *];omega)|(simp (disch := first | omega|(simp;omega)|(simp;done)) [Keep, go_sem, A5, A6, RowKit.frozen?_alloc_cells, A4, *];done)|(simp (disch := first | omega|(simp;omega)|(simp;done)) [Keep, go_sem, A5, A6, RowKit.frozen?_alloc_cells, A4, *];omega)) ht1;have hz1 := Below.size ht1;(try simp at hz1);clear ht1;simp only [Keep] at K1)
   go_ret2
   exact ⟨by rw [hr.out];rfl, (by repeat (first | exact Tr.refl _ | assumption | apply Tr.al | apply Tr.drN | apply Tr.dr|(refine Tr.set ?_ (by first | omega|(simp;done)|(simp;omega)) _)))⟩

theorem Aaf (an ad bn bd : Int) (w : World) :
  Calls Tryz.prog 55 #[.agg #[.int .i64 an, .int .i64 ad], .agg #[.int .i64 bn, .int .i64 bd]] w fun e w' =>
   e = .returned (.tuple #[.int .i64 (L1 an ad bn bd).1, .int .i64 (L1 an ad bn bd).2]) /\ Tr w w' := by
 by_cases va : Ad an ad = true
 ·by_cases vb : Ad bn bd = true
  ·obtain ⟨a1, a2, a3, a4, _⟩ := validB_spec.1 va
   obtain ⟨b1, b2, b3, b4, _⟩ := validB_spec.1 vb
   rw [show L1 an ad bn bd = (Bv (Aa an ad) (Aa bn bd), 0) by unfold L1;rw [if_pos ⟨va, vb⟩]]
   have x0 : 0 <= (an.natAbs : Int) * bd := Int.mul_nonneg (by omega) (by omega)
   have y0 : 0 <= (bn.natAbs : Int) * ad := Int.mul_nonneg (by omega) (by omega)
   refine A92 an ad bn bd _ _ _ w va vb a1 a2 a3 a4 b1 b2 b3 b4 rfl rfl x0 y0 ?_
   have l1 := A1a va vb
   have l2 := A1a vb va
   unfold Bv
   simp only [l1, l2]
   by_cases h1 : an < 0
   ·have e1 : an * bd = -((an.natAbs : Int) * bd) := by rw [<- Int.neg_mul];congr 1;omega
    by_cases h2 : bn < 0
    ·have e2 : bn * ad = -((bn.natAbs : Int) * ad) := by rw [<- Int.neg_mul];congr 1;omega
     rw [e1, e2]
     generalize (an.natAbs : Int) * bd = X at *
     generalize (bn.natAbs : Int) * ad = Y at *
     refine .inr (.inr (.inl ⟨by simp [h1], by simp [h2], ?_⟩))
     by_cases h3 : Y < X
     ·exact .inl ⟨by simp [h3], by simp;omega, by show _ = _;rw [if_pos (by omega)]⟩
     ·by_cases h4 : X < Y
      ·exact .inr (.inl ⟨by simp [h3], by simp [h4], by show _ = _;rw [if_neg (by omega), if_pos (by omega)]⟩)
      ·exact .inr (.inr ⟨by simp [h3], by simp [h4], by show _ = _;rw [if_neg (by omega), if_neg (by omega)]⟩)
    ·have e2 : bn * ad = ((bn.natAbs : Int) * ad) := by congr 1;omega
     have e3 : 1 <= (an.natAbs : Int) * bd := Int.mul_pos (by omega) (by omega)
     rw [e1, e2]
     exact .inl ⟨by simp [h1], by simp [h2], by show _ = _;rw [if_pos (by omega)]⟩
   ·have e1 : an * bd = ((an.natAbs : Int) * bd) := by congr 1;omega
    by_cases h2 : bn < 0
    ·have e2 : bn * ad = -((bn.natAbs : Int) * ad) := by rw [<- Int.neg_mul];congr 1;omega
     have e3 : 1 <= (bn.natAbs : Int) * ad := Int.mul_pos (by omega) (by omega)
     rw [e1, e2]
     exact .inr (.inl ⟨by simp [h1], by simp [h2], by show _ = _;rw [if_neg (by omega), if_pos (by omega)]⟩)
    ·have e2 : bn * ad = ((bn.natAbs : Int) * ad) := by congr 1;omega
     rw [e1, e2]
     generalize (an.natAbs : Int) * bd = X at *
     generalize (bn.natAbs : Int) * ad = Y at *
     refine .inr (.inr (.inr ⟨by simp [h1], by simp [h2], ?_⟩))
     by_cases h3 : X < Y
     ·exact .inl ⟨by simp [h3], by simp;omega, by show _ = _;rw [if_pos (by omega)]⟩
     ·by_cases h4 : Y < X
      ·exact .inr (.inl ⟨by simp [h3], by simp [h4], by show _ = _;rw [if_neg (by omega), if_pos (by omega)]⟩)
      ·exact .inr (.inr ⟨by simp [h3], by simp [h4], by show _ = _;rw [if_neg (by omega), if_neg (by omega)]⟩)
  ·have vb' : Ad bn bd = false := by simpa using vb
   rw [show L1 an ad bn bd = (0, 1) by unfold L1;rw [if_neg (fun h => vb h.2)]]
   clear vb
   go_enter Tryz.func55, Tryz.ntmps55
   go_wp2_with (go_at_call 52;(with_reducible refine (Au _ _ _).mono ?_);rintro e w1 ⟨rfl, ht1⟩;have T1 : Tr w w1 := Tr.trans (by repeat (first | exact Tr.refl _ | assumption | apply Tr.al | apply Tr.drN | apply Tr.dr|(refine Tr.set ?_ (by first | omega|(simp;done)|(simp;omega)) _))) ht1;have K1 := Keep.tr (l := [(⟨w.heap.size, 0, none⟩, .int .i64 (an)), (⟨w.heap.size, 1, none⟩, .int .i64 (ad)), (⟨w.heap.size + 1, 0, none⟩, .int .i64 (bn)), (⟨w.heap.size + 1, 1, none⟩, .int .i64 (bd))]) (by first|(simp [Keep, go_sem, *];done)|(simp [Keep, go_sem, *];omega)|(simp (disch := first | omega|(simp;omega)|(simp;done)) [Keep, go_sem, A5, A6, RowKit.frozen?_alloc_cells, A4, *];done)|(simp (disch := first | omega|(simp;omega)|(simp;done)) [Keep, go_sem, A5, A6, RowKit.frozen?_alloc_cells, A4, *];omega)) ht1;have hz1 := Below.size ht1;(try simp at hz1);clear ht1;simp only [Keep] at K1)
   go_ret2
   exact ⟨rfl, (by repeat (first | exact Tr.refl _ | assumption | apply Tr.al | apply Tr.drN | apply Tr.dr|(refine Tr.set ?_ (by first | omega|(simp;done)|(simp;omega)) _)))⟩
 ·have va' : Ad an ad = false := by simpa using va
  rw [show L1 an ad bn bd = (0, 1) by unfold L1;rw [if_neg (fun h => va h.1)]]
  clear va
  go_enter Tryz.func55, Tryz.ntmps55
  go_wp2_with (go_at_call 52;(with_reducible refine (Au _ _ _).mono ?_);rintro e w1 ⟨rfl, ht1⟩;have T1 : Tr w w1 := Tr.trans (by repeat (first | exact Tr.refl _ | assumption | apply Tr.al | apply Tr.drN | apply Tr.dr|(refine Tr.set ?_ (by first | omega|(simp;done)|(simp;omega)) _))) ht1;have K1 := Keep.tr (l := [(⟨w.heap.size, 0, none⟩, .int .i64 (an)), (⟨w.heap.size, 1, none⟩, .int .i64 (ad)), (⟨w.heap.size + 1, 0, none⟩, .int .i64 (bn)), (⟨w.heap.size + 1, 1, none⟩, .int .i64 (bd))]) (by first|(simp [Keep, go_sem, *];done)|(simp [Keep, go_sem, *];omega)|(simp (disch := first | omega|(simp;omega)|(simp;done)) [Keep, go_sem, A5, A6, RowKit.frozen?_alloc_cells, A4, *];done)|(simp (disch := first | omega|(simp;omega)|(simp;done)) [Keep, go_sem, A5, A6, RowKit.frozen?_alloc_cells, A4, *];omega)) ht1;have hz1 := Below.size ht1;(try simp at hz1);clear ht1;simp only [Keep] at K1)
  go_ret2
  exact ⟨rfl, (by repeat (first | exact Tr.refl _ | assumption | apply Tr.al | apply Tr.drN | apply Tr.dr|(refine Tr.set ?_ (by first | omega|(simp;done)|(simp;omega)) _)))⟩

theorem U2 (n d : Int) (hn : n < 0) (hd : 1 <= d) : n.tdiv d = -(-n / d) /\ n.tmod d = -(-n % d) := by
 obtain ⟨m, hm⟩ := Int.eq_ofNat_of_zero_le (show 0 <= -n by omega)
 obtain ⟨k, rfl⟩ := Int.eq_ofNat_of_zero_le (show 0 <= d by omega)
 have : n = -(m : Int) := by omega
 subst this
 rw [Int.neg_tdiv, Int.neg_tmod, Int.neg_neg]
 exact ⟨rfl, rfl⟩
theorem W0 (n d : Int) (w : World) (n1 : -1152921504606846976 <= n) (n2 : n <= 1152921504606846976) (d1 : 1 <= d) (d2 : d <= 1152921504606846976) :
  Calls Tryz.prog 160 #[.int .i64 n, .int .i64 d] w fun e w' => e = .returned (.int .i64 (n / d)) /\ w = w' := by
 by_cases h : 0 <= n
 ·have q0 : 0 <= n / d := Int.ediv_nonneg h (by omega)
  have q1 : n / d <= n := Int.ediv_le_self _ h
  have r0 : 0 <= n % d := Int.emod_nonneg _ (by omega)
  have r1 : n % d < d := Int.emod_lt_of_pos _ (by omega)
  go_enter Tryz.func160, Tryz.ntmps160
  go_wp2
  go_ret
  exact ⟨rfl, rfl⟩
 ·obtain ⟨e1, e2⟩ := U2 n d (by omega) d1
  have q0 : 0 <= -n / d := Int.ediv_nonneg (by omega) (by omega)
  have q1 : -n / d <= -n := Int.ediv_le_self _ (by omega)
  have r0 : 0 <= -n % d := Int.emod_nonneg _ (by omega)
  have r1 : -n % d < d := Int.emod_lt_of_pos _ (by omega)
  have key : -n = -n / d * d + -n % d := (Gu (-n) d (by omega)).1
  have res : n / d = if -n % d = 0 then -(-n / d) else -(-n / d) - 1 := by
   split
   ·refine (J5 n d (-(-n / d)) 0 ?_ (by omega) (by omega)).1
    rw [Int.neg_mul];omega
   ·refine (J5 n d (-(-n / d) - 1) (d - -n % d) ?_ (by omega) (by omega)).1
    rw [Int.sub_mul, Int.neg_mul];omega
  have HR := Lib.hid res
  clear res key
  have g4 : ¬ d = 0 := by omega
  generalize -n / d = q at *
  generalize -n % d = r at *
  by_cases hr : r = 0
  ·subst hr
   go_enter Tryz.func160, Tryz.ntmps160
   go_wp2
   go_ret
   exact ⟨Pk (by rw [HR.out];simp), rfl⟩
  ·go_enter Tryz.func160, Tryz.ntmps160
   go_wp2
   go_ret
   exact ⟨Pk (by rw [HR.out, if_neg hr]), rfl⟩

theorem A4z (n d : Int) (w : World) :
  Calls Tryz.prog 280 #[.agg #[.int .i64 n, .int .i64 d]] w fun e w' => e = .returned (.tuple #[.int .i64 (Ik n d).1, .int .i64 (Ik n d).2]) /\ Tr w w' := by
 by_cases va : Ad n d = true
 ·obtain ⟨a1, a2, a3, a4, _⟩ := validB_spec.1 va
  rw [show Ik n d = (n / d, 0) by unfold Ik;rw [if_pos va]]
  go_enter Tryz.func280, Tryz.ntmps280
  go_wp2_with (first
   | (go_at_call 52;(with_reducible refine (Au _ _ _).mono ?_);rintro e w1 ⟨rfl, ht1⟩;have T1 : Tr w w1 := Tr.trans (by repeat (first | exact Tr.refl _ | assumption | apply Tr.al | apply Tr.drN | apply Tr.dr|(refine Tr.set ?_ (by first | omega|(simp;done)|(simp;omega)) _))) ht1;have K1 := Keep.tr (l := [(⟨w.heap.size, 0, none⟩, .int .i64 (n)), (⟨w.heap.size, 1, none⟩, .int .i64 (d))]) (by first|(simp [Keep, go_sem, *];done)|(simp [Keep, go_sem, *];omega)|(simp (disch := first | omega|(simp;omega)|(simp;done)) [Keep, go_sem, A5, A6, RowKit.frozen?_alloc_cells, A4, *];done)|(simp (disch := first | omega|(simp;omega)|(simp;done)) [Keep, go_sem, A5, A6, RowKit.frozen?_alloc_cells, A4, *];omega)) ht1;have hz1 := Below.size ht1;(try simp at hz1);clear ht1;simp only [Keep] at K1)
   | (go_at_call 160;(with_reducible refine (W0 _ _ _ (by omega) (by omega) (by omega) (by omega)).mono ?_);rintro e w3 ⟨rfl, rfl⟩))
  go_ret2
  exact ⟨rfl, (by repeat (first | exact Tr.refl _ | assumption | apply Tr.al | apply Tr.drN | apply Tr.dr|(refine Tr.set ?_ (by first | omega|(simp;done)|(simp;omega)) _)))⟩
 ·have va' : Ad n d = false := by simpa using va
  rw [show Ik n d = (0, 1) by unfold Ik;rw [if_neg va]]
  clear va
  go_enter Tryz.func280, Tryz.ntmps280
  go_wp2_with (go_at_call 52;(with_reducible refine (Au _ _ _).mono ?_);rintro e w1 ⟨rfl, ht1⟩;have T1 : Tr w w1 := Tr.trans (by repeat (first | exact Tr.refl _ | assumption | apply Tr.al | apply Tr.drN | apply Tr.dr|(refine Tr.set ?_ (by first | omega|(simp;done)|(simp;omega)) _))) ht1;have K1 := Keep.tr (l := [(⟨w.heap.size, 0, none⟩, .int .i64 (n)), (⟨w.heap.size, 1, none⟩, .int .i64 (d))]) (by first|(simp [Keep, go_sem, *];done)|(simp [Keep, go_sem, *];omega)|(simp (disch := first | omega|(simp;omega)|(simp;done)) [Keep, go_sem, A5, A6, RowKit.frozen?_alloc_cells, A4, *];done)|(simp (disch := first | omega|(simp;omega)|(simp;done)) [Keep, go_sem, A5, A6, RowKit.frozen?_alloc_cells, A4, *];omega)) ht1;have hz1 := Below.size ht1;(try simp at hz1);clear ht1;simp only [Keep] at K1)
  go_ret2
  exact ⟨rfl, (by repeat (first | exact Tr.refl _ | assumption | apply Tr.al | apply Tr.drN | apply Tr.dr|(refine Tr.set ?_ (by first | omega|(simp;done)|(simp;omega)) _)))⟩
theorem A6y (n d : Int) (w : World) :
  Calls Tryz.prog 91 #[.agg #[.int .i64 n, .int .i64 d]] w fun e w' => e = .returned (.tuple #[.int .i64 (Ki n d).1, .int .i64 (Ki n d).2]) /\ Tr w w' := by
 by_cases va : Ad n d = true
 ·obtain ⟨a1, a2, a3, a4, _⟩ := validB_spec.1 va
  rw [show Ki n d = (-(-n / d), 0) by unfold Ki;rw [if_pos va]]
  have q0 : -1152921504606846976 <= -n / d := by
   by_cases h : 0 <= -n
   ·have := Int.ediv_nonneg h (show 0 <= d by omega);omega
   ·exact A5k _ _ _ (by omega) (by omega)
  have q1 : -n / d <= 1152921504606846976 := by
   by_cases h : 0 <= -n
   ·have := Int.ediv_le_self d h;omega
   ·have := Oz (-n) d 0 (by omega) (by omega);omega
  go_enter Tryz.func91, Tryz.ntmps91
  go_wp2_with (first
   | (go_at_call 52;(with_reducible refine (Au _ _ _).mono ?_);rintro e w1 ⟨rfl, ht1⟩;have T1 : Tr w w1 := Tr.trans (by repeat (first | exact Tr.refl _ | assumption | apply Tr.al | apply Tr.drN | apply Tr.dr|(refine Tr.set ?_ (by first | omega|(simp;done)|(simp;omega)) _))) ht1;have K1 := Keep.tr (l := [(⟨w.heap.size, 0, none⟩, .int .i64 (n)), (⟨w.heap.size, 1, none⟩, .int .i64 (d))]) (by first|(simp [Keep, go_sem, *];done)|(simp [Keep, go_sem, *];omega)|(simp (disch := first | omega|(simp;omega)|(simp;done)) [Keep, go_sem, A5, A6, RowKit.frozen?_alloc_cells, A4, *];done)|(simp (disch := first | omega|(simp;omega)|(simp;done)) [Keep, go_sem, A5, A6, RowKit.frozen?_alloc_cells, A4, *];omega)) ht1;have hz1 := Below.size ht1;(try simp at hz1);clear ht1;simp only [Keep] at K1)
   | (go_at_call 160;(with_reducible refine (W0 _ _ _ (by omega) (by omega) (by omega) (by omega)).mono ?_);rintro e w3 ⟨rfl, rfl⟩))
  go_ret2
  exact ⟨rfl, (by repeat (first | exact Tr.refl _ | assumption | apply Tr.al | apply Tr.drN | apply Tr.dr|(refine Tr.set ?_ (by first | omega|(simp;done)|(simp;omega)) _)))⟩
 ·have va' : Ad n d = false := by simpa using va
  rw [show Ki n d = (0, 1) by unfold Ki;rw [if_neg va]]
  clear va
  go_enter Tryz.func91, Tryz.ntmps91
  go_wp2_with (go_at_call 52;(with_reducible refine (Au _ _ _).mono ?_);rintro e w1 ⟨rfl, ht1⟩;have T1 : Tr w w1 := Tr.trans (by repeat (first | exact Tr.refl _ | assumption | apply Tr.al | apply Tr.drN | apply Tr.dr|(refine Tr.set ?_ (by first | omega|(simp;done)|(simp;omega)) _))) ht1;have K1 := Keep.tr (l := [(⟨w.heap.size, 0, none⟩, .int .i64 (n)), (⟨w.heap.size, 1, none⟩, .int .i64 (d))]) (by first|(simp [Keep, go_sem, *];done)|(simp [Keep, go_sem, *];omega)|(simp (disch := first | omega|(simp;omega)|(simp;done)) [Keep, go_sem, A5, A6, RowKit.frozen?_alloc_cells, A4, *];done)|(simp (disch := first | omega|(simp;omega)|(simp;done)) [Keep, go_sem, A5, A6, RowKit.frozen?_alloc_cells, A4, *];omega)) ht1;have hz1 := Below.size ht1;(try simp at hz1);clear ht1;simp only [Keep] at K1)
  go_ret2
  exact ⟨rfl, (by repeat (first | exact Tr.refl _ | assumption | apply Tr.al | apply Tr.drN | apply Tr.dr|(refine Tr.set ?_ (by first | omega|(simp;done)|(simp;omega)) _)))⟩
end Go.Proofs.YtbceahipbdmocaaGreat
namespace Go.Proofs.YtbceahipbdmocaaGreat
end Go.Proofs.YtbceahipbdmocaaGreat
