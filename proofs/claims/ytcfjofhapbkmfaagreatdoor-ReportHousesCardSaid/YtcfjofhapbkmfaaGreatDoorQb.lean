/- Contracts: package ratio's over, Valid, Make, Add, Sub, Mul, Div, Cmp, Floor, Ceil. No conditions but those of each statement. -/
import Derived.Test.YtcfjofhapbkmfaaGreatDoorQa
import Derived.Test.YtcfjofhapbkmfaaGreatDoorMd
import Derived.Laws.StructEq
set_option linter.unusedSimpArgs false
set_option linter.unusedVariables false
namespace Go.Proofs.YtcfjofhapbkmfaaGreatDoor
open Go Go.RowKit
theorem X3 (hi lo y : Int) (h0 : 0 <= hi) (h0' : hi < y) (h1 : 0 <= lo) (h2 : lo < 18446744073709551616) (h4 : y < 18446744073709551616) : Fn0 Tryz.prog 240 [.val (.int .u64 hi), .val (.int .u64 lo), .val (.int .u64 y)] (.tup [.val (.int .u64 ((hi * 18446744073709551616 + lo) / y)), .val (.int .u64 ((hi * 18446744073709551616 + lo) % y))]) := by
 refine Fn0.of_calls (us := [.int .u64 hi, .int .u64 lo, .int .u64 y]) ⟨_, Tryz.func240, rfl, rfl⟩ rfl (fun w L => Fp w L An _ _) fun w => ?_
 exact Uk hi lo y w h0 h0' h1 h2 h4
theorem R6 (p b : Int) (hb : 1 <= b) (hp : 0 <= p) :
  p / 18446744073709551616 / b = p / b / 18446744073709551616 /\ (p / 18446744073709551616 % b * 18446744073709551616 + p % 18446744073709551616) / b = p / b % 18446744073709551616 /\ (p / 18446744073709551616 % b * 18446744073709551616 + p % 18446744073709551616) % b = p % b := by
 obtain ⟨e1, e2, e3⟩ := Er (p / 18446744073709551616) b (by omega)
 obtain ⟨f1, f2, f3⟩ := Er (p / 18446744073709551616 % b * 18446744073709551616 + p % 18446744073709551616) b (by omega)
 generalize p / 18446744073709551616 / b = H at *
 generalize p / 18446744073709551616 % b = R at *
 have hL0 : 0 <= (R * 18446744073709551616 + p % 18446744073709551616) / b := Int.ediv_nonneg (by omega) (by omega)
 have hL1 : (R * 18446744073709551616 + p % 18446744073709551616) / b < 18446744073709551616 := Lx _ _ _ (by omega) (by omega)
 generalize hL : (R * 18446744073709551616 + p % 18446744073709551616) / b = L at *
 generalize hS : (R * 18446744073709551616 + p % 18446744073709551616) % b = Q at *
 have key : p = (H * 18446744073709551616 + L) * b + Q := by
  rw [Int.add_mul, Int.mul_right_comm]
  generalize H * b = x at *
  generalize L * b = y at *
  omega
 obtain ⟨d1, d2⟩ := H8 p b (H * 18446744073709551616 + L) Q key f2 f3
 rw [d1, d2]
 omega
theorem S5 (p b : Int) (hp : 0 <= p) (hp' : p < 340282366920938463463374607431768211456) (hb : 1 <= b) (hb' : b < 18446744073709551616) : Fn0 Tryz.prog 229 [A6 (wR p), uA b] (.tup [A6 (wR (p / b)), uA (p % b)]) := by
 obtain ⟨e1, e2, e3⟩ := R6 p b hb hp
 have r0 := Int.emod_nonneg (p / 18446744073709551616) (show b ≠ 0 by omega)
 have r1 := Int.emod_lt_of_pos (p / 18446744073709551616) (show 0 < b by omega)
 have c := X3 (p / 18446744073709551616 % b) (p % 18446744073709551616) b r0 r1 (by omega) (by omega) hb'
 rw [e2, e3] at c
 unfold wR
 rw [<- e1]
 have h0 : 0 <= p / 18446744073709551616 /\ p / 18446744073709551616 <= 18446744073709551615 := by omega
 generalize p / b % 18446744073709551616 = u at *
 generalize p % b = v at *
 generalize p % 18446744073709551616 = lo at *
 generalize p / 18446744073709551616 = hi at *
 refine Fn0.of Tryz.func229 Tryz.ntmps229 rfl rfl rfl ?_
 simp only [A0]
 repeat' (first
  | refine W ?_
  | refine Y ?_|(apply S.remU;(iterate 3 exact rfl);omega)|(apply S.quoU;(iterate 3 exact rfl);omega)|(apply T.draw 13 A3 (by decide +kernel);simp only [td])
  | refine V ?_
  | (refine W2 ?_ ?_ <;> intro hc))
 all_goals exact ⟨.inr rfl, [A6 [.val (.int .u64 (hi / b)), .val (.int .u64 u)], .val (.int .u64 v)], by rw [Tryz.results229];exact .cons (Res.row [.val (.int .u64 (hi / b)), .val (.int .u64 u)] rfl rfl rfl rfl rfl) (.cons (.tmp rfl) .nil), .tup (.cons (.agg (B7 [.val (.int .u64 (hi / b)), .val (.int .u64 u)])) (.cons (.one (.lf _)) .nil))⟩
theorem Et (a b : Int) (ha : 0 <= a) (ha' : a < 18446744073709551616) (hb : 0 <= b) (hb' : b < 18446744073709551616) : Fn0 Tryz.prog 139 [uA a, uA b] (uA (Int.gcd a b : Nat)) := by
 obtain ⟨a, rfl⟩ := Int.eq_ofNat_of_zero_le ha
 obtain ⟨b, rfl⟩ := Int.eq_ofNat_of_zero_le hb
 exact A0v a b (by omega) (by omega)
theorem Dm (a b : Int) (ha : 0 <= a) (ha' : a < 18446744073709551616) (hb : 0 <= b) (hb' : b < 18446744073709551616) : Fn0 Tryz.prog 86 [uA a, uA b] (A6 (wR (a * b))) := by
 obtain ⟨a, rfl⟩ := Int.eq_ofNat_of_zero_le ha
 obtain ⟨b, rfl⟩ := Int.eq_ofNat_of_zero_le hb
 have := Ts a b (by omega) (by omega)
 rwa [Int.natCast_mul] at this
theorem Bb {n : Int} (h : 0 <= n /\ n < 18446744073709551616) : IntKind.u64.wrap n = n := by rw [Ax];omega
theorem Ks (n d : Int) : Fn0 Tryz.prog 85 [A6 [.i n, .i d]] (.b (Bd n d)) := by
 by_cases h : 1 <= d /\ d <= 1152921504606846976 /\ -1152921504606846976 <= n /\ n <= 1152921504606846976
 ·obtain ⟨h1, h2, h3, h4⟩ := h
  have c1 := Cr n (by omega) (by omega)
  have c2 := Et n.natAbs d (by omega) (by omega) (by omega) (by omega)
  have e : Int.gcd (n.natAbs : Int) d = Int.gcd n d := by simp [Int.gcd]
  rw [e] at c2
  have hv : Bd n d = decide ((Int.gcd n d : Nat) = (1 : Int)) := by
   rw [Bool.eq_iff_iff, validB_spec, decide_eq_true_iff]
   omega
  rw [hv]
  generalize Int.gcd n d = g at *
  have q1 : d >= 1 := h1
  have q2 : n >= -1152921504606846976 := h3
  refine Fn0.of Tryz.func85 Tryz.ntmps85 rfl rfl rfl ?_
  simp only [A0]
  repeat' (first
   | refine W ?_
   | refine Y ?_|(apply S.convW;exact rfl;exact Bb (by omega);exact rfl)|(apply T.drawAll A3 (by decide +kernel))|(apply T.draw 29 A3 (by decide +kernel);simp only [td])
   | refine V ?_
   | (refine W2 ?_ ?_ <;> intro hc))
  all_goals exact A7 (by simp) Tryz.results85 rfl rfl
 ·rw [U0 fun k => h ⟨k.1, k.2.1, k.2.2.1, k.2.2.2.1⟩]
  refine Fn0.of Tryz.func85 Tryz.ntmps85 rfl rfl rfl ?_
  simp only [A0]
  repeat' (first
   | refine W ?_
   | refine Y ?_|(apply S.convW;exact rfl;exact Bb (by omega);exact rfl)|(apply T.drawAll A3 (by decide +kernel))|(apply T.draw 29 A3 (by decide +kernel);simp only [td])
   | refine V ?_
   | (refine W2 ?_ ?_ <;> intro hc))
  all_goals first
   | exact A7 (by simp) Tryz.results85 rfl (congrArg Value.bool (by first | rfl | exact decide_eq_false (by omega)))
   | (exfalso;exact h ⟨by omega, by omega, by omega, by omega⟩)
theorem Dy {q : Rat} (h : Fits q) : Fn0 Tryz.prog 85 [A6 [.i q.num, .i q.den]] (.b true) := by
 have := Ks q.num q.den
 rwa [h.valid] at this
abbrev big : AV := .tup [A6 [.i 0, .i 0], .i 5]
def Gg (q : Rat) : AV := if Fits q then frE q 0 else big
theorem Fa {q : Rat} (h : Fits q) : Gg q = frE q 0 := if_pos h
theorem Px {q : Rat} {neg : Bool} {n d : Int} (h0 : 0 <= n) (hn : q.num = if neg then -n else n) (hd : (q.den : Int) = d) : Gg q = sgO neg n d := by
 have k : Fits q ↔ n <= 1152921504606846976 /\ d <= 1152921504606846976 := by
  unfold Fits
  rw [hn]
  cases neg <;> simp <;> omega
 unfold Gg sgO
 by_cases h : Fits q
 ·rw [if_pos h, if_pos (k.1 h), <- hn, <- hd]
 ·rw [if_neg h, if_neg fun q => h (k.2 q)]
theorem Q8 (neg : Bool) (n d : Int) : ∃ u v e : Int, sgO neg n d = .tup [A6 [.i u, .i v], .i e] := by
 unfold sgO
 split
 ·exact ⟨_, _, _, rfl⟩
 ·exact ⟨_, _, _, rfl⟩
theorem Cg (a b : Int) (h0 : 0 <= a) (h1 : a <= 1152921504606846976) (h2 : 0 <= b) (h3 : b <= 1152921504606846976) : 0 <= a * b /\ a * b <= 1329227995784915872903807060280344576 := by
 refine ⟨Int.mul_nonneg h0 h2, ?_⟩
 have := Int.mul_le_mul h1 h3 h2 (by omega)
 omega
/-! ### Two words are compared -/
class HasEqW (P : Program) (t : TypeId) : Prop where
 out : ∀ (o : Oper) (η : Operand -> Value) (w : World) (x y : Operand) (u : TypeId) (a b c d : Int), o.op = .binOp .eql t x y u -> η x = .agg #[.int .u64 a, .int .u64 b] -> η y = .agg #[.int .u64 c, .int .u64 d] -> (execOp η o).run P w = .ok (.value (.bool (decide (a = c /\ b = d)))) w
section
variable {P : Program} {N : Nat} {ops : Array Oper} {m : Option Nat} {K : Tm -> AH -> Prop} {tm : Tm} {H : AH} {rest : List Oper} {ty : TypeId} {pos : String} {af : Array Edge} {d : Nat} {t : TypeId} {x y : Operand}
theorem S.eqW {u : TypeId} {a b c e' : Int} [he : HasEqW P t] (hx : evT tm x = some (.agg [.val (.int .u64 a), .val (.int .u64 b)])) (hy : evT tm y = some (.agg [.val (.int .u64 c), .val (.int .u64 e')])) (hN : Nat.ble (d + 1) N = true) (h : Reg m P N ops rest ((d, .val (.bool (decide (a = c /\ b = e')))) :: tm) H K) : Reg m P N ops (⟨some d, .binOp .eql t x y u, ty, pos, af, none⟩ :: rest) tm H K := by
 refine S.val (OpV.mk fun L w ρ η hη hH => ?_) hN h
 have h1 := (hη x (by simp [Op.operands]) _ hx).flat (u := .agg #[.int .u64 a, .int .u64 b]) rfl
 have h2 := (hη y (by simp [Op.operands]) _ hy).flat (u := .agg #[.int .u64 c, .int .u64 e']) rfl
 exact ⟨_, he.out _ η w x y u a b c e' rfl h1 h2, A9 _⟩
end
set_option maxRecDepth 100000 in
theorem Mb : Tryz.prog.fieldsOf 151 = #[⟨"hi", 143, 0, false, "", "loftblock/ratio", 0⟩, ⟨"lo", 143, 1, false, "", "loftblock/ratio", 8⟩] := by
 unfold Program.fieldsOf
 rw [Tryz.underlying151]
theorem Wy : Tryz.prog.stoodInHeld 151 = false := by kernel_rfl
theorem Wx : Tryz.prog.eqGuardType Tryz.prog.depth 151 = false := by kernel_rfl
theorem A0y : Tryz.prog.underlying 151 = some (.struct (Tryz.prog.fieldsOf 151)) := by
 rw [Mb];exact Tryz.underlying151
set_option maxRecDepth 100000 in
instance : HasEqW Tryz.prog 151 := ⟨fun o η w x y u a b c d ho hx hy => by
 have h1 := fun d' (k : IntKind) (a b : Int) => run_equalIn_int (P := Tryz.prog) w d' 143 k .u64 a b Tryz.underlying143
 have h2 := run_equalIn_agg (P := Tryz.prog) w 9999 151 #[.int .u64 a, .int .u64 b] #[.int .u64 c, .int .u64 d] A0y Wy
 have h3 := run_eqGuard_agg (P := Tryz.prog) w .eql 151 x y #[.int .u64 a, .int .u64 b] #[.int .u64 c, .int .u64 d] Wx
 have h4 := run_eql_struct (P := Tryz.prog) w 151 #[.int .u64 a, .int .u64 b] #[.int .u64 c, .int .u64 d]
 rw [Mb] at h2
 simp only [execOp, ho, hx, hy, Sem.run_bind, h3, Result.andThen_ok, h4]
 rw [h2]
 simp [Op.eqFields, go_sem, h1]
 by_cases e1 : a = c <;> by_cases e2 : b = d <;> simp [*]⟩
theorem Y7 (an bn bG aG : Int) (hb : 0 <= bG) (ha : 0 <= aG) : ∃ (N : Int) (neg : Bool), an * bG + bn * aG = (if neg then -N else N) /\ 0 <= N /\ N <= (an.natAbs : Int) * bG + (bn.natAbs : Int) * aG /\
  ((decide (an < 0) = neg /\ decide (bn < 0) = neg /\ (an.natAbs : Int) * bG + (bn.natAbs : Int) * aG = N) \/
   (decide (an < 0) = (!neg) /\ decide (bn < 0) = neg /\ (an.natAbs : Int) * bG < (bn.natAbs : Int) * aG /\ (bn.natAbs : Int) * aG - (an.natAbs : Int) * bG = N) \/
   (decide (an < 0) = neg /\ decide (bn < 0) = (!neg) /\ ¬ (an.natAbs : Int) * bG < (bn.natAbs : Int) * aG /\ (an.natAbs : Int) * bG - (bn.natAbs : Int) * aG = N)) := by
 have x0 : 0 <= (an.natAbs : Int) * bG := Int.mul_nonneg (by omega) hb
 have y0 : 0 <= (bn.natAbs : Int) * aG := Int.mul_nonneg (by omega) ha
 have e1 : an * bG = if an < 0 then -((an.natAbs : Int) * bG) else (an.natAbs : Int) * bG := by
  split
  ·rw [<- Int.neg_mul];congr 1;omega
  ·congr 1;omega
 have e2 : bn * aG = if bn < 0 then -((bn.natAbs : Int) * aG) else (bn.natAbs : Int) * aG := by
  split
  ·rw [<- Int.neg_mul];congr 1;omega
  ·congr 1;omega
 rw [e1, e2]
 generalize (an.natAbs : Int) * bG = x at *
 generalize (bn.natAbs : Int) * aG = y at *
 clear e1 e2
 by_cases h1 : an < 0 <;> by_cases h2 : bn < 0 <;> simp only [h1, h2, if_true, if_false, decide_true, decide_false]
 ·exact ⟨x + y, true, by simp;omega, by omega, by omega, .inl ⟨rfl, rfl, rfl⟩⟩
 ·by_cases h3 : x < y
  ·exact ⟨y - x, false, by simp;omega, by omega, by omega, .inr (.inl ⟨rfl, rfl, h3, rfl⟩)⟩
  ·exact ⟨x - y, true, by simp;omega, by omega, by omega, .inr (.inr ⟨rfl, rfl, h3, rfl⟩)⟩
 ·by_cases h3 : x < y
  ·exact ⟨y - x, true, by simp;omega, by omega, by omega, .inr (.inl ⟨rfl, rfl, h3, rfl⟩)⟩
  ·exact ⟨x - y, false, by simp;omega, by omega, by omega, .inr (.inr ⟨rfl, rfl, h3, rfl⟩)⟩
 ·exact ⟨x + y, false, by simp, by omega, by omega, .inl ⟨rfl, rfl, rfl⟩⟩
set_option maxHeartbeats 16000000 in
theorem U1 (p q : Rat) (hp : Fits p) (hq : Fits q) (an ad bn bd G bG aG X Z N R C NC bC D : Int) (neg : Bool) (r : AV) (ep : frR p = [.i an, .i ad]) (eq' : frR q = [.i bn, .i bd])
  (a1 : 1 <= ad) (a2 : ad <= 1152921504606846976) (a3 : -1152921504606846976 <= an) (a4 : an <= 1152921504606846976) (b1 : 1 <= bd) (b2 : bd <= 1152921504606846976) (b3 : -1152921504606846976 <= bn) (b4 : bn <= 1152921504606846976)
  (hG : (Int.gcd ad bd : Nat) = G) (g1 : 1 <= G) (g2 : G <= ad) (hbG : bd / G = bG) (haG : ad / G = aG) (bG0 : 1 <= bG) (aG0 : 1 <= aG) (bG1 : bG <= bd) (aG1 : aG <= ad) (hX : (an.natAbs : Int) * bG = X) (hZ : (bn.natAbs : Int) * aG = Z)
  (hpath : (decide (an < 0) = neg /\ decide (bn < 0) = neg /\ X + Z = N) \/ (decide (an < 0) = (!neg) /\ decide (bn < 0) = neg /\ X < Z /\ Z - X = N) \/ (decide (an < 0) = neg /\ decide (bn < 0) = (!neg) /\ ¬ X < Z /\ X - Z = N))
  (hN : 1 <= N) (hR : N % G = R) (r0 : 0 <= R) (r1 : R < G) (hC : (Int.gcd G R : Nat) = C) (c1 : 1 <= C) (c2 : C <= G) (hNC : N / C = NC) (n0 : 0 <= NC) (n1 : NC <= N) (hbC : bd / C = bC) (bC0 : 1 <= bC) (bC1 : bC <= bd) (hD : aG * bC = D) (d0 : 0 <= D) (d1 : D <= 1329227995784915872903807060280344576)
  (hr : r = sgO neg NC D) : Fn0 Tryz.prog 171 [A6 (frR p), A6 (frR q)] r := by
 have v1 := Dy hp
 have v2 := Dy hq
 change Fn0 _ _ [A6 (frR p)] _ at v1
 change Fn0 _ _ [A6 (frR q)] _ at v2
 rw [ep] at v1 ⊢
 rw [eq'] at v2 ⊢
 have x12 := Cg (an.natAbs : Int) bG (by omega) (by omega) (by omega) (by omega)
 have y12 := Cg (bn.natAbs : Int) aG (by omega) (by omega) (by omega) (by omega)
 rw [hX] at x12
 rw [hZ] at y12
 have cg := Et ad bd (by omega) (by omega) (by omega) (by omega)
 rw [hG] at cg
 have cs1 := Cr an (by omega) (by omega)
 have cs2 := Cr bn (by omega) (by omega)
 have cp1 := Dm (an.natAbs : Int) bG (by omega) (by omega) (by omega) (by omega)
 have cp2 := Dm (bn.natAbs : Int) aG (by omega) (by omega) (by omega) (by omega)
 rw [hX, <- hbG] at cp1
 rw [hZ, <- haG] at cp2
 have co1 := S5 N G (by omega) (by omega) (by omega) (by omega)
 have co2 := S5 N C (by omega) (by omega) (by omega) (by omega)
 have cg2 := Et G R (by omega) (by omega) (by omega) (by omega)
 have cp3 := Dm aG bC (by omega) (by omega) (by omega) (by omega)
 rw [hR] at co1
 rw [hC] at cg2
 rw [hNC] at co2
 rw [hD, <- hbC, <- haG] at cp3
 have cls := Iz X Z (by omega) (by omega)
 have cpl := S6 X Z (by omega) (by omega) (by omega)
 have hnz : ¬ (N / 18446744073709551616 = 0 /\ N % 18446744073709551616 = 0) := by omega
 obtain ⟨u, v, e, hu⟩ := Q8 neg NC D
 have hbig : (0 < NC / 18446744073709551616 \/ 0 < D / 18446744073709551616) -> u = 0 /\ v = 0 /\ e = 5 := fun h => by
  rw [sgO, if_neg (by omega)] at hu
  simp only [AV.tup.injEq, List.cons.injEq, A6, List.map_cons, List.map_nil, AV.agg.injEq, AV.lf.injEq, Lf.val.injEq, Value.int.injEq, true_and, and_true] at hu
  omega
 have csg : ¬ 0 < NC / 18446744073709551616 -> ¬ 0 < D / 18446744073709551616 -> Fn0 Tryz.prog 186 [.b neg, uA (NC % 18446744073709551616), uA (D % 18446744073709551616)] (.tup [A6 [.i u, .i v], .i e]) := fun h1 h2 => by
  have := Gc neg NC D (by omega) (by omega)
  rw [show NC % 18446744073709551616 = NC by omega, show D % 18446744073709551616 = D by omega, <- hu]
  exact this
 rw [hr, hu]
 clear hr hu
 rcases hpath with ⟨s1, s2, hn⟩ | ⟨s1, s2, hlt, hn⟩ | ⟨s1, s2, hlt, hn⟩
 ·have hbq : (decide (an < 0) == decide (bn < 0)) = true := by rw [s1, s2];exact beq_self_eq_true _
  rw [hn] at cpl
  rw [<- s1] at csg
  refine Fn0.of Tryz.func171 Tryz.ntmps171 rfl rfl rfl ?_
  simp only [A0]
  repeat' (first
   | refine W ?_
   | refine Y ?_|(apply S.convW;exact rfl;exact Bb (by omega);exact rfl)|(apply S.quoU;(iterate 3 exact rfl);omega)|(apply S.eqW;(iterate 3 exact rfl))|(apply S.boolEqB;exact rfl;exact rfl;exact hbq;exact rfl)|(apply S.boolNeB;exact rfl;exact rfl;exact hbq;exact rfl)|(apply T.drawAll A3 (by decide +kernel))|(apply T.draw 22 A3 (by decide +kernel);simp only [td])|(apply T.draw 13 A3 (by decide +kernel);simp only [td])|(apply S.call;exact rfl;exact rfl;apply csg;assumption;assumption;exact rfl)
   | refine V ?_
   | (refine W2 ?_ ?_ <;> intro hc))
  all_goals first
   | (have hz := hbig (.inl hc);obtain ⟨rfl, rfl, rfl⟩ := hz;exact D3 rfl rfl rfl rfl rfl rfl rfl)
   | (have hz := hbig (.inr hc);obtain ⟨rfl, rfl, rfl⟩ := hz;exact D3 rfl rfl rfl rfl rfl rfl rfl)
   | (exact D3 rfl rfl rfl rfl rfl rfl rfl)
 ·have hbq : (decide (an < 0) == decide (bn < 0)) = false := by rw [s1, s2];cases neg <;> rfl
  have cmi := Kr Z X (by omega) (by omega) (by omega)
  rw [hn] at cmi
  rw [decide_eq_true hlt] at cls
  rw [show neg = decide (¬ an < 0) by rw [decide_not, s1, Bool.not_not]] at csg
  refine Fn0.of Tryz.func171 Tryz.ntmps171 rfl rfl rfl ?_
  simp only [A0]
  repeat' (first
   | refine W ?_
   | refine Y ?_|(apply S.convW;exact rfl;exact Bb (by omega);exact rfl)|(apply S.quoU;(iterate 3 exact rfl);omega)|(apply S.eqW;(iterate 3 exact rfl))|(apply S.boolEqB;exact rfl;exact rfl;exact hbq;exact rfl)|(apply S.boolNeB;exact rfl;exact rfl;exact hbq;exact rfl)|(apply T.drawAll A3 (by decide +kernel))|(apply T.draw 22 A3 (by decide +kernel);simp only [td])|(apply T.draw 13 A3 (by decide +kernel);simp only [td])|(apply S.call;exact rfl;exact rfl;apply csg;assumption;assumption;exact rfl)
   | refine V ?_
   | (refine W2 ?_ ?_ <;> intro hc))
  all_goals first
   | (have hz := hbig (.inl hc);obtain ⟨rfl, rfl, rfl⟩ := hz;exact D3 rfl rfl rfl rfl rfl rfl rfl)
   | (have hz := hbig (.inr hc);obtain ⟨rfl, rfl, rfl⟩ := hz;exact D3 rfl rfl rfl rfl rfl rfl rfl)
   | (exact D3 rfl rfl rfl rfl rfl rfl rfl)
 ·have hbq : (decide (an < 0) == decide (bn < 0)) = false := by rw [s1, s2];cases neg <;> rfl
  have cmi := Kr X Z (by omega) (by omega) (by omega)
  rw [hn] at cmi
  rw [decide_eq_false hlt] at cls
  rw [<- s1] at csg
  refine Fn0.of Tryz.func171 Tryz.ntmps171 rfl rfl rfl ?_
  simp only [A0]
  repeat' (first
   | refine W ?_
   | refine Y ?_|(apply S.convW;exact rfl;exact Bb (by omega);exact rfl)|(apply S.quoU;(iterate 3 exact rfl);omega)|(apply S.eqW;(iterate 3 exact rfl))|(apply S.boolEqB;exact rfl;exact rfl;exact hbq;exact rfl)|(apply S.boolNeB;exact rfl;exact rfl;exact hbq;exact rfl)|(apply T.drawAll A3 (by decide +kernel))|(apply T.draw 22 A3 (by decide +kernel);simp only [td])|(apply T.draw 13 A3 (by decide +kernel);simp only [td])|(apply S.call;exact rfl;exact rfl;apply csg;assumption;assumption;exact rfl)
   | refine V ?_
   | (refine W2 ?_ ?_ <;> intro hc))
  all_goals first
   | (have hz := hbig (.inl hc);obtain ⟨rfl, rfl, rfl⟩ := hz;exact D3 rfl rfl rfl rfl rfl rfl rfl)
   | (have hz := hbig (.inr hc);obtain ⟨rfl, rfl, rfl⟩ := hz;exact D3 rfl rfl rfl rfl rfl rfl rfl)
   | (exact D3 rfl rfl rfl rfl rfl rfl rfl)
set_option maxHeartbeats 16000000 in
theorem Yz (p q : Rat) (hp : Fits p) (hq : Fits q) (an ad bn bd G bG aG X Z : Int) (ep : frR p = [.i an, .i ad]) (eq' : frR q = [.i bn, .i bd])
  (a1 : 1 <= ad) (a2 : ad <= 1152921504606846976) (a3 : -1152921504606846976 <= an) (a4 : an <= 1152921504606846976) (b1 : 1 <= bd) (b2 : bd <= 1152921504606846976) (b3 : -1152921504606846976 <= bn) (b4 : bn <= 1152921504606846976)
  (hG : (Int.gcd ad bd : Nat) = G) (g1 : 1 <= G) (hbG : bd / G = bG) (haG : ad / G = aG) (bG0 : 1 <= bG) (aG0 : 1 <= aG) (bG1 : bG <= bd) (aG1 : aG <= ad) (hX : (an.natAbs : Int) * bG = X) (hZ : (bn.natAbs : Int) * aG = Z)
  (hpath : (decide (an < 0) = decide (bn < 0) /\ X + Z = 0) \/ (¬ decide (an < 0) = decide (bn < 0) /\ ¬ X < Z /\ X - Z = 0)) : Fn0 Tryz.prog 171 [A6 (frR p), A6 (frR q)] (.tup [A6 [.i 0, .i 1], .i 0]) := by
 have v1 := Dy hp
 have v2 := Dy hq
 change Fn0 _ _ [A6 (frR p)] _ at v1
 change Fn0 _ _ [A6 (frR q)] _ at v2
 rw [ep] at v1 ⊢
 rw [eq'] at v2 ⊢
 have x12 := Cg (an.natAbs : Int) bG (by omega) (by omega) (by omega) (by omega)
 have y12 := Cg (bn.natAbs : Int) aG (by omega) (by omega) (by omega) (by omega)
 rw [hX] at x12
 rw [hZ] at y12
 have cg := Et ad bd (by omega) (by omega) (by omega) (by omega)
 rw [hG] at cg
 have cs1 := Cr an (by omega) (by omega)
 have cs2 := Cr bn (by omega) (by omega)
 have cp1 := Dm (an.natAbs : Int) bG (by omega) (by omega) (by omega) (by omega)
 have cp2 := Dm (bn.natAbs : Int) aG (by omega) (by omega) (by omega) (by omega)
 rw [hX, <- hbG] at cp1
 rw [hZ, <- haG] at cp2
 have cls := Iz X Z (by omega) (by omega)
 have hnz : (0 : Int) / 18446744073709551616 = 0 /\ (0 : Int) % 18446744073709551616 = 0 := ⟨rfl, rfl⟩
 rcases hpath with ⟨s1, hn⟩ | ⟨s1, hlt, hn⟩
 ·have hbq : (decide (an < 0) == decide (bn < 0)) = true := by rw [s1];exact beq_self_eq_true _
  have cpl := S6 X Z (by omega) (by omega) (by omega)
  rw [hn] at cpl
  refine Fn0.of Tryz.func171 Tryz.ntmps171 rfl rfl rfl ?_
  simp only [A0]
  repeat' (first
   | refine W ?_
   | refine Y ?_|(apply S.convW;exact rfl;exact Bb (by omega);exact rfl)|(apply S.quoU;(iterate 3 exact rfl);omega)|(apply S.eqW;(iterate 3 exact rfl))|(apply S.boolEqB;exact rfl;exact rfl;exact hbq;exact rfl)|(apply S.boolNeB;exact rfl;exact rfl;exact hbq;exact rfl)|(apply T.drawAll A3 (by decide +kernel))|(apply T.draw 22 A3 (by decide +kernel);simp only [td])|(apply T.draw 13 A3 (by decide +kernel);simp only [td])|(apply S.call;exact rfl;exact rfl;apply csg;assumption;assumption;exact rfl)
   | refine V ?_
   | (refine W2 ?_ ?_ <;> intro hc))
  all_goals exact D3 rfl rfl rfl rfl rfl rfl rfl
 ·have hbq : (decide (an < 0) == decide (bn < 0)) = false := beq_eq_false_iff_ne.2 s1
  have cmi := Kr X Z (by omega) (by omega) (by omega)
  rw [hn] at cmi
  rw [decide_eq_false hlt] at cls
  refine Fn0.of Tryz.func171 Tryz.ntmps171 rfl rfl rfl ?_
  simp only [A0]
  repeat' (first
   | refine W ?_
   | refine Y ?_|(apply S.convW;exact rfl;exact Bb (by omega);exact rfl)|(apply S.quoU;(iterate 3 exact rfl);omega)|(apply S.eqW;(iterate 3 exact rfl))|(apply S.boolEqB;exact rfl;exact rfl;exact hbq;exact rfl)|(apply S.boolNeB;exact rfl;exact rfl;exact hbq;exact rfl)|(apply T.drawAll A3 (by decide +kernel))|(apply T.draw 22 A3 (by decide +kernel);simp only [td])|(apply T.draw 13 A3 (by decide +kernel);simp only [td])|(apply S.call;exact rfl;exact rfl;apply csg;assumption;assumption;exact rfl)
   | refine V ?_
   | (refine W2 ?_ ?_ <;> intro hc))
  all_goals exact D3 rfl rfl rfl rfl rfl rfl rfl
theorem Wl (p q : Rat) (hp : Fits p) (hq : Fits q) : Fn0 Tryz.prog 171 [A6 (frR p), A6 (frR q)] (Gg (p + q)) := by
 obtain ⟨a1, a2, a3, a4, _⟩ := validB_spec.1 hp.valid
 obtain ⟨b1, b2, b3, b4, _⟩ := validB_spec.1 hq.valid
 obtain ⟨p1, p2⟩ := U2 p q _ _ _ rfl rfl rfl
 have gp : 0 < p.den.gcd q.den := Nat.gcd_pos_of_pos_left _ p.den_pos
 have ga : p.den.gcd q.den ∣ p.den := Nat.gcd_dvd_left ..
 have gb : p.den.gcd q.den ∣ q.den := Nat.gcd_dvd_right ..
 have hG : ((Int.gcd p.den q.den : Nat) : Int) = (p.den.gcd q.den : Nat) := by simp [Int.gcd]
 have gl : p.den.gcd q.den <= p.den := Nat.le_of_dvd p.den_pos ga
 have aG0 : 1 <= p.den / p.den.gcd q.den := Nat.div_pos gl gp
 have bG0 : 1 <= q.den / p.den.gcd q.den := Nat.div_pos (Nat.le_of_dvd q.den_pos gb) gp
 have aG1 : p.den / p.den.gcd q.den <= p.den := Nat.div_le_self ..
 have bG1 : q.den / p.den.gcd q.den <= q.den := Nat.div_le_self ..
 generalize hg : p.den.gcd q.den = g at *
 obtain ⟨N, neg, hs, n0, nle, hpath⟩ := Y7 p.num q.num ((q.den / g : Nat) : Int) ((p.den / g : Nat) : Int) (by omega) (by omega)
 rw [hs] at p1 p2
 have ebG : (q.den : Int) / (g : Int) = ((q.den / g : Nat) : Int) := by simp
 have eaG : (p.den : Int) / (g : Int) = ((p.den / g : Nat) : Int) := by simp
 by_cases hN : N = 0
 ·subst hN
  have hz : p + q = 0 := by
   rw [<- Rat.num_eq_zero, p1];cases neg <;> simp
  rw [hz, show Gg 0 = .tup [A6 [.i 0, .i 1], .i 0] from rfl]
  refine Yz p q hp hq p.num p.den q.num q.den g _ _ _ _ rfl rfl a1 a2 a3 a4 b1 b2 b3 b4 hG (by omega) ebG eaG (by omega) (by omega) (by omega) (by omega) rfl rfl ?_
  rcases hpath with ⟨s1, s2, hn⟩ | ⟨s1, s2, hlt, hn⟩ | ⟨s1, s2, hlt, hn⟩
  ·exact .inl ⟨by rw [s1, s2], hn⟩
  ·omega
  ·exact .inr ⟨by rw [s1, s2];cases neg <;> decide, hlt, hn⟩
 ·have hna : (if neg = true then -N else N).natAbs = N.natAbs := by cases neg <;> simp
  rw [hna] at p1 p2
  have hCN : Int.gcd (g : Int) (N % (g : Int)) = N.natAbs.gcd g := by
   rw [Ur N g];simp [Int.gcd]
  have cg : N.natAbs.gcd g ∣ g := Nat.gcd_dvd_right ..
  have cN : N.natAbs.gcd g ∣ N.natAbs := Nat.gcd_dvd_left ..
  have cp : 0 < N.natAbs.gcd g := Nat.pos_of_dvd_of_pos cg (by omega)
  have cle : N.natAbs.gcd g <= g := Nat.le_of_dvd (by omega) cg
  have cbd : N.natAbs.gcd g ∣ q.den := Nat.dvd_trans cg gb
  generalize hc : N.natAbs.gcd g = c at *
  have cN' : (c : Int) ∣ N := by rw [<- Int.dvd_natAbs];exact Int.ofNat_dvd.2 cN
  have p1' : (p + q).num = if neg then -(N / c) else N / c := by
   rw [p1];cases neg <;> simp [Int.neg_ediv_of_dvd cN']
  have bC1 : q.den / c <= q.den := Nat.div_le_self ..
  have bC0 : 1 <= q.den / c := Nat.div_pos (Nat.le_of_dvd q.den_pos cbd) cp
  have D12 := Cg ((p.den / g : Nat) : Int) ((q.den / c : Nat) : Int) (by omega) (by omega) (by omega) (by omega)
  have nc0 : 0 <= N / (c : Int) := Int.ediv_nonneg n0 (by omega)
  have nc1 : N / (c : Int) <= N := Int.ediv_le_self _ n0
  have pd : ((p + q).den : Int) = ((p.den / g : Nat) : Int) * ((q.den / c : Nat) : Int) := by rw [p2, Int.natCast_mul]
  exact U1 p q hp hq p.num p.den q.num q.den g _ _ _ _ N _ c _ _ _ neg _ rfl rfl a1 a2 a3 a4 b1 b2 b3 b4 hG (by omega) (by omega) ebG eaG (by omega) (by omega) (by omega) (by omega) rfl rfl hpath (by omega) rfl (Int.emod_nonneg _ (by omega)) (Int.emod_lt_of_pos _ (by omega)) (by rw [hCN]) (by omega) (by omega) rfl nc0 nc1 (show (q.den : Int) / (c : Int) = ((q.den / c : Nat) : Int) by simp) (by omega) (by omega) rfl D12.1 D12.2 (Px nc0 p1' pd)
theorem Zn (q : Rat) : ∃ u v e : Int, Gg q = .tup [A6 [.i u, .i v], .i e] := by
 unfold Gg
 split
 ·exact ⟨_, _, _, rfl⟩
 ·exact ⟨_, _, _, rfl⟩
abbrev Dp (a b : Int) : Bool := decide (a < 0) != decide (b < 0)
theorem Yl (an bn : Int) (g h : Nat) : an.tdiv g * bn.tdiv h = (if Dp an bn then -(((an.natAbs / g : Nat) : Int) * ((bn.natAbs / h : Nat) : Int)) else ((an.natAbs / g : Nat) : Int) * ((bn.natAbs / h : Nat) : Int)) := by
 rw [M9, M9]
 by_cases h1 : an < 0 <;> by_cases h2 : bn < 0 <;> simp [h1, h2, Int.neg_mul, Int.mul_neg]
set_option maxHeartbeats 16000000 in
theorem Ve (p q : Rat) (hp : Fits p) (hq : Fits q) (an ad bn bd G K a b c d NC D : Int) (r : AV) (ep : frR p = [.i an, .i ad]) (eq' : frR q = [.i bn, .i bd])
  (a1 : 1 <= ad) (a2 : ad <= 1152921504606846976) (a3 : -1152921504606846976 <= an) (a4 : an <= 1152921504606846976) (b1 : 1 <= bd) (b2 : bd <= 1152921504606846976) (b3 : -1152921504606846976 <= bn) (b4 : bn <= 1152921504606846976)
  (hG : (Int.gcd (an.natAbs : Int) bd : Nat) = G) (g1 : 1 <= G) (hK : (Int.gcd (bn.natAbs : Int) ad : Nat) = K) (k1 : 1 <= K) (ha : (an.natAbs : Int) / G = a) (hb : (bn.natAbs : Int) / K = b) (hc : ad / K = c) (hd : bd / G = d)
  (a0 : 0 <= a /\ a <= 1152921504606846976) (b0 : 0 <= b /\ b <= 1152921504606846976) (c0 : 0 <= c /\ c <= 1152921504606846976) (d0 : 0 <= d /\ d <= 1152921504606846976) (hN : a * b = NC) (hD : c * d = D) (hr : r = sgO (Dp an bn) NC D) : Fn0 Tryz.prog 138 [A6 (frR p), A6 (frR q)] r := by
 have v1 := Dy hp
 have v2 := Dy hq
 change Fn0 _ _ [A6 (frR p)] _ at v1
 change Fn0 _ _ [A6 (frR q)] _ at v2
 rw [ep] at v1 ⊢
 rw [eq'] at v2 ⊢
 have cs1 := Cr an (by omega) (by omega)
 have cs2 := Cr bn (by omega) (by omega)
 have cg1 := Et an.natAbs bd (by omega) (by omega) (by omega) (by omega)
 have cg2 := Et bn.natAbs ad (by omega) (by omega) (by omega) (by omega)
 rw [hG] at cg1
 rw [hK] at cg2
 have cp1 := Dm a b (by omega) (by omega) (by omega) (by omega)
 have cp2 := Dm c d (by omega) (by omega) (by omega) (by omega)
 have x1 := Cg a b a0.1 a0.2 b0.1 b0.2
 have x2 := Cg c d c0.1 c0.2 d0.1 d0.2
 rw [hN] at cp1 x1
 rw [hD] at cp2 x2
 rw [<- ha, <- hb] at cp1
 rw [<- hc, <- hd] at cp2
 obtain ⟨u, v, e, hu⟩ := Q8 (Dp an bn) NC D
 have hbig : (0 < NC / 18446744073709551616 \/ 0 < D / 18446744073709551616) -> u = 0 /\ v = 0 /\ e = 5 := fun h => by
  rw [sgO, if_neg (by omega)] at hu
  simp only [AV.tup.injEq, List.cons.injEq, A6, List.map_cons, List.map_nil, AV.agg.injEq, AV.lf.injEq, Lf.val.injEq, Value.int.injEq, true_and, and_true] at hu
  omega
 have hbq : (decide (an < 0) != decide (bn < 0)) = Dp an bn := rfl
 rw [hr]
 by_cases hz : NC = 0
 ·subst hz
  have n1 : ¬ 0 < (0 : Int) / 18446744073709551616 := by decide
  have n2 : ¬ 0 < (0 : Int) % 18446744073709551616 := by decide
  have csg : ¬ 0 < (0 : Int) / 18446744073709551616 -> ¬ 0 < D / 18446744073709551616 -> Fn0 Tryz.prog 186 [.b false, uA (0 % 18446744073709551616), uA (D % 18446744073709551616)] (.tup [A6 [.i u, .i v], .i e]) := fun h1 h2 => by
   have := Gc false 0 D (by omega) (by omega)
   rw [show (0 : Int) % 18446744073709551616 = 0 by omega, show D % 18446744073709551616 = D by omega, <- hu, show sgO (Dp an bn) 0 D = sgO false 0 D by unfold sgO;cases Dp an bn <;> rfl]
   exact this
  rw [hu]
  refine Fn0.of Tryz.func138 Tryz.ntmps138 rfl rfl rfl ?_
  simp only [A0]
  repeat' (first
   | refine W ?_
   | refine Y ?_|(apply S.convW;exact rfl;exact Bb (by omega);exact rfl)|(apply S.quoU;(iterate 3 exact rfl);omega)|(apply S.boolEqB;exact rfl;exact rfl;exact hbq;exact rfl)|(apply S.boolNeB;exact rfl;exact rfl;exact hbq;exact rfl)|(apply T.drawAll A3 (by decide +kernel))|(apply T.draw 16 A3 (by decide +kernel);simp only [td])|(apply T.draw 26 A3 (by decide +kernel);simp only [td])|(apply S.call;exact rfl;exact rfl;apply csg;assumption;assumption;exact rfl)
   | refine V ?_
   | (refine W2 ?_ ?_ <;> intro hc))
  all_goals first
   | (have hz := hbig (.inl hc);obtain ⟨rfl, rfl, rfl⟩ := hz;exact D3 rfl rfl rfl rfl rfl rfl rfl)
   | (have hz := hbig (.inr hc);obtain ⟨rfl, rfl, rfl⟩ := hz;exact D3 rfl rfl rfl rfl rfl rfl rfl)
   | (exact D3 rfl rfl rfl rfl rfl rfl rfl)
   | (exfalso;omega)
 ·have csg : ¬ 0 < NC / 18446744073709551616 -> ¬ 0 < D / 18446744073709551616 -> Fn0 Tryz.prog 186 [.b (Dp an bn), uA (NC % 18446744073709551616), uA (D % 18446744073709551616)] (.tup [A6 [.i u, .i v], .i e]) := fun h1 h2 => by
   have := Gc (Dp an bn) NC D (by omega) (by omega)
   rw [show NC % 18446744073709551616 = NC by omega, show D % 18446744073709551616 = D by omega, <- hu]
   exact this
  rw [hu]
  generalize Dp an bn = nb at *
  refine Fn0.of Tryz.func138 Tryz.ntmps138 rfl rfl rfl ?_
  simp only [A0]
  repeat' (first
   | refine W ?_
   | refine Y ?_|(apply S.convW;exact rfl;exact Bb (by omega);exact rfl)|(apply S.quoU;(iterate 3 exact rfl);omega)|(apply S.boolEqB;exact rfl;exact rfl;exact hbq;exact rfl)|(apply S.boolNeB;exact rfl;exact rfl;exact hbq;exact rfl)|(apply T.drawAll A3 (by decide +kernel))|(apply T.draw 16 A3 (by decide +kernel);simp only [td])|(apply T.draw 26 A3 (by decide +kernel);simp only [td])|(apply S.call;exact rfl;exact rfl;apply csg;assumption;assumption;exact rfl)
   | refine V ?_
   | (refine W2 ?_ ?_ <;> intro hc))
  all_goals first
   | (have hz := hbig (.inl hc);obtain ⟨rfl, rfl, rfl⟩ := hz;exact D3 rfl rfl rfl rfl rfl rfl rfl)
   | (have hz := hbig (.inr hc);obtain ⟨rfl, rfl, rfl⟩ := hz;exact D3 rfl rfl rfl rfl rfl rfl rfl)
   | (exact D3 rfl rfl rfl rfl rfl rfl rfl)
   | (exfalso;omega)
theorem Wm (p q : Rat) (hp : Fits p) (hq : Fits q) : Fn0 Tryz.prog 138 [A6 (frR p), A6 (frR q)] (Gg (p * q)) := by
 obtain ⟨a1, a2, a3, a4, _⟩ := validB_spec.1 hp.valid
 obtain ⟨b1, b2, b3, b4, _⟩ := validB_spec.1 hq.valid
 obtain ⟨p1, p2⟩ := Vf p q _ _ rfl rfl
 have hG : Int.gcd (p.num.natAbs : Int) q.den = p.num.natAbs.gcd q.den := by simp [Int.gcd]
 have hH : Int.gcd (q.num.natAbs : Int) p.den = q.num.natAbs.gcd p.den := by simp [Int.gcd]
 have gp : 0 < p.num.natAbs.gcd q.den := Nat.gcd_pos_of_pos_right _ q.den_pos
 have kp : 0 < q.num.natAbs.gcd p.den := Nat.gcd_pos_of_pos_right _ p.den_pos
 generalize p.num.natAbs.gcd q.den = g at *
 generalize q.num.natAbs.gcd p.den = h at *
 rw [Yl] at p1
 have pl : p.num.natAbs / g <= p.num.natAbs := Nat.div_le_self ..
 have ql : q.num.natAbs / h <= q.num.natAbs := Nat.div_le_self ..
 have rl : p.den / h <= p.den := Nat.div_le_self ..
 have tl : q.den / g <= q.den := Nat.div_le_self ..
 have pd : ((p * q).den : Int) = ((p.den / h : Nat) : Int) * ((q.den / g : Nat) : Int) := by rw [p2, Int.natCast_mul]
 have n0 : 0 <= ((p.num.natAbs / g : Nat) : Int) * ((q.num.natAbs / h : Nat) : Int) := Int.mul_nonneg (Int.natCast_nonneg _) (Int.natCast_nonneg _)
 exact Ve p q hp hq p.num p.den q.num q.den g h _ _ _ _ _ _ _ rfl rfl a1 a2 a3 a4 b1 b2 b3 b4 (by rw [hG]) (by omega) (by rw [hH]) (by omega) rfl rfl rfl rfl
  ⟨Int.natCast_nonneg _, by omega⟩ ⟨Int.natCast_nonneg _, by omega⟩ ⟨Int.natCast_nonneg _, by omega⟩ ⟨Int.natCast_nonneg _, by omega⟩ rfl rfl (Px n0 p1 pd)
theorem A0u (p q : Rat) (hp : Fits p) (hq : Fits q) (h0 : q ≠ 0) : Fn0 Tryz.prog 249 [A6 (frR p), A6 (frR q)] (Gg (p / q)) := by
 have v1 := Dy hp
 have v2 := Dy hq
 have n0 : q.num ≠ 0 := fun h => h0 (Rat.num_eq_zero.1 h)
 obtain ⟨i1, i2⟩ := Tz hq.valid n0
 rw [Iq] at i2
 obtain ⟨i3, i4⟩ := Ti i1
 rw [i2] at i3 i4
 obtain ⟨b1, b2, b3, b4, _⟩ := validB_spec.1 i1
 have fi : Fits q⁻¹ := by unfold Fits;rw [i3];constructor <;> omega
 have c := Wm p q⁻¹ hp fi
 unfold frR at c
 rw [i3, i4, <- Rat.div_def] at c
 obtain ⟨u, v, e, hu⟩ := Zn (p / q)
 rw [hu] at c ⊢
 have hb := hq.1
 have hb2 := hq.2
 by_cases hn : q.num < 0
 ·rw [if_pos hn, show ((q.num.natAbs : Nat) : Int) = -q.num by omega] at c
  refine Fn0.of Tryz.func249 Tryz.ntmps249 rfl rfl rfl ?_
  simp only [A0]
  repeat' (first
   | refine W ?_
   | refine Y ?_|(apply S.neg;exact rfl;exact rfl;omega)
   | refine V ?_
   | (refine W2 ?_ ?_ <;> intro hc))
  all_goals exact D3 rfl rfl rfl rfl rfl rfl rfl
 ·rw [if_neg hn, show ((q.num.natAbs : Nat) : Int) = q.num by omega] at c
  refine Fn0.of Tryz.func249 Tryz.ntmps249 rfl rfl rfl ?_
  simp only [A0]
  repeat' (first
   | refine W ?_
   | refine Y ?_|(apply S.neg;exact rfl;exact rfl;omega)
   | refine V ?_
   | (refine W2 ?_ ?_ <;> intro hc))
  all_goals exact D3 rfl rfl rfl rfl rfl rfl rfl
theorem A0t (p q : Rat) (hp : Fits p) (hq : Fits q) : Fn0 Tryz.prog 39 [A6 (frR p), A6 (frR q)] (.tup [.i (Sj p q), .i 0]) := by
 have v1 := Dy hp
 have v2 := Dy hq
 obtain ⟨a1, a2, a3, a4, _⟩ := validB_spec.1 hp.valid
 obtain ⟨b1, b2, b3, b4, _⟩ := validB_spec.1 hq.valid
 have l1 : p < q ↔ p.num * q.den < q.num * p.den := Rat.lt_iff ..
 have l2 : q < p ↔ q.num * p.den < p.num * q.den := Rat.lt_iff ..
 have x := Cg (p.num.natAbs : Int) q.den (by omega) (by omega) (by omega) (by omega)
 have z := Cg (q.num.natAbs : Int) p.den (by omega) (by omega) (by omega) (by omega)
 have cs1 := Cr p.num (by omega) (by omega)
 have cs2 := Cr q.num (by omega) (by omega)
 have cp1 := Dm (p.num.natAbs : Int) q.den (by omega) (by omega) (by omega) (by omega)
 have cp2 := Dm (q.num.natAbs : Int) p.den (by omega) (by omega) (by omega) (by omega)
 have e1 : p.num * q.den = if p.num < 0 then -((p.num.natAbs : Int) * q.den) else (p.num.natAbs : Int) * q.den := by
  split
  ·rw [<- Int.neg_mul];congr 1;omega
  ·congr 1;omega
 have e2 : q.num * p.den = if q.num < 0 then -((q.num.natAbs : Int) * p.den) else (q.num.natAbs : Int) * p.den := by
  split
  ·rw [<- Int.neg_mul];congr 1;omega
  ·congr 1;omega
 have z1 : p.num ≠ 0 -> 0 < (p.num.natAbs : Int) * q.den := fun h => Int.mul_pos (by omega) (by omega)
 have z2 : q.num ≠ 0 -> 0 < (q.num.natAbs : Int) * p.den := fun h => Int.mul_pos (by omega) (by omega)
 have hcm : Sj p q = if p.num * q.den < q.num * p.den then -1 else if q.num * p.den < p.num * q.den then 1 else 0 := by unfold Sj;simp only [l1, l2]
 rw [hcm, e1, e2]
 unfold frR
 generalize (p.num.natAbs : Int) * q.den = X at *
 generalize (q.num.natAbs : Int) * p.den = Z at *
 have cl1 := Iz X Z (by omega) (by omega)
 have cl2 := Iz Z X (by omega) (by omega)
 clear hcm e1 e2 l1 l2
 generalize p.num = an at *
 generalize q.num = bn at *
 by_cases h1 : an < 0 <;> by_cases h2 : bn < 0 <;> (try rw [if_pos h1]) <;> (try rw [if_neg h1]) <;> (try rw [if_pos h2]) <;> (try rw [if_neg h2])
 all_goals skip
 ·have hbq : (decide (an < 0) != decide (bn < 0)) = false := by rw [decide_eq_true h1, decide_eq_true h2];rfl
  refine Fn0.of Tryz.func39 Tryz.ntmps39 rfl rfl rfl ?_
  simp only [A0]
  repeat' (first
   | refine W ?_
   | refine Y ?_|(apply S.convW;exact rfl;exact Bb (by omega);exact rfl)|(apply S.boolEqB;exact rfl;exact rfl;exact hbq;exact rfl)|(apply S.boolNeB;exact rfl;exact rfl;exact hbq;exact rfl)|(apply T.drawAll A3 (by decide +kernel))|(apply T.draw 18 A3 (by decide +kernel);simp only [td])
   | refine V ?_
   | (refine W2 ?_ ?_ <;> intro hc))
  all_goals exact ⟨.inr rfl, [.i _, .i 0], .cons (.tmp rfl) (.cons (.tmp rfl) .nil), .tup (.cons (.one (by first|(rw [if_pos (by omega)];exact .lf _)|(rw [if_neg (by omega), if_pos (by omega)];exact .lf _)|(rw [if_neg (by omega), if_neg (by omega)];exact .lf _) | fail)) (.cons (.one (.lf _)) .nil))⟩
 ·have hbq : (decide (an < 0) != decide (bn < 0)) = true := by rw [decide_eq_true h1, decide_eq_false h2];rfl
  have := z1 (by omega)
  refine Fn0.of Tryz.func39 Tryz.ntmps39 rfl rfl rfl ?_
  simp only [A0]
  repeat' (first
   | refine W ?_
   | refine Y ?_|(apply S.convW;exact rfl;exact Bb (by omega);exact rfl)|(apply S.boolEqB;exact rfl;exact rfl;exact hbq;exact rfl)|(apply S.boolNeB;exact rfl;exact rfl;exact hbq;exact rfl)|(apply T.drawAll A3 (by decide +kernel))|(apply T.draw 18 A3 (by decide +kernel);simp only [td])
   | refine V ?_
   | (refine W2 ?_ ?_ <;> intro hc))
  all_goals exact ⟨.inr rfl, [.i _, .i 0], .cons (.tmp rfl) (.cons (.tmp rfl) .nil), .tup (.cons (.one (by first|(rw [if_pos (by omega)];exact .lf _)|(rw [if_neg (by omega), if_pos (by omega)];exact .lf _)|(rw [if_neg (by omega), if_neg (by omega)];exact .lf _) | fail)) (.cons (.one (.lf _)) .nil))⟩
 ·have hbq : (decide (an < 0) != decide (bn < 0)) = true := by rw [decide_eq_false h1, decide_eq_true h2];rfl
  have := z2 (by omega)
  refine Fn0.of Tryz.func39 Tryz.ntmps39 rfl rfl rfl ?_
  simp only [A0]
  repeat' (first
   | refine W ?_
   | refine Y ?_|(apply S.convW;exact rfl;exact Bb (by omega);exact rfl)|(apply S.boolEqB;exact rfl;exact rfl;exact hbq;exact rfl)|(apply S.boolNeB;exact rfl;exact rfl;exact hbq;exact rfl)|(apply T.drawAll A3 (by decide +kernel))|(apply T.draw 18 A3 (by decide +kernel);simp only [td])
   | refine V ?_
   | (refine W2 ?_ ?_ <;> intro hc))
  all_goals exact ⟨.inr rfl, [.i _, .i 0], .cons (.tmp rfl) (.cons (.tmp rfl) .nil), .tup (.cons (.one (by first|(rw [if_pos (by omega)];exact .lf _)|(rw [if_neg (by omega), if_pos (by omega)];exact .lf _)|(rw [if_neg (by omega), if_neg (by omega)];exact .lf _) | fail)) (.cons (.one (.lf _)) .nil))⟩
 ·have hbq : (decide (an < 0) != decide (bn < 0)) = false := by rw [decide_eq_false h1, decide_eq_false h2];rfl
  refine Fn0.of Tryz.func39 Tryz.ntmps39 rfl rfl rfl ?_
  simp only [A0]
  repeat' (first
   | refine W ?_
   | refine Y ?_|(apply S.convW;exact rfl;exact Bb (by omega);exact rfl)|(apply S.boolEqB;exact rfl;exact rfl;exact hbq;exact rfl)|(apply S.boolNeB;exact rfl;exact rfl;exact hbq;exact rfl)|(apply T.drawAll A3 (by decide +kernel))|(apply T.draw 18 A3 (by decide +kernel);simp only [td])
   | refine V ?_
   | (refine W2 ?_ ?_ <;> intro hc))
  all_goals exact ⟨.inr rfl, [.i _, .i 0], .cons (.tmp rfl) (.cons (.tmp rfl) .nil), .tup (.cons (.one (by first|(rw [if_pos (by omega)];exact .lf _)|(rw [if_neg (by omega), if_pos (by omega)];exact .lf _)|(rw [if_neg (by omega), if_neg (by omega)];exact .lf _) | fail)) (.cons (.one (.lf _)) .nil))⟩
theorem Ry (n d : Int) (hd : d ≠ 0) : (Aq n d).num = (if (decide (¬ n = 0) && Dp n d) then -((n.natAbs : Int) / (Int.gcd n d : Int)) else (n.natAbs : Int) / (Int.gcd n d : Int)) /\ ((Aq n d).den : Int) = (d.natAbs : Int) / (Int.gcd n d : Int) := by
 have e1 := Rat.num_divInt n d
 have e2 := Rat.den_divInt n d
 rw [if_neg hd, Int.gcd_comm] at e2
 rw [Int.gcd_comm] at e1
 refine ⟨?_, by unfold Aq;rw [e2];rfl⟩
 have dv : (Int.gcd n d : Int) ∣ (n.natAbs : Int) := Int.dvd_natAbs.2 (Int.gcd_dvd_left ..)
 have hnum : (Aq n d).num = d.sign * n / (Int.gcd n d : Int) := e1
 rw [hnum, <- Int.neg_ediv_of_dvd dv]
 by_cases hz : n = 0
 ·subst hz;simp
 ·by_cases h1 : n < 0 <;> by_cases h2 : d < 0 <;> simp only [Dp, h1, h2, hz, decide_true, decide_false, not_false_eq_true, Bool.true_and, bne_self_eq_false, Bool.false_eq_true, if_false, if_true, Bool.bne_true, Bool.bne_false, Bool.not_false, Bool.not_true, bne_iff_ne, ne_eq, Bool.true_eq_false]
  ·rw [Int.sign_eq_neg_one_of_neg h2];congr 1;omega
  ·rw [Int.sign_eq_one_of_pos (by omega)];congr 1;omega
  ·rw [Int.sign_eq_neg_one_of_neg h2];congr 1;omega
  ·rw [Int.sign_eq_one_of_pos (by omega)];congr 1;omega
theorem Zt (n d : Int) (hd : d ≠ 0) (n1 : -9223372036854775808 <= n) (n2 : n <= 9223372036854775807) (d1 : -9223372036854775808 <= d) (d2 : d <= 9223372036854775807) : Fn0 Tryz.prog 124 [.i n, .i d] (Gg (Aq n d)) := by
 obtain ⟨m1, m2⟩ := Ry n d hd
 have cs1 := Cr n (by omega) (by omega)
 have cs2 := Cr d (by omega) (by omega)
 have cg := Et (n.natAbs : Int) (d.natAbs : Int) (by omega) (by omega) (by omega) (by omega)
 rw [show Int.gcd (n.natAbs : Int) (d.natAbs : Int) = Int.gcd n d by simp [Int.gcd]] at cg
 have gp : 0 < Int.gcd n d := Int.gcd_pos_of_ne_zero_right _ hd
 have q0 : 0 <= (n.natAbs : Int) / (Int.gcd n d : Int) := Int.ediv_nonneg (by omega) (by omega)
 have q1 : (n.natAbs : Int) / (Int.gcd n d : Int) <= n.natAbs := Int.ediv_le_self _ (by omega)
 have q2 : 0 <= (d.natAbs : Int) / (Int.gcd n d : Int) := Int.ediv_nonneg (by omega) (by omega)
 have q3 : (d.natAbs : Int) / (Int.gcd n d : Int) <= d.natAbs := Int.ediv_le_self _ (by omega)
 rw [Px q0 m1 m2]
 have csg := Gc (decide (¬ n = 0) && Dp n d) _ _ (⟨q0, by omega⟩ : 0 <= (n.natAbs : Int) / (Int.gcd n d : Int) /\ _) (⟨q2, by omega⟩ : 0 <= (d.natAbs : Int) / (Int.gcd n d : Int) /\ _)
 obtain ⟨u, v, e, hu⟩ := Q8 (decide (¬ n = 0) && Dp n d) ((n.natAbs : Int) / (Int.gcd n d : Int)) ((d.natAbs : Int) / (Int.gcd n d : Int))
 rw [hu] at csg ⊢
 clear m1 m2 hu q0 q1 q2 q3
 generalize hg : (Int.gcd n d : Int) = g at *
 have hbq : (decide (n < 0) != decide (d < 0)) = Dp n d := rfl
 by_cases hz : n = 0
 ·rw [show (decide (¬ n = 0) && Dp n d) = false by rw [hz];rfl] at csg
  have hz2 : ¬ ¬ n = 0 := fun k => k hz
  refine Fn0.of Tryz.func124 Tryz.ntmps124 rfl rfl rfl ?_
  simp only [A0]
  repeat' (first
   | refine W ?_
   | refine Y ?_|(apply S.convW;exact rfl;exact Bb (by omega);exact rfl)|(apply S.quoU;(iterate 3 exact rfl);omega)|(apply S.boolEqB;exact rfl;exact rfl;exact hbq;exact rfl)|(apply S.boolNeB;exact rfl;exact rfl;exact hbq;exact rfl)|(apply T.draw 18 A3 (by decide +kernel);simp only [td])
   | refine V ?_
   | (refine W2 ?_ ?_ <;> intro hc))
  all_goals exact D3 rfl rfl rfl rfl rfl rfl rfl
 ·rw [decide_eq_true hz, Bool.true_and] at csg
  generalize Dp n d = nb at *
  refine Fn0.of Tryz.func124 Tryz.ntmps124 rfl rfl rfl ?_
  simp only [A0]
  repeat' (first
   | refine W ?_
   | refine Y ?_|(apply S.convW;exact rfl;exact Bb (by omega);exact rfl)|(apply S.quoU;(iterate 3 exact rfl);omega)|(apply S.boolEqB;exact rfl;exact rfl;exact hbq;exact rfl)|(apply S.boolNeB;exact rfl;exact rfl;exact hbq;exact rfl)|(apply T.draw 18 A3 (by decide +kernel);simp only [td])
   | refine V ?_
   | (refine W2 ?_ ?_ <;> intro hc))
  all_goals exact D3 rfl rfl rfl rfl rfl rfl rfl
end Go.Proofs.YtcfjofhapbkmfaaGreatDoor
