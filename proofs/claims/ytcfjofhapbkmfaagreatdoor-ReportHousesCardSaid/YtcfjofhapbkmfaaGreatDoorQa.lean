/- Contracts by way of runs;fractions that fit. No conditions but those of each statement. -/
import Derived.Test.YtcfjofhapbkmfaaGreatDoorMd
import Derived.Test.YtcfjofhapbkmfaaGreatDoorPa
import Derived.Test.YtcfjofhapbkmfaaGreatDoorMn
import Derived.Laws.Externs
import Derived.Shelf.Spec.BitsCarry
set_option linter.unusedSimpArgs false
set_option linter.unusedVariables false
namespace Go.Proofs.YtcfjofhapbkmfaaGreatDoor
open Go.RowKit
theorem Fn0.of_calls {P : Program} {f : FuncId} {args : List AV} {us : List Value} {v : Value} {r : AV} (ent : Enters P f) (ha : args.map AV.flat = us.map some) (hr : ∀ (w : World) (L : Nat -> Prop), RelV w L An r v) (h : ∀ w, Calls P f us.toArray w fun e w' => e = .returned v /\ Below w.heap.size w w') : Fn0 P f args r := by
 refine ⟨ent, fun L w vs _ hL hl hv => ?_⟩
 have hlen : args.length = us.length := by have := congrArg List.length ha;simpa using this
 obtain rfl : vs = us := by
  apply List.ext_getElem?
  intro i
  rcases Nat.lt_or_ge i args.length with hi | hi
  ·have h1 : args[i]? = some args[i] := List.getElem?_eq_getElem hi
   have h2 : vs[i]? = some (vs[i]'(by omega)) := List.getElem?_eq_getElem _
   have h3 : us[i]? = some (us[i]'(by omega)) := List.getElem?_eq_getElem _
   have h4 : (args.map AV.flat)[i]? = (us.map some)[i]? := by rw [ha]
   rw [List.getElem?_map, List.getElem?_map, h1, h3] at h4
   simp only [Option.map_some, Option.some.injEq] at h4
   rw [h2, h3, (hv i _ _ h1 h2).flat h4]
  ·rw [List.getElem?_eq_none (by omega), List.getElem?_eq_none (by omega)]
 refine (h w).mono ?_
 rintro e w' ⟨rfl, hb⟩
 exact ⟨v, rfl, hr w' L, hb⟩
theorem Nz {w : World} {L : Nat -> Prop} {ρ : Pl} : ∀ (l : List Value) (i : Nat) (x : AV) (v : Value), (l.map AV.val)[i]? = some x -> l[i]? = some v -> RelV w L ρ x v := fun l i x v hx hv => by
 rw [List.getElem?_map, hv] at hx
 simp only [Option.map_some, Option.some.injEq] at hx
 subst hx
 exact A9 v
theorem Wc (w : World) (L : Nat -> Prop) (ρ : Pl) (a b : Int) : RelV w L ρ (.agg [.val (.int .i64 a), .val (.int .i64 b)]) (.agg #[.int .i64 a, .int .i64 b]) :=
 .agg _ [.int .i64 a, .int .i64 b] rfl (Nz [.int .i64 a, .int .i64 b])
theorem M6 (w : World) (L : Nat -> Prop) (ρ : Pl) (a b c : Int) : RelV w L ρ (.tup [.agg [.val (.int .i64 a), .val (.int .i64 b)], .val (.int .i64 c)]) (.tuple #[.agg #[.int .i64 a, .int .i64 b], .int .i64 c]) := by
 refine .tup _ [.agg #[.int .i64 a, .int .i64 b], .int .i64 c] rfl fun i x v hx hv => ?_
 match i, hx, hv with
 | 0, hx, hv => simp at hx hv;subst hx hv;exact Wc w L ρ a b
 | 1, hx, hv => simp at hx hv;subst hx hv;exact A9 _
def Fits (q : Rat) : Prop := q.num.natAbs <= 1152921504606846976 /\ q.den <= 1152921504606846976
abbrev frR (q : Rat) : List Lf := [.i q.num, .i q.den]
abbrev frE (q : Rat) (e : Int) : AV := .tup [A6 (frR q), .i e]
instance (q : Rat) : Decidable (Fits q) := by unfold Fits;exact inferInstance
theorem Fits.valid {q : Rat} (h : Fits q) : Bd q.num q.den = true := Om q h.1 h.2
theorem Fits.out {q : Rat} (h : Fits q) : Cm q = (q.num, (q.den : Int), 0) := if_pos h
theorem Ur (x y : Int) : Int.gcd y (x % y) = Int.gcd x y := by
 rw [Int.gcd_comm, Int.emod_def, Int.mul_comm];exact Int.gcd_sub_mul_right_left y x (x / y)
theorem D3 {P : Program} {fn : Func} {t0 t1 b n : Nat} {ty : TypeId} {ds : TypeDesc} {cs : List Lf} {x : Lf} {cells : List AV} {tm : Tm} {H : AH} [HasU P ty ds] [HasS P ty n] (hr : fn.results.toList = [.cell t0 ty, .tmp t1]) (h0 : tm.get t0 = some (.ptr b 0)) (hb : H.at b = .live cells) (hd : ds.isRow = true) (hc : cells = cs.map .lf) (hn : Nat.beq cs.length n = true) (h1 : tm.get t1 = some (.lf x)) : Cb P fn (.tup [A6 cs, .lf x]) .ret ⟨tm, H⟩ :=
 ⟨.inr rfl, [A6 cs, .lf x], by rw [hr];exact .cons (Res.row cs h0 hb hd hc hn) (.cons (.tmp h1) .nil), .tup (.cons (.agg (B7 cs)) (.cons (.one (.lf _)) .nil))⟩
theorem D4 {P : Program} {fn : Func} {t0 b n : Nat} {ty : TypeId} {ds : TypeDesc} {cs : List Lf} {cells : List AV} {tm : Tm} {H : AH} [HasU P ty ds] [HasS P ty n] (hr : fn.results.toList = [.cell t0 ty]) (h0 : tm.get t0 = some (.ptr b 0)) (hb : H.at b = .live cells) (hd : ds.isRow = true) (hc : cells = cs.map .lf) (hn : Nat.beq cs.length n = true) : Cb P fn (A6 cs) .ret ⟨tm, H⟩ :=
 ⟨.inr rfl, [A6 cs], by rw [hr];exact .cons (Res.row cs h0 hb hd hc hn) .nil, .one (.agg (B7 cs))⟩
end Go.Proofs.YtcfjofhapbkmfaaGreatDoor
namespace Go.Proofs.YtcfjofhapbkmfaaGreatDoor
open Go Go.RowKit
abbrev uA (n : Int) : AV := .val (.int .u64 n)
abbrev wR (n : Int) : List Lf := [.val (.int .u64 (n / 18446744073709551616)), .val (.int .u64 (n % 18446744073709551616))]
section
variable {P : Program} {N : Nat} {ops : Array Oper} {m : Option Nat} {K : Tm -> AH -> Prop} {tm tm' : Tm} {H : AH} {rest : List Oper}
variable {P : Program} {N : Nat} {ops : Array Oper} {m : Option Nat} {K : Tm -> AH -> Prop} {tm tm' : Tm} {H : AH} {rest : List Oper} {ty : TypeId} {pos : String} {af : Array Edge} {d : Nat} {t e u : TypeId} {x y : Operand}
structure Ext (P : Program) (f : FuncId) (vs : List Value) (v : Value) : Prop where
 run : ∀ w, (callFunc f vs.toArray).run P w = .ok (.value v) w
theorem S.ext {f : FuncId} {xs : Array Operand} {ts : Array TypeId} {v1 v2 v3 v : Value} {r : AV} (hx : evs (evT tm) xs.toList = some [.val v1, .val v2, .val v3]) (hc : Ext P f [v1, v2, v3] v) (hr : ∀ (w : World) (L : Nat -> Prop) (ρ : Pl), RelV w L ρ r v) (hN : Nat.ble (d + 1) N = true) (h : Reg m P N ops rest ((d, r) :: tm) H K) : Reg m P N ops (⟨some d, .call ⟨.value (.func f), xs, ts⟩, ty, pos, af, none⟩ :: rest) tm H K := by
 refine S.val (fun E st a w ρ K Q hs he hH hn hK => ?_) hN h
 obtain ⟨g1, g2⟩ := Cz _ _ hx
 have hl : xs.toList.map a.eval = [v1, v2, v3] := by
  apply List.ext_getElem?
  intro i
  rw [List.getElem?_map]
  have one : ∀ (i : Nat) (u : Value), [AV.val v1, AV.val v2, AV.val v3][i]? = some (AV.val u) -> (xs.toList[i]?).map a.eval = some u := fun i u hi => by
   obtain ⟨x, h1, h2⟩ := g2 i _ hi
   have hm : x ∈ xs := Array.mem_toList_iff.1 (List.mem_of_getElem? h1)
   rw [h1]
   show some (a.eval x) = _
   rw [(hs.ev (he x (Array.mem_append.2 (.inr hm)) _ h2)).val_eq]
  match i with
  | 0 => exact one 0 _ rfl
  | 1 => exact one 1 _ rfl
  | 2 => exact one 2 _ rfl
  | i + 3 => rw [List.getElem?_eq_none (by rw [g1];simp)];rfl
 have : (execOp a.eval ⟨some d, .call ⟨.value (.func f), xs, ts⟩, ty, pos, af, none⟩).run P w = (callFunc f (#[] ++ xs.map a.eval ++ #[])).run P w := by simp [execOp, resolve, Act.eval, Deferred.ofValue, invoke]
 unfold Oper.wp
 rw [this, show (#[] ++ xs.map a.eval ++ #[]) = [v1, v2, v3].toArray by rw [<- hl];apply Array.ext';simp, hc.run w]
 exact hK w ρ v hs (hr w _ _)
end
theorem Cr (n : Int) (h1 : -9223372036854775808 <= n) (h2 : n <= 9223372036854775807) : Fn0 Tryz.prog 87 [.i n] (uA n.natAbs) := by
 refine Fn0.of Tryz.func87 Tryz.ntmps87 rfl rfl rfl ?_
 simp only [A0]
 repeat' (first
  | refine W ?_
  | refine Y ?_|(apply S.convW;exact rfl;exact Ax _;exact rfl)|(apply S.negU;exact rfl;exact Ax _;exact rfl)
  | refine V ?_
  | (refine W2 ?_ ?_ <;> intro hc))
 all_goals exact A7 (by simp) Tryz.results87 rfl (by exact congrArg (Value.int .u64) (by omega))
theorem A0v (a b : Nat) (ha : a < 18446744073709551616) (hb : b < 18446744073709551616) : Fn0 Tryz.prog 139 [uA a, uA b] (uA (Nat.gcd a b : Nat)) := by
 refine Fn0.of Tryz.func139 Tryz.ntmps139 rfl rfl rfl ?_
 simp only [A0]
 repeat' (first
  | refine W ?_
  | refine Y ?_
  | refine V ?_
  | (refine W2 ?_ ?_ <;> intro hc))
 refine T.loopS (fun p : Nat × Nat => Nat.gcd p.1 p.2 = Nat.gcd a b /\ p.1 < 18446744073709551616 /\ p.2 < 18446744073709551616) (fun p => p.2) (fun p => [(0, uA p.1), (1, uA p.2)]) (fun _ => []) (a, b) ⟨rfl, ha, hb⟩ CV .nil ?_
 rintro ⟨x, y⟩ ⟨h1, h2, h3⟩
 dsimp only at h1 h2 h3 ⊢
 by_cases hy : (y : Int) = 0
 ·have hn : ¬ ¬ (y : Int) = 0 := fun k => k hy
  repeat' (first
   | refine W ?_
   | refine Y ?_
   | refine V ?_
   | (refine W2 ?_ ?_ <;> intro hc))
  all_goals exact A7 (by simp) Tryz.results139 rfl (by exact congrArg (Value.int .u64) (by rw [<- h1, show y = 0 by omega, Nat.gcd_zero_right]))
 ·repeat' (first
  | refine W ?_
  | refine Y ?_|(apply S.remU;(iterate 3 exact rfl);omega)|(apply T.drawR 6 A3 (by decide +kernel);simp only [td])|(apply T.drawR 5 A3 (by decide +kernel);simp only [td])
  | refine V ?_
  | (refine W2 ?_ ?_ <;> intro hc))
  all_goals (try change Next _ _ _ _ _ _)
  have hm : x % y < y := Nat.mod_lt _ (by omega)
  exact Next.go (y, x % y) ⟨by rw [<- h1];show Nat.gcd y (x % y) = _;rw [Nat.gcd_comm, <- Nat.gcd_rec, Nat.gcd_comm], by dsimp only;omega, by dsimp only;omega⟩ (by dsimp only;omega) (by show Cov _ _ [(0, uA ((y : Nat) : Int)), (1, uA ((x % y : Nat) : Int))];rw [Int.natCast_emod];exact CV) .nil
def sgO (neg : Bool) (n d : Int) : AV := if n <= 1152921504606846976 /\ d <= 1152921504606846976 then .tup [A6 [.i (if neg then -n else n), .i d], .i 0] else .tup [A6 [.i 0, .i 0], .i 5]
theorem Gc (neg : Bool) (n d : Int) (hn : 0 <= n /\ n < 18446744073709551616) (hd : 0 <= d /\ d < 18446744073709551616) : Fn0 Tryz.prog 186 [.b neg, uA n, uA d] (sgO neg n d) := by
 unfold sgO
 by_cases h : n <= 1152921504606846976 /\ d <= 1152921504606846976
 ·rw [if_pos h]
  obtain ⟨h1, h2⟩ := h
  have g1 : ¬ n > 1152921504606846976 := by omega
  have g2 : ¬ d > 1152921504606846976 := by omega
  cases neg with
  | true =>
   refine Fn0.of Tryz.func186 Tryz.ntmps186 rfl rfl rfl ?_
   simp only [A0]
   repeat' (first
    | refine W ?_
    | refine Y ?_|(apply S.convW;exact rfl;exact wrap_i64 _ (by omega);exact rfl)|(apply S.neg;exact rfl;exact rfl;omega)
    | refine V ?_
    | (refine W2 ?_ ?_ <;> intro hc))
   all_goals exact D3 rfl rfl rfl rfl rfl rfl rfl
  | false =>
   refine Fn0.of Tryz.func186 Tryz.ntmps186 rfl rfl rfl ?_
   simp only [A0]
   repeat' (first
    | refine W ?_
    | refine Y ?_|(apply S.convW;exact rfl;exact wrap_i64 _ (by omega);exact rfl)|(apply S.neg;exact rfl;exact rfl;omega)
    | refine V ?_
    | (refine W2 ?_ ?_ <;> intro hc))
   all_goals exact D3 rfl rfl rfl rfl rfl rfl rfl
 ·rw [if_neg h]
  refine Fn0.of Tryz.func186 Tryz.ntmps186 rfl rfl rfl ?_
  simp only [A0]
  repeat' (first
   | refine W ?_
   | refine Y ?_|(apply S.convW;exact rfl;exact wrap_i64 _ (by omega);exact rfl)|(apply S.neg;exact rfl;exact rfl;omega)
   | refine V ?_
   | (refine W2 ?_ ?_ <;> intro hc))
  all_goals first
   | (exfalso;apply h;constructor <;> omega)
   | (exact D3 rfl rfl rfl rfl rfl rfl rfl)
theorem Fp (w : World) (L : Nat -> Prop) (ρ : Pl) (a c : Int) : RelV w L ρ (.tup [.val (.int .u64 a), .val (.int .u64 c)]) (.tuple #[.int .u64 a, .int .u64 c]) :=
 .tup _ [.int .u64 a, .int .u64 c] rfl (Nz [.int .u64 a, .int .u64 c])
theorem Jt (a b : Nat) (ha : a < 18446744073709551616) (hb : b < 18446744073709551616) : Fn0 Tryz.prog 140 [.val (.int .u64 a), .val (.int .u64 b)] (.tup [.val (.int .u64 ((a * b / 18446744073709551616 : Nat) : Int)), .val (.int .u64 ((a * b % 18446744073709551616 : Nat) : Int))]) := by
 refine Fn0.of_calls (us := [.int .u64 a, .int .u64 b]) ⟨_, Tryz.func140, rfl, rfl⟩ rfl (fun w L => Fp w L An _ _) fun w => ?_
 refine (Tryz.bits_Mul64 a b ha hb w).mono ?_
 rintro e w' ⟨rfl, rfl⟩
 exact ⟨rfl, Below.refl _ _⟩
theorem Ts (a b : Nat) (ha : a < 18446744073709551616) (hb : b < 18446744073709551616) : Fn0 Tryz.prog 86 [uA a, uA b] (A6 (wR ((a * b : Nat) : Int))) := by
 have c := Jt a b ha hb
 rw [show wR ((a * b : Nat) : Int) = [.val (.int .u64 ((a * b / 18446744073709551616 : Nat) : Int)), .val (.int .u64 ((a * b % 18446744073709551616 : Nat) : Int))] by rw [Int.natCast_ediv, Int.natCast_emod];rfl]
 generalize ((a * b / 18446744073709551616 : Nat) : Int) = u at *
 generalize ((a * b % 18446744073709551616 : Nat) : Int) = v at *
 refine Fn0.of Tryz.func86 Tryz.ntmps86 rfl rfl rfl ?_
 simp only [A0]
 repeat' (first
  | refine W ?_
  | refine Y ?_
  | refine V ?_
  | (refine W2 ?_ ?_ <;> intro hc))
 all_goals exact D4 rfl rfl rfl rfl rfl rfl
theorem Xz (p q : Int) (hp : 0 <= p) (hq : 0 <= q) : (p / 18446744073709551616 < q / 18446744073709551616 \/ p / 18446744073709551616 = q / 18446744073709551616 /\ p % 18446744073709551616 < q % 18446744073709551616) ↔ p < q := by omega
theorem Yj (a b c d : Int) : Fn0 Tryz.prog 88 [A6 [.val (.int .u64 a), .val (.int .u64 c)], A6 [.val (.int .u64 b), .val (.int .u64 d)]] (.b (decide (a < b \/ a = b /\ c < d))) := by
 refine Fn0.of Tryz.func88 Tryz.ntmps88 rfl rfl rfl ?_
 simp only [A0]
 repeat' (first
  | refine W ?_
  | refine Y ?_
  | refine V ?_
  | (refine W2 ?_ ?_ <;> intro hc))
 all_goals exact A7 (by simp) Tryz.results88 rfl (congrArg Value.bool (by first | exact decide_eq_decide.2 (by omega)|(symm;first | exact decide_eq_true (by omega) | exact decide_eq_false (by omega))|(first | exact decide_eq_true (by omega) | exact decide_eq_false (by omega))))
theorem Iz (p q : Int) (hp : 0 <= p) (hq : 0 <= q) : Fn0 Tryz.prog 88 [A6 (wR p), A6 (wR q)] (.b (decide (p < q))) := by
 rw [<- decide_eq_decide.2 (Xz p q hp hq)]
 exact Yj _ _ _ _
theorem Rj (x y c : Int) (hx : 0 <= x) (hy : 0 <= y) (hc0 : 0 <= c) (hc : c <= 1) : Ext Tryz.prog 239 [.int .u64 x, .int .u64 y, .int .u64 c] (.tuple #[.int .u64 ((x + y + c) % 18446744073709551616), .int .u64 ((x + y + c) / 18446744073709551616)]) := by
 refine ⟨fun w => ?_⟩
 obtain ⟨x, rfl⟩ := Int.eq_ofNat_of_zero_le hx
 obtain ⟨y, rfl⟩ := Int.eq_ofNat_of_zero_le hy
 obtain ⟨c, rfl⟩ := Int.eq_ofNat_of_zero_le hc0
 show (callFunc _ #[_, _, _]).run _ _ = _
 rw [run_callFunc_extern Tryz.func239 (by kernel_rfl) (by kernel_rfl) (by kernel_rfl) (e := add64Entry) (by kernel_rfl), run_add64 x y c (by omega) (by omega) (by omega) (by omega)]
 simp only [Result.andThen]
 try (congr 5 <;> omega)
theorem Rk (x y b : Int) (hx : 0 <= x) (hy : 0 <= y) (hy' : y < 18446744073709551616) (hb0 : 0 <= b) (hb : b <= 1) : Ext Tryz.prog 238 [.int .u64 x, .int .u64 y, .int .u64 b] (.tuple #[.int .u64 ((x - y - b) % 18446744073709551616), .int .u64 (if x < y + b then 1 else 0)]) := by
 refine ⟨fun w => ?_⟩
 obtain ⟨x, rfl⟩ := Int.eq_ofNat_of_zero_le hx
 obtain ⟨y, rfl⟩ := Int.eq_ofNat_of_zero_le hy
 obtain ⟨b, rfl⟩ := Int.eq_ofNat_of_zero_le hb0
 have e1 : (((x + 18446744073709551616 - y - b) % 18446744073709551616 : Nat) : Int) = ((x : Int) - y - b) % 18446744073709551616 := by omega
 have e2 : ((if x < y + b then 1 else 0 : Nat) : Int) = if (x : Int) < y + b then 1 else 0 := by split <;> split <;> omega
 rw [<- e1, <- e2]
 show (callFunc _ #[_, _, _]).run _ _ = _
 rw [run_callFunc_extern Tryz.func238 (by kernel_rfl) (by kernel_rfl) (by kernel_rfl) (e := sub64Entry) (by kernel_rfl), run_sub64 x y b (by omega)]
 rfl
theorem S6 (p q : Int) (hp : 0 <= p) (hq : 0 <= q) (h : p + q < 340282366920938463463374607431768211456) : Fn0 Tryz.prog 227 [A6 (wR p), A6 (wR q)] (A6 (wR (p + q))) := by
 unfold wR
 have c1 := Rj (p % 18446744073709551616) (q % 18446744073709551616) 0 (by omega) (by omega) (by omega) (by omega)
 have c2 := Rj (p / 18446744073709551616) (q / 18446744073709551616) ((p % 18446744073709551616 + q % 18446744073709551616 + 0) / 18446744073709551616) (by omega) (by omega) (by omega) (by omega)
 have e1 : (p % 18446744073709551616 + q % 18446744073709551616 + 0) % 18446744073709551616 = (p + q) % 18446744073709551616 := by omega
 have e2 : (p / 18446744073709551616 + q / 18446744073709551616 + (p % 18446744073709551616 + q % 18446744073709551616 + 0) / 18446744073709551616) % 18446744073709551616 = (p + q) / 18446744073709551616 := by omega
 rw [e1] at c1
 rw [e2] at c2
 generalize p / 18446744073709551616 = p1 at *
 generalize q / 18446744073709551616 = q1 at *
 generalize (p % 18446744073709551616 + q % 18446744073709551616 + 0) / 18446744073709551616 = cc at *
 generalize p % 18446744073709551616 = p0 at *
 generalize q % 18446744073709551616 = q0 at *
 generalize (p + q) / 18446744073709551616 = r1 at *
 generalize (p + q) % 18446744073709551616 = r0 at *
 refine Fn0.of Tryz.func227 Tryz.ntmps227 rfl rfl rfl ?_
 simp only [A0]
 repeat' (first
  | refine W ?_
  | refine Y ?_|(apply S.ext;exact rfl;exact c1;exact fun w L ρ => Fp w L ρ _ _;exact rfl)|(apply S.ext;exact rfl;exact c2;exact fun w L ρ => Fp w L ρ _ _;exact rfl)
  | refine V ?_
  | (refine W2 ?_ ?_ <;> intro hc))
 all_goals exact D4 rfl rfl rfl rfl rfl rfl
theorem Kr (p q : Int) (hq : 0 <= q) (hpq : q <= p) (h : p < 340282366920938463463374607431768211456) : Fn0 Tryz.prog 228 [A6 (wR p), A6 (wR q)] (A6 (wR (p - q))) := by
 unfold wR
 have c1 := Rk (p % 18446744073709551616) (q % 18446744073709551616) 0 (by omega) (by omega) (by omega) (by omega) (by omega)
 have c2 := Rk (p / 18446744073709551616) (q / 18446744073709551616) (if p % 18446744073709551616 < q % 18446744073709551616 + 0 then 1 else 0) (by omega) (by omega) (by omega) (by split <;> omega) (by split <;> omega)
 have e1 : (p % 18446744073709551616 - q % 18446744073709551616 - 0) % 18446744073709551616 = (p - q) % 18446744073709551616 := by omega
 have e2 : (p / 18446744073709551616 - q / 18446744073709551616 - (if p % 18446744073709551616 < q % 18446744073709551616 + 0 then 1 else 0)) % 18446744073709551616 = (p - q) / 18446744073709551616 := by split <;> omega
 rw [e1] at c1
 rw [e2] at c2
 generalize (if p / 18446744073709551616 < q / 18446744073709551616 + (if p % 18446744073709551616 < q % 18446744073709551616 + 0 then 1 else 0) then (1 : Int) else 0) = dd at *
 generalize (if p % 18446744073709551616 < q % 18446744073709551616 + 0 then (1 : Int) else 0) = cc at *
 generalize p / 18446744073709551616 = p1 at *
 generalize q / 18446744073709551616 = q1 at *
 generalize p % 18446744073709551616 = p0 at *
 generalize q % 18446744073709551616 = q0 at *
 generalize (p - q) / 18446744073709551616 = r1 at *
 generalize (p - q) % 18446744073709551616 = r0 at *
 refine Fn0.of Tryz.func228 Tryz.ntmps228 rfl rfl rfl ?_
 simp only [A0]
 repeat' (first
  | refine W ?_
  | refine Y ?_|(apply S.ext;exact rfl;exact c1;exact fun w L ρ => Fp w L ρ _ _;exact rfl)|(apply S.ext;exact rfl;exact c2;exact fun w L ρ => Fp w L ρ _ _;exact rfl)
  | refine V ?_
  | (refine W2 ?_ ?_ <;> intro hc))
 all_goals exact D4 rfl rfl rfl rfl rfl rfl
end Go.Proofs.YtcfjofhapbkmfaaGreatDoor
