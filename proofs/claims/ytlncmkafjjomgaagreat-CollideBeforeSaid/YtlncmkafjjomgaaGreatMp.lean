/- Contracts: package ratio's Make, Add, Sub, Div, Cmp and the reference's Make, Cmp, over rational numbers that fit. No conditions but those of each statement. | Contracts: the closures of profile.Curve, and the fractions that it reckons with. No conditions but those of each statement. | Contracts: profile.Curve of a distance that is not zero. No conditions but those of each statement. | Contracts: profile.Curve of a distance that is not zero. No conditions but those of each statement. | Contracts: profile.Curve of the distance zero, Knots, Time;the reference's Time. No conditions but those of each statement. -/
import Derived.Test.YtlncmkafjjomgaaGreatMe
import Derived.Test.YtlncmkafjjomgaaGreatMg
import Derived.Test.YtlncmkafjjomgaaGreatMo
import Derived.Test.YtlncmkafjjomgaaGreatMc
set_option linter.unusedSimpArgs false
namespace Go.Proofs.YtlncmkafjjomgaaGreat
set_option linter.unusedVariables false
open Go.RowKit
theorem Fn0.of_calls {P : Program} {f : FuncId} {args : List AV} {us : List Value} {v : Value} {r : AV} (ent : Enters P f) (ha : args.map AV.flat = us.map some) (hr : ∀ (w : World) (L : Nat → Prop), RelV w L noPl r v) (h : ∀ w, Calls P f us.toArray w fun e w' => e = .returned v ∧ Below w.heap.size w w') : Fn0 P f args r := by
 refine ⟨ent, fun L w vs _ hL hl hv => ?_⟩
 have hlen : args.length = us.length := by have := congrArg List.length ha;simpa using this
 obtain rfl : vs = us := by
  apply List.ext_getElem?
  intro i
  rcases Nat.lt_or_ge i args.length with hi | hi
  ·have h1 : args[i]? = some args[i] := List.getElem?_eq_getElem hi
   have h2 : vs[i]? = some (vs[i]'(by omega)) := List.getElem?_eq_getElem _
   have h3 : us[i]? = some (us[i]'(by omega)) := List.getElem?_eq_getElem _
   have h4 : (args.map AV.flat)[i]? = (us.map some)[i]? := by rw [ha]
   rw [List.getElem?_map, List.getElem?_map, h1, h3] at h4
   simp only [Option.map_some, Option.some.injEq] at h4
   rw [h2, h3, (hv i _ _ h1 h2).flat h4]
  ·rw [List.getElem?_eq_none (by omega), List.getElem?_eq_none (by omega)]
 refine (h w).mono ?_
 rintro e w' ⟨rfl, hb⟩
 exact ⟨v, rfl, hr w' L, hb⟩
theorem relV_list {w : World} {L : Nat → Prop} {ρ : Pl} : ∀ (l : List Value) (i : Nat) (x : AV) (v : Value), (l.map AV.val)[i]? = some x → l[i]? = some v → RelV w L ρ x v := fun l i x v hx hv => by
 rw [List.getElem?_map, hv] at hx
 simp only [Option.map_some, Option.some.injEq] at hx
 subst hx
 exact relV_val v
theorem relV_frac (w : World) (L : Nat → Prop) (ρ : Pl) (a b : Int) : RelV w L ρ (.agg [.val (.int .i64 a), .val (.int .i64 b)]) (.agg #[.int .i64 a, .int .i64 b]) :=
 .agg _ [.int .i64 a, .int .i64 b] rfl (relV_list [.int .i64 a, .int .i64 b])
theorem relV_fracE (w : World) (L : Nat → Prop) (ρ : Pl) (a b c : Int) : RelV w L ρ (.tup [.agg [.val (.int .i64 a), .val (.int .i64 b)], .val (.int .i64 c)]) (.tuple #[.agg #[.int .i64 a, .int .i64 b], .int .i64 c]) := by
 refine .tup _ [.agg #[.int .i64 a, .int .i64 b], .int .i64 c] rfl fun i x v hx hv => ?_
 match i, hx, hv with
 | 0, hx, hv => simp at hx hv;subst hx hv;exact relV_frac w L ρ a b
 | 1, hx, hv => simp at hx hv;subst hx hv;exact relV_val _
theorem relV_intE (w : World) (L : Nat → Prop) (ρ : Pl) (a c : Int) : RelV w L ρ (.tup [.val (.int .i64 a), .val (.int .i64 c)]) (.tuple #[.int .i64 a, .int .i64 c]) :=
 .tup _ [.int .i64 a, .int .i64 c] rfl (relV_list [.int .i64 a, .int .i64 c])
def Fits (q : Rat) : Prop := q.num.natAbs ≤ 1152921504606846976 ∧ q.den ≤ 1152921504606846976
abbrev frR (q : Rat) : List Lf := [.i q.num, .i q.den]
abbrev frE (q : Rat) (e : Int) : AV := .tup [rowA (frR q), .i e]
theorem Fits.valid {q : Rat} (h : Fits q) : validB q.num q.den = true := valid_of_fits q h.1 h.2
theorem Fits.out {q : Rat} (h : Fits q) : outQ q = (q.num, (q.den : Int), 0) := if_pos h
theorem ratio_make (n d : Int) (hd : d ≠ 0) (n1 : -9223372036854775808 ≤ n) (n2 : n ≤ 9223372036854775807) (d1 : -9223372036854775808 ≤ d) (d2 : d ≤ 9223372036854775807) (hf : Fits (ratV n d)) : Fn0 Tryz.prog 8 [.i n, .i d] (frE (ratV n d) 0) := by
 refine Fn0.of_calls (us := [.int .i64 n, .int .i64 d]) ⟨_, Tryz.func8, rfl, rfl⟩ rfl (fun w L => relV_fracE w L noPl _ _ _) fun w => ?_
 have := make_any n d w n1 n2 d1 d2
 rw [show makeS n d = ((ratV n d).num, ((ratV n d).den : Int), 0) by unfold makeS;rw [if_neg hd, hf.out]] at this
 exact this
theorem ratio_add (p q : Rat) (hp : Fits p) (hq : Fits q) (hf : Fits (p + q)) : Fn0 Tryz.prog 82 [rowA (frR p), rowA (frR q)] (frE (p + q) 0) := by
 refine Fn0.of_calls (us := [.agg #[.int .i64 p.num, .int .i64 p.den], .agg #[.int .i64 q.num, .int .i64 q.den]]) ⟨_, Tryz.func82, rfl, rfl⟩ rfl (fun w L => relV_fracE w L noPl _ _ _) fun w => ?_
 have := add_any p.num p.den q.num q.den w
 rw [show addS p.num p.den q.num q.den = ((p + q).num, ((p + q).den : Int), 0) by unfold addS;rw [if_pos ⟨hp.valid, hq.valid⟩, ratV_self, ratV_self, hf.out]] at this
 exact this
theorem ratio_sub (p q : Rat) (hp : Fits p) (hq : Fits q) (hf : Fits (p - q)) : Fn0 Tryz.prog 44 [rowA (frR p), rowA (frR q)] (frE (p - q) 0) := by
 refine Fn0.of_calls (us := [.agg #[.int .i64 p.num, .int .i64 p.den], .agg #[.int .i64 q.num, .int .i64 q.den]]) ⟨_, Tryz.func44, rfl, rfl⟩ rfl (fun w L => relV_fracE w L noPl _ _ _) fun w => ?_
 have := sub_any p.num p.den q.num q.den w
 rw [show subS p.num p.den q.num q.den = ((p - q).num, ((p - q).den : Int), 0) by unfold subS;rw [if_pos ⟨hp.valid, hq.valid⟩, ratV_self, ratV_self, hf.out]] at this
 exact this
theorem ratio_div (p q : Rat) (hp : Fits p) (hq : Fits q) (h0 : q ≠ 0) (hf : Fits (p / q)) : Fn0 Tryz.prog 95 [rowA (frR p), rowA (frR q)] (frE (p / q) 0) := by
 refine Fn0.of_calls (us := [.agg #[.int .i64 p.num, .int .i64 p.den], .agg #[.int .i64 q.num, .int .i64 q.den]]) ⟨_, Tryz.func95, rfl, rfl⟩ rfl (fun w L => relV_fracE w L noPl _ _ _) fun w => ?_
 have h1 : q.num ≠ 0 := fun h => h0 (Rat.num_eq_zero.1 h)
 have := div_any p.num p.den q.num q.den w
 rw [show divS p.num p.den q.num q.den = ((p / q).num, ((p / q).den : Int), 0) by unfold divS;simp only [hp.valid, hq.valid, h1, ratV_self, and_self, if_true, if_false, ← Rat.div_def, hf.out]] at this
 exact this
theorem ratio_cmp (p q : Rat) (hp : Fits p) (hq : Fits q) : Fn0 Tryz.prog 45 [rowA (frR p), rowA (frR q)] (.tup [.i (cmpQ p q), .i 0]) := by
 refine Fn0.of_calls (us := [.agg #[.int .i64 p.num, .int .i64 p.den], .agg #[.int .i64 q.num, .int .i64 q.den]]) ⟨_, Tryz.func45, rfl, rfl⟩ rfl (fun w L => relV_intE w L noPl _ _) fun w => ?_
 have := cmp_any p.num p.den q.num q.den w
 rw [show cmpS p.num p.den q.num q.den = (cmpQ p q, 0) by unfold cmpS;rw [if_pos ⟨hp.valid, hq.valid⟩, ratV_self, ratV_self]] at this
 exact this
theorem r02_cmp (p q : Rat) (hp : Fits p) (hq : Fits q) : Fn0 Tryz.prog 9 [rowA (frR p), rowA (frR q)] (.i (cmpQ p q)) := by
 refine Fn0.of_calls (us := [.agg #[.int .i64 p.num, .int .i64 p.den], .agg #[.int .i64 q.num, .int .i64 q.den]]) ⟨_, Tryz.func9, rfl, rfl⟩ rfl (fun w L => relV_val _) fun w => ?_
 have := rcmp_any p.num p.den q.num q.den w hp.valid hq.valid
 rw [ratV_self, ratV_self] at this
 exact this
theorem r02_of (n : Int) : Fn0 Tryz.prog 61 [.i n] (rowA [.i n, .i 1]) := by
 refine Fn0.of Tryz.func61 Tryz.ntmps61 rfl rfl rfl ?_
 simp only [entryTm]
 repeat' (first|(apply S.move;exact rfl;exact rfl)|(apply S.alloc;(iterate 5 exact rfl))|(apply S.store;(iterate 7 exact rfl))|(apply S.build;exact rfl;exact rfl;exact rfl) | apply S.nil | apply T.regs|(apply T.ret;change Done _ _ _ _ _))
 exact ⟨.inr rfl, [rowA [.i n, .i 1]], .cons (Res.row [.i n, .i 1] rfl rfl rfl rfl rfl) .nil, .one (.agg (outL_refl [.i n, .i 1]))⟩
end Go.Proofs.YtlncmkafjjomgaaGreat
set_option linter.unusedSimpArgs false
namespace Go.Proofs.YtlncmkafjjomgaaGreat
set_option linter.unusedVariables false
open Go.RowKit
/-! ### The fractions -/
theorem fits_ratV {n d : Int} (h1 : -1152921504606846976 ≤ n) (h2 : n ≤ 1152921504606846976) (h3 : 1 ≤ d) (h4 : d ≤ 1152921504606846976) : Fits (ratV n d) := by
 obtain ⟨neg, e1, e2, _⟩ := make_q n d (by omega)
 have hg : 0 < (Int.gcd n d : Int) := by
  have : 0 < Int.gcd n d := Int.gcd_pos_of_ne_zero_right n (by omega)
  omega
 have k1 : (n.natAbs : Int) / (Int.gcd n d : Int) ≤ n.natAbs := Int.ediv_le_self _ (by omega)
 have k2 : (d.natAbs : Int) / (Int.gcd n d : Int) ≤ d.natAbs := Int.ediv_le_self _ (by omega)
 have k3 : 0 ≤ (n.natAbs : Int) / (Int.gcd n d : Int) := Int.ediv_nonneg (by omega) (by omega)
 constructor
 ·rw [e1]
  split <;> omega
 ·omega
end Go.Proofs.YtlncmkafjjomgaaGreat
set_option linter.unusedSimpArgs false
namespace Go.Proofs.YtlncmkafjjomgaaGreat
set_option linter.unusedVariables false
open Go.RowKit
section
variable (d : Int) (m : MoveR)
end
end Go.Proofs.YtlncmkafjjomgaaGreat
set_option linter.unusedSimpArgs false
namespace Go.Proofs.YtlncmkafjjomgaaGreat
set_option linter.unusedVariables false
open Go.RowKit
end Go.Proofs.YtlncmkafjjomgaaGreat
set_option linter.unusedSimpArgs false
namespace Go.Proofs.YtlncmkafjjomgaaGreat
set_option linter.unusedVariables false
open Go.RowKit
section
variable {P : Program} {N : Nat} {ops : Array Oper} {m : Option Nat} {K : Tm → AH → Prop} {tm : Tm} {H : AH} {rest : List Oper} {ty : TypeId} {pos : String} {af : Array Edge} {d : Nat} {t e : TypeId}
theorem S.buildSlice1 {ps : Array (Nat × Operand)} {n : Nat} {zv : Value} {ys : List (Nat × AV)} {out : List AV} {cs : List Lf} [hu : HasU P t (.slice e)] [hi : HasS P e n] [hz : HasZ P e zv] (h1 : Nat.ble 1 (1 * n) = true) (h2 : Nat.ble (1 * n) 16777216 = true) (hy : partsEv (evT tm) ps.toList = some ys) (ho : fillA (fun (i : Nat) => some (i * n, n)) ys (zeroRow zv (1 * n)) = some out) (hc : lfs out = some cs) (hl : Nat.beq cs.length (1 * n) = true) (hN : Nat.ble (d + 1) N = true) (h : Reg m P N ops rest ((d, .sl [cs]) :: tm) H K) : Reg m P N ops (⟨some d, .buildSlice t 1 ps, ty, pos, af, none⟩ :: rest) tm H K :=
 S.buildSliceF h1 h2 hy ho hc hl (by
  have := Nat.eq_of_beq_eq_true hl
  simp only [chunks, takeN_eq]
  rw [List.take_of_length_le (by omega)]) hN h
end
theorem rows_one {n : Nat} {r : List Lf} (h : r.length = n) : ∀ x ∈ [r], x.length = n := by
 intro x hx
 simp only [List.mem_cons, List.not_mem_nil, or_false] at hx
 rw [hx];exact h
theorem under_lf (n : Nat) (cs : List Lf) : (cs.map AV.lf).all (AV.under n) = true := by
 rw [List.all_eq_true]
 intro x hx
 obtain ⟨y, _, rfl⟩ := List.mem_map.1 hx
 rfl
structure PieceR where
 f1 : Int
 f2 : Int
 a1 : Int
 a2 : Int
 b1 : Int
 b2 : Int
 c1 : Int
 c2 : Int
def PieceR.row (p : PieceR) : List Lf := [.i p.f1, .i p.f2, .i p.a1, .i p.a2, .i p.b1, .i p.b2, .i p.c1, .i p.c2]
def PieceR.at (p : PieceR) : List Lf := [.i p.f1, .i p.f2]
theorem at_len (l : List PieceR) : ∀ r ∈ l.map PieceR.at, r.length = 2 := by
 intro r hr
 obtain ⟨p, _, rfl⟩ := List.mem_map.1 hr
 rfl
end Go.Proofs.YtlncmkafjjomgaaGreat
