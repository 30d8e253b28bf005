/- Contracts: package ratio's Make, Add, Sub, Div, Cmp and the reference's Make, Cmp, over rational numbers that fit. No conditions but those of each statement. | Contracts: the closures of profile.Curve, and the fractions that it reckons with. No conditions but those of each statement. | Contracts: profile.Curve of a distance that is not zero. No conditions but those of each statement. | Contracts: profile.Curve of a distance that is not zero. No conditions but those of each statement. | Contracts: profile.Curve of the distance zero, Knots, Time; the reference's Time. No conditions but those of each statement. -/
import Derived.Test.YtfchdagalklgpaaGreatDoorMe
import Derived.Test.YtfchdagalklgpaaGreatDoorMg
import Derived.Test.YtfchdagalklgpaaGreatDoorMo
import Derived.Test.YtfchdagalklgpaaGreatDoorMc
set_option linter.unusedSimpArgs false
namespace Go.Proofs.YtfchdagalklgpaaGreatDoor
set_option linter.unusedVariables false
open Go.RowKit
theorem Fn0.of_calls {P : Program} {f : FuncId} {args : List AV} {us : List Value} {v : Value} {r : AV} (ent : Enters P f) (ha : args.map AV.flat = us.map some) (hr : ∀ (w : World) (L : Nat → Prop), RelV w L noPl r v) (h : ∀ w, Calls P f us.toArray w fun e w' => e = .returned v ∧ Below w.heap.size w w') : Fn0 P f args r := by
  refine ⟨ent, fun L w vs _ hL hl hv => ?_⟩
  have hlen : args.length = us.length := by have := congrArg List.length ha; simpa using this
  obtain rfl : vs = us := by
    apply List.ext_getElem?
    intro i
    rcases Nat.lt_or_ge i args.length with hi | hi
    · have h1 : args[i]? = some args[i] := List.getElem?_eq_getElem hi
      have h2 : vs[i]? = some (vs[i]'(by omega)) := List.getElem?_eq_getElem _
      have h3 : us[i]? = some (us[i]'(by omega)) := List.getElem?_eq_getElem _
      have h4 : (args.map AV.flat)[i]? = (us.map some)[i]? := by rw [ha]
      rw [List.getElem?_map, List.getElem?_map, h1, h3] at h4
      simp only [Option.map_some, Option.some.injEq] at h4
      rw [h2, h3, (hv i _ _ h1 h2).flat h4]
    · rw [List.getElem?_eq_none (by omega), List.getElem?_eq_none (by omega)]
  refine (h w).mono ?_
  rintro e w' ⟨rfl, hb⟩
  exact ⟨v, rfl, hr w' L, hb⟩
theorem relV_list {w : World} {L : Nat → Prop} {ρ : Pl} : ∀ (l : List Value) (i : Nat) (x : AV) (v : Value), (l.map AV.val)[i]? = some x → l[i]? = some v → RelV w L ρ x v := fun l i x v hx hv => by
  rw [List.getElem?_map, hv] at hx
  simp only [Option.map_some, Option.some.injEq] at hx
  subst hx
  exact relV_val v
theorem relV_frac (w : World) (L : Nat → Prop) (ρ : Pl) (a b : Int) : RelV w L ρ (.agg [.val (.int .i64 a), .val (.int .i64 b)]) (.agg #[.int .i64 a, .int .i64 b]) :=
  .agg _ [.int .i64 a, .int .i64 b] rfl (relV_list [.int .i64 a, .int .i64 b])
theorem relV_fracE (w : World) (L : Nat → Prop) (ρ : Pl) (a b c : Int) : RelV w L ρ (.tup [.agg [.val (.int .i64 a), .val (.int .i64 b)], .val (.int .i64 c)]) (.tuple #[.agg #[.int .i64 a, .int .i64 b], .int .i64 c]) := by
  refine .tup _ [.agg #[.int .i64 a, .int .i64 b], .int .i64 c] rfl fun i x v hx hv => ?_
  match i, hx, hv with
  | 0, hx, hv => simp at hx hv; subst hx hv; exact relV_frac w L ρ a b
  | 1, hx, hv => simp at hx hv; subst hx hv; exact relV_val _
theorem relV_intE (w : World) (L : Nat → Prop) (ρ : Pl) (a c : Int) : RelV w L ρ (.tup [.val (.int .i64 a), .val (.int .i64 c)]) (.tuple #[.int .i64 a, .int .i64 c]) :=
  .tup _ [.int .i64 a, .int .i64 c] rfl (relV_list [.int .i64 a, .int .i64 c])
/-- A rational number that is a fraction of the program's. -/
def Fits (q : Rat) : Prop := q.num.natAbs ≤ 1152921504606846976 ∧ q.den ≤ 1152921504606846976
abbrev frR (q : Rat) : List Lf := [.i q.num, .i q.den]
abbrev frE (q : Rat) (e : Int) : AV := .tup [rowA (frR q), .i e]
theorem Fits.valid {q : Rat} (h : Fits q) : validB q.num q.den = true := valid_of_fits q h.1 h.2
theorem Fits.out {q : Rat} (h : Fits q) : outQ q = (q.num, (q.den : Int), 0) := if_pos h
theorem ratio_make (n d : Int) (hd : d ≠ 0) (n1 : -9223372036854775808 ≤ n) (n2 : n ≤ 9223372036854775807) (d1 : -9223372036854775808 ≤ d) (d2 : d ≤ 9223372036854775807) (hf : Fits (ratV n d)) : Fn0 Tryz.prog 131 [.i n, .i d] (frE (ratV n d) 0) := by
  refine Fn0.of_calls (us := [.int .i64 n, .int .i64 d]) ⟨_, Tryz.func131, rfl, rfl⟩ rfl (fun w L => relV_fracE w L noPl _ _ _) fun w => ?_
  have := make_any n d w n1 n2 d1 d2
  rw [show makeS n d = ((ratV n d).num, ((ratV n d).den : Int), 0) by unfold makeS; rw [if_neg hd, hf.out]] at this
  exact this
theorem ratio_add (p q : Rat) (hp : Fits p) (hq : Fits q) (hf : Fits (p + q)) : Fn0 Tryz.prog 133 [rowA (frR p), rowA (frR q)] (frE (p + q) 0) := by
  refine Fn0.of_calls (us := [.agg #[.int .i64 p.num, .int .i64 p.den], .agg #[.int .i64 q.num, .int .i64 q.den]]) ⟨_, Tryz.func133, rfl, rfl⟩ rfl (fun w L => relV_fracE w L noPl _ _ _) fun w => ?_
  have := add_any p.num p.den q.num q.den w
  rw [show addS p.num p.den q.num q.den = ((p + q).num, ((p + q).den : Int), 0) by unfold addS; rw [if_pos ⟨hp.valid, hq.valid⟩, ratV_self, ratV_self, hf.out]] at this
  exact this
theorem ratio_sub (p q : Rat) (hp : Fits p) (hq : Fits q) (hf : Fits (p - q)) : Fn0 Tryz.prog 132 [rowA (frR p), rowA (frR q)] (frE (p - q) 0) := by
  refine Fn0.of_calls (us := [.agg #[.int .i64 p.num, .int .i64 p.den], .agg #[.int .i64 q.num, .int .i64 q.den]]) ⟨_, Tryz.func132, rfl, rfl⟩ rfl (fun w L => relV_fracE w L noPl _ _ _) fun w => ?_
  have := sub_any p.num p.den q.num q.den w
  rw [show subS p.num p.den q.num q.den = ((p - q).num, ((p - q).den : Int), 0) by unfold subS; rw [if_pos ⟨hp.valid, hq.valid⟩, ratV_self, ratV_self, hf.out]] at this
  exact this
theorem ratio_div (p q : Rat) (hp : Fits p) (hq : Fits q) (h0 : q ≠ 0) (hf : Fits (p / q)) : Fn0 Tryz.prog 134 [rowA (frR p), rowA (frR q)] (frE (p / q) 0) := by
  refine Fn0.of_calls (us := [.agg #[.int .i64 p.num, .int .i64 p.den], .agg #[.int .i64 q.num, .int .i64 q.den]]) ⟨_, Tryz.func134, rfl, rfl⟩ rfl (fun w L => relV_fracE w L noPl _ _ _) fun w => ?_
  have h1 : q.num ≠ 0 := fun h => h0 (Rat.num_eq_zero.1 h)
  have := div_any p.num p.den q.num q.den w
  rw [show divS p.num p.den q.num q.den = ((p / q).num, ((p / q).den : Int), 0) by unfold divS; simp only [hp.valid, hq.valid, h1, ratV_self, and_self, if_true, if_false, ← Rat.div_def, hf.out]] at this
  exact this
theorem ratio_cmp (p q : Rat) (hp : Fits p) (hq : Fits q) : Fn0 Tryz.prog 44 [rowA (frR p), rowA (frR q)] (.tup [.i (cmpQ p q), .i 0]) := by
  refine Fn0.of_calls (us := [.agg #[.int .i64 p.num, .int .i64 p.den], .agg #[.int .i64 q.num, .int .i64 q.den]]) ⟨_, Tryz.func44, rfl, rfl⟩ rfl (fun w L => relV_intE w L noPl _ _) fun w => ?_
  have := cmp_any p.num p.den q.num q.den w
  rw [show cmpS p.num p.den q.num q.den = (cmpQ p q, 0) by unfold cmpS; rw [if_pos ⟨hp.valid, hq.valid⟩, ratV_self, ratV_self]] at this
  exact this
end Go.Proofs.YtfchdagalklgpaaGreatDoor
set_option linter.unusedSimpArgs false
namespace Go.Proofs.YtfchdagalklgpaaGreatDoor
set_option linter.unusedVariables false
open Go.RowKit
theorem resFr {P : Program} {st : St} {fn : Func} {t b : Nat} {ty : TypeId} {cells : List AV} {ds : TypeDesc} {e : Exit} (cs : List Lf) [hu : HasU P ty ds] [hi : HasS P ty cs.length] (hr : fn.results = #[.cell t ty]) (he : e = .normal ∨ e = .ret) (h : st.tm.get t = some (.ptr b 0)) (hb : st.H.at b = .live cells) (hd : ds.isRow = true) (hc : cells = cs.map .lf) : Done P fn (rowA cs) e st :=
  ⟨he, [rowA cs], by rw [hr]; exact .cons (Res.row cs h hb hd hc (Nat.beq_refl _)) .nil, .one (.agg (outL_refl cs))⟩
theorem curve_keep (a b : Int) : Fn0 Tryz.prog 128 [rowA [.i a, .i b], .i 0, .rop [.i 0]] (rowA [.i a, .i b]) := by
  refine Fn0.of Tryz.func128 Tryz.ntmps128 rfl rfl rfl ?_
  simp only [entryTm]
  repeat' (first
    | (apply S.move; exact rfl; exact rfl)
    | (apply S.gCN; exact rfl; exact rfl; exact rfl; exact rfl)
    | (apply S.pCN; exact rfl; exact rfl; exact rfl)
    | (apply S.loadPA; exact rfl; exact rfl; exact rfl; exact rfl)
    | (apply S.box; exact rfl; exact rfl; exact rfl; exact rfl; exact rfl; exact rfl)
    | (apply S.alloc; exact rfl; exact rfl; exact rfl; exact rfl; exact rfl)
    | (apply S.store; exact rfl; exact rfl; exact rfl; exact rfl; exact rfl; exact rfl; exact rfl)
    | (apply S.cmp; exact rfl; exact rfl; exact rfl; exact rfl)
    | apply S.nil
    | apply T.regs
    | (apply T.cCN; exact rfl)
    | apply T.seq
    | (apply T.skip; first | change T _ _ _ _ _ | change Done _ _ _ _ _ | change Next _ _ _ _ _ _ | skip)
    | (apply T.ret; change Done _ _ _ _ _))
  all_goals exact resFr [.i a, .i b] Tryz.results128 (by first | exact .inl rfl | exact .inr rfl) rfl rfl rfl rfl
theorem curve_whole (n : Int) : Fn0 Tryz.prog 129 [.i n] (rowA (frR (n : Rat))) := by
  refine Fn0.of Tryz.func129 Tryz.ntmps129 rfl rfl rfl ?_
  simp only [entryTm]
  repeat' (first
    | (apply S.move; exact rfl; exact rfl)
    | (apply S.alloc; exact rfl; exact rfl; exact rfl; exact rfl; exact rfl)
    | (apply S.store; exact rfl; exact rfl; exact rfl; exact rfl; exact rfl; exact rfl; exact rfl)
    | (apply S.build; exact rfl; exact rfl; exact rfl)
    | apply S.nil
    | apply T.regs
    | (apply T.ret; change Done _ _ _ _ _))
  all_goals exact resFr (frR (n : Rat)) Tryz.results129 (by first | exact .inl rfl | exact .inr rfl) rfl rfl rfl rfl
theorem out_keep {H : AH} {a b : Int} {x : AV} (h : Out1 H x (.rop [.i 0])) : Out2L H [rowA [.i a, .i b], .i 0, x] [rowA [.i a, .i b], .i 0, .rop [.i 0]] :=
  .cons (.agg (show OutL H ([Lf.i a, .i b].map .lf) ([Lf.i a, .i b].map .lf) from outL_refl _)) (.cons (.one (.lf _)) (.cons (.one h) .nil))
theorem curve_over (n d : Int) (hd : d ≠ 0) (n1 : -9223372036854775808 ≤ n) (n2 : n ≤ 9223372036854775807) (d1 : -9223372036854775808 ≤ d) (d2 : d ≤ 9223372036854775807) (hf : Fits (ratV n d)) : Fn0 Tryz.prog 130 [.i n, .i d, .rop [.fn (.func 128) [[.i 0]]]] (rowA (frR (ratV n d))) := by
  refine Fn0.of Tryz.func130 Tryz.ntmps130 rfl rfl rfl ?_
  simp only [entryTm]
  repeat' (first
    | (apply S.move; exact rfl; exact rfl)
    | (apply S.loadR; exact rfl; exact rfl; exact rfl)
    | (apply T.draw 7 anyOrder (by decide +kernel); simp only [List.take_succ_cons, List.take_zero, List.drop_succ_cons, List.drop_zero])
    | (apply S.call; exact rfl; exact rfl; exact ratio_make n d hd n1 n2 d1 d2 hf; exact rfl)
    | (apply S.callFV; exact rfl; exact rfl; exact rfl; exact curve_keep (ratV n d).num (ratV n d).den; exact out_keep (.rop _); exact rfl; exact rfl)
    | (apply S.alloc; exact rfl; exact rfl; exact rfl; exact rfl; exact rfl)
    | (apply S.store; exact rfl; exact rfl; exact rfl; exact rfl; exact rfl; exact rfl; exact rfl)
    | (apply S.extract; exact rfl; exact rfl; exact rfl)
    | apply S.nil
    | apply T.regs
    | (apply T.ret; change Done _ _ _ _ _))
  all_goals exact resFr (frR (ratV n d)) Tryz.results130 (by first | exact .inl rfl | exact .inr rfl) rfl rfl rfl rfl
/-! ### The fractions -/
theorem ratV_div (n d : Int) : ratV n d = (n : Rat) / (d : Rat) := Rat.divInt_eq_div n d
theorem fits_ratV {n d : Int} (h1 : -1152921504606846976 ≤ n) (h2 : n ≤ 1152921504606846976) (h3 : 1 ≤ d) (h4 : d ≤ 1152921504606846976) : Fits (ratV n d) := by
  obtain ⟨neg, e1, e2, _⟩ := make_q n d (by omega)
  have hg : 0 < (Int.gcd n d : Int) := by
    have : 0 < Int.gcd n d := Int.gcd_pos_of_ne_zero_right n (by omega)
    omega
  have k1 : (n.natAbs : Int) / (Int.gcd n d : Int) ≤ n.natAbs := Int.ediv_le_self _ (by omega)
  have k2 : (d.natAbs : Int) / (Int.gcd n d : Int) ≤ d.natAbs := Int.ediv_le_self _ (by omega)
  have k3 : 0 ≤ (n.natAbs : Int) / (Int.gcd n d : Int) := Int.ediv_nonneg (by omega) (by omega)
  constructor
  · rw [e1]
    split <;> omega
  · omega
theorem fits_int {n : Int} (h1 : -1152921504606846976 ≤ n) (h2 : n ≤ 1152921504606846976) : Fits (n : Rat) :=
  ⟨by show n.natAbs ≤ _; omega, by show 1 ≤ _; omega⟩
theorem mulb {a b A B : Int} (ha : 0 ≤ a ∧ a ≤ A) (hb : 0 ≤ b ∧ b ≤ B) : 0 ≤ a * b ∧ a * b ≤ A * B := ⟨Int.mul_nonneg ha.1 hb.1, Int.mul_le_mul ha.2 hb.2 hb.1 (by omega)⟩
theorem mulp {a b : Int} (ha : 1 ≤ a) (hb : 1 ≤ b) : 1 ≤ a * b := by
  have := Int.mul_pos (by omega : 0 < a) (by omega : 0 < b)
  omega
theorem topN_le (P : Nat → Bool) : ∀ k, topN P k ≤ k
  | 0 => Nat.le_refl _
  | k + 1 => by
    rw [topN]
    split
    · exact Nat.le_refl _
    · have := topN_le P k; omega
theorem topN_pos {P : Nat → Bool} (h : P 1 = true) : ∀ k, 1 ≤ k → 1 ≤ topN P k
  | 0, hk => by omega
  | k + 1, _ => by
    rw [topN]
    split
    · omega
    · rename_i hn
      rcases Nat.eq_zero_or_pos k with rfl | hk
      · exact absurd h hn
      · exact topN_pos h k hk
theorem topS_spec {d : Int} {m : MoveR} (hm : moveP m) (hd : 1 ≤ d ∧ d ≤ 1048576) : 1 ≤ topS d m ∧ topS d m ≤ 8192 := by
  obtain ⟨_, _, h3, h4, h5⟩ := hm
  unfold topS
  rw [if_neg (by omega)]
  have hle := topN_le (fun w => decide (fitsW d m w)) m.speed.toNat
  refine ⟨topN_pos (decide_eq_true ?_) _ (by omega), by omega⟩
  unfold fitsW
  have e1 : m.rise ≤ m.rise * m.fall := by
    have := Int.mul_le_mul_of_nonneg_left h5.1 (by omega : 0 ≤ m.rise)
    omega
  have e2 : m.fall ≤ m.rise * m.fall := by
    have := Int.mul_le_mul_of_nonneg_right h4.1 (by omega : 0 ≤ m.fall)
    omega
  have e3 : 2 * (m.rise * m.fall) ≤ 2 * d * m.rise * m.fall := by
    have := Int.mul_le_mul_of_nonneg_right (show 2 ≤ 2 * d by omega) (show 0 ≤ m.rise * m.fall by omega)
    rw [Int.mul_assoc (2 * d)]
    exact this
  simp only [Int.natCast_one, Int.one_mul]
  omega
end Go.Proofs.YtfchdagalklgpaaGreatDoor
set_option linter.unusedSimpArgs false
namespace Go.Proofs.YtfchdagalklgpaaGreatDoor
set_option linter.unusedVariables false
open Go.RowKit
theorem chunks_rows {k n : Nat} {l : List Lf} (hl : l.length = k * n) : ∀ row ∈ chunks k n l, row.length = n := fun row h => by
  obtain ⟨i, hi⟩ := List.getElem?_of_mem h
  exact (chunks_at k l i row hl hi).1
theorem out_over {H : AH} {b9 b10 : Nat} {f : FuncId} {n d : Int} (h10 : H.at b10 = .live [.fn (.func f) [] [.ptr b9 0]]) (h9 : H.at b9 = .live [.lf (.i 0)]) : Out2L H [.i n, .i d, .ptr b10 0] [.i n, .i d, .rop [.fn (.func f) [[.i 0]]]] := by
  refine .cons (.one (.lf _)) (.cons (.one (.lf _)) (.cons (.one (.ptrF h10 fun j x hj => ?_)) .nil))
  match j, hj with
  | 0, hj =>
    simp at hj
    subst hj
    refine ⟨_, rfl, .fn rfl fun i cs hi => ?_⟩
    match i, hi with
    | 0, hi =>
      simp at hi
      subst hi
      refine ⟨b9, 0, _, rfl, h9, fun j x hj => ?_⟩
      match j, hj with
      | 0, hj => simpa using hj
section
variable (d : Int) (m : MoveR)
abbrev qRise : Rat := ratV (topS d m * topS d m) (2 * m.rise)
abbrev qFall : Rat := ratV (topS d m * topS d m) (2 * m.fall)
abbrev qStart : Rat := ratV (topS d m) m.rise
abbrev qLast : Rat := ratV (topS d m) m.fall
abbrev qWay : Rat := (d : Rat) - qRise d m
abbrev qRun : Rat := qWay d m - qFall d m
abbrev qFlat : Rat := qRun d m / ((topS d m : Int) : Rat)
abbrev qStop : Rat := qStart d m + qFlat d m
abbrev qEnd : Rat := qStop d m + qLast d m
abbrev qTop : Rat := (d : Rat) - qFall d m
end
theorem rat_ne {n : Int} (h : n ≠ 0) : (n : Rat) ≠ 0 := fun e => h (Rat.intCast_inj.1 (e.trans (show (0 : Rat) = ((0 : Int) : Rat) from rfl)))
structure CurveOk (d : Int) (m : MoveR) : Prop where
  w : 1 ≤ topS d m ∧ topS d m ≤ 8192
  ww : 1 ≤ (topS d m : Int) * topS d m ∧ (topS d m : Int) * topS d m ≤ 67108864
  rise : Fits (qRise d m)
  fall : Fits (qFall d m)
  start : Fits (qStart d m)
  last : Fits (qLast d m)
  way : Fits (qWay d m)
  run : Fits (qRun d m)
  flat : Fits (qFlat d m)
  stop : Fits (qStop d m)
  fin : Fits (qEnd d m)
  top : Fits (qTop d m)
  half : Fits (ratV m.rise 2)
  halfF : Fits (ratV (-m.fall) 2)
  speed : Fits ((topS d m : Int) : Rat)
  dist : Fits (d : Rat)
  time : qEnd d m = ratV (2 * m.rise * m.fall * d + topS d m * topS d m * (m.rise + m.fall)) (2 * m.rise * m.fall * topS d m)
theorem curve_ok {d : Int} {m : MoveR} (hm : moveP m) (hd : 1 ≤ d ∧ d ≤ 1048576) : CurveOk d m := by
  have hw := topS_spec hm hd
  obtain ⟨_, _, h3, h4, h5⟩ := hm
  obtain ⟨w, hwe⟩ : ∃ w : Int, w = (topS d m : Int) := ⟨_, rfl⟩
  obtain ⟨R, hRe⟩ : ∃ R : Int, R = m.rise := ⟨_, rfl⟩
  obtain ⟨F, hFe⟩ : ∃ F : Int, F = m.fall := ⟨_, rfl⟩
  rw [← hRe] at h4
  rw [← hFe] at h5
  have hw' : 1 ≤ w ∧ w ≤ 8192 := by omega
  have r0 := rat_ne (n := R) (by omega)
  have f0 := rat_ne (n := F) (by omega)
  have w0 := rat_ne (n := w) (by omega)
  have ww := mulb (a := w) (b := w) (A := 8192) (B := 8192) (by omega) (by omega)
  have ww1 := mulp (a := w) (b := w) (by omega) (by omega)
  have rf := mulb (a := 2 * R) (b := F) (A := 32768) (B := 16384) (by omega) (by omega)
  have rf1 := mulp (a := 2 * R) (b := F) (by omega) (by omega)
  have rfd := mulb (a := 2 * R * F) (b := d) (A := 536870912) (B := 1048576) (by omega) (by omega)
  have rfw := mulb (a := 2 * R * F) (b := w) (A := 536870912) (B := 8192) (by omega) (by omega)
  have rfw1 := mulp (a := 2 * R * F) (b := w) (by omega) (by omega)
  have wrf := mulb (a := w * w) (b := R + F) (A := 67108864) (B := 32768) (by omega) (by omega)
  have rd := mulb (a := 2 * R) (b := d) (A := 32768) (B := 1048576) (by omega) (by omega)
  have fd := mulb (a := 2 * F) (b := d) (A := 32768) (B := 1048576) (by omega) (by omega)
  have fww := mulb (a := 2 * F) (b := w * w) (A := 32768) (B := 67108864) (by omega) (by omega)
  have e1 : (d : Rat) - ratV (w * w) (2 * R) = ratV (2 * R * d - w * w) (2 * R) := by
    simp only [ratV_div, Rat.intCast_mul, Rat.intCast_sub, Rat.intCast_add]
    rw [show (((2 : Int)) : Rat) = 2 from rfl]
    grind
  have e2 : (d : Rat) - ratV (w * w) (2 * R) - ratV (w * w) (2 * F) = ratV (2 * R * F * d - w * w * (R + F)) (2 * R * F) := by
    simp only [ratV_div, Rat.intCast_mul, Rat.intCast_sub, Rat.intCast_add]
    rw [show (((2 : Int)) : Rat) = 2 from rfl]
    grind
  have e3 : ((d : Rat) - ratV (w * w) (2 * R) - ratV (w * w) (2 * F)) / (w : Rat) = ratV (2 * R * F * d - w * w * (R + F)) (2 * R * F * w) := by
    simp only [ratV_div, Rat.intCast_mul, Rat.intCast_sub, Rat.intCast_add]
    rw [show (((2 : Int)) : Rat) = 2 from rfl]
    grind
  have e4 : ratV w R + ((d : Rat) - ratV (w * w) (2 * R) - ratV (w * w) (2 * F)) / (w : Rat) = ratV (2 * R * F * d - w * w * (R + F) + 2 * F * (w * w)) (2 * R * F * w) := by
    simp only [ratV_div, Rat.intCast_mul, Rat.intCast_sub, Rat.intCast_add]
    rw [show (((2 : Int)) : Rat) = 2 from rfl]
    grind
  have e5 : ratV w R + ((d : Rat) - ratV (w * w) (2 * R) - ratV (w * w) (2 * F)) / (w : Rat) + ratV w F = ratV (2 * R * F * d + w * w * (R + F)) (2 * R * F * w) := by
    simp only [ratV_div, Rat.intCast_mul, Rat.intCast_sub, Rat.intCast_add]
    rw [show (((2 : Int)) : Rat) = 2 from rfl]
    grind
  have e6 : (d : Rat) - ratV (w * w) (2 * F) = ratV (2 * F * d - w * w) (2 * F) := by
    simp only [ratV_div, Rat.intCast_mul, Rat.intCast_sub, Rat.intCast_add]
    rw [show (((2 : Int)) : Rat) = 2 from rfl]
    grind
  have g1 : Fits (ratV (w * w) (2 * R)) := fits_ratV (by omega) (by omega) (by omega) (by omega)
  have g2 : Fits (ratV (w * w) (2 * F)) := fits_ratV (by omega) (by omega) (by omega) (by omega)
  have g3 : Fits (ratV w R) := fits_ratV (by omega) (by omega) (by omega) (by omega)
  have g4 : Fits (ratV w F) := fits_ratV (by omega) (by omega) (by omega) (by omega)
  have g5 : Fits ((d : Rat) - ratV (w * w) (2 * R)) := by rw [e1]; exact fits_ratV (by omega) (by omega) (by omega) (by omega)
  have g6 : Fits ((d : Rat) - ratV (w * w) (2 * R) - ratV (w * w) (2 * F)) := by rw [e2]; exact fits_ratV (by omega) (by omega) (by omega) (by omega)
  have g7 : Fits (((d : Rat) - ratV (w * w) (2 * R) - ratV (w * w) (2 * F)) / (w : Rat)) := by rw [e3]; exact fits_ratV (by omega) (by omega) (by omega) (by omega)
  have g8 : Fits (ratV w R + ((d : Rat) - ratV (w * w) (2 * R) - ratV (w * w) (2 * F)) / (w : Rat)) := by rw [e4]; exact fits_ratV (by omega) (by omega) (by omega) (by omega)
  have g9 : Fits (ratV w R + ((d : Rat) - ratV (w * w) (2 * R) - ratV (w * w) (2 * F)) / (w : Rat) + ratV w F) := by rw [e5]; exact fits_ratV (by omega) (by omega) (by omega) (by omega)
  have g10 : Fits ((d : Rat) - ratV (w * w) (2 * F)) := by rw [e6]; exact fits_ratV (by omega) (by omega) (by omega) (by omega)
  have g11 : Fits (ratV R 2) := fits_ratV (by omega) (by omega) (by omega) (by omega)
  have g12 : Fits (ratV (-F) 2) := fits_ratV (by omega) (by omega) (by omega) (by omega)
  have g13 : Fits (w : Rat) := fits_int (by omega) (by omega)
  have g14 : Fits (d : Rat) := fits_int (by omega) (by omega)
  have hww : 1 ≤ w * w ∧ w * w ≤ 67108864 := by omega
  subst hwe hRe hFe
  exact ⟨hw, hww, g1, g2, g3, g4, g5, g6, g7, g8, g9, g10, g11, g12, g13, g14, e5⟩
end Go.Proofs.YtfchdagalklgpaaGreatDoor
set_option linter.unusedSimpArgs false
namespace Go.Proofs.YtfchdagalklgpaaGreatDoor
set_option linter.unusedVariables false
open Go.RowKit
theorem S.keepV {N : Nat} {ops : Array Oper} {m : Option Nat} {K : Tm → AH → Prop} {tm : Tm} {H : AH} {rest : List Oper} {ty : TypeId} {pos : String} {af : Array Edge} {d : Nat} {f : Operand} {fv x : AV} {xs : Array Operand} {ts : Array TypeId} {a b : Int} (hf : evT tm f = some fv) (hfn : fnOf fv = some (128, [x])) (hx : evs (evT tm) xs.toList = some [rowA [.i a, .i b], .i 0]) (hz : Out1 (hlist m H) x (.rop [.i 0])) (hN : Nat.ble (d + 1) N = true) (h : Reg m Tryz.prog N ops rest ((d, rowA [.i a, .i b]) :: tm) H K) : Reg m Tryz.prog N ops (⟨some d, .call ⟨.value f, xs, ts⟩, ty, pos, af, none⟩ :: rest) tm H K :=
  S.callFV hf hfn hx (curve_keep a b) (out_keep hz) rfl hN h
abbrev pieceR (f a b c : List Lf) : List Lf := f ++ a ++ b ++ c
abbrev frZ : List Lf := [.i 0, .i 1]
def rows0 (d : Int) (m : MoveR) : List (List Lf) := [pieceR frZ frZ frZ (frR (ratV m.rise 2)), pieceR (frR (qStop d m)) (frR (qTop d m)) (frR ((topS d m : Int) : Rat)) (frR (ratV (-m.fall) 2)), pieceR (frR (qEnd d m)) (frR (d : Rat)) frZ frZ]
def rows1 (d : Int) (m : MoveR) : List (List Lf) := [pieceR frZ frZ frZ (frR (ratV m.rise 2)), pieceR (frR (qStart d m)) (frR (qRise d m)) (frR ((topS d m : Int) : Rat)) frZ, pieceR (frR (qStop d m)) (frR (qTop d m)) (frR ((topS d m : Int) : Rat)) (frR (ratV (-m.fall) 2)), pieceR (frR (qEnd d m)) (frR (d : Rat)) frZ frZ]
theorem rows0_len (d : Int) (m : MoveR) : ∀ r ∈ rows0 d m, r.length = 8 := by
  intro r hr
  simp only [rows0, List.mem_cons, List.not_mem_nil, or_false] at hr
  rcases hr with rfl | rfl | rfl <;> rfl
theorem rows1_len (d : Int) (m : MoveR) : ∀ r ∈ rows1 d m, r.length = 8 := by
  intro r hr
  simp only [rows1, List.mem_cons, List.not_mem_nil, or_false] at hr
  rcases hr with rfl | rfl | rfl | rfl <;> rfl
def curveR (d : Int) (m : MoveR) : List (List Lf) := if (qRun d m).num = 0 then rows0 d m else rows1 d m
set_option maxHeartbeats 40000000 in
set_option maxRecDepth 100000 in
theorem prof_curve (d : Int) (m : MoveR) (hm : moveP m) (hd : 1 ≤ d ∧ d ≤ 1048576) : Fn0 Tryz.prog 101 [.i d, rowA m.row] (.tup [.sl (curveR d m), .i 0]) := by
  have K := curve_ok hm hd
  have k1 := K.w
  have k2 := K.ww
  have cg : Fn0 Tryz.prog 126 [.i d, rowA m.row] (.i 0) := by
    have := prof_given d m
    rwa [show wayE d m = 0 by unfold wayE; rw [if_pos hm, if_pos (by omega)]] at this
  have ct := prof_top d m hm (by omega)
  have hmv := hm
  obtain ⟨_, _, h3, h4, h5⟩ := hm
  have o1 := curve_over (topS d m * topS d m) (2 * m.rise) (by omega) (by omega) (by omega) (by omega) (by omega) K.rise
  have o2 := curve_over (topS d m * topS d m) (2 * m.fall) (by omega) (by omega) (by omega) (by omega) (by omega) K.fall
  have o3 := curve_over (topS d m) m.rise (by omega) (by omega) (by omega) (by omega) (by omega) K.start
  have o4 := curve_over (topS d m) m.fall (by omega) (by omega) (by omega) (by omega) (by omega) K.last
  have o5 := curve_over m.rise 2 (by omega) (by omega) (by omega) (by omega) (by omega) K.half
  have o6 := curve_over (-m.fall) 2 (by omega) (by omega) (by omega) (by omega) (by omega) K.halfF
  have u1 := curve_whole d
  have u2 := curve_whole (topS d m)
  have s1 := ratio_sub (d : Rat) (qRise d m) K.dist K.rise K.way
  have s2 := ratio_sub (qWay d m) (qFall d m) K.way K.fall K.run
  have s3 := ratio_div (qRun d m) ((topS d m : Int) : Rat) K.run K.speed (rat_ne (by omega)) K.flat
  have s4 := ratio_add (qStart d m) (qFlat d m) K.start K.flat K.stop
  have s5 := ratio_add (qStop d m) (qLast d m) K.stop K.last K.fin
  have s6 := ratio_sub (d : Rat) (qFall d m) K.dist K.fall K.top
  have hd0 : ¬ d = 0 := by omega
  refine Fn0.of Tryz.func101 Tryz.ntmps101 rfl rfl rfl ?_
  simp only [entryTm]
  repeat' (first
    | (apply S.move; exact rfl; exact rfl)
    | (apply S.assign; exact rfl; exact rfl)
    | (apply S.fieldP; exact rfl; exact rfl; exact rfl)
    | (apply S.loadP; exact rfl; exact rfl; exact rfl; exact rfl)
    | (apply T.drawR 9 anyOrder (by decide +kernel); simp only [List.take_succ_cons, List.take_zero, List.drop_succ_cons, List.drop_zero])
    | (apply T.draw 16 anyOrder (by decide +kernel); simp only [List.take_succ_cons, List.take_zero, List.drop_succ_cons, List.drop_zero])
    | (apply T.draw 9 anyOrder (by decide +kernel); simp only [List.take_succ_cons, List.take_zero, List.drop_succ_cons, List.drop_zero])
    | (apply T.draw 28 anyOrder (by decide +kernel); simp only [List.take_succ_cons, List.take_zero, List.drop_succ_cons, List.drop_zero])
    | (apply T.drawAll anyOrder (by decide +kernel))
    | (apply S.call; exact rfl; exact rfl; exact cg; exact rfl)
    | (apply S.call; exact rfl; exact rfl; exact ct; exact rfl)
    | (apply S.call; exact rfl; exact rfl; exact s1; exact rfl)
    | (apply S.call; exact rfl; exact rfl; exact s2; exact rfl)
    | (apply S.call; exact rfl; exact rfl; exact s3; exact rfl)
    | (apply S.call; exact rfl; exact rfl; exact s4; exact rfl)
    | (apply S.call; exact rfl; exact rfl; exact s5; exact rfl)
    | (apply S.call; exact rfl; exact rfl; exact s6; exact rfl)
    | (apply S.keepV; exact rfl; exact rfl; exact rfl; exact .ptr0 rfl; exact rfl)
    | (apply S.callFV; exact rfl; exact rfl; exact rfl; exact u1; exact .cons (.one (.lf _)) .nil; exact rfl; exact rfl)
    | (apply S.callFV; exact rfl; exact rfl; exact rfl; exact u2; exact .cons (.one (.lf _)) .nil; exact rfl; exact rfl)
    | (apply S.callFV; exact rfl; exact rfl; exact rfl; exact o1; exact out_over rfl rfl; exact rfl; exact rfl)
    | (apply S.callFV; exact rfl; exact rfl; exact rfl; exact o2; exact out_over rfl rfl; exact rfl; exact rfl)
    | (apply S.callFV; exact rfl; exact rfl; exact rfl; exact o3; exact out_over rfl rfl; exact rfl; exact rfl)
    | (apply S.callFV; exact rfl; exact rfl; exact rfl; exact o4; exact out_over rfl rfl; exact rfl; exact rfl)
    | (apply S.callFV; exact rfl; exact rfl; exact rfl; exact o5; exact out_over rfl rfl; exact rfl; exact rfl)
    | (apply S.callFV; exact rfl; exact rfl; exact rfl; exact o6; exact out_over rfl rfl; exact rfl; exact rfl)
    | (apply S.neg; exact rfl; exact rfl; omega)
    | (apply S.arith; exact rfl; exact rfl; exact rfl; exact rfl; omega)
    | (apply S.appendO; exact rfl; exact rfl; exact rfl; exact rfl; exact rfl; exact rfl; exact rfl; exact rfl; exact rfl; exact chunks_rows rfl; exact rfl; exact rfl; simp [chunks_len]; simp [chunks_len])
    | (apply S.buildSliceO (d := 110); exact rfl; exact rfl; exact rfl; exact rfl; exact rfl; exact rfl)
    | (apply S.buildSliceF; exact rfl; exact rfl; exact rfl; exact rfl; exact rfl; exact rfl; exact rfl; exact rfl)
    | (apply S.loadPA; exact rfl; exact rfl; exact rfl; exact rfl)
    | (apply S.box; exact rfl; exact rfl; exact rfl; exact rfl; exact rfl; exact rfl)
    | (apply S.alloc; exact rfl; exact rfl; exact rfl; exact rfl; exact rfl)
    | (apply S.store; exact rfl; exact rfl; exact rfl; exact rfl; exact rfl; exact rfl; exact rfl)
    | (apply S.storeD; exact rfl; exact rfl; exact rfl; exact rfl; exact rfl; exact rfl; exact rfl; exact rfl)
    | (apply S.cmp; exact rfl; exact rfl; exact rfl; exact rfl)
    | (apply S.extract; exact rfl; exact rfl; exact rfl)
    | (apply S.makeFunc; exact rfl; exact rfl)
    | (apply S.build; exact rfl; exact rfl; exact rfl)
    | apply S.nil
    | apply T.regs
    | (apply T.cCN; exact rfl)
    | (apply T.cF; exact rfl; assumption)
    | (apply T.cSn; exact rfl; intro hc; rotate_left; intro hc; rotate_right)
    | apply T.seq
    | (apply T.skip; first | change T _ _ _ _ _ | change Done _ _ _ _ _ | change Next _ _ _ _ _ _ | skip)
    | (apply T.ret; change Done _ _ _ _ _))
  all_goals first
    | (rw [show curveR d m = rows0 d m from if_pos (by assumption)]
       exact ⟨.inr rfl, [_, _], .cons (.tmp rfl) (.cons (.tmp rfl) .nil), .tup (.cons (.one (.own (rows := rows0 d m) rfl (OwnRows.of (rows0 d m).flatten (rows0_len d m) rfl))) (.cons (.one (.lf _)) .nil))⟩)
    | (rw [show curveR d m = rows1 d m from if_neg (by assumption)]
       exact ⟨.inr rfl, [_, _], .cons (.tmp rfl) (.cons (.tmp rfl) .nil), .tup (.cons (.one (.own (rows := rows1 d m) rfl (OwnRows.of (rows1 d m).flatten (rows1_len d m) rfl))) (.cons (.one (.lf _)) .nil))⟩)
end Go.Proofs.YtfchdagalklgpaaGreatDoor
set_option linter.unusedSimpArgs false
namespace Go.Proofs.YtfchdagalklgpaaGreatDoor
set_option linter.unusedVariables false
open Go.RowKit
section
variable {P : Program} {N : Nat} {ops : Array Oper} {m : Option Nat} {K : Tm → AH → Prop} {tm : Tm} {H : AH} {rest : List Oper} {ty : TypeId} {pos : String} {af : Array Edge} {d : Nat} {t e : TypeId}
/-- A slice of one element that is built and never written again. -/
theorem S.buildSlice1 {ps : Array (Nat × Operand)} {n : Nat} {zv : Value} {ys : List (Nat × AV)} {out : List AV} {cs : List Lf} [hu : HasU P t (.slice e)] [hi : HasS P e n] [hz : HasZ P e zv] (h1 : Nat.ble 1 (1 * n) = true) (h2 : Nat.ble (1 * n) 16777216 = true) (hy : partsEv (evT tm) ps.toList = some ys) (ho : fillA (fun (i : Nat) => some (i * n, n)) ys (zeroRow zv (1 * n)) = some out) (hc : lfs out = some cs) (hl : Nat.beq cs.length (1 * n) = true) (hN : Nat.ble (d + 1) N = true) (h : Reg m P N ops rest ((d, .sl [cs]) :: tm) H K) : Reg m P N ops (⟨some d, .buildSlice t 1 ps, ty, pos, af, none⟩ :: rest) tm H K :=
  S.buildSliceF h1 h2 hy ho hc hl (by
    have := Nat.eq_of_beq_eq_true hl
    simp only [chunks, takeN_eq]
    rw [List.take_of_length_le (by omega)]) hN h
end
theorem rows_one {n : Nat} {r : List Lf} (h : r.length = n) : ∀ x ∈ [r], x.length = n := by
  intro x hx
  simp only [List.mem_cons, List.not_mem_nil, or_false] at hx
  rw [hx]; exact h
theorem under_lf (n : Nat) (cs : List Lf) : (cs.map AV.lf).all (AV.under n) = true := by
  rw [List.all_eq_true]
  intro x hx
  obtain ⟨y, _, rfl⟩ := List.mem_map.1 hx
  rfl
set_option maxHeartbeats 8000000 in
theorem prof_curve0 (m : MoveR) (hm : moveP m) : Fn0 Tryz.prog 101 [.i 0, rowA m.row] (.tup [.sl [pieceR frZ frZ frZ frZ], .i 0]) := by
  have cg : Fn0 Tryz.prog 126 [.i 0, rowA m.row] (.i 0) := by
    have := prof_given 0 m
    rwa [show wayE 0 m = 0 by unfold wayE; rw [if_pos hm, if_pos (by omega)]] at this
  refine Fn0.of Tryz.func101 Tryz.ntmps101 rfl rfl rfl ?_
  simp only [entryTm]
  repeat' (first
    | (apply S.move; exact rfl; exact rfl)
    | (apply S.assign; exact rfl; exact rfl)
    | (apply S.call; exact rfl; exact rfl; exact cg; exact rfl)
    | (apply S.buildSliceF; exact rfl; exact rfl; exact rfl; exact rfl; exact rfl; exact rfl; exact rfl; exact rfl)
    | (apply S.loadPA; exact rfl; exact rfl; exact rfl; exact rfl)
    | (apply S.box; exact rfl; exact rfl; exact rfl; exact rfl; exact rfl; exact rfl)
    | (apply S.alloc; exact rfl; exact rfl; exact rfl; exact rfl; exact rfl)
    | (apply S.store; exact rfl; exact rfl; exact rfl; exact rfl; exact rfl; exact rfl; exact rfl)
    | (apply S.cmp; exact rfl; exact rfl; exact rfl; exact rfl)
    | (apply S.build; exact rfl; exact rfl; exact rfl)
    | apply S.nil
    | apply T.regs
    | (apply T.cC; exact rfl)
    | (apply T.cCN; exact rfl)
    | apply T.seq
    | (apply T.skip; first | change T _ _ _ _ _ | change Done _ _ _ _ _ | change Next _ _ _ _ _ _ | skip)
    | (apply T.ret; change Done _ _ _ _ _))
  all_goals exact ⟨.inr rfl, [.sl [pieceR frZ frZ frZ frZ], .i 0], .cons (.tmp rfl) (.cons (.tmp rfl) .nil), .tup (.cons (.one (.lf _)) (.cons (.one (.lf _)) .nil))⟩
/-- A piece of a curve, as integers. -/
structure PieceR where
  f1 : Int
  f2 : Int
  a1 : Int
  a2 : Int
  b1 : Int
  b2 : Int
  c1 : Int
  c2 : Int
def PieceR.row (p : PieceR) : List Lf := [.i p.f1, .i p.f2, .i p.a1, .i p.a2, .i p.b1, .i p.b2, .i p.c1, .i p.c2]
def PieceR.at (p : PieceR) : List Lf := [.i p.f1, .i p.f2]
def knotT : Nat → AV
  | 0 => .val (.slice none 0 0)
  | k + 1 => .own 1 0 (k + 1) 2
def knotB (l : List PieceR) : Nat → HB
  | 0 => .dead
  | k + 1 => .live (((l.take (k + 1)).map PieceR.at).flatten.map .lf)
theorem at_len (l : List PieceR) : ∀ r ∈ l.map PieceR.at, r.length = 2 := by
  intro r hr
  obtain ⟨p, _, rfl⟩ := List.mem_map.1 hr
  rfl
theorem knot_len {l : List PieceR} {k : Nat} (h : k ≤ l.length) : (((l.take k).map PieceR.at).flatten.map AV.lf).length = k * 2 := by
  rw [List.length_map, flatten_len _ (at_len _), List.length_map, List.length_take, Nat.min_eq_left h]
theorem knot_snoc {l : List PieceR} {k : Nat} {x : PieceR} (h : l.take (k + 1) = l.take k ++ [x]) : ((l.take (k + 1)).map PieceR.at).flatten.map AV.lf = ((l.take k).map PieceR.at).flatten.map AV.lf ++ ([x.at].flatten).map AV.lf := by
  rw [h]; simp
set_option maxHeartbeats 8000000 in
theorem prof_knots (d : Int) (m : MoveR) (l : List PieceR) (hl : l.length ≤ 4) (h0 : l ≠ []) (hc : Fn0 Tryz.prog 101 [.i d, rowA m.row] (.tup [.sl (l.map PieceR.row), .i 0])) : Fn0 Tryz.prog 69 [.i d, rowA m.row] (.tup [.sl (l.map PieceR.at), .i 0]) := by
  have hle : (l.map PieceR.row).length = l.length := List.length_map _
  refine Fn0.of Tryz.func69 Tryz.ntmps69 rfl rfl rfl ?_
  simp only [entryTm]
  repeat' (first
    | (apply S.move; exact rfl; exact rfl)
    | (apply S.assign; exact rfl; exact rfl)
    | (apply S.call; exact rfl; exact rfl; exact hc; exact rfl)
    | (apply S.loadPA; exact rfl; exact rfl; exact rfl; exact rfl)
    | (apply S.box; exact rfl; exact rfl; exact rfl; exact rfl; exact rfl; exact rfl)
    | (apply S.cmp; exact rfl; exact rfl; exact rfl; exact rfl)
    | (apply S.extract; exact rfl; exact rfl; exact rfl)
    | (apply S.lenR; exact rfl; exact rfl)
    | apply S.nil
    | apply T.regs
    | (apply T.cCN; exact rfl)
    | apply T.seq
    | (apply T.skip; first | change T _ _ _ _ _ | change Done _ _ _ _ _ | change Next _ _ _ _ _ _ | skip)
    | apply T.block)
  refine T.kill 1 ?_
  refine T.loopS (fun k => k ≤ l.length) (fun k => l.length - k) (fun k => [(22, .i k), (21, .i (l.map PieceR.row).length), (20, .sl (l.map PieceR.row)), (8, knotT k)]) (fun k => [.live (m.row.map .lf), knotB l k]) 0 (Nat.zero_le _) (.cons rfl rfl (.cons rfl rfl (.cons rfl rfl (.cons rfl rfl .nil)))) (.live rfl (.dead .nil)) ?_
  intro k hk
  by_cases hlt : k < l.length
  · have h1 : (k : Int) < ((l.map PieceR.row).length : Nat) := by omega
    obtain ⟨x, hx⟩ := get_at hlt
    have hb := row_at (R := PieceR.row) hx
    have hsn := snoc_at hx
    cases k with
    | zero =>
      repeat' (first
        | (apply S.move; exact rfl; exact rfl)
        | (apply S.assign; exact rfl; exact rfl)
        | (apply S.fieldP; exact rfl; exact rfl; exact rfl)
        | (apply S.indexR; exact rfl; exact rfl; exact rfl; exact hb; omega; exact rfl)
        | (apply S.buildSlice1; exact rfl; exact rfl; exact rfl; exact rfl; exact rfl; exact rfl; exact rfl)
        | (apply S.appendN 1 (rows := []); exact rfl; exact rfl; exact rfl; exact rfl; exact rfl; exact rfl; exact rfl; exact rfl; exact rows_one rfl; exact rfl; exact Nat.le_of_ble_eq_true rfl; exact Nat.le_of_ble_eq_true rfl)
        | (apply S.arith; exact rfl; exact rfl; exact rfl; exact rfl; omega)
        | (apply S.loadPA; exact rfl; exact rfl; exact rfl; exact rfl)
        | (apply S.loadRA; exact rfl; exact rfl; exact rfl; exact rfl)
        | (apply S.alloc; exact rfl; exact rfl; exact rfl; exact rfl; exact rfl)
        | (apply S.store; exact rfl; exact rfl; exact rfl; exact rfl; exact rfl; exact rfl; exact rfl)
        | (apply S.cmp; exact rfl; exact rfl; exact rfl; exact rfl)
        | apply S.nil
        | apply T.regs
        | apply T.reg
        | (apply T.cT; exact rfl; assumption)
        | apply T.seq
        | (apply T.skip; first | change T _ _ _ _ _ | change Done _ _ _ _ _ | change Next _ _ _ _ _ _ | skip)
        | apply T.block)
      change Next _ _ _ _ _ _
      exact Next.go 1 (by omega) (by omega) (.cons rfl rfl (.cons rfl rfl (.cons rfl rfl (.cons rfl rfl .nil)))) (by
        show CovH _ _ [_, .live (((l.take (0 + 1)).map PieceR.at).flatten.map .lf)]
        rw [knot_snoc hsn]
        exact .live rfl (.live rfl .nil))
    | succ k =>
      repeat' (first
        | (apply S.move; exact rfl; exact rfl)
        | (apply S.assign; exact rfl; exact rfl)
        | (apply S.fieldP; exact rfl; exact rfl; exact rfl)
        | (apply S.indexR; exact rfl; exact rfl; exact rfl; exact hb; omega; exact rfl)
        | (apply S.buildSlice1; exact rfl; exact rfl; exact rfl; exact rfl; exact rfl; exact rfl; exact rfl)
        | (apply S.appendO; exact rfl; exact rfl; exact rfl; exact rfl; exact rfl; exact rfl; exact rfl; exact rfl; exact knot_len hk; exact rows_one rfl; exact rfl; exact clear_lf _ _; simp only [List.length_cons, List.length_nil]; omega; simp only [List.length_cons, List.length_nil]; omega)
        | (apply S.arith; exact rfl; exact rfl; exact rfl; exact rfl; omega)
        | (apply S.loadPA; exact rfl; exact rfl; exact rfl; exact rfl)
        | (apply S.loadRA; exact rfl; exact rfl; exact rfl; exact rfl)
        | (apply S.alloc; exact rfl; exact rfl; exact rfl; exact rfl; exact rfl)
        | (apply S.store; exact rfl; exact rfl; exact rfl; exact rfl; exact rfl; exact rfl; exact rfl)
        | (apply S.cmp; exact rfl; exact rfl; exact rfl; exact rfl)
        | apply S.nil
        | apply T.regs
        | apply T.reg
        | (apply T.cT; exact rfl; assumption)
        | apply T.seq
        | (apply T.skip; first | change T _ _ _ _ _ | change Done _ _ _ _ _ | change Next _ _ _ _ _ _ | skip)
        | apply T.block)
      change Next _ _ _ _ _ _
      exact Next.go (k + 2) (by omega) (by omega) (.cons rfl rfl (.cons rfl rfl (.cons rfl rfl (.cons rfl rfl .nil)))) (by
        show CovH _ _ [_, .live (((l.take (k + 1 + 1)).map PieceR.at).flatten.map .lf)]
        rw [knot_snoc hsn]
        exact .live rfl (.live (by rw [← List.map_append]; exact under_lf _ _) .nil))
  · have h1 : ¬ (k : Int) < ((l.map PieceR.row).length : Nat) := by omega
    have hkl : k = l.length := by omega
    repeat' (first
      | (apply S.move; exact rfl; exact rfl)
      | (apply S.assign; exact rfl; exact rfl)
      | (apply S.cmp; exact rfl; exact rfl; exact rfl; exact rfl)
      | apply S.nil
      | apply T.regs
      | (apply T.cF; exact rfl; assumption)
      | apply T.seq
      | (apply T.ret; change Done _ _ _ _ _)
      | (apply T.exit; first | change T _ _ _ _ _ | change Done _ _ _ _ _ | change Next _ _ _ _ _ _ | skip))
    cases k with
    | zero => exact absurd (List.eq_nil_of_length_eq_zero hkl.symm) h0
    | succ k =>
      have ht : l.take (k + 1) = l := List.take_of_length_le (by omega)
      refine ⟨.inr rfl, [_, _], .cons (.tmp rfl) (.cons (.tmp rfl) .nil), .tup (.cons (.one (.own (rows := l.map PieceR.at) (cells := ((l.map PieceR.at).flatten.map .lf)) ?_ ?_)) (.cons (.one (.lf _)) .nil))⟩
      · show HB.live (((l.take (k + 1)).map PieceR.at).flatten.map .lf) = _
        rw [ht]
      · have := OwnRows.of (l.map PieceR.at).flatten (at_len l) rfl
        rw [List.length_map, ← hkl] at this
        exact this
end Go.Proofs.YtfchdagalklgpaaGreatDoor
