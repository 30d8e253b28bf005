/- Contracts: package ratio's Make, Add, Sub, Div, Cmp and the reference's Make, Cmp, over rational numbers that fit. No conditions but those of each statement. -/
import Derived.Test.YtbceahipbdmocaaGreatMe
import Derived.Test.YtbceahipbdmocaaGreatMf
import Derived.Test.YtbceahipbdmocaaGreatMn
import Derived.Test.YtbceahipbdmocaaGreatMc
set_option linter.unusedSimpArgs false
set_option linter.unusedVariables false
namespace Go.Proofs.YtbceahipbdmocaaGreat
open Go.RowKit
theorem Fn0.of_calls {P : Program} {f : FuncId} {args : List AV} {us : List Value} {v : Value} {r : AV} (ent : Enters P f) (ha : args.map AV.flat = us.map some) (hr : ∀ (w : World) (L : Nat -> Prop), RelV w L Ao r v) (h : ∀ w, Calls P f us.toArray w fun e w' => e = .returned v /\ Below w.heap.size w w') : Fn0 P f args r := by
 refine ⟨ent, fun L w vs _ hL hl hv => ?_⟩
 have hlen : args.length = us.length := by have := congrArg List.length ha;simpa using this
 obtain rfl : vs = us := by
  apply List.ext_getElem?
  intro i
  rcases Nat.lt_or_ge i args.length with hi | hi
  ·have h1 : args[i]? = some args[i] := List.getElem?_eq_getElem hi
   have h2 : vs[i]? = some (vs[i]'(by omega)) := List.getElem?_eq_getElem _
   have h3 : us[i]? = some (us[i]'(by omega)) := List.getElem?_eq_getElem _
   have h4 : (args.map AV.flat)[i]? = (us.map some)[i]? := by rw [ha]
   rw [List.getElem?_map, List.getElem?_map, h1, h3] at h4
   simp only [Option.map_some, Option.some.injEq] at h4
   rw [h2, h3, (hv i _ _ h1 h2).flat h4]
  ·rw [List.getElem?_eq_none (by omega), List.getElem?_eq_none (by omega)]
 refine (h w).mono ?_
 rintro e w' ⟨rfl, hb⟩
 exact ⟨v, rfl, hr w' L, hb⟩
theorem Ow {w : World} {L : Nat -> Prop} {ρ : Pl} : ∀ (l : List Value) (i : Nat) (x : AV) (v : Value), (l.map AV.val)[i]? = some x -> l[i]? = some v -> RelV w L ρ x v := fun l i x v hx hv => by
 rw [List.getElem?_map, hv] at hx
 simp only [Option.map_some, Option.some.injEq] at hx
 subst hx
 exact Ag v
theorem A5c (w : World) (L : Nat -> Prop) (ρ : Pl) (a b : Int) : RelV w L ρ (.agg [.val (.int .i64 a), .val (.int .i64 b)]) (.agg #[.int .i64 a, .int .i64 b]) :=
 .agg _ [.int .i64 a, .int .i64 b] rfl (Ow [.int .i64 a, .int .i64 b])
theorem Dm (w : World) (L : Nat -> Prop) (ρ : Pl) (a b c : Int) : RelV w L ρ (.tup [.agg [.val (.int .i64 a), .val (.int .i64 b)], .val (.int .i64 c)]) (.tuple #[.agg #[.int .i64 a, .int .i64 b], .int .i64 c]) := by
 refine .tup _ [.agg #[.int .i64 a, .int .i64 b], .int .i64 c] rfl fun i x v hx hv => ?_
 match i, hx, hv with
 | 0, hx, hv => simp at hx hv;subst hx hv;exact A5c w L ρ a b
 | 1, hx, hv => simp at hx hv;subst hx hv;exact Ag _
theorem Og (w : World) (L : Nat -> Prop) (ρ : Pl) (a c : Int) : RelV w L ρ (.tup [.val (.int .i64 a), .val (.int .i64 c)]) (.tuple #[.int .i64 a, .int .i64 c]) :=
 .tup _ [.int .i64 a, .int .i64 c] rfl (Ow [.int .i64 a, .int .i64 c])
def Fits (q : Rat) : Prop := q.num.natAbs <= 1152921504606846976 /\ q.den <= 1152921504606846976
abbrev frR (q : Rat) : List Lf := [.i q.num, .i q.den]
abbrev frE (q : Rat) (e : Int) : AV := .tup [A2 (frR q), .i e]
theorem Fits.valid {q : Rat} (h : Fits q) : Ad q.num q.den = true := Wg q h.1 h.2
theorem Fits.out {q : Rat} (h : Fits q) : Cj q = (q.num, (q.den : Int), 0) := if_pos h
theorem Iz (n d : Int) (hd : d ≠ 0) (n1 : -9223372036854775808 <= n) (n2 : n <= 9223372036854775807) (d1 : -9223372036854775808 <= d) (d2 : d <= 9223372036854775807) (hf : Fits (Aa n d)) : Fn0 Tryz.prog 48 [.i n, .i d] (frE (Aa n d) 0) := by
 refine Fn0.of_calls (us := [.int .i64 n, .int .i64 d]) ⟨_, Tryz.func48, rfl, rfl⟩ rfl (fun w L => Dm w L Ao _ _ _) fun w => ?_
 have := A7t n d w n1 n2 d1 d2
 rw [show Iy n d = ((Aa n d).num, ((Aa n d).den : Int), 0) by unfold Iy;rw [if_neg hd, hf.out]] at this
 exact this
theorem Ny (p q : Rat) (hp : Fits p) (hq : Fits q) (hf : Fits (p + q)) : Fn0 Tryz.prog 108 [A2 (frR p), A2 (frR q)] (frE (p + q) 0) := by
 refine Fn0.of_calls (us := [.agg #[.int .i64 p.num, .int .i64 p.den], .agg #[.int .i64 q.num, .int .i64 q.den]]) ⟨_, Tryz.func108, rfl, rfl⟩ rfl (fun w L => Dm w L Ao _ _ _) fun w => ?_
 have := Us p.num p.den q.num q.den w
 rw [show Gd p.num p.den q.num q.den = ((p + q).num, ((p + q).den : Int), 0) by unfold Gd;rw [if_pos ⟨hp.valid, hq.valid⟩, Bk, Bk, hf.out]] at this
 exact this
theorem Kp (p q : Rat) (hp : Fits p) (hq : Fits q) (hf : Fits (p - q)) : Fn0 Tryz.prog 53 [A2 (frR p), A2 (frR q)] (frE (p - q) 0) := by
 refine Fn0.of_calls (us := [.agg #[.int .i64 p.num, .int .i64 p.den], .agg #[.int .i64 q.num, .int .i64 q.den]]) ⟨_, Tryz.func53, rfl, rfl⟩ rfl (fun w L => Dm w L Ao _ _ _) fun w => ?_
 have := A1k p.num p.den q.num q.den w
 rw [show I1 p.num p.den q.num q.den = ((p - q).num, ((p - q).den : Int), 0) by unfold I1;rw [if_pos ⟨hp.valid, hq.valid⟩, Bk, Bk, hf.out]] at this
 exact this
theorem A4o (p q : Rat) (hp : Fits p) (hq : Fits q) (h0 : q ≠ 0) (hf : Fits (p / q)) : Fn0 Tryz.prog 170 [A2 (frR p), A2 (frR q)] (frE (p / q) 0) := by
 refine Fn0.of_calls (us := [.agg #[.int .i64 p.num, .int .i64 p.den], .agg #[.int .i64 q.num, .int .i64 q.den]]) ⟨_, Tryz.func170, rfl, rfl⟩ rfl (fun w L => Dm w L Ao _ _ _) fun w => ?_
 have h1 : q.num ≠ 0 := fun h => h0 (Rat.num_eq_zero.1 h)
 have := Aap p.num p.den q.num q.den w
 rw [show Hv p.num p.den q.num q.den = ((p / q).num, ((p / q).den : Int), 0) by unfold Hv;simp only [hp.valid, hq.valid, h1, Bk, and_self, if_true, if_false, <- Rat.div_def, hf.out]] at this
 exact this
theorem Ns (p q : Rat) (hp : Fits p) (hq : Fits q) : Fn0 Tryz.prog 55 [A2 (frR p), A2 (frR q)] (.tup [.i (Bv p q), .i 0]) := by
 refine Fn0.of_calls (us := [.agg #[.int .i64 p.num, .int .i64 p.den], .agg #[.int .i64 q.num, .int .i64 q.den]]) ⟨_, Tryz.func55, rfl, rfl⟩ rfl (fun w L => Og w L Ao _ _) fun w => ?_
 have := Aaf p.num p.den q.num q.den w
 rw [show L1 p.num p.den q.num q.den = (Bv p q, 0) by unfold L1;rw [if_pos ⟨hp.valid, hq.valid⟩, Bk, Bk]] at this
 exact this
theorem A38 {P : Program} {st : St} {fn : Func} {t b : Nat} {ty : TypeId} {cells : List AV} {ds : TypeDesc} {e : Exit} (cs : List Lf) [hu : HasU P ty ds] [hi : HasS P ty cs.length] (hr : fn.results = #[.cell t ty]) (he : e = .normal \/ e = .ret) (h : st.tm.get t = some (.ptr b 0)) (hb : st.H.at b = .live cells) (hd : ds.isRow = true) (hc : cells = cs.map .lf) : C2 P fn (A2 cs) e st :=
 ⟨he, [A2 cs], by rw [hr];exact .cons (Res.row cs h hb hd hc (Nat.beq_refl _)) .nil, .one (.agg (A9 cs))⟩
theorem Tl (a b : Int) : Fn0 Tryz.prog 167 [A2 [.i a, .i b], .i 0, .rop [.i 0]] (A2 [.i a, .i b]) := by
 refine Fn0.of Tryz.func167 Tryz.ntmps167 rfl rfl rfl ?_
 simp only [A1]
 repeat' (first | refine W ?_ | refine V ?_|(refine W2 ?_ ?_ <;> intro hc))
 all_goals exact A38 [.i a, .i b] Tryz.results167 (by first | exact .inl rfl | exact .inr rfl) rfl rfl rfl rfl
theorem Qp (n : Int) : Fn0 Tryz.prog 168 [.i n] (A2 (frR (n : Rat))) := by
 refine Fn0.of Tryz.func168 Tryz.ntmps168 rfl rfl rfl ?_
 simp only [A1]
 repeat' (first | refine W ?_ | refine V ?_|(refine W2 ?_ ?_ <;> intro hc))
 all_goals exact A38 (frR (n : Rat)) Tryz.results168 (by first | exact .inl rfl | exact .inr rfl) rfl rfl rfl rfl
theorem Z2 {H : AH} {a b : Int} {x : AV} (h : Out1 H x (.rop [.i 0])) : Out2L H [A2 [.i a, .i b], .i 0, x] [A2 [.i a, .i b], .i 0, .rop [.i 0]] :=
 .cons (.agg (show OutL H ([Lf.i a, .i b].map .lf) ([Lf.i a, .i b].map .lf) from A9 _)) (.cons (.one (.lf _)) (.cons (.one h) .nil))
theorem Fw (n d : Int) (hd : d ≠ 0) (n1 : -9223372036854775808 <= n) (n2 : n <= 9223372036854775807) (d1 : -9223372036854775808 <= d) (d2 : d <= 9223372036854775807) (hf : Fits (Aa n d)) : Fn0 Tryz.prog 169 [.i n, .i d, .rop [.fn (.func 167) [[.i 0]]]] (A2 (frR (Aa n d))) := by
 refine Fn0.of Tryz.func169 Tryz.ntmps169 rfl rfl rfl ?_
 simp only [A1]
 repeat' (first | refine W ?_|(apply T.draw 7 A0 (by decide +kernel);simp only [td])|refine Zc (Iz n d hd n1 n2 d1 d2 hf) ?_|(apply S.callFV;exact rfl;exact rfl;exact rfl;exact Tl (Aa n d).num (Aa n d).den;exact Z2 (.rop _);exact rfl;exact rfl) | refine V ?_|(refine W2 ?_ ?_ <;> intro hc))
 all_goals exact A38 (frR (Aa n d)) Tryz.results169 (by first | exact .inl rfl | exact .inr rfl) rfl rfl rfl rfl
/-! ### The fractions -/
theorem Hn (n d : Int) : Aa n d = (n : Rat) / (d : Rat) := Rat.divInt_eq_div n d
theorem Bn {n d : Int} (h1 : -1152921504606846976 <= n) (h2 : n <= 1152921504606846976) (h3 : 1 <= d) (h4 : d <= 1152921504606846976) : Fits (Aa n d) := by
 obtain ⟨neg, e1, e2, _⟩ := A50 n d (by omega)
 have hg : 0 < (Int.gcd n d : Int) := by
  have : 0 < Int.gcd n d := Int.gcd_pos_of_ne_zero_right n (by omega)
  omega
 have k1 : (n.natAbs : Int) / (Int.gcd n d : Int) <= n.natAbs := Int.ediv_le_self _ (by omega)
 have k2 : (d.natAbs : Int) / (Int.gcd n d : Int) <= d.natAbs := Int.ediv_le_self _ (by omega)
 have k3 : 0 <= (n.natAbs : Int) / (Int.gcd n d : Int) := Int.ediv_nonneg (by omega) (by omega)
 constructor
 ·rw [e1]
  split <;> omega
 ·omega
theorem Ch {n : Int} (h1 : -1152921504606846976 <= n) (h2 : n <= 1152921504606846976) : Fits (n : Rat) :=
 ⟨by show n.natAbs <= _;omega, by show 1 <= _;omega⟩
theorem Oq {a b A B : Int} (ha : 0 <= a /\ a <= A) (hb : 0 <= b /\ b <= B) : 0 <= a * b /\ a * b <= A * B := ⟨Int.mul_nonneg ha.1 hb.1, Int.mul_le_mul ha.2 hb.2 hb.1 (by omega)⟩
theorem A6s {a b : Int} (ha : 1 <= a) (hb : 1 <= b) : 1 <= a * b := by
 have := Int.mul_pos (by omega : 0 < a) (by omega : 0 < b)
 omega
theorem A15 (P : Nat -> Bool) : ∀ k, Me P k <= k
 | 0 => Nat.le_refl _
 | k + 1 => by
  rw [Me]
  split
  ·exact Nat.le_refl _
  ·have := A15 P k;omega
theorem Xe {P : Nat -> Bool} (h : P 1 = true) : ∀ k, 1 <= k -> 1 <= Me P k
 | 0, hk => by omega
 | k + 1, _ => by
  rw [Me]
  split
  ·omega
  ·rename_i hn
   rcases Nat.eq_zero_or_pos k with rfl | hk
   ·exact absurd h hn
   ·exact Xe h k hk
theorem A5d {d : Int} {m : MoveR} (hm : Dw m) (hd : 1 <= d /\ d <= 1048576) : 1 <= B7 d m /\ B7 d m <= 8192 := by
 obtain ⟨_, _, h3, h4, h5⟩ := hm
 unfold B7
 rw [if_neg (by omega)]
 have hle := A15 (fun w => decide (G3 d m w)) m.speed.toNat
 refine ⟨Xe (decide_eq_true ?_) _ (by omega), by omega⟩
 unfold G3
 have e1 : m.rise <= m.rise * m.fall := by
  have := Int.mul_le_mul_of_nonneg_left h5.1 (by omega : 0 <= m.rise)
  omega
 have e2 : m.fall <= m.rise * m.fall := by
  have := Int.mul_le_mul_of_nonneg_right h4.1 (by omega : 0 <= m.fall)
  omega
 have e3 : 2 * (m.rise * m.fall) <= 2 * d * m.rise * m.fall := by
  have := Int.mul_le_mul_of_nonneg_right (show 2 <= 2 * d by omega) (show 0 <= m.rise * m.fall by omega)
  rw [Int.mul_assoc (2 * d)]
  exact this
 simp only [Int.natCast_one, Int.one_mul]
 omega
theorem A05 {k n : Nat} {l : List Lf} (hl : l.length = k * n) : ∀ row ∈ chunks k n l, row.length = n := fun row h => by
 obtain ⟨i, hi⟩ := List.getElem?_of_mem h
 exact (O5 k l i row hl hi).1
theorem Hq {H : AH} {b9 b10 : Nat} {f : FuncId} {n d : Int} (h10 : H.at b10 = .live [.fn (.func f) [] [.ptr b9 0]]) (h9 : H.at b9 = .live [.lf (.i 0)]) : Out2L H [.i n, .i d, .ptr b10 0] [.i n, .i d, .rop [.fn (.func f) [[.i 0]]]] := by
 refine .cons (.one (.lf _)) (.cons (.one (.lf _)) (.cons (.one (.ptrF h10 fun j x hj => ?_)) .nil))
 match j, hj with
 | 0, hj =>
  simp at hj
  subst hj
  refine ⟨_, rfl, .fn rfl fun i cs hi => ?_⟩
  match i, hi with
  | 0, hi =>
   simp at hi
   subst hi
   refine ⟨b9, 0, _, rfl, h9, fun j x hj => ?_⟩
   match j, hj with
   | 0, hj => simpa using hj
section
variable (d : Int) (m : MoveR)
abbrev Pm : Rat := Aa (B7 d m * B7 d m) (2 * m.rise)
abbrev S7 : Rat := Aa (B7 d m * B7 d m) (2 * m.fall)
abbrev Lx : Rat := Aa (B7 d m) m.rise
abbrev A25 : Rat := Aa (B7 d m) m.fall
abbrev A81 : Rat := (d : Rat) - Pm d m
abbrev Tx : Rat := A81 d m - S7 d m
abbrev A27 : Rat := Tx d m / ((B7 d m : Int) : Rat)
abbrev J2 : Rat := Lx d m + A27 d m
abbrev Jy : Rat := J2 d m + A25 d m
abbrev Qy : Rat := (d : Rat) - S7 d m
end
theorem Sm {n : Int} (h : n ≠ 0) : (n : Rat) ≠ 0 := fun e => h (Rat.intCast_inj.1 (e.trans (show (0 : Rat) = ((0 : Int) : Rat) from rfl)))
structure CurveOk (d : Int) (m : MoveR) : Prop where
 w : 1 <= B7 d m /\ B7 d m <= 8192
 ww : 1 <= (B7 d m : Int) * B7 d m /\ (B7 d m : Int) * B7 d m <= 67108864
 rise : Fits (Pm d m)
 fall : Fits (S7 d m)
 start : Fits (Lx d m)
 last : Fits (A25 d m)
 way : Fits (A81 d m)
 run : Fits (Tx d m)
 flat : Fits (A27 d m)
 stop : Fits (J2 d m)
 fin : Fits (Jy d m)
 top : Fits (Qy d m)
 half : Fits (Aa m.rise 2)
 halfF : Fits (Aa (-m.fall) 2)
 speed : Fits ((B7 d m : Int) : Rat)
 dist : Fits (d : Rat)
 time : Jy d m = Aa (2 * m.rise * m.fall * d + B7 d m * B7 d m * (m.rise + m.fall)) (2 * m.rise * m.fall * B7 d m)
theorem Rf {d : Int} {m : MoveR} (hm : Dw m) (hd : 1 <= d /\ d <= 1048576) : CurveOk d m := by
 have hw := A5d hm hd
 obtain ⟨_, _, h3, h4, h5⟩ := hm
 obtain ⟨w, hwe⟩ : ∃ w : Int, w = (B7 d m : Int) := ⟨_, rfl⟩
 obtain ⟨R, hRe⟩ : ∃ R : Int, R = m.rise := ⟨_, rfl⟩
 obtain ⟨F, hFe⟩ : ∃ F : Int, F = m.fall := ⟨_, rfl⟩
 rw [<- hRe] at h4
 rw [<- hFe] at h5
 have hw' : 1 <= w /\ w <= 8192 := by omega
 have r0 := Sm (n := R) (by omega)
 have f0 := Sm (n := F) (by omega)
 have w0 := Sm (n := w) (by omega)
 have ww := Oq (a := w) (b := w) (A := 8192) (B := 8192) (by omega) (by omega)
 have ww1 := A6s (a := w) (b := w) (by omega) (by omega)
 have rf := Oq (a := 2 * R) (b := F) (A := 32768) (B := 16384) (by omega) (by omega)
 have rf1 := A6s (a := 2 * R) (b := F) (by omega) (by omega)
 have rfd := Oq (a := 2 * R * F) (b := d) (A := 536870912) (B := 1048576) (by omega) (by omega)
 have rfw := Oq (a := 2 * R * F) (b := w) (A := 536870912) (B := 8192) (by omega) (by omega)
 have rfw1 := A6s (a := 2 * R * F) (b := w) (by omega) (by omega)
 have wrf := Oq (a := w * w) (b := R + F) (A := 67108864) (B := 32768) (by omega) (by omega)
 have rd := Oq (a := 2 * R) (b := d) (A := 32768) (B := 1048576) (by omega) (by omega)
 have fd := Oq (a := 2 * F) (b := d) (A := 32768) (B := 1048576) (by omega) (by omega)
 have fww := Oq (a := 2 * F) (b := w * w) (A := 32768) (B := 67108864) (by omega) (by omega)
 have e1 : (d : Rat) - Aa (w * w) (2 * R) = Aa (2 * R * d - w * w) (2 * R) := by
  simp only [Hn, Rat.intCast_mul, Rat.intCast_sub, Rat.intCast_add]
  rw [show (((2 : Int)) : Rat) = 2 from rfl]
  grind
 have e2 : (d : Rat) - Aa (w * w) (2 * R) - Aa (w * w) (2 * F) = Aa (2 * R * F * d - w * w * (R + F)) (2 * R * F) := by
  simp only [Hn, Rat.intCast_mul, Rat.intCast_sub, Rat.intCast_add]
  rw [show (((2 : Int)) : Rat) = 2 from rfl]
  grind
 have e3 : ((d : Rat) - Aa (w * w) (2 * R) - Aa (w * w) (2 * F)) / (w : Rat) = Aa (2 * R * F * d - w * w * (R + F)) (2 * R * F * w) := by
  simp only [Hn, Rat.intCast_mul, Rat.intCast_sub, Rat.intCast_add]
  rw [show (((2 : Int)) : Rat) = 2 from rfl]
  grind
 have e4 : Aa w R + ((d : Rat) - Aa (w * w) (2 * R) - Aa (w * w) (2 * F)) / (w : Rat) = Aa (2 * R * F * d - w * w * (R + F) + 2 * F * (w * w)) (2 * R * F * w) := by
  simp only [Hn, Rat.intCast_mul, Rat.intCast_sub, Rat.intCast_add]
  rw [show (((2 : Int)) : Rat) = 2 from rfl]
  grind
 have e5 : Aa w R + ((d : Rat) - Aa (w * w) (2 * R) - Aa (w * w) (2 * F)) / (w : Rat) + Aa w F = Aa (2 * R * F * d + w * w * (R + F)) (2 * R * F * w) := by
  simp only [Hn, Rat.intCast_mul, Rat.intCast_sub, Rat.intCast_add]
  rw [show (((2 : Int)) : Rat) = 2 from rfl]
  grind
 have e6 : (d : Rat) - Aa (w * w) (2 * F) = Aa (2 * F * d - w * w) (2 * F) := by
  simp only [Hn, Rat.intCast_mul, Rat.intCast_sub, Rat.intCast_add]
  rw [show (((2 : Int)) : Rat) = 2 from rfl]
  grind
 have g1 : Fits (Aa (w * w) (2 * R)) := Bn (by omega) (by omega) (by omega) (by omega)
 have g2 : Fits (Aa (w * w) (2 * F)) := Bn (by omega) (by omega) (by omega) (by omega)
 have g3 : Fits (Aa w R) := Bn (by omega) (by omega) (by omega) (by omega)
 have g4 : Fits (Aa w F) := Bn (by omega) (by omega) (by omega) (by omega)
 have g5 : Fits ((d : Rat) - Aa (w * w) (2 * R)) := by rw [e1];exact Bn (by omega) (by omega) (by omega) (by omega)
 have g6 : Fits ((d : Rat) - Aa (w * w) (2 * R) - Aa (w * w) (2 * F)) := by rw [e2];exact Bn (by omega) (by omega) (by omega) (by omega)
 have g7 : Fits (((d : Rat) - Aa (w * w) (2 * R) - Aa (w * w) (2 * F)) / (w : Rat)) := by rw [e3];exact Bn (by omega) (by omega) (by omega) (by omega)
 have g8 : Fits (Aa w R + ((d : Rat) - Aa (w * w) (2 * R) - Aa (w * w) (2 * F)) / (w : Rat)) := by rw [e4];exact Bn (by omega) (by omega) (by omega) (by omega)
 have g9 : Fits (Aa w R + ((d : Rat) - Aa (w * w) (2 * R) - Aa (w * w) (2 * F)) / (w : Rat) + Aa w F) := by rw [e5];exact Bn (by omega) (by omega) (by omega) (by omega)
 have g10 : Fits ((d : Rat) - Aa (w * w) (2 * F)) := by rw [e6];exact Bn (by omega) (by omega) (by omega) (by omega)
 have g11 : Fits (Aa R 2) := Bn (by omega) (by omega) (by omega) (by omega)
 have g12 : Fits (Aa (-F) 2) := Bn (by omega) (by omega) (by omega) (by omega)
 have g13 : Fits (w : Rat) := Ch (by omega) (by omega)
 have g14 : Fits (d : Rat) := Ch (by omega) (by omega)
 have hww : 1 <= w * w /\ w * w <= 67108864 := by omega
 subst hwe hRe hFe
 exact ⟨hw, hww, g1, g2, g3, g4, g5, g6, g7, g8, g9, g10, g11, g12, g13, g14, e5⟩
theorem S.keepV {N : Nat} {ops : Array Oper} {m : Option Nat} {K : Tm -> AH -> Prop} {tm : Tm} {H : AH} {rest : List Oper} {ty : TypeId} {pos : String} {af : Array Edge} {d : Nat} {f : Operand} {fv x : AV} {xs : Array Operand} {ts : Array TypeId} {a b : Int} (hf : evT tm f = some fv) (hfn : fnOf fv = some (167, [x])) (hx : evs (evT tm) xs.toList = some [A2 [.i a, .i b], .i 0]) (hz : Out1 (Py m H) x (.rop [.i 0])) (hN : Nat.ble (d + 1) N = true) (h : Reg m Tryz.prog N ops rest ((d, A2 [.i a, .i b]) :: tm) H K) : Reg m Tryz.prog N ops (⟨some d, .call ⟨.value f, xs, ts⟩, ty, pos, af, none⟩ :: rest) tm H K :=
 S.callFV hf hfn hx (Tl a b) (Z2 hz) rfl hN h
abbrev Ic (f a b c : List Lf) : List Lf := f ++ a ++ b ++ c
abbrev frZ : List Lf := [.i 0, .i 1]
def Mk (d : Int) (m : MoveR) : List (List Lf) := [Ic frZ frZ frZ (frR (Aa m.rise 2)), Ic (frR (J2 d m)) (frR (Qy d m)) (frR ((B7 d m : Int) : Rat)) (frR (Aa (-m.fall) 2)), Ic (frR (Jy d m)) (frR (d : Rat)) frZ frZ]
def Mc (d : Int) (m : MoveR) : List (List Lf) := [Ic frZ frZ frZ (frR (Aa m.rise 2)), Ic (frR (Lx d m)) (frR (Pm d m)) (frR ((B7 d m : Int) : Rat)) frZ, Ic (frR (J2 d m)) (frR (Qy d m)) (frR ((B7 d m : Int) : Rat)) (frR (Aa (-m.fall) 2)), Ic (frR (Jy d m)) (frR (d : Rat)) frZ frZ]
theorem A4a (d : Int) (m : MoveR) : ∀ r ∈ Mk d m, r.length = 8 := by
 intro r hr
 simp only [Mk, List.mem_cons, List.not_mem_nil, or_false] at hr
 rcases hr with rfl | rfl | rfl <;> rfl
theorem A42 (d : Int) (m : MoveR) : ∀ r ∈ Mc d m, r.length = 8 := by
 intro r hr
 simp only [Mc, List.mem_cons, List.not_mem_nil, or_false] at hr
 rcases hr with rfl | rfl | rfl | rfl <;> rfl
def Jr (d : Int) (m : MoveR) : List (List Lf) := if (Tx d m).num = 0 then Mk d m else Mc d m
set_option maxHeartbeats 40000000 in
set_option maxRecDepth 100000 in
theorem Sq (d : Int) (m : MoveR) (hm : Dw m) (hd : 1 <= d /\ d <= 1048576) : Fn0 Tryz.prog 97 [.i d, A2 m.row] (.tup [.sl (Jr d m), .i 0]) := by
 have K := Rf hm hd
 have k1 := K.w
 have k2 := K.ww
 have cg : Fn0 Tryz.prog 165 [.i d, A2 m.row] (.i 0) := by
  have := Tq d m
  rwa [show Ui d m = 0 by unfold Ui;rw [if_pos hm, if_pos (by omega)]] at this
 have ct := A7k d m hm (by omega)
 have hmv := hm
 obtain ⟨_, _, h3, h4, h5⟩ := hm
 have o1 := Fw (B7 d m * B7 d m) (2 * m.rise) (by omega) (by omega) (by omega) (by omega) (by omega) K.rise
 have o2 := Fw (B7 d m * B7 d m) (2 * m.fall) (by omega) (by omega) (by omega) (by omega) (by omega) K.fall
 have o3 := Fw (B7 d m) m.rise (by omega) (by omega) (by omega) (by omega) (by omega) K.start
 have o4 := Fw (B7 d m) m.fall (by omega) (by omega) (by omega) (by omega) (by omega) K.last
 have o5 := Fw m.rise 2 (by omega) (by omega) (by omega) (by omega) (by omega) K.half
 have o6 := Fw (-m.fall) 2 (by omega) (by omega) (by omega) (by omega) (by omega) K.halfF
 have u1 := Qp d
 have u2 := Qp (B7 d m)
 have s1 := Kp (d : Rat) (Pm d m) K.dist K.rise K.way
 have s2 := Kp (A81 d m) (S7 d m) K.way K.fall K.run
 have s3 := A4o (Tx d m) ((B7 d m : Int) : Rat) K.run K.speed (Sm (by omega)) K.flat
 have s4 := Ny (Lx d m) (A27 d m) K.start K.flat K.stop
 have s5 := Ny (J2 d m) (A25 d m) K.stop K.last K.fin
 have s6 := Kp (d : Rat) (S7 d m) K.dist K.fall K.top
 have hd0 : ¬ d = 0 := by omega
 refine Fn0.of Tryz.func97 Tryz.ntmps97 rfl rfl rfl ?_
 simp only [A1]
 repeat' (first | refine W ?_|(apply T.drawR 9 A0 (by decide +kernel);simp only [td])|(apply T.draw 16 A0 (by decide +kernel);simp only [td])|(apply T.draw 15 A0 (by decide +kernel);simp only [td])|(apply T.draw 11 A0 (by decide +kernel);simp only [td])|(apply T.draw 9 A0 (by decide +kernel);simp only [td])|(apply T.draw 28 A0 (by decide +kernel);simp only [td])|(apply T.drawAll A0 (by decide +kernel))|refine Zc cg ?_|refine Zc ct ?_|refine Zc s1 ?_|refine Zc s2 ?_|refine Zc s3 ?_|refine Zc s4 ?_|refine Zc s5 ?_|refine Zc s6 ?_|(apply S.keepV;exact rfl;exact rfl;exact rfl;exact .ptr0 rfl;exact rfl)|(apply S.callFV;exact rfl;exact rfl;exact rfl;exact u1;exact .cons (.one (.lf _)) .nil;exact rfl;exact rfl)|(apply S.callFV;exact rfl;exact rfl;exact rfl;exact u2;exact .cons (.one (.lf _)) .nil;exact rfl;exact rfl)|(apply S.callFV;exact rfl;exact rfl;exact rfl;exact o1;exact Hq rfl rfl;exact rfl;exact rfl)|(apply S.callFV;exact rfl;exact rfl;exact rfl;exact o2;exact Hq rfl rfl;exact rfl;exact rfl)|(apply S.callFV;exact rfl;exact rfl;exact rfl;exact o3;exact Hq rfl rfl;exact rfl;exact rfl)|(apply S.callFV;exact rfl;exact rfl;exact rfl;exact o4;exact Hq rfl rfl;exact rfl;exact rfl)|(apply S.callFV;exact rfl;exact rfl;exact rfl;exact o5;exact Hq rfl rfl;exact rfl;exact rfl)|(apply S.callFV;exact rfl;exact rfl;exact rfl;exact o6;exact Hq rfl rfl;exact rfl;exact rfl)|(apply S.neg;exact rfl;exact rfl;omega)|refine Za ?_|(apply S.appendO;(iterate 9 exact rfl);exact A05 rfl;exact rfl;exact rfl;simp [J4];simp [J4])|(apply S.buildSliceO (d := 110);(iterate 6 exact rfl))|(apply S.buildSliceF;(iterate 8 exact rfl)) | refine V ?_|(refine W2 ?_ ?_ <;> intro hc))
 all_goals first
  | (rw [show Jr d m = Mk d m from if_pos (by assumption)]
     exact ⟨.inr rfl, [_, _], .cons (.tmp rfl) (.cons (.tmp rfl) .nil), .tup (.cons (.one (.own (rows := Mk d m) rfl (OwnRows.of (Mk d m).flatten (A4a d m) rfl))) (.cons (.one (.lf _)) .nil))⟩)
  | (rw [show Jr d m = Mc d m from if_neg (by assumption)]
     exact ⟨.inr rfl, [_, _], .cons (.tmp rfl) (.cons (.tmp rfl) .nil), .tup (.cons (.one (.own (rows := Mc d m) rfl (OwnRows.of (Mc d m).flatten (A42 d m) rfl))) (.cons (.one (.lf _)) .nil))⟩)
section
variable {P : Program} {N : Nat} {ops : Array Oper} {m : Option Nat} {K : Tm -> AH -> Prop} {tm : Tm} {H : AH} {rest : List Oper} {ty : TypeId} {pos : String} {af : Array Edge} {d : Nat} {t e : TypeId}
theorem S.buildSlice1 {ps : Array (Nat × Operand)} {n : Nat} {zv : Value} {ys : List (Nat × AV)} {out : List AV} {cs : List Lf} [hu : HasU P t (.slice e)] [hi : HasS P e n] [hz : HasZ P e zv] (h1 : Nat.ble 1 (1 * n) = true) (h2 : Nat.ble (1 * n) 16777216 = true) (hy : Df (evT tm) ps.toList = some ys) (ho : Fq (fun (i : Nat) => some (i * n, n)) ys (Es zv (1 * n)) = some out) (hc : lfs out = some cs) (hl : Nat.beq cs.length (1 * n) = true) (hN : Nat.ble (d + 1) N = true) (h : Reg m P N ops rest ((d, .sl [cs]) :: tm) H K) : Reg m P N ops (⟨some d, .buildSlice t 1 ps, ty, pos, af, none⟩ :: rest) tm H K :=
 S.buildSliceF h1 h2 hy ho hc hl (by
  have := Nat.eq_of_beq_eq_true hl
  simp only [chunks, Qw]
  rw [List.take_of_length_le (by omega)]) hN h
end
theorem Ai {n : Nat} {r : List Lf} (h : r.length = n) : ∀ x ∈ [r], x.length = n := by
 intro x hx
 simp only [List.mem_cons, List.not_mem_nil, or_false] at hx
 rw [hx];exact h
theorem Ak (n : Nat) (cs : List Lf) : (cs.map AV.lf).all (AV.under n) = true := by
 rw [List.all_eq_true]
 intro x hx
 obtain ⟨y, _, rfl⟩ := List.mem_map.1 hx
 rfl
set_option maxHeartbeats 8000000 in
theorem A0a (m : MoveR) (hm : Dw m) : Fn0 Tryz.prog 97 [.i 0, A2 m.row] (.tup [.sl [Ic frZ frZ frZ frZ], .i 0]) := by
 have cg : Fn0 Tryz.prog 165 [.i 0, A2 m.row] (.i 0) := by
  have := Tq 0 m
  rwa [show Ui 0 m = 0 by unfold Ui;rw [if_pos hm, if_pos (by omega)]] at this
 refine Fn0.of Tryz.func97 Tryz.ntmps97 rfl rfl rfl ?_
 simp only [A1]
 repeat' (first | refine W ?_|refine Zc cg ?_|(apply S.buildSliceF;(iterate 8 exact rfl)) | refine V ?_|(refine W2 ?_ ?_ <;> intro hc))
 all_goals exact D2 rfl rfl rfl
structure PieceR where
 f1 : Int
 f2 : Int
 a1 : Int
 a2 : Int
 b1 : Int
 b2 : Int
 c1 : Int
 c2 : Int
def PieceR.row (p : PieceR) : List Lf := [.i p.f1, .i p.f2, .i p.a1, .i p.a2, .i p.b1, .i p.b2, .i p.c1, .i p.c2]
def PieceR.at (p : PieceR) : List Lf := [.i p.f1, .i p.f2]
def Ac8 : Nat -> AV
 | 0 => .val (.slice none 0 0)
 | k + 1 => .own 1 0 (k + 1) 2
def Ace (l : List PieceR) : Nat -> HB
 | 0 => .dead
 | k + 1 => .live (((l.take (k + 1)).map PieceR.at).flatten.map .lf)
theorem at_len (l : List PieceR) : ∀ r ∈ l.map PieceR.at, r.length = 2 := by
 intro r hr
 obtain ⟨p, _, rfl⟩ := List.mem_map.1 hr
 rfl
theorem A79 {l : List PieceR} {k : Nat} (h : k <= l.length) : (((l.take k).map PieceR.at).flatten.map AV.lf).length = k * 2 := by
 rw [List.length_map, B5 _ (at_len _), List.length_map, List.length_take, Nat.min_eq_left h]
theorem V0 {l : List PieceR} {k : Nat} {x : PieceR} (h : l.take (k + 1) = l.take k ++ [x]) : ((l.take (k + 1)).map PieceR.at).flatten.map AV.lf = ((l.take k).map PieceR.at).flatten.map AV.lf ++ ([x.at].flatten).map AV.lf := by
 rw [h];simp
set_option maxHeartbeats 8000000 in
theorem A2l (d : Int) (m : MoveR) (l : List PieceR) (hl : l.length <= 4) (h0 : l ≠ []) (hc : Fn0 Tryz.prog 97 [.i d, A2 m.row] (.tup [.sl (l.map PieceR.row), .i 0])) : Fn0 Tryz.prog 243 [.i d, A2 m.row] (.tup [.sl (l.map PieceR.at), .i 0]) := by
 have hle : (l.map PieceR.row).length = l.length := List.length_map _
 refine Fn0.of Tryz.func243 Tryz.ntmps243 rfl rfl rfl ?_
 simp only [A1]
 repeat' (first | refine W ?_|refine Zc hc ?_ | refine V ?_|(refine W2 ?_ ?_ <;> intro hc))
 refine T.kill 1 ?_
 refine T.loopS (fun k => k <= l.length) (fun k => l.length - k) (fun k => [(22, .i k), (21, .i (l.map PieceR.row).length), (20, .sl (l.map PieceR.row)), (8, Ac8 k)]) (fun k => [.live (m.row.map .lf), Ace l k]) 0 (Nat.zero_le _) CV CH ?_
 intro k hk
 by_cases hlt : k < l.length
 ·have h1 : (k : Int) < ((l.map PieceR.row).length : Nat) := by omega
  obtain ⟨x, hx⟩ := Ab hlt
  have hb := Ac (R := PieceR.row) hx
  have hsn := B9 hx
  cases k with
  | zero =>
   repeat' (first | refine W ?_|refine Zi hb ?_|(apply S.buildSlice1;(iterate 7 exact rfl))|(apply S.appendN 1 (rows := []);(iterate 8 exact rfl);exact Ai rfl;exact rfl;exact Nat.le_of_ble_eq_true rfl;exact Nat.le_of_ble_eq_true rfl)|refine Za ?_ | refine V ?_|(refine W2 ?_ ?_ <;> intro hc))
   change Next _ _ _ _ _ _
   exact Next.go 1 (by omega) (by omega) CV (by
    show CovH _ _ [_, .live (((l.take (0 + 1)).map PieceR.at).flatten.map .lf)]
    rw [V0 hsn]
    exact .live rfl (.live rfl .nil))
  | succ k =>
   repeat' (first | refine W ?_|refine Zi hb ?_|(apply S.buildSlice1;(iterate 7 exact rfl))|(apply S.appendO;(iterate 8 exact rfl);exact A79 hk;exact Ai rfl;exact rfl;exact Aw _ _;simp only [List.length_cons, List.length_nil];omega;simp only [List.length_cons, List.length_nil];omega)|refine Za ?_ | refine V ?_|(refine W2 ?_ ?_ <;> intro hc))
   change Next _ _ _ _ _ _
   exact Next.go (k + 2) (by omega) (by omega) CV (by
    show CovH _ _ [_, .live (((l.take (k + 1 + 1)).map PieceR.at).flatten.map .lf)]
    rw [V0 hsn]
    exact .live rfl (.live (by rw [<- List.map_append];exact Ak _ _) .nil))
 ·have h1 : ¬ (k : Int) < ((l.map PieceR.row).length : Nat) := by omega
  have hkl : k = l.length := by omega
  repeat' (first | refine W ?_ | refine V ?_|(refine W2 ?_ ?_ <;> intro hc))
  cases k with
  | zero => exact absurd (List.eq_nil_of_length_eq_zero hkl.symm) h0
  | succ k =>
   have ht : l.take (k + 1) = l := List.take_of_length_le (by omega)
   refine ⟨.inr rfl, [_, _], .cons (.tmp rfl) (.cons (.tmp rfl) .nil), .tup (.cons (.one (.own (rows := l.map PieceR.at) (cells := ((l.map PieceR.at).flatten.map .lf)) ?_ ?_)) (.cons (.one (.lf _)) .nil))⟩
   ·show HB.live (((l.take (k + 1)).map PieceR.at).flatten.map .lf) = _
    rw [ht]
   ·have := OwnRows.of (l.map PieceR.at).flatten (at_len l) rfl
    rw [List.length_map, <- hkl] at this
    exact this
end Go.Proofs.YtbceahipbdmocaaGreat
