/- Contracts: package ratio's Make, Add, Sub, Div, Cmp and the reference's Make, Cmp, over rational numbers that fit. No conditions but those of each statement. -/
import Derived.Test.YtkboebgkcjcpfaaGreatDoorQb
import Derived.Test.YtkboebgkcjcpfaaGreatDoorMd
import Derived.Test.YtkboebgkcjcpfaaGreatDoorMn
import Derived.Test.YtkboebgkcjcpfaaGreatDoorMc
import Derived.Test.YtkboebgkcjcpfaaGreatDoorPa
set_option linter.unusedSimpArgs false
set_option linter.unusedVariables false
namespace Go.Proofs.YtkboebgkcjcpfaaGreatDoor
open Go.RowKit
theorem Oy (n d : Int) (hd : d ≠ 0) (n1 : -9223372036854775808 <= n) (n2 : n <= 9223372036854775807) (d1 : -9223372036854775808 <= d) (d2 : d <= 9223372036854775807) (hf : Fits (Ab n d)) : Fn0 Tryz.prog 115 [.i n, .i d] (frE (Ab n d) 0) := Ea hf ▸ A4x n d hd n1 n2 d1 d2
theorem R8 (p q : Rat) (hp : Fits p) (hq : Fits q) (hf : Fits (p + q)) : Fn0 Tryz.prog 236 [A4 (frR p), A4 (frR q)] (frE (p + q) 0) := Ea hf ▸ Ty p q hp hq
theorem L9 (p q : Rat) (hp : Fits p) (hq : Fits q) (hf : Fits (p - q)) : Fn0 Tryz.prog 235 [A4 (frR p), A4 (frR q)] (frE (p - q) 0) := Ea hf ▸ A5t p q hp hq
theorem A0p (p q : Rat) (hp : Fits p) (hq : Fits q) (h0 : q ≠ 0) (hf : Fits (p / q)) : Fn0 Tryz.prog 237 [A4 (frR p), A4 (frR q)] (frE (p / q) 0) := Ea hf ▸ A17 p q hp hq h0
theorem A0o (p q : Rat) (hp : Fits p) (hq : Fits q) : Fn0 Tryz.prog 65 [A4 (frR p), A4 (frR q)] (.tup [.i (Dy p q), .i 0]) := A16 p q hp hq
theorem A3b (n d : Int) (hd : d ≠ 0) (n1 : -9223372036854775808 <= n) (n2 : n <= 9223372036854775807) (d1 : -9223372036854775808 <= d) (d2 : d <= 9223372036854775807) (hf : Fits (Ab n d)) : Fn0 Tryz.prog 215 [.i n, .i d] (frE (Ab n d) 0) := by
 refine Fn0.of_calls (us := [.int .i64 n, .int .i64 d]) ⟨_, Tryz.func215, rfl, rfl⟩ rfl (fun w L => Oz w L B0 _ _ _) fun w => ?_
 have := A0z n d w n1 n2 d1 d2
 rw [show At n d = ((Ab n d).num, ((Ab n d).den : Int), 0) by unfold At;rw [if_neg hd, hf.out]] at this
 exact this
theorem A4t (p q : Rat) (hp : Fits p) (hq : Fits q) : Fn0 Tryz.prog 130 [A4 (frR p), A4 (frR q)] (.i (Dy p q)) := by
 refine Fn0.of_calls (us := [.agg #[.int .i64 p.num, .int .i64 p.den], .agg #[.int .i64 q.num, .int .i64 q.den]]) ⟨_, Tryz.func130, rfl, rfl⟩ rfl (fun w L => A9 _) fun w => ?_
 have := A3g p.num p.den q.num q.den w hp.valid hq.valid
 rw [Gp, Gp] at this
 exact this
theorem Ot (n : Int) : Fn0 Tryz.prog 35 [.i n] (A4 [.i n, .i 1]) := by
 refine Fn0.of Tryz.func35 Tryz.ntmps35 rfl rfl rfl ?_
 simp only [A0]
 repeat' (first | refine W ?_ | refine V ?_|(refine W2 ?_ ?_ <;> intro hc))
 exact ⟨.inr rfl, [A4 [.i n, .i 1]], .cons (Res.row [.i n, .i 1] rfl rfl rfl rfl rfl) .nil, .one (.agg (An [.i n, .i 1]))⟩
theorem Jp {P : Program} {st : St} {fn : Func} {t b : Nat} {ty : TypeId} {cells : List AV} {ds : TypeDesc} {e : Exit} (cs : List Lf) [hu : HasU P ty ds] [hi : HasS P ty cs.length] (hr : fn.results = #[.cell t ty]) (he : e = .normal \/ e = .ret) (h : st.tm.get t = some (.ptr b 0)) (hb : st.H.at b = .live cells) (hd : ds.isRow = true) (hc : cells = cs.map .lf) : Cw P fn (A4 cs) e st :=
 ⟨he, [A4 cs], by rw [hr];exact .cons (Res.row cs h hb hd hc (Nat.beq_refl _)) .nil, .one (.agg (An cs))⟩
theorem O0 (a b : Int) : Fn0 Tryz.prog 232 [A4 [.i a, .i b], .i 0, .rop [.i 0]] (A4 [.i a, .i b]) := by
 refine Fn0.of Tryz.func232 Tryz.ntmps232 rfl rfl rfl ?_
 simp only [A0]
 repeat' (first | refine W ?_ | refine V ?_|(refine W2 ?_ ?_ <;> intro hc))
 all_goals exact Jp [.i a, .i b] Tryz.results232 (by first | exact .inl rfl | exact .inr rfl) rfl rfl rfl rfl
theorem Me (n : Int) : Fn0 Tryz.prog 233 [.i n] (A4 (frR (n : Rat))) := by
 refine Fn0.of Tryz.func233 Tryz.ntmps233 rfl rfl rfl ?_
 simp only [A0]
 repeat' (first | refine W ?_ | refine V ?_|(refine W2 ?_ ?_ <;> intro hc))
 all_goals exact Jp (frR (n : Rat)) Tryz.results233 (by first | exact .inl rfl | exact .inr rfl) rfl rfl rfl rfl
theorem Ti {H : AH} {a b : Int} {x : AV} (h : Out1 H x (.rop [.i 0])) : Out2L H [A4 [.i a, .i b], .i 0, x] [A4 [.i a, .i b], .i 0, .rop [.i 0]] :=
 .cons (.agg (show OutL H ([Lf.i a, .i b].map .lf) ([Lf.i a, .i b].map .lf) from An _)) (.cons (.one (.lf _)) (.cons (.one h) .nil))
theorem Eh (n d : Int) (hd : d ≠ 0) (n1 : -9223372036854775808 <= n) (n2 : n <= 9223372036854775807) (d1 : -9223372036854775808 <= d) (d2 : d <= 9223372036854775807) (hf : Fits (Ab n d)) : Fn0 Tryz.prog 234 [.i n, .i d, .rop [.fn (.func 232) [[.i 0]]]] (A4 (frR (Ab n d))) := by
 refine Fn0.of Tryz.func234 Tryz.ntmps234 rfl rfl rfl ?_
 simp only [A0]
 repeat' (first | refine W ?_|(apply T.draw 7 A3 (by decide +kernel);simp only [td])|refine Zc (Oy n d hd n1 n2 d1 d2 hf) ?_|(apply S.callFV;(iterate 3 exact rfl);exact O0 (Ab n d).num (Ab n d).den;exact Ti (.rop _);exact rfl;exact rfl) | refine V ?_|(refine W2 ?_ ?_ <;> intro hc))
 all_goals exact Jp (frR (Ab n d)) Tryz.results234 (by first | exact .inl rfl | exact .inr rfl) rfl rfl rfl rfl
/-! ### The fractions -/
theorem Fx (n d : Int) : Ab n d = (n : Rat) / (d : Rat) := Rat.divInt_eq_div n d
theorem Bq {n d : Int} (h1 : -1152921504606846976 <= n) (h2 : n <= 1152921504606846976) (h3 : 1 <= d) (h4 : d <= 1152921504606846976) : Fits (Ab n d) := by
 obtain ⟨e1, e2⟩ := Vs n d (by omega)
 have hg : 0 < (Int.gcd n d : Int) := by
  have : 0 < Int.gcd n d := Int.gcd_pos_of_ne_zero_right n (by omega)
  omega
 have k1 : (n.natAbs : Int) / (Int.gcd n d : Int) <= n.natAbs := Int.ediv_le_self _ (by omega)
 have k2 : (d.natAbs : Int) / (Int.gcd n d : Int) <= d.natAbs := Int.ediv_le_self _ (by omega)
 have k3 : 0 <= (n.natAbs : Int) / (Int.gcd n d : Int) := Int.ediv_nonneg (by omega) (by omega)
 constructor
 ·rw [e1]
  split <;> omega
 ·omega
theorem Dz {n : Int} (h1 : -1152921504606846976 <= n) (h2 : n <= 1152921504606846976) : Fits (n : Rat) :=
 ⟨by show n.natAbs <= _;omega, by show 1 <= _;omega⟩
theorem Dw {a b A B : Int} (ha : 0 <= a /\ a <= A) (hb : 0 <= b /\ b <= B) : 0 <= a * b /\ a * b <= A * B := ⟨Int.mul_nonneg ha.1 hb.1, Int.mul_le_mul ha.2 hb.2 hb.1 (by omega)⟩
theorem Nf {a b : Int} (ha : 1 <= a) (hb : 1 <= b) : 1 <= a * b := by
 have := Int.mul_pos (by omega : 0 < a) (by omega : 0 < b)
 omega
theorem W8 (P : Nat -> Bool) : ∀ k, Ka P k <= k
 | 0 => Nat.le_refl _
 | k + 1 => by
  rw [Ka]
  split
  ·exact Nat.le_refl _
  ·have := W8 P k;omega
theorem U9 {P : Nat -> Bool} (h : P 1 = true) : ∀ k, 1 <= k -> 1 <= Ka P k
 | 0, hk => by omega
 | k + 1, _ => by
  rw [Ka]
  split
  ·omega
  ·rename_i hn
   rcases Nat.eq_zero_or_pos k with rfl | hk
   ·exact absurd h hn
   ·exact U9 h k hk
theorem A1p {d : Int} {m : MoveR} (hm : C4 m) (hd : 1 <= d /\ d <= 1048576) : 1 <= Av d m /\ Av d m <= 8192 := by
 obtain ⟨_, _, h3, h4, h5⟩ := hm
 unfold Av
 rw [if_neg (by omega)]
 have hle := W8 (fun w => decide (Cc d m w)) m.speed.toNat
 refine ⟨U9 (decide_eq_true ?_) _ (by omega), by omega⟩
 unfold Cc
 have e1 : m.rise <= m.rise * m.fall := by
  have := Int.mul_le_mul_of_nonneg_left h5.1 (by omega : 0 <= m.rise)
  omega
 have e2 : m.fall <= m.rise * m.fall := by
  have := Int.mul_le_mul_of_nonneg_right h4.1 (by omega : 0 <= m.fall)
  omega
 have e3 : 2 * (m.rise * m.fall) <= 2 * d * m.rise * m.fall := by
  have := Int.mul_le_mul_of_nonneg_right (show 2 <= 2 * d by omega) (show 0 <= m.rise * m.fall by omega)
  rw [Int.mul_assoc (2 * d)]
  exact this
 simp only [Int.natCast_one, Int.one_mul]
 omega
theorem Uk {k n : Nat} {l : List Lf} (hl : l.length = k * n) : ∀ row ∈ chunks k n l, row.length = n := fun row h => by
 obtain ⟨i, hi⟩ := List.getElem?_of_mem h
 exact (Ko k l i row hl hi).1
theorem Fw {H : AH} {b9 b10 : Nat} {f : FuncId} {n d : Int} (h10 : H.at b10 = .live [.fn (.func f) [] [.ptr b9 0]]) (h9 : H.at b9 = .live [.lf (.i 0)]) : Out2L H [.i n, .i d, .ptr b10 0] [.i n, .i d, .rop [.fn (.func f) [[.i 0]]]] := by
 refine .cons (.one (.lf _)) (.cons (.one (.lf _)) (.cons (.one (.ptrF h10 fun j x hj => ?_)) .nil))
 match j, hj with
 | 0, hj =>
  simp at hj
  subst hj
  refine ⟨_, rfl, .fn rfl fun i cs hi => ?_⟩
  match i, hi with
  | 0, hi =>
   simp at hi
   subst hi
   refine ⟨b9, 0, _, rfl, h9, fun j x hj => ?_⟩
   match j, hj with
   | 0, hj => simpa using hj
section
variable (d : Int) (m : MoveR)
abbrev Oo : Rat := Ab (Av d m * Av d m) (2 * m.rise)
abbrev On : Rat := Ab (Av d m * Av d m) (2 * m.fall)
abbrev L8 : Rat := Ab (Av d m) m.rise
abbrev X7 : Rat := Ab (Av d m) m.fall
abbrev A38 : Rat := (d : Rat) - Oo d m
abbrev Tl : Rat := A38 d m - On d m
abbrev X6 : Rat := Tl d m / ((Av d m : Int) : Rat)
abbrev Jm : Rat := L8 d m + X6 d m
abbrev Jl : Rat := Jm d m + X7 d m
abbrev Tn : Rat := (d : Rat) - On d m
end
theorem Ox {n : Int} (h : n ≠ 0) : (n : Rat) ≠ 0 := fun e => h (Rat.intCast_inj.1 (e.trans (show (0 : Rat) = ((0 : Int) : Rat) from rfl)))
structure CurveOk (d : Int) (m : MoveR) : Prop where
 w : 1 <= Av d m /\ Av d m <= 8192
 ww : 1 <= (Av d m : Int) * Av d m /\ (Av d m : Int) * Av d m <= 67108864
 rise : Fits (Oo d m)
 fall : Fits (On d m)
 start : Fits (L8 d m)
 last : Fits (X7 d m)
 way : Fits (A38 d m)
 run : Fits (Tl d m)
 flat : Fits (X6 d m)
 stop : Fits (Jm d m)
 fin : Fits (Jl d m)
 top : Fits (Tn d m)
 half : Fits (Ab m.rise 2)
 halfF : Fits (Ab (-m.fall) 2)
 speed : Fits ((Av d m : Int) : Rat)
 dist : Fits (d : Rat)
 time : Jl d m = Ab (2 * m.rise * m.fall * d + Av d m * Av d m * (m.rise + m.fall)) (2 * m.rise * m.fall * Av d m)
theorem Iw {d : Int} {m : MoveR} (hm : C4 m) (hd : 1 <= d /\ d <= 1048576) : CurveOk d m := by
 have hw := A1p hm hd
 obtain ⟨_, _, h3, h4, h5⟩ := hm
 obtain ⟨w, hwe⟩ : ∃ w : Int, w = (Av d m : Int) := ⟨_, rfl⟩
 obtain ⟨R, hRe⟩ : ∃ R : Int, R = m.rise := ⟨_, rfl⟩
 obtain ⟨F, hFe⟩ : ∃ F : Int, F = m.fall := ⟨_, rfl⟩
 rw [<- hRe] at h4
 rw [<- hFe] at h5
 have hw' : 1 <= w /\ w <= 8192 := by omega
 have r0 := Ox (n := R) (by omega)
 have f0 := Ox (n := F) (by omega)
 have w0 := Ox (n := w) (by omega)
 have ww := Dw (a := w) (b := w) (A := 8192) (B := 8192) (by omega) (by omega)
 have ww1 := Nf (a := w) (b := w) (by omega) (by omega)
 have rf := Dw (a := 2 * R) (b := F) (A := 32768) (B := 16384) (by omega) (by omega)
 have rf1 := Nf (a := 2 * R) (b := F) (by omega) (by omega)
 have rfd := Dw (a := 2 * R * F) (b := d) (A := 536870912) (B := 1048576) (by omega) (by omega)
 have rfw := Dw (a := 2 * R * F) (b := w) (A := 536870912) (B := 8192) (by omega) (by omega)
 have rfw1 := Nf (a := 2 * R * F) (b := w) (by omega) (by omega)
 have wrf := Dw (a := w * w) (b := R + F) (A := 67108864) (B := 32768) (by omega) (by omega)
 have rd := Dw (a := 2 * R) (b := d) (A := 32768) (B := 1048576) (by omega) (by omega)
 have fd := Dw (a := 2 * F) (b := d) (A := 32768) (B := 1048576) (by omega) (by omega)
 have fww := Dw (a := 2 * F) (b := w * w) (A := 32768) (B := 67108864) (by omega) (by omega)
 have e1 : (d : Rat) - Ab (w * w) (2 * R) = Ab (2 * R * d - w * w) (2 * R) := by
  simp only [Fx, Rat.intCast_mul, Rat.intCast_sub, Rat.intCast_add]
  rw [show (((2 : Int)) : Rat) = 2 from rfl]
  grind
 have e2 : (d : Rat) - Ab (w * w) (2 * R) - Ab (w * w) (2 * F) = Ab (2 * R * F * d - w * w * (R + F)) (2 * R * F) := by
  simp only [Fx, Rat.intCast_mul, Rat.intCast_sub, Rat.intCast_add]
  rw [show (((2 : Int)) : Rat) = 2 from rfl]
  grind
 have e3 : ((d : Rat) - Ab (w * w) (2 * R) - Ab (w * w) (2 * F)) / (w : Rat) = Ab (2 * R * F * d - w * w * (R + F)) (2 * R * F * w) := by
  simp only [Fx, Rat.intCast_mul, Rat.intCast_sub, Rat.intCast_add]
  rw [show (((2 : Int)) : Rat) = 2 from rfl]
  grind
 have e4 : Ab w R + ((d : Rat) - Ab (w * w) (2 * R) - Ab (w * w) (2 * F)) / (w : Rat) = Ab (2 * R * F * d - w * w * (R + F) + 2 * F * (w * w)) (2 * R * F * w) := by
  simp only [Fx, Rat.intCast_mul, Rat.intCast_sub, Rat.intCast_add]
  rw [show (((2 : Int)) : Rat) = 2 from rfl]
  grind
 have e5 : Ab w R + ((d : Rat) - Ab (w * w) (2 * R) - Ab (w * w) (2 * F)) / (w : Rat) + Ab w F = Ab (2 * R * F * d + w * w * (R + F)) (2 * R * F * w) := by
  simp only [Fx, Rat.intCast_mul, Rat.intCast_sub, Rat.intCast_add]
  rw [show (((2 : Int)) : Rat) = 2 from rfl]
  grind
 have e6 : (d : Rat) - Ab (w * w) (2 * F) = Ab (2 * F * d - w * w) (2 * F) := by
  simp only [Fx, Rat.intCast_mul, Rat.intCast_sub, Rat.intCast_add]
  rw [show (((2 : Int)) : Rat) = 2 from rfl]
  grind
 have g1 : Fits (Ab (w * w) (2 * R)) := Bq (by omega) (by omega) (by omega) (by omega)
 have g2 : Fits (Ab (w * w) (2 * F)) := Bq (by omega) (by omega) (by omega) (by omega)
 have g3 : Fits (Ab w R) := Bq (by omega) (by omega) (by omega) (by omega)
 have g4 : Fits (Ab w F) := Bq (by omega) (by omega) (by omega) (by omega)
 have g5 : Fits ((d : Rat) - Ab (w * w) (2 * R)) := by rw [e1];exact Bq (by omega) (by omega) (by omega) (by omega)
 have g6 : Fits ((d : Rat) - Ab (w * w) (2 * R) - Ab (w * w) (2 * F)) := by rw [e2];exact Bq (by omega) (by omega) (by omega) (by omega)
 have g7 : Fits (((d : Rat) - Ab (w * w) (2 * R) - Ab (w * w) (2 * F)) / (w : Rat)) := by rw [e3];exact Bq (by omega) (by omega) (by omega) (by omega)
 have g8 : Fits (Ab w R + ((d : Rat) - Ab (w * w) (2 * R) - Ab (w * w) (2 * F)) / (w : Rat)) := by rw [e4];exact Bq (by omega) (by omega) (by omega) (by omega)
 have g9 : Fits (Ab w R + ((d : Rat) - Ab (w * w) (2 * R) - Ab (w * w) (2 * F)) / (w : Rat) + Ab w F) := by rw [e5];exact Bq (by omega) (by omega) (by omega) (by omega)
 have g10 : Fits ((d : Rat) - Ab (w * w) (2 * F)) := by rw [e6];exact Bq (by omega) (by omega) (by omega) (by omega)
 have g11 : Fits (Ab R 2) := Bq (by omega) (by omega) (by omega) (by omega)
 have g12 : Fits (Ab (-F) 2) := Bq (by omega) (by omega) (by omega) (by omega)
 have g13 : Fits (w : Rat) := Dz (by omega) (by omega)
 have g14 : Fits (d : Rat) := Dz (by omega) (by omega)
 have hww : 1 <= w * w /\ w * w <= 67108864 := by omega
 subst hwe hRe hFe
 exact ⟨hw, hww, g1, g2, g3, g4, g5, g6, g7, g8, g9, g10, g11, g12, g13, g14, e5⟩
theorem S.keepV {N : Nat} {ops : Array Oper} {m : Option Nat} {K : Tm -> AH -> Prop} {tm : Tm} {H : AH} {rest : List Oper} {ty : TypeId} {pos : String} {af : Array Edge} {d : Nat} {f : Operand} {fv x : AV} {xs : Array Operand} {ts : Array TypeId} {a b : Int} (hf : evT tm f = some fv) (hfn : fnOf fv = some (232, [x])) (hx : evs (evT tm) xs.toList = some [A4 [.i a, .i b], .i 0]) (hz : Out1 (Lv m H) x (.rop [.i 0])) (hN : Nat.ble (d + 1) N = true) (h : Reg m Tryz.prog N ops rest ((d, A4 [.i a, .i b]) :: tm) H K) : Reg m Tryz.prog N ops (⟨some d, .call ⟨.value f, xs, ts⟩, ty, pos, af, none⟩ :: rest) tm H K :=
 S.callFV hf hfn hx (O0 a b) (Ti hz) rfl hN h
abbrev Gl (f a b c : List Lf) : List Lf := f ++ a ++ b ++ c
abbrev frZ : List Lf := [.i 0, .i 1]
def Jw (d : Int) (m : MoveR) : List (List Lf) := [Gl frZ frZ frZ (frR (Ab m.rise 2)), Gl (frR (Jm d m)) (frR (Tn d m)) (frR ((Av d m : Int) : Rat)) (frR (Ab (-m.fall) 2)), Gl (frR (Jl d m)) (frR (d : Rat)) frZ frZ]
def Jx (d : Int) (m : MoveR) : List (List Lf) := [Gl frZ frZ frZ (frR (Ab m.rise 2)), Gl (frR (L8 d m)) (frR (Oo d m)) (frR ((Av d m : Int) : Rat)) frZ, Gl (frR (Jm d m)) (frR (Tn d m)) (frR ((Av d m : Int) : Rat)) (frR (Ab (-m.fall) 2)), Gl (frR (Jl d m)) (frR (d : Rat)) frZ frZ]
theorem A12 (d : Int) (m : MoveR) : ∀ r ∈ Jw d m, r.length = 8 := by
 intro r hr
 simp only [Jw, List.mem_cons, List.not_mem_nil, or_false] at hr
 rcases hr with rfl | rfl | rfl <;> rfl
theorem A13 (d : Int) (m : MoveR) : ∀ r ∈ Jx d m, r.length = 8 := by
 intro r hr
 simp only [Jx, List.mem_cons, List.not_mem_nil, or_false] at hr
 rcases hr with rfl | rfl | rfl | rfl <;> rfl
def Kp (d : Int) (m : MoveR) : List (List Lf) := if (Tl d m).num = 0 then Jw d m else Jx d m
set_option maxHeartbeats 40000000 in
set_option maxRecDepth 100000 in
theorem X4 (d : Int) (m : MoveR) (hm : C4 m) (hd : 1 <= d /\ d <= 1048576) : Fn0 Tryz.prog 192 [.i d, A4 m.row] (.tup [.sl (Kp d m), .i 0]) := by
 have K := Iw hm hd
 have k1 := K.w
 have k2 := K.ww
 have cg : Fn0 Tryz.prog 230 [.i d, A4 m.row] (.i 0) := by
  have := Om d m
  rwa [show Q6 d m = 0 by unfold Q6;rw [if_pos hm, if_pos (by omega)]] at this
 have ct := A37 d m hm (by omega)
 have hmv := hm
 obtain ⟨_, _, h3, h4, h5⟩ := hm
 have o1 := Eh (Av d m * Av d m) (2 * m.rise) (by omega) (by omega) (by omega) (by omega) (by omega) K.rise
 have o2 := Eh (Av d m * Av d m) (2 * m.fall) (by omega) (by omega) (by omega) (by omega) (by omega) K.fall
 have o3 := Eh (Av d m) m.rise (by omega) (by omega) (by omega) (by omega) (by omega) K.start
 have o4 := Eh (Av d m) m.fall (by omega) (by omega) (by omega) (by omega) (by omega) K.last
 have o5 := Eh m.rise 2 (by omega) (by omega) (by omega) (by omega) (by omega) K.half
 have o6 := Eh (-m.fall) 2 (by omega) (by omega) (by omega) (by omega) (by omega) K.halfF
 have u1 := Me d
 have u2 := Me (Av d m)
 have s1 := L9 (d : Rat) (Oo d m) K.dist K.rise K.way
 have s2 := L9 (A38 d m) (On d m) K.way K.fall K.run
 have s3 := A0p (Tl d m) ((Av d m : Int) : Rat) K.run K.speed (Ox (by omega)) K.flat
 have s4 := R8 (L8 d m) (X6 d m) K.start K.flat K.stop
 have s5 := R8 (Jm d m) (X7 d m) K.stop K.last K.fin
 have s6 := L9 (d : Rat) (On d m) K.dist K.fall K.top
 have hd0 : ¬ d = 0 := by omega
 refine Fn0.of Tryz.func192 Tryz.ntmps192 rfl rfl rfl ?_
 simp only [A0]
 repeat' (first | refine W ?_|(apply T.drawR 9 A3 (by decide +kernel);simp only [td])|(apply T.draw 16 A3 (by decide +kernel);simp only [td])|(apply T.draw 15 A3 (by decide +kernel);simp only [td])|(apply T.draw 11 A3 (by decide +kernel);simp only [td])|(apply T.draw 9 A3 (by decide +kernel);simp only [td])|(apply T.draw 28 A3 (by decide +kernel);simp only [td])|(apply T.drawAll A3 (by decide +kernel))|refine Zc cg ?_|refine Zc ct ?_|refine Zc s1 ?_|refine Zc s2 ?_|refine Zc s3 ?_|refine Zc s4 ?_|refine Zc s5 ?_|refine Zc s6 ?_|(apply S.keepV;(iterate 3 exact rfl);exact .ptr0 rfl;exact rfl)|(apply S.callFV;(iterate 3 exact rfl);exact u1;exact .cons (.one (.lf _)) .nil;exact rfl;exact rfl)|(apply S.callFV;(iterate 3 exact rfl);exact u2;exact .cons (.one (.lf _)) .nil;exact rfl;exact rfl)|(apply S.callFV;(iterate 3 exact rfl);exact o1;exact Fw rfl rfl;exact rfl;exact rfl)|(apply S.callFV;(iterate 3 exact rfl);exact o2;exact Fw rfl rfl;exact rfl;exact rfl)|(apply S.callFV;(iterate 3 exact rfl);exact o3;exact Fw rfl rfl;exact rfl;exact rfl)|(apply S.callFV;(iterate 3 exact rfl);exact o4;exact Fw rfl rfl;exact rfl;exact rfl)|(apply S.callFV;(iterate 3 exact rfl);exact o5;exact Fw rfl rfl;exact rfl;exact rfl)|(apply S.callFV;(iterate 3 exact rfl);exact o6;exact Fw rfl rfl;exact rfl;exact rfl)|(apply S.neg;exact rfl;exact rfl;omega)|refine Za ?_|(apply S.appendO;(iterate 9 exact rfl);exact Uk rfl;exact rfl;exact rfl;simp [Gu];simp [Gu])|(apply S.buildSliceO (d := 110);(iterate 6 exact rfl))|(apply S.buildSliceF;(iterate 8 exact rfl)) | refine V ?_|(refine W2 ?_ ?_ <;> intro hc))
 all_goals first
  | (rw [show Kp d m = Jw d m from if_pos (by assumption)]
     exact ⟨.inr rfl, [_, _], .cons (.tmp rfl) (.cons (.tmp rfl) .nil), .tup (.cons (.one (.own (rows := Jw d m) rfl (OwnRows.of (Jw d m).flatten (A12 d m) rfl))) (.cons (.one (.lf _)) .nil))⟩)
  | (rw [show Kp d m = Jx d m from if_neg (by assumption)]
     exact ⟨.inr rfl, [_, _], .cons (.tmp rfl) (.cons (.tmp rfl) .nil), .tup (.cons (.one (.own (rows := Jx d m) rfl (OwnRows.of (Jx d m).flatten (A13 d m) rfl))) (.cons (.one (.lf _)) .nil))⟩)
set_option maxHeartbeats 8000000 in
theorem V7 (m : MoveR) (hm : C4 m) : Fn0 Tryz.prog 192 [.i 0, A4 m.row] (.tup [.sl [Gl frZ frZ frZ frZ], .i 0]) := by
 have cg : Fn0 Tryz.prog 230 [.i 0, A4 m.row] (.i 0) := by
  have := Om 0 m
  rwa [show Q6 0 m = 0 by unfold Q6;rw [if_pos hm, if_pos (by omega)]] at this
 refine Fn0.of Tryz.func192 Tryz.ntmps192 rfl rfl rfl ?_
 simp only [A0]
 repeat' (first | refine W ?_|refine Zc cg ?_|(apply S.buildSliceF;(iterate 8 exact rfl)) | refine V ?_|(refine W2 ?_ ?_ <;> intro hc))
 all_goals exact D2 rfl rfl rfl
structure PieceR where
 f1 : Int
 f2 : Int
 a1 : Int
 a2 : Int
 b1 : Int
 b2 : Int
 c1 : Int
 c2 : Int
def PieceR.row (p : PieceR) : List Lf := [.i p.f1, .i p.f2, .i p.a1, .i p.a2, .i p.b1, .i p.b2, .i p.c1, .i p.c2]
def PieceR.at (p : PieceR) : List Lf := [.i p.f1, .i p.f2]
def A63 : Nat -> AV
 | 0 => .val (.slice none 0 0)
 | k + 1 => .own 1 0 (k + 1) 2
def A62 (l : List PieceR) : Nat -> HB
 | 0 => .dead
 | k + 1 => .live (((l.take (k + 1)).map PieceR.at).flatten.map .lf)
theorem at_len (l : List PieceR) : ∀ r ∈ l.map PieceR.at, r.length = 2 := by
 intro r hr
 obtain ⟨p, _, rfl⟩ := List.mem_map.1 hr
 rfl
theorem A2q {l : List PieceR} {k : Nat} (h : k <= l.length) : (((l.take k).map PieceR.at).flatten.map AV.lf).length = k * 2 := by
 rw [List.length_map, Bd _ (at_len _), List.length_map, List.length_take, Nat.min_eq_left h]
theorem Qp {l : List PieceR} {k : Nat} {x : PieceR} (h : l.take (k + 1) = l.take k ++ [x]) : ((l.take (k + 1)).map PieceR.at).flatten.map AV.lf = ((l.take k).map PieceR.at).flatten.map AV.lf ++ ([x.at].flatten).map AV.lf := by
 rw [h];simp
set_option maxHeartbeats 8000000 in
theorem X5 (d : Int) (m : MoveR) (l : List PieceR) (hl : l.length <= 4) (h0 : l ≠ []) (hc : Fn0 Tryz.prog 192 [.i d, A4 m.row] (.tup [.sl (l.map PieceR.row), .i 0])) : Fn0 Tryz.prog 144 [.i d, A4 m.row] (.tup [.sl (l.map PieceR.at), .i 0]) := by
 have hle : (l.map PieceR.row).length = l.length := List.length_map _
 refine Fn0.of Tryz.func144 Tryz.ntmps144 rfl rfl rfl ?_
 simp only [A0]
 repeat' (first | refine W ?_|refine Zc hc ?_ | refine V ?_|(refine W2 ?_ ?_ <;> intro hc))
 refine T.kill 1 ?_
 refine T.loopS (fun k => k <= l.length) (fun k => l.length - k) (fun k => [(22, .i k), (21, .i (l.map PieceR.row).length), (20, .sl (l.map PieceR.row)), (8, A63 k)]) (fun k => [.live (m.row.map .lf), A62 l k]) 0 (Nat.zero_le _) CV CH ?_
 intro k hk
 by_cases hlt : k < l.length
 ·have h1 : (k : Int) < ((l.map PieceR.row).length : Nat) := by omega
  obtain ⟨x, hx⟩ := Ac hlt
  have hb := Ad (R := PieceR.row) hx
  have hsn := Af hx
  cases k with
  | zero =>
   repeat' (first | refine W ?_|(apply S.indexR;(iterate 3 exact rfl);exact hb;omega;exact rfl)|(apply S.buildSlice1;(iterate 7 exact rfl))|(apply S.appendN 1 (rows := []);(iterate 8 exact rfl);exact Ae rfl;exact rfl;exact Nat.le_of_ble_eq_true rfl;exact Nat.le_of_ble_eq_true rfl)|refine Za ?_ | refine V ?_|(refine W2 ?_ ?_ <;> intro hc))
   change Next _ _ _ _ _ _
   exact Next.go 1 (by omega) (by omega) CV (by
    show CovH _ _ [_, .live (((l.take (0 + 1)).map PieceR.at).flatten.map .lf)]
    rw [Qp hsn]
    exact .live rfl (.live rfl .nil))
  | succ k =>
   repeat' (first | refine W ?_|(apply S.indexR;(iterate 3 exact rfl);exact hb;omega;exact rfl)|(apply S.buildSlice1;(iterate 7 exact rfl))|(apply S.appendO;(iterate 8 exact rfl);exact A2q hk;exact Ae rfl;exact rfl;exact Bf _ _;simp only [List.length_cons, List.length_nil];omega;simp only [List.length_cons, List.length_nil];omega)|refine Za ?_ | refine V ?_|(refine W2 ?_ ?_ <;> intro hc))
   change Next _ _ _ _ _ _
   exact Next.go (k + 2) (by omega) (by omega) CV (by
    show CovH _ _ [_, .live (((l.take (k + 1 + 1)).map PieceR.at).flatten.map .lf)]
    rw [Qp hsn]
    exact .live rfl (.live (by rw [<- List.map_append];exact Ar _ _) .nil))
 ·have h1 : ¬ (k : Int) < ((l.map PieceR.row).length : Nat) := by omega
  have hkl : k = l.length := by omega
  repeat' (first | refine W ?_ | refine V ?_|(refine W2 ?_ ?_ <;> intro hc))
  cases k with
  | zero => exact absurd (List.eq_nil_of_length_eq_zero hkl.symm) h0
  | succ k =>
   have ht : l.take (k + 1) = l := List.take_of_length_le (by omega)
   refine ⟨.inr rfl, [_, _], .cons (.tmp rfl) (.cons (.tmp rfl) .nil), .tup (.cons (.one (.own (rows := l.map PieceR.at) (cells := ((l.map PieceR.at).flatten.map .lf)) ?_ ?_)) (.cons (.one (.lf _)) .nil))⟩
   ·show HB.live (((l.take (k + 1)).map PieceR.at).flatten.map .lf) = _
    rw [ht]
   ·have := OwnRows.of (l.map PieceR.at).flatten (at_len l) rfl
    rw [List.length_map, <- hkl] at this
    exact this
end Go.Proofs.YtkboebgkcjcpfaaGreatDoor
