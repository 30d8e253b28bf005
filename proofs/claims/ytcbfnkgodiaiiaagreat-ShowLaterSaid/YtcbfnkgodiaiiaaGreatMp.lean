/- Contracts: package ratio's Make, Add, Sub, Div, Cmp and the reference's Make, Cmp, over rational numbers that fit. No conditions but those of each statement. -/
import Derived.Test.YtcbfnkgodiaiiaaGreatQb
import Derived.Test.YtcbfnkgodiaiiaaGreatMd
import Derived.Test.YtcbfnkgodiaiiaaGreatMn
import Derived.Test.YtcbfnkgodiaiiaaGreatMc
set_option linter.unusedSimpArgs false
set_option linter.unusedVariables false
namespace Go.Proofs.YtcbfnkgodiaiiaaGreat
open Go.RowKit
theorem Jk (n d : Int) (hd : d ≠ 0) (n1 : -9223372036854775808 <= n) (n2 : n <= 9223372036854775807) (d1 : -9223372036854775808 <= d) (d2 : d <= 9223372036854775807) (hf : Fits (A8 n d)) : Fn0 Tryz.prog 48 [.i n, .i d] (frE (A8 n d) 0) := Kt hf ▸ Aav n d hd n1 n2 d1 d2
theorem Ve (p q : Rat) (hp : Fits p) (hq : Fits q) (hf : Fits (p + q)) : Fn0 Tryz.prog 179 [A1 (frR p), A1 (frR q)] (frE (p + q) 0) := Kt hf ▸ Yx p q hp hq
theorem O8 (p q : Rat) (hp : Fits p) (hq : Fits q) (hf : Fits (p - q)) : Fn0 Tryz.prog 98 [A1 (frR p), A1 (frR q)] (frE (p - q) 0) := Kt hf ▸ A61 p q hp hq
theorem A53 (p q : Rat) (hp : Fits p) (hq : Fits q) (h0 : q ≠ 0) (hf : Fits (p / q)) : Fn0 Tryz.prog 152 [A1 (frR p), A1 (frR q)] (frE (p / q) 0) := Kt hf ▸ Ad7 p q hp hq h0
theorem P3 (p q : Rat) (hp : Fits p) (hq : Fits q) : Fn0 Tryz.prog 41 [A1 (frR p), A1 (frR q)] (.tup [.i (C2 p q), .i 0]) := Acq p q hp hq
theorem A2a {P : Program} {st : St} {fn : Func} {t b : Nat} {ty : TypeId} {cells : List AV} {ds : TypeDesc} {e : Exit} (cs : List Lf) [hu : HasU P ty ds] [hi : HasS P ty cs.length] (hr : fn.results = #[.cell t ty]) (he : e = .normal \/ e = .ret) (h : st.tm.get t = some (.ptr b 0)) (hb : st.H.at b = .live cells) (hd : ds.isRow = true) (hc : cells = cs.map .lf) : C7 P fn (A1 cs) e st :=
 ⟨he, [A1 cs], by rw [hr];exact .cons (Res.row cs h hb hd hc (Nat.beq_refl _)) .nil, .one (.agg (A7 cs))⟩
theorem Tj (a b : Int) : Fn0 Tryz.prog 233 [A1 [.i a, .i b], .i 0, .rop [.i 0]] (A1 [.i a, .i b]) := by
 refine Fn0.of Tryz.func233 Tryz.ntmps233 rfl rfl rfl ?_
 simp only [A2]
 repeat' (first | refine W ?_ | refine V ?_|(refine W2 ?_ ?_ <;> intro hc))
 all_goals exact A2a [.i a, .i b] Tryz.results233 (by first | exact .inl rfl | exact .inr rfl) rfl rfl rfl rfl
theorem Qk (n : Int) : Fn0 Tryz.prog 234 [.i n] (A1 (frR (n : Rat))) := by
 refine Fn0.of Tryz.func234 Tryz.ntmps234 rfl rfl rfl ?_
 simp only [A2]
 repeat' (first | refine W ?_ | refine V ?_|(refine W2 ?_ ?_ <;> intro hc))
 all_goals exact A2a (frR (n : Rat)) Tryz.results234 (by first | exact .inl rfl | exact .inr rfl) rfl rfl rfl rfl
theorem Yv {H : AH} {a b : Int} {x : AV} (h : Out1 H x (.rop [.i 0])) : Out2L H [A1 [.i a, .i b], .i 0, x] [A1 [.i a, .i b], .i 0, .rop [.i 0]] :=
 .cons (.agg (show OutL H ([Lf.i a, .i b].map .lf) ([Lf.i a, .i b].map .lf) from A7 _)) (.cons (.one (.lf _)) (.cons (.one h) .nil))
theorem Gd (n d : Int) (hd : d ≠ 0) (n1 : -9223372036854775808 <= n) (n2 : n <= 9223372036854775807) (d1 : -9223372036854775808 <= d) (d2 : d <= 9223372036854775807) (hf : Fits (A8 n d)) : Fn0 Tryz.prog 235 [.i n, .i d, .rop [.fn (.func 233) [[.i 0]]]] (A1 (frR (A8 n d))) := by
 refine Fn0.of Tryz.func235 Tryz.ntmps235 rfl rfl rfl ?_
 simp only [A2]
 repeat' (first | refine W ?_|(apply T.draw 7 A0 (by decide +kernel);simp only [td])|refine Zc (Jk n d hd n1 n2 d1 d2 hf) ?_|(apply S.callFV;exact rfl;exact rfl;exact rfl;exact Tj (A8 n d).num (A8 n d).den;exact Yv (.rop _);exact rfl;exact rfl) | refine V ?_|(refine W2 ?_ ?_ <;> intro hc))
 all_goals exact A2a (frR (A8 n d)) Tryz.results235 (by first | exact .inl rfl | exact .inr rfl) rfl rfl rfl rfl
/-! ### The fractions -/
theorem C4 (n d : Int) : A8 n d = (n : Rat) / (d : Rat) := Rat.divInt_eq_div n d
theorem Bx {n d : Int} (h1 : -1152921504606846976 <= n) (h2 : n <= 1152921504606846976) (h3 : 1 <= d) (h4 : d <= 1152921504606846976) : Fits (A8 n d) := by
 obtain ⟨e1, e2⟩ := A1p n d (by omega)
 have hg : 0 < (Int.gcd n d : Int) := by
  have : 0 < Int.gcd n d := Int.gcd_pos_of_ne_zero_right n (by omega)
  omega
 have k1 : (n.natAbs : Int) / (Int.gcd n d : Int) <= n.natAbs := Int.ediv_le_self _ (by omega)
 have k2 : (d.natAbs : Int) / (Int.gcd n d : Int) <= d.natAbs := Int.ediv_le_self _ (by omega)
 have k3 : 0 <= (n.natAbs : Int) / (Int.gcd n d : Int) := Int.ediv_nonneg (by omega) (by omega)
 constructor
 ·rw [e1]
  split <;> omega
 ·omega
theorem Ct {n : Int} (h1 : -1152921504606846976 <= n) (h2 : n <= 1152921504606846976) : Fits (n : Rat) :=
 ⟨by show n.natAbs <= _;omega, by show 1 <= _;omega⟩
theorem O7 {a b A B : Int} (ha : 0 <= a /\ a <= A) (hb : 0 <= b /\ b <= B) : 0 <= a * b /\ a * b <= A * B := ⟨Int.mul_nonneg ha.1 hb.1, Int.mul_le_mul ha.2 hb.2 hb.1 (by omega)⟩
theorem A8f {a b : Int} (ha : 1 <= a) (hb : 1 <= b) : 1 <= a * b := by
 have := Int.mul_pos (by omega : 0 < a) (by omega : 0 < b)
 omega
theorem A15 (P : Nat -> Bool) : ∀ k, Ii P k <= k
 | 0 => Nat.le_refl _
 | k + 1 => by
  rw [Ii]
  split
  ·exact Nat.le_refl _
  ·have := A15 P k;omega
theorem Z0 {P : Nat -> Bool} (h : P 1 = true) : ∀ k, 1 <= k -> 1 <= Ii P k
 | 0, hk => by omega
 | k + 1, _ => by
  rw [Ii]
  split
  ·omega
  ·rename_i hn
   rcases Nat.eq_zero_or_pos k with rfl | hk
   ·exact absurd h hn
   ·exact Z0 h k hk
theorem V6 {d : Int} {m : MoveR} (hm : D8 m) (hd : 1 <= d /\ d <= 1048576) : 1 <= An d m /\ An d m <= 8192 := by
 obtain ⟨_, _, h3, h4, h5⟩ := hm
 unfold An
 rw [if_neg (by omega)]
 have hle := A15 (fun w => decide (Fm d m w)) m.speed.toNat
 refine ⟨Z0 (decide_eq_true ?_) _ (by omega), by omega⟩
 unfold Fm
 have e1 : m.rise <= m.rise * m.fall := by
  have := Int.mul_le_mul_of_nonneg_left h5.1 (by omega : 0 <= m.rise)
  omega
 have e2 : m.fall <= m.rise * m.fall := by
  have := Int.mul_le_mul_of_nonneg_right h4.1 (by omega : 0 <= m.fall)
  omega
 have e3 : 2 * (m.rise * m.fall) <= 2 * d * m.rise * m.fall := by
  have := Int.mul_le_mul_of_nonneg_right (show 2 <= 2 * d by omega) (show 0 <= m.rise * m.fall by omega)
  rw [Int.mul_assoc (2 * d)]
  exact this
 simp only [Int.natCast_one, Int.one_mul]
 omega
theorem A05 {k n : Nat} {l : List Lf} (hl : l.length = k * n) : ∀ row ∈ chunks k n l, row.length = n := fun row h => by
 obtain ⟨i, hi⟩ := List.getElem?_of_mem h
 exact (O0 k l i row hl hi).1
theorem Iq {H : AH} {b9 b10 : Nat} {f : FuncId} {n d : Int} (h10 : H.at b10 = .live [.fn (.func f) [] [.ptr b9 0]]) (h9 : H.at b9 = .live [.lf (.i 0)]) : Out2L H [.i n, .i d, .ptr b10 0] [.i n, .i d, .rop [.fn (.func f) [[.i 0]]]] := by
 refine .cons (.one (.lf _)) (.cons (.one (.lf _)) (.cons (.one (.ptrF h10 fun j x hj => ?_)) .nil))
 match j, hj with
 | 0, hj =>
  simp at hj
  subst hj
  refine ⟨_, rfl, .fn rfl fun i cs hi => ?_⟩
  match i, hi with
  | 0, hi =>
   simp at hi
   subst hi
   refine ⟨b9, 0, _, rfl, h9, fun j x hj => ?_⟩
   match j, hj with
   | 0, hj => simpa using hj
section
variable (d : Int) (m : MoveR)
abbrev Fo : Rat := A8 (An d m * An d m) (2 * m.rise)
abbrev Gt : Rat := A8 (An d m * An d m) (2 * m.fall)
abbrev Dm : Rat := A8 (An d m) m.rise
abbrev Kw : Rat := A8 (An d m) m.fall
abbrev A8r : Rat := (d : Rat) - Fo d m
abbrev Gy : Rat := A8r d m - Gt d m
abbrev Jh : Rat := Gy d m / ((An d m : Int) : Rat)
abbrev Cw : Rat := Dm d m + Jh d m
abbrev Dv : Rat := Cw d m + Kw d m
abbrev Je : Rat := (d : Rat) - Gt d m
end
theorem Kb {n : Int} (h : n ≠ 0) : (n : Rat) ≠ 0 := fun e => h (Rat.intCast_inj.1 (e.trans (show (0 : Rat) = ((0 : Int) : Rat) from rfl)))
structure CurveOk (d : Int) (m : MoveR) : Prop where
 w : 1 <= An d m /\ An d m <= 8192
 ww : 1 <= (An d m : Int) * An d m /\ (An d m : Int) * An d m <= 67108864
 rise : Fits (Fo d m)
 fall : Fits (Gt d m)
 start : Fits (Dm d m)
 last : Fits (Kw d m)
 way : Fits (A8r d m)
 run : Fits (Gy d m)
 flat : Fits (Jh d m)
 stop : Fits (Cw d m)
 fin : Fits (Dv d m)
 top : Fits (Je d m)
 half : Fits (A8 m.rise 2)
 halfF : Fits (A8 (-m.fall) 2)
 speed : Fits ((An d m : Int) : Rat)
 dist : Fits (d : Rat)
 time : Dv d m = A8 (2 * m.rise * m.fall * d + An d m * An d m * (m.rise + m.fall)) (2 * m.rise * m.fall * An d m)
theorem Kk {d : Int} {m : MoveR} (hm : D8 m) (hd : 1 <= d /\ d <= 1048576) : CurveOk d m := by
 have hw := V6 hm hd
 obtain ⟨_, _, h3, h4, h5⟩ := hm
 obtain ⟨w, hwe⟩ : ∃ w : Int, w = (An d m : Int) := ⟨_, rfl⟩
 obtain ⟨R, hRe⟩ : ∃ R : Int, R = m.rise := ⟨_, rfl⟩
 obtain ⟨F, hFe⟩ : ∃ F : Int, F = m.fall := ⟨_, rfl⟩
 rw [<- hRe] at h4
 rw [<- hFe] at h5
 have hw' : 1 <= w /\ w <= 8192 := by omega
 have r0 := Kb (n := R) (by omega)
 have f0 := Kb (n := F) (by omega)
 have w0 := Kb (n := w) (by omega)
 have ww := O7 (a := w) (b := w) (A := 8192) (B := 8192) (by omega) (by omega)
 have ww1 := A8f (a := w) (b := w) (by omega) (by omega)
 have rf := O7 (a := 2 * R) (b := F) (A := 32768) (B := 16384) (by omega) (by omega)
 have rf1 := A8f (a := 2 * R) (b := F) (by omega) (by omega)
 have rfd := O7 (a := 2 * R * F) (b := d) (A := 536870912) (B := 1048576) (by omega) (by omega)
 have rfw := O7 (a := 2 * R * F) (b := w) (A := 536870912) (B := 8192) (by omega) (by omega)
 have rfw1 := A8f (a := 2 * R * F) (b := w) (by omega) (by omega)
 have wrf := O7 (a := w * w) (b := R + F) (A := 67108864) (B := 32768) (by omega) (by omega)
 have rd := O7 (a := 2 * R) (b := d) (A := 32768) (B := 1048576) (by omega) (by omega)
 have fd := O7 (a := 2 * F) (b := d) (A := 32768) (B := 1048576) (by omega) (by omega)
 have fww := O7 (a := 2 * F) (b := w * w) (A := 32768) (B := 67108864) (by omega) (by omega)
 have e1 : (d : Rat) - A8 (w * w) (2 * R) = A8 (2 * R * d - w * w) (2 * R) := by
  simp only [C4, Rat.intCast_mul, Rat.intCast_sub, Rat.intCast_add]
  rw [show (((2 : Int)) : Rat) = 2 from rfl]
  grind
 have e2 : (d : Rat) - A8 (w * w) (2 * R) - A8 (w * w) (2 * F) = A8 (2 * R * F * d - w * w * (R + F)) (2 * R * F) := by
  simp only [C4, Rat.intCast_mul, Rat.intCast_sub, Rat.intCast_add]
  rw [show (((2 : Int)) : Rat) = 2 from rfl]
  grind
 have e3 : ((d : Rat) - A8 (w * w) (2 * R) - A8 (w * w) (2 * F)) / (w : Rat) = A8 (2 * R * F * d - w * w * (R + F)) (2 * R * F * w) := by
  simp only [C4, Rat.intCast_mul, Rat.intCast_sub, Rat.intCast_add]
  rw [show (((2 : Int)) : Rat) = 2 from rfl]
  grind
 have e4 : A8 w R + ((d : Rat) - A8 (w * w) (2 * R) - A8 (w * w) (2 * F)) / (w : Rat) = A8 (2 * R * F * d - w * w * (R + F) + 2 * F * (w * w)) (2 * R * F * w) := by
  simp only [C4, Rat.intCast_mul, Rat.intCast_sub, Rat.intCast_add]
  rw [show (((2 : Int)) : Rat) = 2 from rfl]
  grind
 have e5 : A8 w R + ((d : Rat) - A8 (w * w) (2 * R) - A8 (w * w) (2 * F)) / (w : Rat) + A8 w F = A8 (2 * R * F * d + w * w * (R + F)) (2 * R * F * w) := by
  simp only [C4, Rat.intCast_mul, Rat.intCast_sub, Rat.intCast_add]
  rw [show (((2 : Int)) : Rat) = 2 from rfl]
  grind
 have e6 : (d : Rat) - A8 (w * w) (2 * F) = A8 (2 * F * d - w * w) (2 * F) := by
  simp only [C4, Rat.intCast_mul, Rat.intCast_sub, Rat.intCast_add]
  rw [show (((2 : Int)) : Rat) = 2 from rfl]
  grind
 have g1 : Fits (A8 (w * w) (2 * R)) := Bx (by omega) (by omega) (by omega) (by omega)
 have g2 : Fits (A8 (w * w) (2 * F)) := Bx (by omega) (by omega) (by omega) (by omega)
 have g3 : Fits (A8 w R) := Bx (by omega) (by omega) (by omega) (by omega)
 have g4 : Fits (A8 w F) := Bx (by omega) (by omega) (by omega) (by omega)
 have g5 : Fits ((d : Rat) - A8 (w * w) (2 * R)) := by rw [e1];exact Bx (by omega) (by omega) (by omega) (by omega)
 have g6 : Fits ((d : Rat) - A8 (w * w) (2 * R) - A8 (w * w) (2 * F)) := by rw [e2];exact Bx (by omega) (by omega) (by omega) (by omega)
 have g7 : Fits (((d : Rat) - A8 (w * w) (2 * R) - A8 (w * w) (2 * F)) / (w : Rat)) := by rw [e3];exact Bx (by omega) (by omega) (by omega) (by omega)
 have g8 : Fits (A8 w R + ((d : Rat) - A8 (w * w) (2 * R) - A8 (w * w) (2 * F)) / (w : Rat)) := by rw [e4];exact Bx (by omega) (by omega) (by omega) (by omega)
 have g9 : Fits (A8 w R + ((d : Rat) - A8 (w * w) (2 * R) - A8 (w * w) (2 * F)) / (w : Rat) + A8 w F) := by rw [e5];exact Bx (by omega) (by omega) (by omega) (by omega)
 have g10 : Fits ((d : Rat) - A8 (w * w) (2 * F)) := by rw [e6];exact Bx (by omega) (by omega) (by omega) (by omega)
 have g11 : Fits (A8 R 2) := Bx (by omega) (by omega) (by omega) (by omega)
 have g12 : Fits (A8 (-F) 2) := Bx (by omega) (by omega) (by omega) (by omega)
 have g13 : Fits (w : Rat) := Ct (by omega) (by omega)
 have g14 : Fits (d : Rat) := Ct (by omega) (by omega)
 have hww : 1 <= w * w /\ w * w <= 67108864 := by omega
 subst hwe hRe hFe
 exact ⟨hw, hww, g1, g2, g3, g4, g5, g6, g7, g8, g9, g10, g11, g12, g13, g14, e5⟩
theorem S.keepV {N : Nat} {ops : Array Oper} {m : Option Nat} {K : Tm -> AH -> Prop} {tm : Tm} {H : AH} {rest : List Oper} {ty : TypeId} {pos : String} {af : Array Edge} {d : Nat} {f : Operand} {fv x : AV} {xs : Array Operand} {ts : Array TypeId} {a b : Int} (hf : evT tm f = some fv) (hfn : fnOf fv = some (233, [x])) (hx : evs (evT tm) xs.toList = some [A1 [.i a, .i b], .i 0]) (hz : Out1 (Pw m H) x (.rop [.i 0])) (hN : Nat.ble (d + 1) N = true) (h : Reg m Tryz.prog N ops rest ((d, A1 [.i a, .i b]) :: tm) H K) : Reg m Tryz.prog N ops (⟨some d, .call ⟨.value f, xs, ts⟩, ty, pos, af, none⟩ :: rest) tm H K :=
 S.callFV hf hfn hx (Tj a b) (Yv hz) rfl hN h
abbrev J3 (f a b c : List Lf) : List Lf := f ++ a ++ b ++ c
abbrev frZ : List Lf := [.i 0, .i 1]
def Nq (d : Int) (m : MoveR) : List (List Lf) := [J3 frZ frZ frZ (frR (A8 m.rise 2)), J3 (frR (Cw d m)) (frR (Je d m)) (frR ((An d m : Int) : Rat)) (frR (A8 (-m.fall) 2)), J3 (frR (Dv d m)) (frR (d : Rat)) frZ frZ]
def Mh (d : Int) (m : MoveR) : List (List Lf) := [J3 frZ frZ frZ (frR (A8 m.rise 2)), J3 (frR (Dm d m)) (frR (Fo d m)) (frR ((An d m : Int) : Rat)) frZ, J3 (frR (Cw d m)) (frR (Je d m)) (frR ((An d m : Int) : Rat)) (frR (A8 (-m.fall) 2)), J3 (frR (Dv d m)) (frR (d : Rat)) frZ frZ]
theorem A54 (d : Int) (m : MoveR) : ∀ r ∈ Nq d m, r.length = 8 := by
 intro r hr
 simp only [Nq, List.mem_cons, List.not_mem_nil, or_false] at hr
 rcases hr with rfl | rfl | rfl <;> rfl
theorem A6w (d : Int) (m : MoveR) : ∀ r ∈ Mh d m, r.length = 8 := by
 intro r hr
 simp only [Mh, List.mem_cons, List.not_mem_nil, or_false] at hr
 rcases hr with rfl | rfl | rfl | rfl <;> rfl
def Ki (d : Int) (m : MoveR) : List (List Lf) := if (Gy d m).num = 0 then Nq d m else Mh d m
set_option maxHeartbeats 40000000 in
set_option maxRecDepth 100000 in
theorem Th (d : Int) (m : MoveR) (hm : D8 m) (hd : 1 <= d /\ d <= 1048576) : Fn0 Tryz.prog 172 [.i d, A1 m.row] (.tup [.sl (Ki d m), .i 0]) := by
 have K := Kk hm hd
 have k1 := K.w
 have k2 := K.ww
 have cg : Fn0 Tryz.prog 231 [.i d, A1 m.row] (.i 0) := by
  have := Rt d m
  rwa [show U3 d m = 0 by unfold U3;rw [if_pos hm, if_pos (by omega)]] at this
 have ct := A7y d m hm (by omega)
 have hmv := hm
 obtain ⟨_, _, h3, h4, h5⟩ := hm
 have o1 := Gd (An d m * An d m) (2 * m.rise) (by omega) (by omega) (by omega) (by omega) (by omega) K.rise
 have o2 := Gd (An d m * An d m) (2 * m.fall) (by omega) (by omega) (by omega) (by omega) (by omega) K.fall
 have o3 := Gd (An d m) m.rise (by omega) (by omega) (by omega) (by omega) (by omega) K.start
 have o4 := Gd (An d m) m.fall (by omega) (by omega) (by omega) (by omega) (by omega) K.last
 have o5 := Gd m.rise 2 (by omega) (by omega) (by omega) (by omega) (by omega) K.half
 have o6 := Gd (-m.fall) 2 (by omega) (by omega) (by omega) (by omega) (by omega) K.halfF
 have u1 := Qk d
 have u2 := Qk (An d m)
 have s1 := O8 (d : Rat) (Fo d m) K.dist K.rise K.way
 have s2 := O8 (A8r d m) (Gt d m) K.way K.fall K.run
 have s3 := A53 (Gy d m) ((An d m : Int) : Rat) K.run K.speed (Kb (by omega)) K.flat
 have s4 := Ve (Dm d m) (Jh d m) K.start K.flat K.stop
 have s5 := Ve (Cw d m) (Kw d m) K.stop K.last K.fin
 have s6 := O8 (d : Rat) (Gt d m) K.dist K.fall K.top
 have hd0 : ¬ d = 0 := by omega
 refine Fn0.of Tryz.func172 Tryz.ntmps172 rfl rfl rfl ?_
 simp only [A2]
 repeat' (first | refine W ?_|(apply T.drawR 9 A0 (by decide +kernel);simp only [td])|(apply T.draw 16 A0 (by decide +kernel);simp only [td])|(apply T.draw 15 A0 (by decide +kernel);simp only [td])|(apply T.draw 11 A0 (by decide +kernel);simp only [td])|(apply T.draw 9 A0 (by decide +kernel);simp only [td])|(apply T.draw 28 A0 (by decide +kernel);simp only [td])|(apply T.drawAll A0 (by decide +kernel))|refine Zc cg ?_|refine Zc ct ?_|refine Zc s1 ?_|refine Zc s2 ?_|refine Zc s3 ?_|refine Zc s4 ?_|refine Zc s5 ?_|refine Zc s6 ?_|(apply S.keepV;exact rfl;exact rfl;exact rfl;exact .ptr0 rfl;exact rfl)|(apply S.callFV;exact rfl;exact rfl;exact rfl;exact u1;exact .cons (.one (.lf _)) .nil;exact rfl;exact rfl)|(apply S.callFV;exact rfl;exact rfl;exact rfl;exact u2;exact .cons (.one (.lf _)) .nil;exact rfl;exact rfl)|(apply S.callFV;exact rfl;exact rfl;exact rfl;exact o1;exact Iq rfl rfl;exact rfl;exact rfl)|(apply S.callFV;exact rfl;exact rfl;exact rfl;exact o2;exact Iq rfl rfl;exact rfl;exact rfl)|(apply S.callFV;exact rfl;exact rfl;exact rfl;exact o3;exact Iq rfl rfl;exact rfl;exact rfl)|(apply S.callFV;exact rfl;exact rfl;exact rfl;exact o4;exact Iq rfl rfl;exact rfl;exact rfl)|(apply S.callFV;exact rfl;exact rfl;exact rfl;exact o5;exact Iq rfl rfl;exact rfl;exact rfl)|(apply S.callFV;exact rfl;exact rfl;exact rfl;exact o6;exact Iq rfl rfl;exact rfl;exact rfl)|(apply S.neg;exact rfl;exact rfl;omega)|refine Za ?_|(apply S.appendO;(iterate 9 exact rfl);exact A05 rfl;exact rfl;exact rfl;simp [Jm];simp [Jm])|(apply S.buildSliceO (d := 110);(iterate 6 exact rfl))|(apply S.buildSliceF;(iterate 8 exact rfl)) | refine V ?_|(refine W2 ?_ ?_ <;> intro hc))
 all_goals first
  | (rw [show Ki d m = Nq d m from if_pos (by assumption)]
     exact ⟨.inr rfl, [_, _], .cons (.tmp rfl) (.cons (.tmp rfl) .nil), .tup (.cons (.one (.own (rows := Nq d m) rfl (OwnRows.of (Nq d m).flatten (A54 d m) rfl))) (.cons (.one (.lf _)) .nil))⟩)
  | (rw [show Ki d m = Mh d m from if_neg (by assumption)]
     exact ⟨.inr rfl, [_, _], .cons (.tmp rfl) (.cons (.tmp rfl) .nil), .tup (.cons (.one (.own (rows := Mh d m) rfl (OwnRows.of (Mh d m).flatten (A6w d m) rfl))) (.cons (.one (.lf _)) .nil))⟩)
section
variable {P : Program} {N : Nat} {ops : Array Oper} {m : Option Nat} {K : Tm -> AH -> Prop} {tm : Tm} {H : AH} {rest : List Oper} {ty : TypeId} {pos : String} {af : Array Edge} {d : Nat} {t e : TypeId}
theorem S.buildSlice1 {ps : Array (Nat × Operand)} {n : Nat} {zv : Value} {ys : List (Nat × AV)} {out : List AV} {cs : List Lf} [hu : HasU P t (.slice e)] [hi : HasS P e n] [hz : HasZ P e zv] (h1 : Nat.ble 1 (1 * n) = true) (h2 : Nat.ble (1 * n) 16777216 = true) (hy : Dx (evT tm) ps.toList = some ys) (ho : Gj (fun (i : Nat) => some (i * n, n)) ys (Ff zv (1 * n)) = some out) (hc : lfs out = some cs) (hl : Nat.beq cs.length (1 * n) = true) (hN : Nat.ble (d + 1) N = true) (h : Reg m P N ops rest ((d, .sl [cs]) :: tm) H K) : Reg m P N ops (⟨some d, .buildSlice t 1 ps, ty, pos, af, none⟩ :: rest) tm H K :=
 S.buildSliceF h1 h2 hy ho hc hl (by
  have := Nat.eq_of_beq_eq_true hl
  simp only [chunks, Ro]
  rw [List.take_of_length_le (by omega)]) hN h
end
theorem Ai {n : Nat} {r : List Lf} (h : r.length = n) : ∀ x ∈ [r], x.length = n := by
 intro x hx
 simp only [List.mem_cons, List.not_mem_nil, or_false] at hx
 rw [hx];exact h
theorem Al (n : Nat) (cs : List Lf) : (cs.map AV.lf).all (AV.under n) = true := by
 rw [List.all_eq_true]
 intro x hx
 obtain ⟨y, _, rfl⟩ := List.mem_map.1 hx
 rfl
set_option maxHeartbeats 8000000 in
theorem Zx (m : MoveR) (hm : D8 m) : Fn0 Tryz.prog 172 [.i 0, A1 m.row] (.tup [.sl [J3 frZ frZ frZ frZ], .i 0]) := by
 have cg : Fn0 Tryz.prog 231 [.i 0, A1 m.row] (.i 0) := by
  have := Rt 0 m
  rwa [show U3 0 m = 0 by unfold U3;rw [if_pos hm, if_pos (by omega)]] at this
 refine Fn0.of Tryz.func172 Tryz.ntmps172 rfl rfl rfl ?_
 simp only [A2]
 repeat' (first | refine W ?_|refine Zc cg ?_|(apply S.buildSliceF;(iterate 8 exact rfl)) | refine V ?_|(refine W2 ?_ ?_ <;> intro hc))
 all_goals exact D2 rfl rfl rfl
structure PieceR where
 f1 : Int
 f2 : Int
 a1 : Int
 a2 : Int
 b1 : Int
 b2 : Int
 c1 : Int
 c2 : Int
def PieceR.row (p : PieceR) : List Lf := [.i p.f1, .i p.f2, .i p.a1, .i p.a2, .i p.b1, .i p.b2, .i p.c1, .i p.c2]
def PieceR.at (p : PieceR) : List Lf := [.i p.f1, .i p.f2]
def Adl : Nat -> AV
 | 0 => .val (.slice none 0 0)
 | k + 1 => .own 1 0 (k + 1) 2
def Adm (l : List PieceR) : Nat -> HB
 | 0 => .dead
 | k + 1 => .live (((l.take (k + 1)).map PieceR.at).flatten.map .lf)
theorem at_len (l : List PieceR) : ∀ r ∈ l.map PieceR.at, r.length = 2 := by
 intro r hr
 obtain ⟨p, _, rfl⟩ := List.mem_map.1 hr
 rfl
theorem Aa1 {l : List PieceR} {k : Nat} (h : k <= l.length) : (((l.take k).map PieceR.at).flatten.map AV.lf).length = k * 2 := by
 rw [List.length_map, Bf _ (at_len _), List.length_map, List.length_take, Nat.min_eq_left h]
theorem Vg {l : List PieceR} {k : Nat} {x : PieceR} (h : l.take (k + 1) = l.take k ++ [x]) : ((l.take (k + 1)).map PieceR.at).flatten.map AV.lf = ((l.take k).map PieceR.at).flatten.map AV.lf ++ ([x.at].flatten).map AV.lf := by
 rw [h];simp
set_option maxHeartbeats 8000000 in
theorem A3s (d : Int) (m : MoveR) (l : List PieceR) (hl : l.length <= 4) (h0 : l ≠ []) (hc : Fn0 Tryz.prog 172 [.i d, A1 m.row] (.tup [.sl (l.map PieceR.row), .i 0])) : Fn0 Tryz.prog 260 [.i d, A1 m.row] (.tup [.sl (l.map PieceR.at), .i 0]) := by
 have hle : (l.map PieceR.row).length = l.length := List.length_map _
 refine Fn0.of Tryz.func260 Tryz.ntmps260 rfl rfl rfl ?_
 simp only [A2]
 repeat' (first | refine W ?_|refine Zc hc ?_ | refine V ?_|(refine W2 ?_ ?_ <;> intro hc))
 refine T.kill 1 ?_
 refine T.loopS (fun k => k <= l.length) (fun k => l.length - k) (fun k => [(22, .i k), (21, .i (l.map PieceR.row).length), (20, .sl (l.map PieceR.row)), (8, Adl k)]) (fun k => [.live (m.row.map .lf), Adm l k]) 0 (Nat.zero_le _) CV CH ?_
 intro k hk
 by_cases hlt : k < l.length
 ·have h1 : (k : Int) < ((l.map PieceR.row).length : Nat) := by omega
  obtain ⟨x, hx⟩ := A9 hlt
  have hb := Ac (R := PieceR.row) hx
  have hsn := Bn hx
  cases k with
  | zero =>
   repeat' (first | refine W ?_|refine Zi hb ?_|(apply S.buildSlice1;(iterate 7 exact rfl))|(apply S.appendN 1 (rows := []);(iterate 8 exact rfl);exact Ai rfl;exact rfl;exact Nat.le_of_ble_eq_true rfl;exact Nat.le_of_ble_eq_true rfl)|refine Za ?_ | refine V ?_|(refine W2 ?_ ?_ <;> intro hc))
   change Next _ _ _ _ _ _
   exact Next.go 1 (by omega) (by omega) CV (by
    show CovH _ _ [_, .live (((l.take (0 + 1)).map PieceR.at).flatten.map .lf)]
    rw [Vg hsn]
    exact .live rfl (.live rfl .nil))
  | succ k =>
   repeat' (first | refine W ?_|refine Zi hb ?_|(apply S.buildSlice1;(iterate 7 exact rfl))|(apply S.appendO;(iterate 8 exact rfl);exact Aa1 hk;exact Ai rfl;exact rfl;exact Az _ _;simp only [List.length_cons, List.length_nil];omega;simp only [List.length_cons, List.length_nil];omega)|refine Za ?_ | refine V ?_|(refine W2 ?_ ?_ <;> intro hc))
   change Next _ _ _ _ _ _
   exact Next.go (k + 2) (by omega) (by omega) CV (by
    show CovH _ _ [_, .live (((l.take (k + 1 + 1)).map PieceR.at).flatten.map .lf)]
    rw [Vg hsn]
    exact .live rfl (.live (by rw [<- List.map_append];exact Al _ _) .nil))
 ·have h1 : ¬ (k : Int) < ((l.map PieceR.row).length : Nat) := by omega
  have hkl : k = l.length := by omega
  repeat' (first | refine W ?_ | refine V ?_|(refine W2 ?_ ?_ <;> intro hc))
  cases k with
  | zero => exact absurd (List.eq_nil_of_length_eq_zero hkl.symm) h0
  | succ k =>
   have ht : l.take (k + 1) = l := List.take_of_length_le (by omega)
   refine ⟨.inr rfl, [_, _], .cons (.tmp rfl) (.cons (.tmp rfl) .nil), .tup (.cons (.one (.own (rows := l.map PieceR.at) (cells := ((l.map PieceR.at).flatten.map .lf)) ?_ ?_)) (.cons (.one (.lf _)) .nil))⟩
   ·show HB.live (((l.take (k + 1)).map PieceR.at).flatten.map .lf) = _
    rw [ht]
   ·have := OwnRows.of (l.map PieceR.at).flatten (at_len l) rfl
    rw [List.length_map, <- hkl] at this
    exact this
end Go.Proofs.YtcbfnkgodiaiiaaGreat
