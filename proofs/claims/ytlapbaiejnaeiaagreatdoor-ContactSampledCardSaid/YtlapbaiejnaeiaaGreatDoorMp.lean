/- Lemmas of the proof. -/
import Derived.Test.YtlapbaiejnaeiaaGreatDoorQb
import Derived.Test.YtlapbaiejnaeiaaGreatDoorMd
import Derived.Test.YtlapbaiejnaeiaaGreatDoorMn
import Derived.Test.YtlapbaiejnaeiaaGreatDoorMc
import Derived.Test.YtlapbaiejnaeiaaGreatDoorMk
set_option linter.all false
set_option maxHeartbeats 64000000
namespace Go.Proofs.YtlapbaiejnaeiaaGreatDoor
open Go.RowKit
def a2i := @Rat.intCast_mul
def a4q := @Rat.intCast_add
def a6f := @Rat.intCast_sub
def a7a := @Nat.min_eq_left
def b0d := @Rat.intCast_inj
theorem Gb (n d : Int) (hd : d ≠ 0) (n1 : -9223372036854775808 <= n) (n2 : n <= 9223372036854775807) (d1 : -9223372036854775808 <= d) (d2 : d <= 9223372036854775807) (hf : Fits (A9 n d)) : Fn0 Tryz.prog 56 [.i n, .i d] (frE (A9 n d) 0) := Kq hf ▸ Ada n d hd n1 n2 d1 d2
theorem Vv (p q : Rat) (hp : Fits p) (hq : Fits q) (hf : Fits (p + q)) : Fn0 Tryz.prog 134 [A2 (frR p), A2 (frR q)] (frE (p + q) 0) := Kq hf ▸ Yv p q hp hq
theorem Oq (p q : Rat) (hp : Fits p) (hq : Fits q) (hf : Fits (p - q)) : Fn0 Tryz.prog 85 [A2 (frR p), A2 (frR q)] (frE (p - q) 0) := Kq hf ▸ A7r p q hp hq
theorem A7j (p q : Rat) (hp : Fits p) (hq : Fits q) (h0 : q ≠ 0) (hf : Fits (p / q)) : Fn0 Tryz.prog 180 [A2 (frR p), A2 (frR q)] (frE (p / q) 0) := Kq hf ▸ Aew p q hp hq h0
theorem J0 (p q : Rat) (hp : Fits p) (hq : Fits q) : Fn0 Tryz.prog 87 [A2 (frR p), A2 (frR q)] (.tup [.i (Bq p q), .i 0]) := Aev p q hp hq
theorem A41 {P : Program} {st : St} {fn : Func} {t b : Nat} {ty : TypeId} {cells : List AV} {ds : TypeDesc} {e : Exit} (cs : List Lf) [hu : HasU P ty ds] [hi : HasS P ty cs.length] (hr : fn.results = #[.cell t ty]) (he : e = .normal \/ e = .ret) (h : st.tm.get t = some (.ptr b 0)) (hb : st.H.at b = .live cells) (hd : ds.isRow = true) (hc : cells = cs.map .lf) : Ba P fn (A2 cs) e st :=
 ⟨he, [A2 cs], by rw [hr];exact .cons (Res.row cs h hb hd hc (a7m _)) .nil, .one (.agg (A6 cs))⟩
theorem Sk (a b : Int) : Fn0 Tryz.prog 177 [A2 [.i a, .i b], .i 0, .rop [.i 0]] (A2 [.i a, .i b]) := by
 refine Fn0.of Tryz.func177 Tryz.ntmps177 rfl rfl rfl ?_
 simp only [A1]
 repeat' (first|refine W ?_|refine V ?_|(refine W2 ?_ ?_<;>intro hc))
 all_goals exact A41 [.i a, .i b] Tryz.results177 (by first | exact .inl rfl | exact .inr rfl) rfl rfl rfl rfl
theorem Qm (n : Int) : Fn0 Tryz.prog 178 [.i n] (A2 (frR (n : Rat))) := by
 refine Fn0.of Tryz.func178 Tryz.ntmps178 rfl rfl rfl ?_
 simp only [A1]
 repeat' (first|refine W ?_|refine V ?_|(refine W2 ?_ ?_<;>intro hc))
 all_goals exact A41 (frR (n : Rat)) Tryz.results178 (by first | exact .inl rfl | exact .inr rfl) rfl rfl rfl rfl
theorem Yj {H : AH} {a b : Int} {x : AV} (h : Out1 H x (.rop [.i 0])) : Out2L H [A2 [.i a, .i b], .i 0, x] [A2 [.i a, .i b], .i 0, .rop [.i 0]] :=
 .cons (.agg (show OutL H ([Lf.i a, .i b].map .lf) ([Lf.i a, .i b].map .lf) from A6 _)) (.cons (.one (.lf _)) (.cons (.one h) .nil))
theorem G3 (n d : Int) (hd : d ≠ 0) (n1 : -9223372036854775808 <= n) (n2 : n <= 9223372036854775807) (d1 : -9223372036854775808 <= d) (d2 : d <= 9223372036854775807) (hf : Fits (A9 n d)) : Fn0 Tryz.prog 179 [.i n, .i d, .rop [.fn (.func 177) [[.i 0]]]] (A2 (frR (A9 n d))) := by
 refine Fn0.of Tryz.func179 Tryz.ntmps179 rfl rfl rfl ?_
 simp only [A1]
 repeat' (first|refine W ?_|(apply p0e 7 A0 (by decide +kernel);simp only [td])|refine Zc (Gb n d hd n1 n2 d1 d2 hf) ?_|(apply S.callFV;(iterate 3 exact rfl);exact Sk (A9 n d).num (A9 n d).den;exact Yj (.rop _);exact rfl;exact rfl)|refine V ?_|(refine W2 ?_ ?_<;>intro hc))
 all_goals exact A41 (frR (A9 n d)) Tryz.results179 (by first | exact .inl rfl | exact .inr rfl) rfl rfl rfl rfl
/-! ### The fractions -/
theorem E9 (n d : Int) : A9 n d = (n : Rat) / (d : Rat) := Rat.divInt_eq_div n d
theorem Bu {n d : Int} (h1 : -1152921504606846976 <= n) (h2 : n <= 1152921504606846976) (h3 : 1 <= d) (h4 : d <= 1152921504606846976) : Fits (A9 n d) := by
 obtain ⟨e1, e2⟩ := A1x n d (by omega)
 have hg : 0 < (Int.gcd n d : Int) := by
  have : 0 < Int.gcd n d := a9w n (by omega)
  omega
 have k1 : (n.natAbs : Int) / (Int.gcd n d : Int) <= n.natAbs := a3q _ (by omega)
 have k2 : (d.natAbs : Int) / (Int.gcd n d : Int) <= d.natAbs := a3q _ (by omega)
 have k3 : 0 <= (n.natAbs : Int) / (Int.gcd n d : Int) := a2q (by omega) (by omega)
 constructor
 ·rw [e1]
  split <;> omega
 ·omega
theorem Cd {n : Int} (h1 : -1152921504606846976 <= n) (h2 : n <= 1152921504606846976) : Fits (n : Rat) :=
 ⟨by show n.natAbs <= _;omega, by show 1 <= _;omega⟩
theorem Oc {a b A B : Int} (ha : 0 <= a /\ a <= A) (hb : 0 <= b /\ b <= B) : 0 <= a * b /\ a * b <= A * B := ⟨a2s ha.1 hb.1, a4y ha.2 hb.2 hb.1 (by omega)⟩
theorem Aae {a b : Int} (ha : 1 <= a) (hb : 1 <= b) : 1 <= a * b := by
 have := b2h (by omega : 0 < a) (by omega : 0 < b)
 omega
theorem A2i (P : Nat -> Bool) : ∀ k, Im P k <= k
 | 0 => a0m _
 | k + 1 => by
  rw [Im]
  split
  ·exact a0m _
  ·have := A2i P k;omega
theorem Zl {P : Nat -> Bool} (h : P 1 = true) : ∀ k, 1 <= k -> 1 <= Im P k
 | 0, hk => by omega
 | k + 1, _ => by
  rw [Im]
  split
  ·omega
  ·rename_i hn
   rcases a4e k with rfl | hk
   ·exact absurd h hn
   ·exact Zl h k hk
theorem W9 {d : Int} {m : MoveR} (hm : Dp m) (hd : 1 <= d /\ d <= 1048576) : 1 <= Au d m /\ Au d m <= 8192 := by
 obtain ⟨_, _, h3, h4, h5⟩ := hm
 unfold Au
 rw [if_neg (by omega)]
 have hle := A2i (fun w => decide (Fj d m w)) m.speed.toNat
 refine ⟨Zl (decide_eq_true ?_) _ (by omega), by omega⟩
 unfold Fj
 have e1 : m.rise <= m.rise * m.fall := by
  have := Int.mul_le_mul_of_nonneg_left h5.1 (by omega : 0 <= m.rise)
  omega
 have e2 : m.fall <= m.rise * m.fall := by
  have := a3e h4.1 (by omega : 0 <= m.fall)
  omega
 have e3 : 2 * (m.rise * m.fall) <= 2 * d * m.rise * m.fall := by
  have := a3e (show 2 <= 2 * d by omega) (show 0 <= m.rise * m.fall by omega)
  rw [a3t (2 * d)]
  exact this
 simp only [Int.natCast_one, Int.one_mul]
 omega
theorem Zz {k n : Nat} {l : List Lf} (hl : l.length = k * n) : ∀ row ∈ chunks k n l, row.length = n := fun row h => by
 obtain ⟨i, hi⟩ := a3c h
 exact (O0 k l i row hl hi).1
theorem Ig {H : AH} {b9 b10 : Nat} {f : FuncId} {n d : Int} (h10 : H.at b10 = .live [.fn (.func f) [] [.ptr b9 0]]) (h9 : H.at b9 = .live [.lf (.i 0)]) : Out2L H [.i n, .i d, .ptr b10 0] [.i n, .i d, .rop [.fn (.func f) [[.i 0]]]] := by
 refine .cons (.one (.lf _)) (.cons (.one (.lf _)) (.cons (.one (.ptrF h10 fun j x hj => ?_)) .nil))
 match j, hj with
 | 0, hj =>
  simp at hj
  subst hj
  refine ⟨_, rfl, .fn rfl fun i cs hi => ?_⟩
  match i, hi with
  | 0, hi =>
   simp at hi
   subst hi
   refine ⟨b9, 0, _, rfl, h9, fun j x hj => ?_⟩
   match j, hj with
   | 0, hj => simpa using hj
section
variable (d : Int) (m : MoveR)
abbrev Jh : Rat := A9 (Au d m * Au d m) (2 * m.rise)
abbrev Kt : Rat := A9 (Au d m * Au d m) (2 * m.fall)
abbrev Fw : Rat := A9 (Au d m) m.rise
abbrev Q3 : Rat := A9 (Au d m) m.fall
abbrev Ab3 : Rat := (d : Rat) - Jh d m
abbrev J6 : Rat := Ab3 d m - Kt d m
abbrev My : Rat := J6 d m / ((Au d m : Int) : Rat)
abbrev Ev : Rat := Fw d m + My d m
abbrev Fg : Rat := Ev d m + Q3 d m
abbrev Rv : Rat := (d : Rat) - Kt d m
end
theorem Tf {n : Int} (h : n ≠ 0) : (n : Rat) ≠ 0 := fun e => h (b0d.1 (e.trans (show (0 : Rat) = ((0 : Int) : Rat) from rfl)))
structure CurveOk (d : Int) (m : MoveR) : Prop where
 w : 1 <= Au d m /\ Au d m <= 8192
 ww : 1 <= (Au d m : Int) * Au d m /\ (Au d m : Int) * Au d m <= 67108864
 rise : Fits (Jh d m)
 fall : Fits (Kt d m)
 start : Fits (Fw d m)
 last : Fits (Q3 d m)
 way : Fits (Ab3 d m)
 run : Fits (J6 d m)
 flat : Fits (My d m)
 stop : Fits (Ev d m)
 fin : Fits (Fg d m)
 top : Fits (Rv d m)
 half : Fits (A9 m.rise 2)
 halfF : Fits (A9 (-m.fall) 2)
 speed : Fits ((Au d m : Int) : Rat)
 dist : Fits (d : Rat)
 time : Fg d m = A9 (2 * m.rise * m.fall * d + Au d m * Au d m * (m.rise + m.fall)) (2 * m.rise * m.fall * Au d m)
theorem Me {d : Int} {m : MoveR} (hm : Dp m) (hd : 1 <= d /\ d <= 1048576) : CurveOk d m := by
 have hw := W9 hm hd
 obtain ⟨_, _, h3, h4, h5⟩ := hm
 obtain ⟨w, hwe⟩ : ∃ w : Int, w = (Au d m : Int) := ⟨_, rfl⟩
 obtain ⟨R, hRe⟩ : ∃ R : Int, R = m.rise := ⟨_, rfl⟩
 obtain ⟨F, hFe⟩ : ∃ F : Int, F = m.fall := ⟨_, rfl⟩
 rw [<- hRe] at h4
 rw [<- hFe] at h5
 have hw' : 1 <= w /\ w <= 8192 := by omega
 have r0 := Tf (n := R) (by omega)
 have f0 := Tf (n := F) (by omega)
 have w0 := Tf (n := w) (by omega)
 have ww := Oc (a := w) (b := w) (A := 8192) (B := 8192) (by omega) (by omega)
 have ww1 := Aae (a := w) (b := w) (by omega) (by omega)
 have rf := Oc (a := 2 * R) (b := F) (A := 32768) (B := 16384) (by omega) (by omega)
 have rf1 := Aae (a := 2 * R) (b := F) (by omega) (by omega)
 have rfd := Oc (a := 2 * R * F) (b := d) (A := 536870912) (B := 1048576) (by omega) (by omega)
 have rfw := Oc (a := 2 * R * F) (b := w) (A := 536870912) (B := 8192) (by omega) (by omega)
 have rfw1 := Aae (a := 2 * R * F) (b := w) (by omega) (by omega)
 have wrf := Oc (a := w * w) (b := R + F) (A := 67108864) (B := 32768) (by omega) (by omega)
 have rd := Oc (a := 2 * R) (b := d) (A := 32768) (B := 1048576) (by omega) (by omega)
 have fd := Oc (a := 2 * F) (b := d) (A := 32768) (B := 1048576) (by omega) (by omega)
 have fww := Oc (a := 2 * F) (b := w * w) (A := 32768) (B := 67108864) (by omega) (by omega)
 have e1 : (d : Rat) - A9 (w * w) (2 * R) = A9 (2 * R * d - w * w) (2 * R) := by
  simp only [E9, a2i, a6f, a4q]
  rw [show (((2 : Int)) : Rat) = 2 from rfl]
  grind
 have e2 : (d : Rat) - A9 (w * w) (2 * R) - A9 (w * w) (2 * F) = A9 (2 * R * F * d - w * w * (R + F)) (2 * R * F) := by
  simp only [E9, a2i, a6f, a4q]
  rw [show (((2 : Int)) : Rat) = 2 from rfl]
  grind
 have e3 : ((d : Rat) - A9 (w * w) (2 * R) - A9 (w * w) (2 * F)) / (w : Rat) = A9 (2 * R * F * d - w * w * (R + F)) (2 * R * F * w) := by
  simp only [E9, a2i, a6f, a4q]
  rw [show (((2 : Int)) : Rat) = 2 from rfl]
  grind
 have e4 : A9 w R + ((d : Rat) - A9 (w * w) (2 * R) - A9 (w * w) (2 * F)) / (w : Rat) = A9 (2 * R * F * d - w * w * (R + F) + 2 * F * (w * w)) (2 * R * F * w) := by
  simp only [E9, a2i, a6f, a4q]
  rw [show (((2 : Int)) : Rat) = 2 from rfl]
  grind
 have e5 : A9 w R + ((d : Rat) - A9 (w * w) (2 * R) - A9 (w * w) (2 * F)) / (w : Rat) + A9 w F = A9 (2 * R * F * d + w * w * (R + F)) (2 * R * F * w) := by
  simp only [E9, a2i, a6f, a4q]
  rw [show (((2 : Int)) : Rat) = 2 from rfl]
  grind
 have e6 : (d : Rat) - A9 (w * w) (2 * F) = A9 (2 * F * d - w * w) (2 * F) := by
  simp only [E9, a2i, a6f, a4q]
  rw [show (((2 : Int)) : Rat) = 2 from rfl]
  grind
 have g1 : Fits (A9 (w * w) (2 * R)) := Bu (by omega) (by omega) (by omega) (by omega)
 have g2 : Fits (A9 (w * w) (2 * F)) := Bu (by omega) (by omega) (by omega) (by omega)
 have g3 : Fits (A9 w R) := Bu (by omega) (by omega) (by omega) (by omega)
 have g4 : Fits (A9 w F) := Bu (by omega) (by omega) (by omega) (by omega)
 have g5 : Fits ((d : Rat) - A9 (w * w) (2 * R)) := by rw [e1];exact Bu (by omega) (by omega) (by omega) (by omega)
 have g6 : Fits ((d : Rat) - A9 (w * w) (2 * R) - A9 (w * w) (2 * F)) := by rw [e2];exact Bu (by omega) (by omega) (by omega) (by omega)
 have g7 : Fits (((d : Rat) - A9 (w * w) (2 * R) - A9 (w * w) (2 * F)) / (w : Rat)) := by rw [e3];exact Bu (by omega) (by omega) (by omega) (by omega)
 have g8 : Fits (A9 w R + ((d : Rat) - A9 (w * w) (2 * R) - A9 (w * w) (2 * F)) / (w : Rat)) := by rw [e4];exact Bu (by omega) (by omega) (by omega) (by omega)
 have g9 : Fits (A9 w R + ((d : Rat) - A9 (w * w) (2 * R) - A9 (w * w) (2 * F)) / (w : Rat) + A9 w F) := by rw [e5];exact Bu (by omega) (by omega) (by omega) (by omega)
 have g10 : Fits ((d : Rat) - A9 (w * w) (2 * F)) := by rw [e6];exact Bu (by omega) (by omega) (by omega) (by omega)
 have g11 : Fits (A9 R 2) := Bu (by omega) (by omega) (by omega) (by omega)
 have g12 : Fits (A9 (-F) 2) := Bu (by omega) (by omega) (by omega) (by omega)
 have g13 : Fits (w : Rat) := Cd (by omega) (by omega)
 have g14 : Fits (d : Rat) := Cd (by omega) (by omega)
 have hww : 1 <= w * w /\ w * w <= 67108864 := by omega
 subst hwe hRe hFe
 exact ⟨hw, hww, g1, g2, g3, g4, g5, g6, g7, g8, g9, g10, g11, g12, g13, g14, e5⟩
theorem p4o {N : Nat} {ops : Array Oper} {m : Option Nat} {K : Tm -> AH -> Prop} {tm : Tm} {H : AH} {rest : List Oper} {ty : TypeId} {pos : String} {af : Array Edge} {d : Nat} {f : Operand} {fv x : AV} {xs : Array Operand} {ts : Array TypeId} {a b : Int} (hf : evT tm f = some fv) (hfn : fnOf fv = some (177, [x])) (hx : evs (evT tm) xs.toList = some [A2 [.i a, .i b], .i 0]) (hz : Out1 (Pr m H) x (.rop [.i 0])) (hN : Nat.ble (d + 1) N = true) (h : Reg m Tryz.prog N ops rest ((d, A2 [.i a, .i b]) :: tm) H K) : Reg m Tryz.prog N ops (⟨some d, .call ⟨.value f, xs, ts⟩, ty, pos, af, none⟩ :: rest) tm H K :=
 S.callFV hf hfn hx (Sk a b) (Yj hz) rfl hN h
abbrev Iy (f a b c : List Lf) : List Lf := f ++ a ++ b ++ c
abbrev frZ : List Lf := [.i 0, .i 1]
def N3 (d : Int) (m : MoveR) : List (List Lf) := [Iy frZ frZ frZ (frR (A9 m.rise 2)), Iy (frR (Ev d m)) (frR (Rv d m)) (frR ((Au d m : Int) : Rat)) (frR (A9 (-m.fall) 2)), Iy (frR (Fg d m)) (frR (d : Rat)) frZ frZ]
def N4 (d : Int) (m : MoveR) : List (List Lf) := [Iy frZ frZ frZ (frR (A9 m.rise 2)), Iy (frR (Fw d m)) (frR (Jh d m)) (frR ((Au d m : Int) : Rat)) frZ, Iy (frR (Ev d m)) (frR (Rv d m)) (frR ((Au d m : Int) : Rat)) (frR (A9 (-m.fall) 2)), Iy (frR (Fg d m)) (frR (d : Rat)) frZ frZ]
theorem A7o (d : Int) (m : MoveR) : ∀ r ∈ N3 d m, r.length = 8 := by
 intro r hr
 simp only [N3, a1i, a2r, or_false] at hr
 rcases hr with rfl | rfl | rfl <;> rfl
theorem A7p (d : Int) (m : MoveR) : ∀ r ∈ N4 d m, r.length = 8 := by
 intro r hr
 simp only [N4, a1i, a2r, or_false] at hr
 rcases hr with rfl | rfl | rfl | rfl <;> rfl
def Jx (d : Int) (m : MoveR) : List (List Lf) := if (J6 d m).num = 0 then N3 d m else N4 d m
set_option maxRecDepth 100000 in
theorem T9 (d : Int) (m : MoveR) (hm : Dp m) (hd : 1 <= d /\ d <= 1048576) : Fn0 Tryz.prog 122 [.i d, A2 m.row] (.tup [.sl (Jx d m), .i 0]) := by
 have K := Me hm hd
 have k1 := K.w
 have k2 := K.ww
 have cg : Fn0 Tryz.prog 175 [.i d, A2 m.row] (.i 0) := by
  have := Ta d m
  rwa [show Ut d m = 0 by unfold Ut;rw [if_pos hm, if_pos (by omega)]] at this
 have ct := Aay d m hm (by omega)
 have hmv := hm
 obtain ⟨_, _, h3, h4, h5⟩ := hm
 have o1 := G3 (Au d m * Au d m) (2 * m.rise) (by omega) (by omega) (by omega) (by omega) (by omega) K.rise
 have o2 := G3 (Au d m * Au d m) (2 * m.fall) (by omega) (by omega) (by omega) (by omega) (by omega) K.fall
 have o3 := G3 (Au d m) m.rise (by omega) (by omega) (by omega) (by omega) (by omega) K.start
 have o4 := G3 (Au d m) m.fall (by omega) (by omega) (by omega) (by omega) (by omega) K.last
 have o5 := G3 m.rise 2 (by omega) (by omega) (by omega) (by omega) (by omega) K.half
 have o6 := G3 (-m.fall) 2 (by omega) (by omega) (by omega) (by omega) (by omega) K.halfF
 have u1 := Qm d
 have u2 := Qm (Au d m)
 have s1 := Oq (d : Rat) (Jh d m) K.dist K.rise K.way
 have s2 := Oq (Ab3 d m) (Kt d m) K.way K.fall K.run
 have s3 := A7j (J6 d m) ((Au d m : Int) : Rat) K.run K.speed (Tf (by omega)) K.flat
 have s4 := Vv (Fw d m) (My d m) K.start K.flat K.stop
 have s5 := Vv (Ev d m) (Q3 d m) K.stop K.last K.fin
 have s6 := Oq (d : Rat) (Kt d m) K.dist K.fall K.top
 have hd0 : ¬ d = 0 := by omega
 refine Fn0.of Tryz.func122 Tryz.ntmps122 rfl rfl rfl ?_
 simp only [A1]
 repeat' (first|refine W ?_|(apply p0f 9 A0 (by decide +kernel);simp only [td])|(apply p0e 16 A0 (by decide +kernel);simp only [td])|(apply p0e 15 A0 (by decide +kernel);simp only [td])|(apply p0e 11 A0 (by decide +kernel);simp only [td])|(apply p0e 9 A0 (by decide +kernel);simp only [td])|(apply p0e 28 A0 (by decide +kernel);simp only [td])|(apply p0a A0 (by decide +kernel))|refine Zc cg ?_|refine Zc ct ?_|refine Zc s1 ?_|refine Zc s2 ?_|refine Zc s3 ?_|refine Zc s4 ?_|refine Zc s5 ?_|refine Zc s6 ?_|(apply p4o;(iterate 3 exact rfl);exact .ptr0 rfl;exact rfl)|(apply S.callFV;(iterate 3 exact rfl);exact u1;exact .cons (.one (.lf _)) .nil;exact rfl;exact rfl)|(apply S.callFV;(iterate 3 exact rfl);exact u2;exact .cons (.one (.lf _)) .nil;exact rfl;exact rfl)|(apply S.callFV;(iterate 3 exact rfl);exact o1;exact Ig rfl rfl;exact rfl;exact rfl)|(apply S.callFV;(iterate 3 exact rfl);exact o2;exact Ig rfl rfl;exact rfl;exact rfl)|(apply S.callFV;(iterate 3 exact rfl);exact o3;exact Ig rfl rfl;exact rfl;exact rfl)|(apply S.callFV;(iterate 3 exact rfl);exact o4;exact Ig rfl rfl;exact rfl;exact rfl)|(apply S.callFV;(iterate 3 exact rfl);exact o5;exact Ig rfl rfl;exact rfl;exact rfl)|(apply S.callFV;(iterate 3 exact rfl);exact o6;exact Ig rfl rfl;exact rfl;exact rfl)|(apply S.neg;exact rfl;exact rfl;omega)|refine Za ?_|(apply p0n;(iterate 9 exact rfl);exact Zz rfl;exact rfl;exact rfl;simp [J9];simp [J9])|(apply p1e (d := 110);(iterate 6 exact rfl))|(apply p1d;(iterate 8 exact rfl))|refine V ?_|(refine W2 ?_ ?_<;>intro hc))
 all_goals first
  | (rw [show Jx d m = N3 d m from if_pos (by assumption)]
     exact ⟨.inr rfl, [_, _], .cons (.tmp rfl) (.cons (.tmp rfl) .nil), .tup (.cons (.one (.own (rows := N3 d m) rfl (OwnRows.of (N3 d m).flatten (A7o d m) rfl))) (.cons (.one (.lf _)) .nil))⟩)
  | (rw [show Jx d m = N4 d m from if_neg (by assumption)]
     exact ⟨.inr rfl, [_, _], .cons (.tmp rfl) (.cons (.tmp rfl) .nil), .tup (.cons (.one (.own (rows := N4 d m) rfl (OwnRows.of (N4 d m).flatten (A7p d m) rfl))) (.cons (.one (.lf _)) .nil))⟩)
theorem A0i (m : MoveR) (hm : Dp m) : Fn0 Tryz.prog 122 [.i 0, A2 m.row] (.tup [.sl [Iy frZ frZ frZ frZ], .i 0]) := by
 have cg : Fn0 Tryz.prog 175 [.i 0, A2 m.row] (.i 0) := by
  have := Ta 0 m
  rwa [show Ut 0 m = 0 by unfold Ut;rw [if_pos hm, if_pos (by omega)]] at this
 refine Fn0.of Tryz.func122 Tryz.ntmps122 rfl rfl rfl ?_
 simp only [A1]
 repeat' (first|refine W ?_|refine Zc cg ?_|(apply p1d;(iterate 8 exact rfl))|refine V ?_|(refine W2 ?_ ?_<;>intro hc))
 all_goals exact D2 rfl rfl rfl
structure PieceR where
 f1 : Int
 f2 : Int
 a1 : Int
 a2 : Int
 b1 : Int
 b2 : Int
 c1 : Int
 c2 : Int
def PieceR.row (p : PieceR) : List Lf := [.i p.f1, .i p.f2, .i p.a1, .i p.a2, .i p.b1, .i p.b2, .i p.c1, .i p.c2]
def PieceR.at (p : PieceR) : List Lf := [.i p.f1, .i p.f2]
def Aff : Nat -> AV
 | 0 => .val (.slice none 0 0)
 | k + 1 => .own 1 0 (k + 1) 2
def Afe (l : List PieceR) : Nat -> HB
 | 0 => .dead
 | k + 1 => .live (((l.take (k + 1)).map PieceR.at).flatten.map .lf)
theorem at_len (l : List PieceR) : ∀ r ∈ l.map PieceR.at, r.length = 2 := by
 intro r hr
 obtain ⟨p, _, rfl⟩ := a1a.1 hr
 rfl
theorem Aa2 {l : List PieceR} {k : Nat} (h : k <= l.length) : (((l.take k).map PieceR.at).flatten.map AV.lf).length = k * 2 := by
 rw [a0a, Bc _ (at_len _), a0a, a0z, a7a h]
theorem Vi {l : List PieceR} {k : Nat} {x : PieceR} (h : l.take (k + 1) = l.take k ++ [x]) : ((l.take (k + 1)).map PieceR.at).flatten.map AV.lf = ((l.take k).map PieceR.at).flatten.map AV.lf ++ ([x.at].flatten).map AV.lf := by
 rw [h];simp
theorem A3w (d : Int) (m : MoveR) (l : List PieceR) (hl : l.length <= 4) (h0 : l ≠ []) (hc : Fn0 Tryz.prog 122 [.i d, A2 m.row] (.tup [.sl (l.map PieceR.row), .i 0])) : Fn0 Tryz.prog 219 [.i d, A2 m.row] (.tup [.sl (l.map PieceR.at), .i 0]) := by
 have hle : (l.map PieceR.row).length = l.length := a0a _
 refine Fn0.of Tryz.func219 Tryz.ntmps219 rfl rfl rfl ?_
 simp only [A1]
 repeat' (first|refine W ?_|refine Zc hc ?_|refine V ?_|(refine W2 ?_ ?_<;>intro hc))
 refine T.kill 1 ?_
 refine p0d (fun k => k <= l.length) (fun k => l.length - k) (fun k => [(22, .i k), (21, .i (l.map PieceR.row).length), (20, .sl (l.map PieceR.row)), (8, Aff k)]) (fun k => [.live (m.row.map .lf), Afe l k]) 0 (a0n _) CV CH ?_
 intro k hk
 by_cases hlt : k < l.length
 ·have h1 : (k : Int) < ((l.map PieceR.row).length : Nat) := by omega
  obtain ⟨x, hx⟩ := Ac hlt
  have hb := Af (R := PieceR.row) hx
  have hsn := Be hx
  cases k with
  | zero =>
   repeat' (first|refine W ?_|(apply S.indexR;(iterate 3 exact rfl);exact hb;omega;exact rfl)|(apply p0c;(iterate 7 exact rfl))|(apply p0r 1 (rows := []);(iterate 8 exact rfl);exact Ag rfl;exact rfl;exact a0d rfl;exact a0d rfl)|refine Za ?_|refine V ?_|(refine W2 ?_ ?_<;>intro hc))
   change Next _ _ _ _ _ _
   exact Next.go 1 (by omega) (by omega) CV (by
    show CovH _ _ [_, .live (((l.take (0 + 1)).map PieceR.at).flatten.map .lf)]
    rw [Vi hsn]
    exact .live rfl (.live rfl .nil))
  | succ k =>
   repeat' (first|refine W ?_|(apply S.indexR;(iterate 3 exact rfl);exact hb;omega;exact rfl)|(apply p0c;(iterate 7 exact rfl))|(apply p0n;(iterate 8 exact rfl);exact Aa2 hk;exact Ag rfl;exact rfl;exact Av _ _;simp only [a0i, a0o];omega;simp only [a0i, a0o];omega)|refine Za ?_|refine V ?_|(refine W2 ?_ ?_<;>intro hc))
   change Next _ _ _ _ _ _
   exact Next.go (k + 2) (by omega) (by omega) CV (by
    show CovH _ _ [_, .live (((l.take (k + 1 + 1)).map PieceR.at).flatten.map .lf)]
    rw [Vi hsn]
    exact .live rfl (.live (by rw [<- a1p];exact Ah _ _) .nil))
 ·have h1 : ¬ (k : Int) < ((l.map PieceR.row).length : Nat) := by omega
  have hkl : k = l.length := by omega
  repeat' (first|refine W ?_|refine V ?_|(refine W2 ?_ ?_<;>intro hc))
  cases k with
  | zero => exact absurd (a1n hkl.symm) h0
  | succ k =>
   have ht : l.take (k + 1) = l := a0h (by omega)
   refine ⟨.inr rfl, [_, _], .cons (.tmp rfl) (.cons (.tmp rfl) .nil), .tup (.cons (.one (.own (rows := l.map PieceR.at) (cells := ((l.map PieceR.at).flatten.map .lf)) ?_ ?_)) (.cons (.one (.lf _)) .nil))⟩
   ·show HB.live (((l.take (k + 1)).map PieceR.at).flatten.map .lf) = _
    rw [ht]
   ·have := OwnRows.of (l.map PieceR.at).flatten (at_len l) rfl
    rw [a0a, <- hkl] at this
    exact this
end Go.Proofs.YtlapbaiejnaeiaaGreatDoor
