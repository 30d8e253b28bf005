/- Lemmas of the proof. -/
import Derived.Test.YtlapbaiejnaeiaaGreatDoorQb
import Derived.Test.YtlapbaiejnaeiaaGreatDoorMd
import Derived.Test.YtlapbaiejnaeiaaGreatDoorMn
import Derived.Test.YtlapbaiejnaeiaaGreatDoorMc
import Derived.Test.YtlapbaiejnaeiaaGreatDoorMj
set_option linter.all false
set_option maxHeartbeats 64000000
namespace Go.Proofs.YtlapbaiejnaeiaaGreatDoor
open Go.RowKit
def a3n := @Rat.intCast_mul
def a4b := @Nat.min_eq_left
def a6c := @Rat.intCast_add
def a6d := @Rat.intCast_sub
theorem Fw (n d : Int) (hd : d ≠ 0) (n1 : -9223372036854775808 <= n) (n2 : n <= 9223372036854775807) (d1 : -9223372036854775808 <= d) (d2 : d <= 9223372036854775807) (hf : Fits (A9 n d)) : Fn0 Tryz.prog 56 [.i n, .i d] (frE (A9 n d) 0) := Kb hf ▸ Ac6 n d hd n1 n2 d1 d2
theorem Vo (p q : Rat) (hp : Fits p) (hq : Fits q) (hf : Fits (p + q)) : Fn0 Tryz.prog 134 [A1 (frR p), A1 (frR q)] (frE (p + q) 0) := Kb hf ▸ Yq p q hp hq
theorem O6 (p q : Rat) (hp : Fits p) (hq : Fits q) (hf : Fits (p - q)) : Fn0 Tryz.prog 85 [A1 (frR p), A1 (frR q)] (frE (p - q) 0) := Kb hf ▸ A6v p q hp hq
theorem A6p (p q : Rat) (hp : Fits p) (hq : Fits q) (h0 : q ≠ 0) (hf : Fits (p / q)) : Fn0 Tryz.prog 180 [A1 (frR p), A1 (frR q)] (frE (p / q) 0) := Kb hf ▸ Adn p q hp hq h0
theorem O5 (p q : Rat) (hp : Fits p) (hq : Fits q) : Fn0 Tryz.prog 87 [A1 (frR p), A1 (frR q)] (.tup [.i (C4 p q), .i 0]) := Adm p q hp hq
theorem A3h {P : Program} {st : St} {fn : Func} {t b : Nat} {ty : TypeId} {cells : List AV} {ds : TypeDesc} {e : Exit} (cs : List Lf) [hu : HasU P ty ds] [hi : HasS P ty cs.length] (hr : fn.results = #[.cell t ty]) (he : e = .normal \/ e = .ret) (h : st.tm.get t = some (.ptr b 0)) (hb : st.H.at b = .live cells) (hd : ds.isRow = true) (hc : cells = cs.map .lf) : Bj P fn (A1 cs) e st :=
 ⟨he, [A1 cs], by rw [hr];exact .cons (Res.row cs h hb hd hc (a6t _)) .nil, .one (.agg (A6 cs))⟩
theorem S6 (a b : Int) : Fn0 Tryz.prog 177 [A1 [.i a, .i b], .i 0, .rop [.i 0]] (A1 [.i a, .i b]) := by
 refine Fn0.of Tryz.func177 Tryz.ntmps177 rfl rfl rfl ?_
 simp only [A2]
 repeat' (first|refine W ?_|refine V ?_|(refine W2 ?_ ?_<;>intro hc))
 all_goals exact A3h [.i a, .i b] Tryz.results177 (by first | exact .inl rfl | exact .inr rfl) rfl rfl rfl rfl
theorem Q4 (n : Int) : Fn0 Tryz.prog 178 [.i n] (A1 (frR (n : Rat))) := by
 refine Fn0.of Tryz.func178 Tryz.ntmps178 rfl rfl rfl ?_
 simp only [A2]
 repeat' (first|refine W ?_|refine V ?_|(refine W2 ?_ ?_<;>intro hc))
 all_goals exact A3h (frR (n : Rat)) Tryz.results178 (by first | exact .inl rfl | exact .inr rfl) rfl rfl rfl rfl
theorem Ye {H : AH} {a b : Int} {x : AV} (h : Out1 H x (.rop [.i 0])) : Out2L H [A1 [.i a, .i b], .i 0, x] [A1 [.i a, .i b], .i 0, .rop [.i 0]] :=
 .cons (.agg (show OutL H ([Lf.i a, .i b].map .lf) ([Lf.i a, .i b].map .lf) from A6 _)) (.cons (.one (.lf _)) (.cons (.one h) .nil))
theorem Fl (n d : Int) (hd : d ≠ 0) (n1 : -9223372036854775808 <= n) (n2 : n <= 9223372036854775807) (d1 : -9223372036854775808 <= d) (d2 : d <= 9223372036854775807) (hf : Fits (A9 n d)) : Fn0 Tryz.prog 179 [.i n, .i d, .rop [.fn (.func 177) [[.i 0]]]] (A1 (frR (A9 n d))) := by
 refine Fn0.of Tryz.func179 Tryz.ntmps179 rfl rfl rfl ?_
 simp only [A2]
 repeat' (first|refine W ?_|(apply p0e 7 A0 (by decide +kernel);simp only [td])|refine Zc (Fw n d hd n1 n2 d1 d2 hf) ?_|(apply S.callFV;(iterate 3 exact rfl);exact S6 (A9 n d).num (A9 n d).den;exact Ye (.rop _);exact rfl;exact rfl)|refine V ?_|(refine W2 ?_ ?_<;>intro hc))
 all_goals exact A3h (frR (A9 n d)) Tryz.results179 (by first | exact .inl rfl | exact .inr rfl) rfl rfl rfl rfl
/-! ### The fractions -/
theorem I2 (n d : Int) : A9 n d = (n : Rat) / (d : Rat) := Rat.divInt_eq_div n d
theorem Br {n d : Int} (h1 : -1152921504606846976 <= n) (h2 : n <= 1152921504606846976) (h3 : 1 <= d) (h4 : d <= 1152921504606846976) : Fits (A9 n d) := by
 obtain ⟨e1, e2⟩ := A1h n d (by omega)
 have hg : 0 < (Int.gcd n d : Int) := by
  have : 0 < Int.gcd n d := a9x n (by omega)
  omega
 have k1 : (n.natAbs : Int) / (Int.gcd n d : Int) <= n.natAbs := a3s _ (by omega)
 have k2 : (d.natAbs : Int) / (Int.gcd n d : Int) <= d.natAbs := a3s _ (by omega)
 have k3 : 0 <= (n.natAbs : Int) / (Int.gcd n d : Int) := a2q (by omega) (by omega)
 constructor
 ·rw [e1]
  split <;> omega
 ·omega
theorem Cq {n : Int} (h1 : -1152921504606846976 <= n) (h2 : n <= 1152921504606846976) : Fits (n : Rat) :=
 ⟨by show n.natAbs <= _;omega, by show 1 <= _;omega⟩
theorem Nt {a b A B : Int} (ha : 0 <= a /\ a <= A) (hb : 0 <= b /\ b <= B) : 0 <= a * b /\ a * b <= A * B := ⟨a2t ha.1 hb.1, a4z ha.2 hb.2 hb.1 (by omega)⟩
theorem A9e {a b : Int} (ha : 1 <= a) (hb : 1 <= b) : 1 <= a * b := by
 have := b2g (by omega : 0 < a) (by omega : 0 < b)
 omega
theorem A20 (P : Nat -> Bool) : ∀ k, Mt P k <= k
 | 0 => a0l _
 | k + 1 => by
  rw [Mt]
  split
  ·exact a0l _
  ·have := A20 P k;omega
theorem Ze {P : Nat -> Bool} (h : P 1 = true) : ∀ k, 1 <= k -> 1 <= Mt P k
 | 0, hk => by omega
 | k + 1, _ => by
  rw [Mt]
  split
  ·omega
  ·rename_i hn
   rcases a4j k with rfl | hk
   ·exact absurd h hn
   ·exact Ze h k hk
theorem A7g {d : Int} {m : MoveR} (hm : E4 m) (hd : 1 <= d /\ d <= 1048576) : 1 <= Bb d m /\ Bb d m <= 8192 := by
 obtain ⟨_, _, h3, h4, h5⟩ := hm
 unfold Bb
 rw [if_neg (by omega)]
 have hle := A20 (fun w => decide (Gc d m w)) m.speed.toNat
 refine ⟨Ze (decide_eq_true ?_) _ (by omega), by omega⟩
 unfold Gc
 have e1 : m.rise <= m.rise * m.fall := by
  have := Int.mul_le_mul_of_nonneg_left h5.1 (by omega : 0 <= m.rise)
  omega
 have e2 : m.fall <= m.rise * m.fall := by
  have := a3l h4.1 (by omega : 0 <= m.fall)
  omega
 have e3 : 2 * (m.rise * m.fall) <= 2 * d * m.rise * m.fall := by
  have := a3l (show 2 <= 2 * d by omega) (show 0 <= m.rise * m.fall by omega)
  rw [a3x (2 * d)]
  exact this
 simp only [Int.natCast_one, Int.one_mul]
 omega
theorem Zt {k n : Nat} {l : List Lf} (hl : l.length = k * n) : ∀ row ∈ chunks k n l, row.length = n := fun row h => by
 obtain ⟨i, hi⟩ := a2y h
 exact (Ni k l i row hl hi).1
theorem I0 {H : AH} {b9 b10 : Nat} {f : FuncId} {n d : Int} (h10 : H.at b10 = .live [.fn (.func f) [] [.ptr b9 0]]) (h9 : H.at b9 = .live [.lf (.i 0)]) : Out2L H [.i n, .i d, .ptr b10 0] [.i n, .i d, .rop [.fn (.func f) [[.i 0]]]] := by
 refine .cons (.one (.lf _)) (.cons (.one (.lf _)) (.cons (.one (.ptrF h10 fun j x hj => ?_)) .nil))
 match j, hj with
 | 0, hj =>
  simp at hj
  subst hj
  refine ⟨_, rfl, .fn rfl fun i cs hi => ?_⟩
  match i, hi with
  | 0, hi =>
   simp at hi
   subst hi
   refine ⟨b9, 0, _, rfl, h9, fun j x hj => ?_⟩
   match j, hj with
   | 0, hj => simpa using hj
section
variable (d : Int) (m : MoveR)
abbrev Pc : Rat := A9 (Bb d m * Bb d m) (2 * m.rise)
abbrev Sy : Rat := A9 (Bb d m * Bb d m) (2 * m.fall)
abbrev La : Rat := A9 (Bb d m) m.rise
abbrev A3c : Rat := A9 (Bb d m) m.fall
abbrev A9z : Rat := (d : Rat) - Pc d m
abbrev Ub : Rat := A9z d m - Sy d m
abbrev A3b : Rat := Ub d m / ((Bb d m : Int) : Rat)
abbrev Iy : Rat := La d m + A3b d m
abbrev Ju : Rat := Iy d m + A3c d m
abbrev Rc : Rat := (d : Rat) - Sy d m
end
theorem T3 {n : Int} (h : n ≠ 0) : (n : Rat) ≠ 0 := fun e => h (Rat.intCast_inj.1 (e.trans (show (0 : Rat) = ((0 : Int) : Rat) from rfl)))
structure CurveOk (d : Int) (m : MoveR) : Prop where
 w : 1 <= Bb d m /\ Bb d m <= 8192
 ww : 1 <= (Bb d m : Int) * Bb d m /\ (Bb d m : Int) * Bb d m <= 67108864
 rise : Fits (Pc d m)
 fall : Fits (Sy d m)
 start : Fits (La d m)
 last : Fits (A3c d m)
 way : Fits (A9z d m)
 run : Fits (Ub d m)
 flat : Fits (A3b d m)
 stop : Fits (Iy d m)
 fin : Fits (Ju d m)
 top : Fits (Rc d m)
 half : Fits (A9 m.rise 2)
 halfF : Fits (A9 (-m.fall) 2)
 speed : Fits ((Bb d m : Int) : Rat)
 dist : Fits (d : Rat)
 time : Ju d m = A9 (2 * m.rise * m.fall * d + Bb d m * Bb d m * (m.rise + m.fall)) (2 * m.rise * m.fall * Bb d m)
theorem Qx {d : Int} {m : MoveR} (hm : E4 m) (hd : 1 <= d /\ d <= 1048576) : CurveOk d m := by
 have hw := A7g hm hd
 obtain ⟨_, _, h3, h4, h5⟩ := hm
 obtain ⟨w, hwe⟩ : ∃ w : Int, w = (Bb d m : Int) := ⟨_, rfl⟩
 obtain ⟨R, hRe⟩ : ∃ R : Int, R = m.rise := ⟨_, rfl⟩
 obtain ⟨F, hFe⟩ : ∃ F : Int, F = m.fall := ⟨_, rfl⟩
 rw [<- hRe] at h4
 rw [<- hFe] at h5
 have hw' : 1 <= w /\ w <= 8192 := by omega
 have r0 := T3 (n := R) (by omega)
 have f0 := T3 (n := F) (by omega)
 have w0 := T3 (n := w) (by omega)
 have ww := Nt (a := w) (b := w) (A := 8192) (B := 8192) (by omega) (by omega)
 have ww1 := A9e (a := w) (b := w) (by omega) (by omega)
 have rf := Nt (a := 2 * R) (b := F) (A := 32768) (B := 16384) (by omega) (by omega)
 have rf1 := A9e (a := 2 * R) (b := F) (by omega) (by omega)
 have rfd := Nt (a := 2 * R * F) (b := d) (A := 536870912) (B := 1048576) (by omega) (by omega)
 have rfw := Nt (a := 2 * R * F) (b := w) (A := 536870912) (B := 8192) (by omega) (by omega)
 have rfw1 := A9e (a := 2 * R * F) (b := w) (by omega) (by omega)
 have wrf := Nt (a := w * w) (b := R + F) (A := 67108864) (B := 32768) (by omega) (by omega)
 have rd := Nt (a := 2 * R) (b := d) (A := 32768) (B := 1048576) (by omega) (by omega)
 have fd := Nt (a := 2 * F) (b := d) (A := 32768) (B := 1048576) (by omega) (by omega)
 have fww := Nt (a := 2 * F) (b := w * w) (A := 32768) (B := 67108864) (by omega) (by omega)
 have e1 : (d : Rat) - A9 (w * w) (2 * R) = A9 (2 * R * d - w * w) (2 * R) := by
  simp only [I2, a3n, a6d, a6c]
  rw [show (((2 : Int)) : Rat) = 2 from rfl]
  grind
 have e2 : (d : Rat) - A9 (w * w) (2 * R) - A9 (w * w) (2 * F) = A9 (2 * R * F * d - w * w * (R + F)) (2 * R * F) := by
  simp only [I2, a3n, a6d, a6c]
  rw [show (((2 : Int)) : Rat) = 2 from rfl]
  grind
 have e3 : ((d : Rat) - A9 (w * w) (2 * R) - A9 (w * w) (2 * F)) / (w : Rat) = A9 (2 * R * F * d - w * w * (R + F)) (2 * R * F * w) := by
  simp only [I2, a3n, a6d, a6c]
  rw [show (((2 : Int)) : Rat) = 2 from rfl]
  grind
 have e4 : A9 w R + ((d : Rat) - A9 (w * w) (2 * R) - A9 (w * w) (2 * F)) / (w : Rat) = A9 (2 * R * F * d - w * w * (R + F) + 2 * F * (w * w)) (2 * R * F * w) := by
  simp only [I2, a3n, a6d, a6c]
  rw [show (((2 : Int)) : Rat) = 2 from rfl]
  grind
 have e5 : A9 w R + ((d : Rat) - A9 (w * w) (2 * R) - A9 (w * w) (2 * F)) / (w : Rat) + A9 w F = A9 (2 * R * F * d + w * w * (R + F)) (2 * R * F * w) := by
  simp only [I2, a3n, a6d, a6c]
  rw [show (((2 : Int)) : Rat) = 2 from rfl]
  grind
 have e6 : (d : Rat) - A9 (w * w) (2 * F) = A9 (2 * F * d - w * w) (2 * F) := by
  simp only [I2, a3n, a6d, a6c]
  rw [show (((2 : Int)) : Rat) = 2 from rfl]
  grind
 have g1 : Fits (A9 (w * w) (2 * R)) := Br (by omega) (by omega) (by omega) (by omega)
 have g2 : Fits (A9 (w * w) (2 * F)) := Br (by omega) (by omega) (by omega) (by omega)
 have g3 : Fits (A9 w R) := Br (by omega) (by omega) (by omega) (by omega)
 have g4 : Fits (A9 w F) := Br (by omega) (by omega) (by omega) (by omega)
 have g5 : Fits ((d : Rat) - A9 (w * w) (2 * R)) := by rw [e1];exact Br (by omega) (by omega) (by omega) (by omega)
 have g6 : Fits ((d : Rat) - A9 (w * w) (2 * R) - A9 (w * w) (2 * F)) := by rw [e2];exact Br (by omega) (by omega) (by omega) (by omega)
 have g7 : Fits (((d : Rat) - A9 (w * w) (2 * R) - A9 (w * w) (2 * F)) / (w : Rat)) := by rw [e3];exact Br (by omega) (by omega) (by omega) (by omega)
 have g8 : Fits (A9 w R + ((d : Rat) - A9 (w * w) (2 * R) - A9 (w * w) (2 * F)) / (w : Rat)) := by rw [e4];exact Br (by omega) (by omega) (by omega) (by omega)
 have g9 : Fits (A9 w R + ((d : Rat) - A9 (w * w) (2 * R) - A9 (w * w) (2 * F)) / (w : Rat) + A9 w F) := by rw [e5];exact Br (by omega) (by omega) (by omega) (by omega)
 have g10 : Fits ((d : Rat) - A9 (w * w) (2 * F)) := by rw [e6];exact Br (by omega) (by omega) (by omega) (by omega)
 have g11 : Fits (A9 R 2) := Br (by omega) (by omega) (by omega) (by omega)
 have g12 : Fits (A9 (-F) 2) := Br (by omega) (by omega) (by omega) (by omega)
 have g13 : Fits (w : Rat) := Cq (by omega) (by omega)
 have g14 : Fits (d : Rat) := Cq (by omega) (by omega)
 have hww : 1 <= w * w /\ w * w <= 67108864 := by omega
 subst hwe hRe hFe
 exact ⟨hw, hww, g1, g2, g3, g4, g5, g6, g7, g8, g9, g10, g11, g12, g13, g14, e5⟩
theorem p4s {N : Nat} {ops : Array Oper} {m : Option Nat} {K : Tm -> AH -> Prop} {tm : Tm} {H : AH} {rest : List Oper} {ty : TypeId} {pos : String} {af : Array Edge} {d : Nat} {f : Operand} {fv x : AV} {xs : Array Operand} {ts : Array TypeId} {a b : Int} (hf : evT tm f = some fv) (hfn : fnOf fv = some (177, [x])) (hx : evs (evT tm) xs.toList = some [A1 [.i a, .i b], .i 0]) (hz : Out1 (P4 m H) x (.rop [.i 0])) (hN : Nat.ble (d + 1) N = true) (h : Reg m Tryz.prog N ops rest ((d, A1 [.i a, .i b]) :: tm) H K) : Reg m Tryz.prog N ops (⟨some d, .call ⟨.value f, xs, ts⟩, ty, pos, af, none⟩ :: rest) tm H K :=
 S.callFV hf hfn hx (S6 a b) (Ye hz) rfl hN h
abbrev Ik (f a b c : List Lf) : List Lf := f ++ a ++ b ++ c
abbrev frZ : List Lf := [.i 0, .i 1]
def Mi (d : Int) (m : MoveR) : List (List Lf) := [Ik frZ frZ frZ (frR (A9 m.rise 2)), Ik (frR (Iy d m)) (frR (Rc d m)) (frR ((Bb d m : Int) : Rat)) (frR (A9 (-m.fall) 2)), Ik (frR (Ju d m)) (frR (d : Rat)) frZ frZ]
def Mj (d : Int) (m : MoveR) : List (List Lf) := [Ik frZ frZ frZ (frR (A9 m.rise 2)), Ik (frR (La d m)) (frR (Pc d m)) (frR ((Bb d m : Int) : Rat)) frZ, Ik (frR (Iy d m)) (frR (Rc d m)) (frR ((Bb d m : Int) : Rat)) (frR (A9 (-m.fall) 2)), Ik (frR (Ju d m)) (frR (d : Rat)) frZ frZ]
theorem A6t (d : Int) (m : MoveR) : ∀ r ∈ Mi d m, r.length = 8 := by
 intro r hr
 simp only [Mi, a1j, a2e, or_false] at hr
 rcases hr with rfl | rfl | rfl <;> rfl
theorem A6u (d : Int) (m : MoveR) : ∀ r ∈ Mj d m, r.length = 8 := by
 intro r hr
 simp only [Mj, a1j, a2e, or_false] at hr
 rcases hr with rfl | rfl | rfl | rfl <;> rfl
def Jg (d : Int) (m : MoveR) : List (List Lf) := if (Ub d m).num = 0 then Mi d m else Mj d m
set_option maxRecDepth 100000 in
theorem Sv (d : Int) (m : MoveR) (hm : E4 m) (hd : 1 <= d /\ d <= 1048576) : Fn0 Tryz.prog 122 [.i d, A1 m.row] (.tup [.sl (Jg d m), .i 0]) := by
 have K := Qx hm hd
 have k1 := K.w
 have k2 := K.ww
 have cg : Fn0 Tryz.prog 175 [.i d, A1 m.row] (.i 0) := by
  have := Sw d m
  rwa [show Ul d m = 0 by unfold Ul;rw [if_pos hm, if_pos (by omega)]] at this
 have ct := A9t d m hm (by omega)
 have hmv := hm
 obtain ⟨_, _, h3, h4, h5⟩ := hm
 have o1 := Fl (Bb d m * Bb d m) (2 * m.rise) (by omega) (by omega) (by omega) (by omega) (by omega) K.rise
 have o2 := Fl (Bb d m * Bb d m) (2 * m.fall) (by omega) (by omega) (by omega) (by omega) (by omega) K.fall
 have o3 := Fl (Bb d m) m.rise (by omega) (by omega) (by omega) (by omega) (by omega) K.start
 have o4 := Fl (Bb d m) m.fall (by omega) (by omega) (by omega) (by omega) (by omega) K.last
 have o5 := Fl m.rise 2 (by omega) (by omega) (by omega) (by omega) (by omega) K.half
 have o6 := Fl (-m.fall) 2 (by omega) (by omega) (by omega) (by omega) (by omega) K.halfF
 have u1 := Q4 d
 have u2 := Q4 (Bb d m)
 have s1 := O6 (d : Rat) (Pc d m) K.dist K.rise K.way
 have s2 := O6 (A9z d m) (Sy d m) K.way K.fall K.run
 have s3 := A6p (Ub d m) ((Bb d m : Int) : Rat) K.run K.speed (T3 (by omega)) K.flat
 have s4 := Vo (La d m) (A3b d m) K.start K.flat K.stop
 have s5 := Vo (Iy d m) (A3c d m) K.stop K.last K.fin
 have s6 := O6 (d : Rat) (Sy d m) K.dist K.fall K.top
 have hd0 : ¬ d = 0 := by omega
 refine Fn0.of Tryz.func122 Tryz.ntmps122 rfl rfl rfl ?_
 simp only [A2]
 repeat' (first|refine W ?_|(apply p0f 9 A0 (by decide +kernel);simp only [td])|(apply p0e 16 A0 (by decide +kernel);simp only [td])|(apply p0e 15 A0 (by decide +kernel);simp only [td])|(apply p0e 11 A0 (by decide +kernel);simp only [td])|(apply p0e 9 A0 (by decide +kernel);simp only [td])|(apply p0e 28 A0 (by decide +kernel);simp only [td])|(apply p0b A0 (by decide +kernel))|refine Zc cg ?_|refine Zc ct ?_|refine Zc s1 ?_|refine Zc s2 ?_|refine Zc s3 ?_|refine Zc s4 ?_|refine Zc s5 ?_|refine Zc s6 ?_|(apply p4s;(iterate 3 exact rfl);exact .ptr0 rfl;exact rfl)|(apply S.callFV;(iterate 3 exact rfl);exact u1;exact .cons (.one (.lf _)) .nil;exact rfl;exact rfl)|(apply S.callFV;(iterate 3 exact rfl);exact u2;exact .cons (.one (.lf _)) .nil;exact rfl;exact rfl)|(apply S.callFV;(iterate 3 exact rfl);exact o1;exact I0 rfl rfl;exact rfl;exact rfl)|(apply S.callFV;(iterate 3 exact rfl);exact o2;exact I0 rfl rfl;exact rfl;exact rfl)|(apply S.callFV;(iterate 3 exact rfl);exact o3;exact I0 rfl rfl;exact rfl;exact rfl)|(apply S.callFV;(iterate 3 exact rfl);exact o4;exact I0 rfl rfl;exact rfl;exact rfl)|(apply S.callFV;(iterate 3 exact rfl);exact o5;exact I0 rfl rfl;exact rfl;exact rfl)|(apply S.callFV;(iterate 3 exact rfl);exact o6;exact I0 rfl rfl;exact rfl;exact rfl)|(apply S.neg;exact rfl;exact rfl;omega)|refine Za ?_|(apply p0p;(iterate 9 exact rfl);exact Zt rfl;exact rfl;exact rfl;simp [Ir];simp [Ir])|(apply p1c (d := 110);(iterate 6 exact rfl))|(apply p1e;(iterate 8 exact rfl))|refine V ?_|(refine W2 ?_ ?_<;>intro hc))
 all_goals first
  | (rw [show Jg d m = Mi d m from if_pos (by assumption)]
     exact ⟨.inr rfl, [_, _], .cons (.tmp rfl) (.cons (.tmp rfl) .nil), .tup (.cons (.one (.own (rows := Mi d m) rfl (OwnRows.of (Mi d m).flatten (A6t d m) rfl))) (.cons (.one (.lf _)) .nil))⟩)
  | (rw [show Jg d m = Mj d m from if_neg (by assumption)]
     exact ⟨.inr rfl, [_, _], .cons (.tmp rfl) (.cons (.tmp rfl) .nil), .tup (.cons (.one (.own (rows := Mj d m) rfl (OwnRows.of (Mj d m).flatten (A6u d m) rfl))) (.cons (.one (.lf _)) .nil))⟩)
theorem A0c (m : MoveR) (hm : E4 m) : Fn0 Tryz.prog 122 [.i 0, A1 m.row] (.tup [.sl [Ik frZ frZ frZ frZ], .i 0]) := by
 have cg : Fn0 Tryz.prog 175 [.i 0, A1 m.row] (.i 0) := by
  have := Sw 0 m
  rwa [show Ul 0 m = 0 by unfold Ul;rw [if_pos hm, if_pos (by omega)]] at this
 refine Fn0.of Tryz.func122 Tryz.ntmps122 rfl rfl rfl ?_
 simp only [A2]
 repeat' (first|refine W ?_|refine Zc cg ?_|(apply p1e;(iterate 8 exact rfl))|refine V ?_|(refine W2 ?_ ?_<;>intro hc))
 all_goals exact D2 rfl rfl rfl
structure PieceR where
 f1 : Int
 f2 : Int
 a1 : Int
 a2 : Int
 b1 : Int
 b2 : Int
 c1 : Int
 c2 : Int
def PieceR.row (p : PieceR) : List Lf := [.i p.f1, .i p.f2, .i p.a1, .i p.a2, .i p.b1, .i p.b2, .i p.c1, .i p.c2]
def PieceR.at (p : PieceR) : List Lf := [.i p.f1, .i p.f2]
def Ae3 : Nat -> AV
 | 0 => .val (.slice none 0 0)
 | k + 1 => .own 1 0 (k + 1) 2
def Ae2 (l : List PieceR) : Nat -> HB
 | 0 => .dead
 | k + 1 => .live (((l.take (k + 1)).map PieceR.at).flatten.map .lf)
theorem at_len (l : List PieceR) : ∀ r ∈ l.map PieceR.at, r.length = 2 := by
 intro r hr
 obtain ⟨p, _, rfl⟩ := a1b.1 hr
 rfl
theorem A91 {l : List PieceR} {k : Nat} (h : k <= l.length) : (((l.take k).map PieceR.at).flatten.map AV.lf).length = k * 2 := by
 rw [a0a, Bi _ (at_len _), a0a, a0t, a4b h]
theorem Vb {l : List PieceR} {k : Nat} {x : PieceR} (h : l.take (k + 1) = l.take k ++ [x]) : ((l.take (k + 1)).map PieceR.at).flatten.map AV.lf = ((l.take k).map PieceR.at).flatten.map AV.lf ++ ([x.at].flatten).map AV.lf := by
 rw [h];simp
theorem A39 (d : Int) (m : MoveR) (l : List PieceR) (hl : l.length <= 4) (h0 : l ≠ []) (hc : Fn0 Tryz.prog 122 [.i d, A1 m.row] (.tup [.sl (l.map PieceR.row), .i 0])) : Fn0 Tryz.prog 219 [.i d, A1 m.row] (.tup [.sl (l.map PieceR.at), .i 0]) := by
 have hle : (l.map PieceR.row).length = l.length := a0a _
 refine Fn0.of Tryz.func219 Tryz.ntmps219 rfl rfl rfl ?_
 simp only [A2]
 repeat' (first|refine W ?_|refine Zc hc ?_|refine V ?_|(refine W2 ?_ ?_<;>intro hc))
 refine T.kill 1 ?_
 refine p0d (fun k => k <= l.length) (fun k => l.length - k) (fun k => [(22, .i k), (21, .i (l.map PieceR.row).length), (20, .sl (l.map PieceR.row)), (8, Ae3 k)]) (fun k => [.live (m.row.map .lf), Ae2 l k]) 0 (a0o _) CV CH ?_
 intro k hk
 by_cases hlt : k < l.length
 ·have h1 : (k : Int) < ((l.map PieceR.row).length : Nat) := by omega
  obtain ⟨x, hx⟩ := Aa hlt
  have hb := Ab (R := PieceR.row) hx
  have hsn := B8 hx
  cases k with
  | zero =>
   repeat' (first|refine W ?_|(apply S.indexR;(iterate 3 exact rfl);exact hb;omega;exact rfl)|(apply p0c;(iterate 7 exact rfl))|(apply p0u 1 (rows := []);(iterate 8 exact rfl);exact Af rfl;exact rfl;exact a0d rfl;exact a0d rfl)|refine Za ?_|refine V ?_|(refine W2 ?_ ?_<;>intro hc))
   change Next _ _ _ _ _ _
   exact Next.go 1 (by omega) (by omega) CV (by
    show CovH _ _ [_, .live (((l.take (0 + 1)).map PieceR.at).flatten.map .lf)]
    rw [Vb hsn]
    exact .live rfl (.live rfl .nil))
  | succ k =>
   repeat' (first|refine W ?_|(apply S.indexR;(iterate 3 exact rfl);exact hb;omega;exact rfl)|(apply p0c;(iterate 7 exact rfl))|(apply p0p;(iterate 8 exact rfl);exact A91 hk;exact Af rfl;exact rfl;exact B6 _ _;simp only [a0i, a0n];omega;simp only [a0i, a0n];omega)|refine Za ?_|refine V ?_|(refine W2 ?_ ?_<;>intro hc))
   change Next _ _ _ _ _ _
   exact Next.go (k + 2) (by omega) (by omega) CV (by
    show CovH _ _ [_, .live (((l.take (k + 1 + 1)).map PieceR.at).flatten.map .lf)]
    rw [Vb hsn]
    exact .live rfl (.live (by rw [<- a1u];exact Aj _ _) .nil))
 ·have h1 : ¬ (k : Int) < ((l.map PieceR.row).length : Nat) := by omega
  have hkl : k = l.length := by omega
  repeat' (first|refine W ?_|refine V ?_|(refine W2 ?_ ?_<;>intro hc))
  cases k with
  | zero => exact absurd (a1p hkl.symm) h0
  | succ k =>
   have ht : l.take (k + 1) = l := a0h (by omega)
   refine ⟨.inr rfl, [_, _], .cons (.tmp rfl) (.cons (.tmp rfl) .nil), .tup (.cons (.one (.own (rows := l.map PieceR.at) (cells := ((l.map PieceR.at).flatten.map .lf)) ?_ ?_)) (.cons (.one (.lf _)) .nil))⟩
   ·show HB.live (((l.take (k + 1)).map PieceR.at).flatten.map .lf) = _
    rw [ht]
   ·have := OwnRows.of (l.map PieceR.at).flatten (at_len l) rfl
    rw [a0a, <- hkl] at this
    exact this
end Go.Proofs.YtlapbaiejnaeiaaGreatDoor
