/- Contracts: package ratio's Make, Add, Sub, Div, Cmp and the reference's Make, Cmp, over rational numbers that fit. No conditions but those of each statement. -/
import Derived.Test.YtlapbaiejnaeiaaGreatDoorQb
import Derived.Test.YtlapbaiejnaeiaaGreatDoorMd
import Derived.Test.YtlapbaiejnaeiaaGreatDoorMn
import Derived.Test.YtlapbaiejnaeiaaGreatDoorMc
import Derived.Test.YtlapbaiejnaeiaaGreatDoorPa
set_option linter.unusedSimpArgs false
set_option linter.unusedVariables false
namespace Go.Proofs.YtlapbaiejnaeiaaGreatDoor
open Go.RowKit
theorem Lc (n d : Int) (hd : d ≠ 0) (n1 : -9223372036854775808 <= n) (n2 : n <= 9223372036854775807) (d1 : -9223372036854775808 <= d) (d2 : d <= 9223372036854775807) (hf : Fits (Ab n d)) : Fn0 Tryz.prog 56 [.i n, .i d] (frE (Ab n d) 0) := G1 hf ▸ Y7 n d hd n1 n2 d1 d2
theorem N5 (p q : Rat) (hp : Fits p) (hq : Fits q) (hf : Fits (p + q)) : Fn0 Tryz.prog 134 [A4 (frR p), A4 (frR q)] (frE (p + q) 0) := G1 hf ▸ Uz p q hp hq
theorem It (p q : Rat) (hp : Fits p) (hq : Fits q) (hf : Fits (p - q)) : Fn0 Tryz.prog 85 [A4 (frR p), A4 (frR q)] (frE (p - q) 0) := G1 hf ▸ Yn p q hp hq
theorem Ut (p q : Rat) (hp : Fits p) (hq : Fits q) (h0 : q ≠ 0) (hf : Fits (p / q)) : Fn0 Tryz.prog 180 [A4 (frR p), A4 (frR q)] (frE (p / q) 0) := G1 hf ▸ Yl p q hp hq h0
theorem Us (p q : Rat) (hp : Fits p) (hq : Fits q) : Fn0 Tryz.prog 87 [A4 (frR p), A4 (frR q)] (.tup [.i (O0 p q), .i 0]) := Yk p q hp hq
theorem Su {P : Program} {st : St} {fn : Func} {t b : Nat} {ty : TypeId} {cells : List AV} {ds : TypeDesc} {e : Exit} (cs : List Lf) [hu : HasU P ty ds] [hi : HasS P ty cs.length] (hr : fn.results = #[.cell t ty]) (he : e = .normal \/ e = .ret) (h : st.tm.get t = some (.ptr b 0)) (hb : st.H.at b = .live cells) (hd : ds.isRow = true) (hc : cells = cs.map .lf) : B6 P fn (A4 cs) e st :=
 ⟨he, [A4 cs], by rw [hr];exact .cons (Res.row cs h hb hd hc (Nat.beq_refl _)) .nil, .one (.agg (Bm cs))⟩
theorem Kr (a b : Int) : Fn0 Tryz.prog 177 [A4 [.i a, .i b], .i 0, .rop [.i 0]] (A4 [.i a, .i b]) := by
 refine Fn0.of Tryz.func177 Tryz.ntmps177 rfl rfl rfl ?_
 simp only [A0]
 repeat' (first | refine W ?_ | refine V ?_|(refine W2 ?_ ?_ <;> intro hc))
 all_goals exact Su [.i a, .i b] Tryz.results177 (by first | exact .inl rfl | exact .inr rfl) rfl rfl rfl rfl
theorem Je (n : Int) : Fn0 Tryz.prog 178 [.i n] (A4 (frR (n : Rat))) := by
 refine Fn0.of Tryz.func178 Tryz.ntmps178 rfl rfl rfl ?_
 simp only [A0]
 repeat' (first | refine W ?_ | refine V ?_|(refine W2 ?_ ?_ <;> intro hc))
 all_goals exact Su (frR (n : Rat)) Tryz.results178 (by first | exact .inl rfl | exact .inr rfl) rfl rfl rfl rfl
theorem Pc {H : AH} {a b : Int} {x : AV} (h : Out1 H x (.rop [.i 0])) : Out2L H [A4 [.i a, .i b], .i 0, x] [A4 [.i a, .i b], .i 0, .rop [.i 0]] :=
 .cons (.agg (show OutL H ([Lf.i a, .i b].map .lf) ([Lf.i a, .i b].map .lf) from Bm _)) (.cons (.one (.lf _)) (.cons (.one h) .nil))
theorem D7 (n d : Int) (hd : d ≠ 0) (n1 : -9223372036854775808 <= n) (n2 : n <= 9223372036854775807) (d1 : -9223372036854775808 <= d) (d2 : d <= 9223372036854775807) (hf : Fits (Ab n d)) : Fn0 Tryz.prog 179 [.i n, .i d, .rop [.fn (.func 177) [[.i 0]]]] (A4 (frR (Ab n d))) := by
 refine Fn0.of Tryz.func179 Tryz.ntmps179 rfl rfl rfl ?_
 simp only [A0]
 repeat' (first | refine W ?_|(apply T.draw 7 A2 (by decide +kernel);simp only [td])|refine Zc (Lc n d hd n1 n2 d1 d2 hf) ?_|(apply S.callFV;exact rfl;exact rfl;exact rfl;exact Kr (Ab n d).num (Ab n d).den;exact Pc (.rop _);exact rfl;exact rfl) | refine V ?_|(refine W2 ?_ ?_ <;> intro hc))
 all_goals exact Su (frR (Ab n d)) Tryz.results179 (by first | exact .inl rfl | exact .inr rfl) rfl rfl rfl rfl
/-! ### The fractions -/
theorem Em (n d : Int) : Ab n d = (n : Rat) / (d : Rat) := Rat.divInt_eq_div n d
theorem Be {n d : Int} (h1 : -1152921504606846976 <= n) (h2 : n <= 1152921504606846976) (h3 : 1 <= d) (h4 : d <= 1152921504606846976) : Fits (Ab n d) := by
 obtain ⟨e1, e2⟩ := R9 n d (by omega)
 have hg : 0 < (Int.gcd n d : Int) := by
  have : 0 < Int.gcd n d := Int.gcd_pos_of_ne_zero_right n (by omega)
  omega
 have k1 : (n.natAbs : Int) / (Int.gcd n d : Int) <= n.natAbs := Int.ediv_le_self _ (by omega)
 have k2 : (d.natAbs : Int) / (Int.gcd n d : Int) <= d.natAbs := Int.ediv_le_self _ (by omega)
 have k3 : 0 <= (n.natAbs : Int) / (Int.gcd n d : Int) := Int.ediv_nonneg (by omega) (by omega)
 constructor
 ·rw [e1]
  split <;> omega
 ·omega
theorem Fi {n : Int} (h1 : -1152921504606846976 <= n) (h2 : n <= 1152921504606846976) : Fits (n : Rat) :=
 ⟨by show n.natAbs <= _;omega, by show 1 <= _;omega⟩
theorem Im {a b A B : Int} (ha : 0 <= a /\ a <= A) (hb : 0 <= b /\ b <= B) : 0 <= a * b /\ a * b <= A * B := ⟨Int.mul_nonneg ha.1 hb.1, Int.mul_le_mul ha.2 hb.2 hb.1 (by omega)⟩
theorem Wq {a b : Int} (ha : 1 <= a) (hb : 1 <= b) : 1 <= a * b := by
 have := Int.mul_pos (by omega : 0 < a) (by omega : 0 < b)
 omega
theorem Rn (P : Nat -> Bool) : ∀ k, Hz P k <= k
 | 0 => Nat.le_refl _
 | k + 1 => by
  rw [Hz]
  split
  ·exact Nat.le_refl _
  ·have := Rn P k;omega
theorem Py {P : Nat -> Bool} (h : P 1 = true) : ∀ k, 1 <= k -> 1 <= Hz P k
 | 0, hk => by omega
 | k + 1, _ => by
  rw [Hz]
  split
  ·omega
  ·rename_i hn
   rcases Nat.eq_zero_or_pos k with rfl | hk
   ·exact absurd h hn
   ·exact Py h k hk
theorem Vf {d : Int} {m : MoveR} (hm : Cf m) (hd : 1 <= d /\ d <= 1048576) : 1 <= Ar d m /\ Ar d m <= 8192 := by
 obtain ⟨_, _, h3, h4, h5⟩ := hm
 unfold Ar
 rw [if_neg (by omega)]
 have hle := Rn (fun w => decide (Dn d m w)) m.speed.toNat
 refine ⟨Py (decide_eq_true ?_) _ (by omega), by omega⟩
 unfold Dn
 have e1 : m.rise <= m.rise * m.fall := by
  have := Int.mul_le_mul_of_nonneg_left h5.1 (by omega : 0 <= m.rise)
  omega
 have e2 : m.fall <= m.rise * m.fall := by
  have := Int.mul_le_mul_of_nonneg_right h4.1 (by omega : 0 <= m.fall)
  omega
 have e3 : 2 * (m.rise * m.fall) <= 2 * d * m.rise * m.fall := by
  have := Int.mul_le_mul_of_nonneg_right (show 2 <= 2 * d by omega) (show 0 <= m.rise * m.fall by omega)
  rw [Int.mul_assoc (2 * d)]
  exact this
 simp only [Int.natCast_one, Int.one_mul]
 omega
theorem Qa {k n : Nat} {l : List Lf} (hl : l.length = k * n) : ∀ row ∈ chunks k n l, row.length = n := fun row h => by
 obtain ⟨i, hi⟩ := List.getElem?_of_mem h
 exact (I8 k l i row hl hi).1
theorem Ek {H : AH} {b9 b10 : Nat} {f : FuncId} {n d : Int} (h10 : H.at b10 = .live [.fn (.func f) [] [.ptr b9 0]]) (h9 : H.at b9 = .live [.lf (.i 0)]) : Out2L H [.i n, .i d, .ptr b10 0] [.i n, .i d, .rop [.fn (.func f) [[.i 0]]]] := by
 refine .cons (.one (.lf _)) (.cons (.one (.lf _)) (.cons (.one (.ptrF h10 fun j x hj => ?_)) .nil))
 match j, hj with
 | 0, hj =>
  simp at hj
  subst hj
  refine ⟨_, rfl, .fn rfl fun i cs hi => ?_⟩
  match i, hi with
  | 0, hi =>
   simp at hi
   subst hi
   refine ⟨b9, 0, _, rfl, h9, fun j x hj => ?_⟩
   match j, hj with
   | 0, hj => simpa using hj
section
variable (d : Int) (m : MoveR)
abbrev L8 : Rat := Ab (Ar d m * Ar d m) (2 * m.rise)
abbrev L7 : Rat := Ab (Ar d m * Ar d m) (2 * m.fall)
abbrev Ir : Rat := Ab (Ar d m) m.rise
abbrev Sm : Rat := Ab (Ar d m) m.fall
abbrev Wy : Rat := (d : Rat) - L8 d m
abbrev Pf : Rat := Wy d m - L7 d m
abbrev Sl : Rat := Pf d m / ((Ar d m : Int) : Rat)
abbrev Hs : Rat := Ir d m + Sl d m
abbrev Hr : Rat := Hs d m + Sm d m
abbrev Pg : Rat := (d : Rat) - L7 d m
end
theorem Lb {n : Int} (h : n ≠ 0) : (n : Rat) ≠ 0 := fun e => h (Rat.intCast_inj.1 (e.trans (show (0 : Rat) = ((0 : Int) : Rat) from rfl)))
structure CurveOk (d : Int) (m : MoveR) : Prop where
 w : 1 <= Ar d m /\ Ar d m <= 8192
 ww : 1 <= (Ar d m : Int) * Ar d m /\ (Ar d m : Int) * Ar d m <= 67108864
 rise : Fits (L8 d m)
 fall : Fits (L7 d m)
 start : Fits (Ir d m)
 last : Fits (Sm d m)
 way : Fits (Wy d m)
 run : Fits (Pf d m)
 flat : Fits (Sl d m)
 stop : Fits (Hs d m)
 fin : Fits (Hr d m)
 top : Fits (Pg d m)
 half : Fits (Ab m.rise 2)
 halfF : Fits (Ab (-m.fall) 2)
 speed : Fits ((Ar d m : Int) : Rat)
 dist : Fits (d : Rat)
 time : Hr d m = Ab (2 * m.rise * m.fall * d + Ar d m * Ar d m * (m.rise + m.fall)) (2 * m.rise * m.fall * Ar d m)
theorem O5 {d : Int} {m : MoveR} (hm : Cf m) (hd : 1 <= d /\ d <= 1048576) : CurveOk d m := by
 have hw := Vf hm hd
 obtain ⟨_, _, h3, h4, h5⟩ := hm
 obtain ⟨w, hwe⟩ : ∃ w : Int, w = (Ar d m : Int) := ⟨_, rfl⟩
 obtain ⟨R, hRe⟩ : ∃ R : Int, R = m.rise := ⟨_, rfl⟩
 obtain ⟨F, hFe⟩ : ∃ F : Int, F = m.fall := ⟨_, rfl⟩
 rw [<- hRe] at h4
 rw [<- hFe] at h5
 have hw' : 1 <= w /\ w <= 8192 := by omega
 have r0 := Lb (n := R) (by omega)
 have f0 := Lb (n := F) (by omega)
 have w0 := Lb (n := w) (by omega)
 have ww := Im (a := w) (b := w) (A := 8192) (B := 8192) (by omega) (by omega)
 have ww1 := Wq (a := w) (b := w) (by omega) (by omega)
 have rf := Im (a := 2 * R) (b := F) (A := 32768) (B := 16384) (by omega) (by omega)
 have rf1 := Wq (a := 2 * R) (b := F) (by omega) (by omega)
 have rfd := Im (a := 2 * R * F) (b := d) (A := 536870912) (B := 1048576) (by omega) (by omega)
 have rfw := Im (a := 2 * R * F) (b := w) (A := 536870912) (B := 8192) (by omega) (by omega)
 have rfw1 := Wq (a := 2 * R * F) (b := w) (by omega) (by omega)
 have wrf := Im (a := w * w) (b := R + F) (A := 67108864) (B := 32768) (by omega) (by omega)
 have rd := Im (a := 2 * R) (b := d) (A := 32768) (B := 1048576) (by omega) (by omega)
 have fd := Im (a := 2 * F) (b := d) (A := 32768) (B := 1048576) (by omega) (by omega)
 have fww := Im (a := 2 * F) (b := w * w) (A := 32768) (B := 67108864) (by omega) (by omega)
 have e1 : (d : Rat) - Ab (w * w) (2 * R) = Ab (2 * R * d - w * w) (2 * R) := by
  simp only [Em, Rat.intCast_mul, Rat.intCast_sub, Rat.intCast_add]
  rw [show (((2 : Int)) : Rat) = 2 from rfl]
  grind
 have e2 : (d : Rat) - Ab (w * w) (2 * R) - Ab (w * w) (2 * F) = Ab (2 * R * F * d - w * w * (R + F)) (2 * R * F) := by
  simp only [Em, Rat.intCast_mul, Rat.intCast_sub, Rat.intCast_add]
  rw [show (((2 : Int)) : Rat) = 2 from rfl]
  grind
 have e3 : ((d : Rat) - Ab (w * w) (2 * R) - Ab (w * w) (2 * F)) / (w : Rat) = Ab (2 * R * F * d - w * w * (R + F)) (2 * R * F * w) := by
  simp only [Em, Rat.intCast_mul, Rat.intCast_sub, Rat.intCast_add]
  rw [show (((2 : Int)) : Rat) = 2 from rfl]
  grind
 have e4 : Ab w R + ((d : Rat) - Ab (w * w) (2 * R) - Ab (w * w) (2 * F)) / (w : Rat) = Ab (2 * R * F * d - w * w * (R + F) + 2 * F * (w * w)) (2 * R * F * w) := by
  simp only [Em, Rat.intCast_mul, Rat.intCast_sub, Rat.intCast_add]
  rw [show (((2 : Int)) : Rat) = 2 from rfl]
  grind
 have e5 : Ab w R + ((d : Rat) - Ab (w * w) (2 * R) - Ab (w * w) (2 * F)) / (w : Rat) + Ab w F = Ab (2 * R * F * d + w * w * (R + F)) (2 * R * F * w) := by
  simp only [Em, Rat.intCast_mul, Rat.intCast_sub, Rat.intCast_add]
  rw [show (((2 : Int)) : Rat) = 2 from rfl]
  grind
 have e6 : (d : Rat) - Ab (w * w) (2 * F) = Ab (2 * F * d - w * w) (2 * F) := by
  simp only [Em, Rat.intCast_mul, Rat.intCast_sub, Rat.intCast_add]
  rw [show (((2 : Int)) : Rat) = 2 from rfl]
  grind
 have g1 : Fits (Ab (w * w) (2 * R)) := Be (by omega) (by omega) (by omega) (by omega)
 have g2 : Fits (Ab (w * w) (2 * F)) := Be (by omega) (by omega) (by omega) (by omega)
 have g3 : Fits (Ab w R) := Be (by omega) (by omega) (by omega) (by omega)
 have g4 : Fits (Ab w F) := Be (by omega) (by omega) (by omega) (by omega)
 have g5 : Fits ((d : Rat) - Ab (w * w) (2 * R)) := by rw [e1];exact Be (by omega) (by omega) (by omega) (by omega)
 have g6 : Fits ((d : Rat) - Ab (w * w) (2 * R) - Ab (w * w) (2 * F)) := by rw [e2];exact Be (by omega) (by omega) (by omega) (by omega)
 have g7 : Fits (((d : Rat) - Ab (w * w) (2 * R) - Ab (w * w) (2 * F)) / (w : Rat)) := by rw [e3];exact Be (by omega) (by omega) (by omega) (by omega)
 have g8 : Fits (Ab w R + ((d : Rat) - Ab (w * w) (2 * R) - Ab (w * w) (2 * F)) / (w : Rat)) := by rw [e4];exact Be (by omega) (by omega) (by omega) (by omega)
 have g9 : Fits (Ab w R + ((d : Rat) - Ab (w * w) (2 * R) - Ab (w * w) (2 * F)) / (w : Rat) + Ab w F) := by rw [e5];exact Be (by omega) (by omega) (by omega) (by omega)
 have g10 : Fits ((d : Rat) - Ab (w * w) (2 * F)) := by rw [e6];exact Be (by omega) (by omega) (by omega) (by omega)
 have g11 : Fits (Ab R 2) := Be (by omega) (by omega) (by omega) (by omega)
 have g12 : Fits (Ab (-F) 2) := Be (by omega) (by omega) (by omega) (by omega)
 have g13 : Fits (w : Rat) := Fi (by omega) (by omega)
 have g14 : Fits (d : Rat) := Fi (by omega) (by omega)
 have hww : 1 <= w * w /\ w * w <= 67108864 := by omega
 subst hwe hRe hFe
 exact ⟨hw, hww, g1, g2, g3, g4, g5, g6, g7, g8, g9, g10, g11, g12, g13, g14, e5⟩
theorem S.keepV {N : Nat} {ops : Array Oper} {m : Option Nat} {K : Tm -> AH -> Prop} {tm : Tm} {H : AH} {rest : List Oper} {ty : TypeId} {pos : String} {af : Array Edge} {d : Nat} {f : Operand} {fv x : AV} {xs : Array Operand} {ts : Array TypeId} {a b : Int} (hf : evT tm f = some fv) (hfn : fnOf fv = some (177, [x])) (hx : evs (evT tm) xs.toList = some [A4 [.i a, .i b], .i 0]) (hz : Out1 (J1 m H) x (.rop [.i 0])) (hN : Nat.ble (d + 1) N = true) (h : Reg m Tryz.prog N ops rest ((d, A4 [.i a, .i b]) :: tm) H K) : Reg m Tryz.prog N ops (⟨some d, .call ⟨.value f, xs, ts⟩, ty, pos, af, none⟩ :: rest) tm H K :=
 S.callFV hf hfn hx (Kr a b) (Pc hz) rfl hN h
abbrev Ex (f a b c : List Lf) : List Lf := f ++ a ++ b ++ c
abbrev frZ : List Lf := [.i 0, .i 1]
def Hu (d : Int) (m : MoveR) : List (List Lf) := [Ex frZ frZ frZ (frR (Ab m.rise 2)), Ex (frR (Hs d m)) (frR (Pg d m)) (frR ((Ar d m : Int) : Rat)) (frR (Ab (-m.fall) 2)), Ex (frR (Hr d m)) (frR (d : Rat)) frZ frZ]
def Hv (d : Int) (m : MoveR) : List (List Lf) := [Ex frZ frZ frZ (frR (Ab m.rise 2)), Ex (frR (Ir d m)) (frR (L8 d m)) (frR ((Ar d m : Int) : Rat)) frZ, Ex (frR (Hs d m)) (frR (Pg d m)) (frR ((Ar d m : Int) : Rat)) (frR (Ab (-m.fall) 2)), Ex (frR (Hr d m)) (frR (d : Rat)) frZ frZ]
theorem Ux (d : Int) (m : MoveR) : ∀ r ∈ Hu d m, r.length = 8 := by
 intro r hr
 simp only [Hu, List.mem_cons, List.not_mem_nil, or_false] at hr
 rcases hr with rfl | rfl | rfl <;> rfl
theorem Uy (d : Int) (m : MoveR) : ∀ r ∈ Hv d m, r.length = 8 := by
 intro r hr
 simp only [Hv, List.mem_cons, List.not_mem_nil, or_false] at hr
 rcases hr with rfl | rfl | rfl | rfl <;> rfl
def Ia (d : Int) (m : MoveR) : List (List Lf) := if (Pf d m).num = 0 then Hu d m else Hv d m
set_option maxHeartbeats 40000000 in
set_option maxRecDepth 100000 in
theorem Sj (d : Int) (m : MoveR) (hm : Cf m) (hd : 1 <= d /\ d <= 1048576) : Fn0 Tryz.prog 122 [.i d, A4 m.row] (.tup [.sl (Ia d m), .i 0]) := by
 have K := O5 hm hd
 have k1 := K.w
 have k2 := K.ww
 have cg : Fn0 Tryz.prog 175 [.i d, A4 m.row] (.i 0) := by
  have := L5 d m
  rwa [show Mf d m = 0 by unfold Mf;rw [if_pos hm, if_pos (by omega)]] at this
 have ct := Wx d m hm (by omega)
 have hmv := hm
 obtain ⟨_, _, h3, h4, h5⟩ := hm
 have o1 := D7 (Ar d m * Ar d m) (2 * m.rise) (by omega) (by omega) (by omega) (by omega) (by omega) K.rise
 have o2 := D7 (Ar d m * Ar d m) (2 * m.fall) (by omega) (by omega) (by omega) (by omega) (by omega) K.fall
 have o3 := D7 (Ar d m) m.rise (by omega) (by omega) (by omega) (by omega) (by omega) K.start
 have o4 := D7 (Ar d m) m.fall (by omega) (by omega) (by omega) (by omega) (by omega) K.last
 have o5 := D7 m.rise 2 (by omega) (by omega) (by omega) (by omega) (by omega) K.half
 have o6 := D7 (-m.fall) 2 (by omega) (by omega) (by omega) (by omega) (by omega) K.halfF
 have u1 := Je d
 have u2 := Je (Ar d m)
 have s1 := It (d : Rat) (L8 d m) K.dist K.rise K.way
 have s2 := It (Wy d m) (L7 d m) K.way K.fall K.run
 have s3 := Ut (Pf d m) ((Ar d m : Int) : Rat) K.run K.speed (Lb (by omega)) K.flat
 have s4 := N5 (Ir d m) (Sl d m) K.start K.flat K.stop
 have s5 := N5 (Hs d m) (Sm d m) K.stop K.last K.fin
 have s6 := It (d : Rat) (L7 d m) K.dist K.fall K.top
 have hd0 : ¬ d = 0 := by omega
 refine Fn0.of Tryz.func122 Tryz.ntmps122 rfl rfl rfl ?_
 simp only [A0]
 repeat' (first | refine W ?_|(apply T.drawR 9 A2 (by decide +kernel);simp only [td])|(apply T.draw 16 A2 (by decide +kernel);simp only [td])|(apply T.draw 15 A2 (by decide +kernel);simp only [td])|(apply T.draw 11 A2 (by decide +kernel);simp only [td])|(apply T.draw 9 A2 (by decide +kernel);simp only [td])|(apply T.draw 28 A2 (by decide +kernel);simp only [td])|(apply T.drawAll A2 (by decide +kernel))|refine Zc cg ?_|refine Zc ct ?_|refine Zc s1 ?_|refine Zc s2 ?_|refine Zc s3 ?_|refine Zc s4 ?_|refine Zc s5 ?_|refine Zc s6 ?_|(apply S.keepV;exact rfl;exact rfl;exact rfl;exact .ptr0 rfl;exact rfl)|(apply S.callFV;exact rfl;exact rfl;exact rfl;exact u1;exact .cons (.one (.lf _)) .nil;exact rfl;exact rfl)|(apply S.callFV;exact rfl;exact rfl;exact rfl;exact u2;exact .cons (.one (.lf _)) .nil;exact rfl;exact rfl)|(apply S.callFV;exact rfl;exact rfl;exact rfl;exact o1;exact Ek rfl rfl;exact rfl;exact rfl)|(apply S.callFV;exact rfl;exact rfl;exact rfl;exact o2;exact Ek rfl rfl;exact rfl;exact rfl)|(apply S.callFV;exact rfl;exact rfl;exact rfl;exact o3;exact Ek rfl rfl;exact rfl;exact rfl)|(apply S.callFV;exact rfl;exact rfl;exact rfl;exact o4;exact Ek rfl rfl;exact rfl;exact rfl)|(apply S.callFV;exact rfl;exact rfl;exact rfl;exact o5;exact Ek rfl rfl;exact rfl;exact rfl)|(apply S.callFV;exact rfl;exact rfl;exact rfl;exact o6;exact Ek rfl rfl;exact rfl;exact rfl)|(apply S.neg;exact rfl;exact rfl;omega)|refine Za ?_|(apply S.appendO;(iterate 9 exact rfl);exact Qa rfl;exact rfl;exact rfl;simp [F3];simp [F3])|(apply S.buildSliceO (d := 110);(iterate 6 exact rfl))|(apply S.buildSliceF;(iterate 8 exact rfl)) | refine V ?_|(refine W2 ?_ ?_ <;> intro hc))
 all_goals first
  | (rw [show Ia d m = Hu d m from if_pos (by assumption)]
     exact ⟨.inr rfl, [_, _], .cons (.tmp rfl) (.cons (.tmp rfl) .nil), .tup (.cons (.one (.own (rows := Hu d m) rfl (OwnRows.of (Hu d m).flatten (Ux d m) rfl))) (.cons (.one (.lf _)) .nil))⟩)
  | (rw [show Ia d m = Hv d m from if_neg (by assumption)]
     exact ⟨.inr rfl, [_, _], .cons (.tmp rfl) (.cons (.tmp rfl) .nil), .tup (.cons (.one (.own (rows := Hv d m) rfl (OwnRows.of (Hv d m).flatten (Uy d m) rfl))) (.cons (.one (.lf _)) .nil))⟩)
set_option maxHeartbeats 8000000 in
theorem Qo (m : MoveR) (hm : Cf m) : Fn0 Tryz.prog 122 [.i 0, A4 m.row] (.tup [.sl [Ex frZ frZ frZ frZ], .i 0]) := by
 have cg : Fn0 Tryz.prog 175 [.i 0, A4 m.row] (.i 0) := by
  have := L5 0 m
  rwa [show Mf 0 m = 0 by unfold Mf;rw [if_pos hm, if_pos (by omega)]] at this
 refine Fn0.of Tryz.func122 Tryz.ntmps122 rfl rfl rfl ?_
 simp only [A0]
 repeat' (first | refine W ?_|refine Zc cg ?_|(apply S.buildSliceF;(iterate 8 exact rfl)) | refine V ?_|(refine W2 ?_ ?_ <;> intro hc))
 all_goals exact D2 rfl rfl rfl
structure PieceR where
 f1 : Int
 f2 : Int
 a1 : Int
 a2 : Int
 b1 : Int
 b2 : Int
 c1 : Int
 c2 : Int
def PieceR.row (p : PieceR) : List Lf := [.i p.f1, .i p.f2, .i p.a1, .i p.a2, .i p.b1, .i p.b2, .i p.c1, .i p.c2]
def PieceR.at (p : PieceR) : List Lf := [.i p.f1, .i p.f2]
def Yz : Nat -> AV
 | 0 => .val (.slice none 0 0)
 | k + 1 => .own 1 0 (k + 1) 2
def Yy (l : List PieceR) : Nat -> HB
 | 0 => .dead
 | k + 1 => .live (((l.take (k + 1)).map PieceR.at).flatten.map .lf)
theorem at_len (l : List PieceR) : ∀ r ∈ l.map PieceR.at, r.length = 2 := by
 intro r hr
 obtain ⟨p, _, rfl⟩ := List.mem_map.1 hr
 rfl
theorem Wj {l : List PieceR} {k : Nat} (h : k <= l.length) : (((l.take k).map PieceR.at).flatten.map AV.lf).length = k * 2 := by
 rw [List.length_map, Av _ (at_len _), List.length_map, List.length_take, Nat.min_eq_left h]
theorem Mu {l : List PieceR} {k : Nat} {x : PieceR} (h : l.take (k + 1) = l.take k ++ [x]) : ((l.take (k + 1)).map PieceR.at).flatten.map AV.lf = ((l.take k).map PieceR.at).flatten.map AV.lf ++ ([x.at].flatten).map AV.lf := by
 rw [h];simp
set_option maxHeartbeats 8000000 in
theorem Sk (d : Int) (m : MoveR) (l : List PieceR) (hl : l.length <= 4) (h0 : l ≠ []) (hc : Fn0 Tryz.prog 122 [.i d, A4 m.row] (.tup [.sl (l.map PieceR.row), .i 0])) : Fn0 Tryz.prog 219 [.i d, A4 m.row] (.tup [.sl (l.map PieceR.at), .i 0]) := by
 have hle : (l.map PieceR.row).length = l.length := List.length_map _
 refine Fn0.of Tryz.func219 Tryz.ntmps219 rfl rfl rfl ?_
 simp only [A0]
 repeat' (first | refine W ?_|refine Zc hc ?_ | refine V ?_|(refine W2 ?_ ?_ <;> intro hc))
 refine T.kill 1 ?_
 refine T.loopS (fun k => k <= l.length) (fun k => l.length - k) (fun k => [(22, .i k), (21, .i (l.map PieceR.row).length), (20, .sl (l.map PieceR.row)), (8, Yz k)]) (fun k => [.live (m.row.map .lf), Yy l k]) 0 (Nat.zero_le _) CV CH ?_
 intro k hk
 by_cases hlt : k < l.length
 ·have h1 : (k : Int) < ((l.map PieceR.row).length : Nat) := by omega
  obtain ⟨x, hx⟩ := Ac hlt
  have hb := Ae (R := PieceR.row) hx
  have hsn := Bd hx
  cases k with
  | zero =>
   repeat' (first | refine W ?_|refine Zi hb ?_|(apply S.buildSlice1;(iterate 7 exact rfl))|(apply S.appendN 1 (rows := []);(iterate 8 exact rfl);exact A7 rfl;exact rfl;exact Nat.le_of_ble_eq_true rfl;exact Nat.le_of_ble_eq_true rfl)|refine Za ?_ | refine V ?_|(refine W2 ?_ ?_ <;> intro hc))
   change Next _ _ _ _ _ _
   exact Next.go 1 (by omega) (by omega) CV (by
    show CovH _ _ [_, .live (((l.take (0 + 1)).map PieceR.at).flatten.map .lf)]
    rw [Mu hsn]
    exact .live rfl (.live rfl .nil))
  | succ k =>
   repeat' (first | refine W ?_|refine Zi hb ?_|(apply S.buildSlice1;(iterate 7 exact rfl))|(apply S.appendO;(iterate 8 exact rfl);exact Wj hk;exact A7 rfl;exact rfl;exact Ag _ _;simp only [List.length_cons, List.length_nil];omega;simp only [List.length_cons, List.length_nil];omega)|refine Za ?_ | refine V ?_|(refine W2 ?_ ?_ <;> intro hc))
   change Next _ _ _ _ _ _
   exact Next.go (k + 2) (by omega) (by omega) CV (by
    show CovH _ _ [_, .live (((l.take (k + 1 + 1)).map PieceR.at).flatten.map .lf)]
    rw [Mu hsn]
    exact .live rfl (.live (by rw [<- List.map_append];exact Ao _ _) .nil))
 ·have h1 : ¬ (k : Int) < ((l.map PieceR.row).length : Nat) := by omega
  have hkl : k = l.length := by omega
  repeat' (first | refine W ?_ | refine V ?_|(refine W2 ?_ ?_ <;> intro hc))
  cases k with
  | zero => exact absurd (List.eq_nil_of_length_eq_zero hkl.symm) h0
  | succ k =>
   have ht : l.take (k + 1) = l := List.take_of_length_le (by omega)
   refine ⟨.inr rfl, [_, _], .cons (.tmp rfl) (.cons (.tmp rfl) .nil), .tup (.cons (.one (.own (rows := l.map PieceR.at) (cells := ((l.map PieceR.at).flatten.map .lf)) ?_ ?_)) (.cons (.one (.lf _)) .nil))⟩
   ·show HB.live (((l.take (k + 1)).map PieceR.at).flatten.map .lf) = _
    rw [ht]
   ·have := OwnRows.of (l.map PieceR.at).flatten (at_len l) rfl
    rw [List.length_map, <- hkl] at this
    exact this
end Go.Proofs.YtlapbaiejnaeiaaGreatDoor
