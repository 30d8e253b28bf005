/- Contracts: package ratio's Make, Add, Sub, Div, Cmp and the reference's Make, Cmp, over rational numbers that fit. No conditions but those of each statement. -/
import Derived.Test.YtocoehahhohpgaaGreatQb
import Derived.Test.YtocoehahhohpgaaGreatMf
import Derived.Test.YtocoehahhohpgaaGreatMn
import Derived.Test.YtocoehahhohpgaaGreatMc
set_option linter.unusedSimpArgs false
set_option linter.unusedVariables false
namespace Go.Proofs.YtocoehahhohpgaaGreat
open Go.RowKit
theorem Hb (n d : Int) (hd : d ≠ 0) (n1 : -9223372036854775808 <= n) (n2 : n <= 9223372036854775807) (d1 : -9223372036854775808 <= d) (d2 : d <= 9223372036854775807) (hf : Fits (A7 n d)) : Fn0 Tryz.prog 45 [.i n, .i d] (frE (A7 n d) 0) := Kn hf ▸ Aak n d hd n1 n2 d1 d2
theorem Uw (p q : Rat) (hp : Fits p) (hq : Fits q) (hf : Fits (p + q)) : Fn0 Tryz.prog 104 [A1 (frR p), A1 (frR q)] (frE (p + q) 0) := Kn hf ▸ Wr p q hp hq
theorem Nx (p q : Rat) (hp : Fits p) (hq : Fits q) (hf : Fits (p - q)) : Fn0 Tryz.prog 50 [A1 (frR p), A1 (frR q)] (frE (p - q) 0) := Kn hf ▸ A5h p q hp hq
theorem A63 (p q : Rat) (hp : Fits p) (hq : Fits q) (h0 : q ≠ 0) (hf : Fits (p / q)) : Fn0 Tryz.prog 166 [A1 (frR p), A1 (frR q)] (frE (p / q) 0) := Kn hf ▸ A5m p q hp hq h0
theorem Is (p q : Rat) (hp : Fits p) (hq : Fits q) : Fn0 Tryz.prog 52 [A1 (frR p), A1 (frR q)] (.tup [.i (Bm p q), .i 0]) := Aby p q hp hq
theorem A2w {P : Program} {st : St} {fn : Func} {t b : Nat} {ty : TypeId} {cells : List AV} {ds : TypeDesc} {e : Exit} (cs : List Lf) [hu : HasU P ty ds] [hi : HasS P ty cs.length] (hr : fn.results = #[.cell t ty]) (he : e = .normal \/ e = .ret) (h : st.tm.get t = some (.ptr b 0)) (hb : st.H.at b = .live cells) (hd : ds.isRow = true) (hc : cells = cs.map .lf) : Bv P fn (A1 cs) e st :=
 ⟨he, [A1 cs], by rw [hr];exact .cons (Res.row cs h hb hd hc (Nat.beq_refl _)) .nil, .one (.agg (A6 cs))⟩
theorem T0 (a b : Int) : Fn0 Tryz.prog 163 [A1 [.i a, .i b], .i 0, .rop [.i 0]] (A1 [.i a, .i b]) := by
 refine Fn0.of Tryz.func163 Tryz.ntmps163 rfl rfl rfl ?_
 simp only [A2]
 repeat' (first | refine W ?_ | refine V ?_|(refine W2 ?_ ?_ <;> intro hc))
 all_goals exact A2w [.i a, .i b] Tryz.results163 (by first | exact .inl rfl | exact .inr rfl) rfl rfl rfl rfl
theorem Q6 (n : Int) : Fn0 Tryz.prog 164 [.i n] (A1 (frR (n : Rat))) := by
 refine Fn0.of Tryz.func164 Tryz.ntmps164 rfl rfl rfl ?_
 simp only [A2]
 repeat' (first | refine W ?_ | refine V ?_|(refine W2 ?_ ?_ <;> intro hc))
 all_goals exact A2w (frR (n : Rat)) Tryz.results164 (by first | exact .inl rfl | exact .inr rfl) rfl rfl rfl rfl
theorem Ws {H : AH} {a b : Int} {x : AV} (h : Out1 H x (.rop [.i 0])) : Out2L H [A1 [.i a, .i b], .i 0, x] [A1 [.i a, .i b], .i 0, .rop [.i 0]] :=
 .cons (.agg (show OutL H ([Lf.i a, .i b].map .lf) ([Lf.i a, .i b].map .lf) from A6 _)) (.cons (.one (.lf _)) (.cons (.one h) .nil))
theorem G6 (n d : Int) (hd : d ≠ 0) (n1 : -9223372036854775808 <= n) (n2 : n <= 9223372036854775807) (d1 : -9223372036854775808 <= d) (d2 : d <= 9223372036854775807) (hf : Fits (A7 n d)) : Fn0 Tryz.prog 165 [.i n, .i d, .rop [.fn (.func 163) [[.i 0]]]] (A1 (frR (A7 n d))) := by
 refine Fn0.of Tryz.func165 Tryz.ntmps165 rfl rfl rfl ?_
 simp only [A2]
 repeat' (first | refine W ?_|(apply T.draw 7 A0 (by decide +kernel);simp only [td])|refine Zc (Hb n d hd n1 n2 d1 d2 hf) ?_|(apply S.callFV;exact rfl;exact rfl;exact rfl;exact T0 (A7 n d).num (A7 n d).den;exact Ws (.rop _);exact rfl;exact rfl) | refine V ?_|(refine W2 ?_ ?_ <;> intro hc))
 all_goals exact A2w (frR (A7 n d)) Tryz.results165 (by first | exact .inl rfl | exact .inr rfl) rfl rfl rfl rfl
/-! ### The fractions -/
theorem C6 (n d : Int) : A7 n d = (n : Rat) / (d : Rat) := Rat.divInt_eq_div n d
theorem Bt {n d : Int} (h1 : -1152921504606846976 <= n) (h2 : n <= 1152921504606846976) (h3 : 1 <= d) (h4 : d <= 1152921504606846976) : Fits (A7 n d) := by
 obtain ⟨e1, e2⟩ := A0c n d (by omega)
 have hg : 0 < (Int.gcd n d : Int) := by
  have : 0 < Int.gcd n d := Int.gcd_pos_of_ne_zero_right n (by omega)
  omega
 have k1 : (n.natAbs : Int) / (Int.gcd n d : Int) <= n.natAbs := Int.ediv_le_self _ (by omega)
 have k2 : (d.natAbs : Int) / (Int.gcd n d : Int) <= d.natAbs := Int.ediv_le_self _ (by omega)
 have k3 : 0 <= (n.natAbs : Int) / (Int.gcd n d : Int) := Int.ediv_nonneg (by omega) (by omega)
 constructor
 ·rw [e1]
  split <;> omega
 ·omega
theorem Cj {n : Int} (h1 : -1152921504606846976 <= n) (h2 : n <= 1152921504606846976) : Fits (n : Rat) :=
 ⟨by show n.natAbs <= _;omega, by show 1 <= _;omega⟩
theorem Oa {a b A B : Int} (ha : 0 <= a /\ a <= A) (hb : 0 <= b /\ b <= B) : 0 <= a * b /\ a * b <= A * B := ⟨Int.mul_nonneg ha.1 hb.1, Int.mul_le_mul ha.2 hb.2 hb.1 (by omega)⟩
theorem A8w {a b : Int} (ha : 1 <= a) (hb : 1 <= b) : 1 <= a * b := by
 have := Int.mul_pos (by omega : 0 < a) (by omega : 0 < b)
 omega
theorem Zx (P : Nat -> Bool) : ∀ k, Hz P k <= k
 | 0 => Nat.le_refl _
 | k + 1 => by
  rw [Hz]
  split
  ·exact Nat.le_refl _
  ·have := Zx P k;omega
theorem Xu {P : Nat -> Bool} (h : P 1 = true) : ∀ k, 1 <= k -> 1 <= Hz P k
 | 0, hk => by omega
 | k + 1, _ => by
  rw [Hz]
  split
  ·omega
  ·rename_i hn
   rcases Nat.eq_zero_or_pos k with rfl | hk
   ·exact absurd h hn
   ·exact Xu h k hk
theorem V0 {d : Int} {m : MoveR} (hm : D8 m) (hd : 1 <= d /\ d <= 1048576) : 1 <= Ak d m /\ Ak d m <= 8192 := by
 obtain ⟨_, _, h3, h4, h5⟩ := hm
 unfold Ak
 rw [if_neg (by omega)]
 have hle := Zx (fun w => decide (Fd d m w)) m.speed.toNat
 refine ⟨Xu (decide_eq_true ?_) _ (by omega), by omega⟩
 unfold Fd
 have e1 : m.rise <= m.rise * m.fall := by
  have := Int.mul_le_mul_of_nonneg_left h5.1 (by omega : 0 <= m.rise)
  omega
 have e2 : m.fall <= m.rise * m.fall := by
  have := Int.mul_le_mul_of_nonneg_right h4.1 (by omega : 0 <= m.fall)
  omega
 have e3 : 2 * (m.rise * m.fall) <= 2 * d * m.rise * m.fall := by
  have := Int.mul_le_mul_of_nonneg_right (show 2 <= 2 * d by omega) (show 0 <= m.rise * m.fall by omega)
  rw [Int.mul_assoc (2 * d)]
  exact this
 simp only [Int.natCast_one, Int.one_mul]
 omega
theorem Z4 {k n : Nat} {l : List Lf} (hl : l.length = k * n) : ∀ row ∈ chunks k n l, row.length = n := fun row h => by
 obtain ⟨i, hi⟩ := List.getElem?_of_mem h
 exact (O9 k l i row hl hi).1
theorem Ie {H : AH} {b9 b10 : Nat} {f : FuncId} {n d : Int} (h10 : H.at b10 = .live [.fn (.func f) [] [.ptr b9 0]]) (h9 : H.at b9 = .live [.lf (.i 0)]) : Out2L H [.i n, .i d, .ptr b10 0] [.i n, .i d, .rop [.fn (.func f) [[.i 0]]]] := by
 refine .cons (.one (.lf _)) (.cons (.one (.lf _)) (.cons (.one (.ptrF h10 fun j x hj => ?_)) .nil))
 match j, hj with
 | 0, hj =>
  simp at hj
  subst hj
  refine ⟨_, rfl, .fn rfl fun i cs hi => ?_⟩
  match i, hi with
  | 0, hi =>
   simp at hi
   subst hi
   refine ⟨b9, 0, _, rfl, h9, fun j x hj => ?_⟩
   match j, hj with
   | 0, hj => simpa using hj
section
variable (d : Int) (m : MoveR)
abbrev Fe : Rat := A7 (Ak d m * Ak d m) (2 * m.rise)
abbrev Gk : Rat := A7 (Ak d m * Ak d m) (2 * m.fall)
abbrev Dj : Rat := A7 (Ak d m) m.rise
abbrev Kf : Rat := A7 (Ak d m) m.fall
abbrev A72 : Rat := (d : Rat) - Fe d m
abbrev Gs : Rat := A72 d m - Gk d m
abbrev Jd : Rat := Gs d m / ((Ak d m : Int) : Rat)
abbrev Cu : Rat := Dj d m + Jd d m
abbrev Do : Rat := Cu d m + Kf d m
abbrev J3 : Rat := (d : Rat) - Gk d m
end
theorem Jz {n : Int} (h : n ≠ 0) : (n : Rat) ≠ 0 := fun e => h (Rat.intCast_inj.1 (e.trans (show (0 : Rat) = ((0 : Int) : Rat) from rfl)))
structure CurveOk (d : Int) (m : MoveR) : Prop where
 w : 1 <= Ak d m /\ Ak d m <= 8192
 ww : 1 <= (Ak d m : Int) * Ak d m /\ (Ak d m : Int) * Ak d m <= 67108864
 rise : Fits (Fe d m)
 fall : Fits (Gk d m)
 start : Fits (Dj d m)
 last : Fits (Kf d m)
 way : Fits (A72 d m)
 run : Fits (Gs d m)
 flat : Fits (Jd d m)
 stop : Fits (Cu d m)
 fin : Fits (Do d m)
 top : Fits (J3 d m)
 half : Fits (A7 m.rise 2)
 halfF : Fits (A7 (-m.fall) 2)
 speed : Fits ((Ak d m : Int) : Rat)
 dist : Fits (d : Rat)
 time : Do d m = A7 (2 * m.rise * m.fall * d + Ak d m * Ak d m * (m.rise + m.fall)) (2 * m.rise * m.fall * Ak d m)
theorem K8 {d : Int} {m : MoveR} (hm : D8 m) (hd : 1 <= d /\ d <= 1048576) : CurveOk d m := by
 have hw := V0 hm hd
 obtain ⟨_, _, h3, h4, h5⟩ := hm
 obtain ⟨w, hwe⟩ : ∃ w : Int, w = (Ak d m : Int) := ⟨_, rfl⟩
 obtain ⟨R, hRe⟩ : ∃ R : Int, R = m.rise := ⟨_, rfl⟩
 obtain ⟨F, hFe⟩ : ∃ F : Int, F = m.fall := ⟨_, rfl⟩
 rw [<- hRe] at h4
 rw [<- hFe] at h5
 have hw' : 1 <= w /\ w <= 8192 := by omega
 have r0 := Jz (n := R) (by omega)
 have f0 := Jz (n := F) (by omega)
 have w0 := Jz (n := w) (by omega)
 have ww := Oa (a := w) (b := w) (A := 8192) (B := 8192) (by omega) (by omega)
 have ww1 := A8w (a := w) (b := w) (by omega) (by omega)
 have rf := Oa (a := 2 * R) (b := F) (A := 32768) (B := 16384) (by omega) (by omega)
 have rf1 := A8w (a := 2 * R) (b := F) (by omega) (by omega)
 have rfd := Oa (a := 2 * R * F) (b := d) (A := 536870912) (B := 1048576) (by omega) (by omega)
 have rfw := Oa (a := 2 * R * F) (b := w) (A := 536870912) (B := 8192) (by omega) (by omega)
 have rfw1 := A8w (a := 2 * R * F) (b := w) (by omega) (by omega)
 have wrf := Oa (a := w * w) (b := R + F) (A := 67108864) (B := 32768) (by omega) (by omega)
 have rd := Oa (a := 2 * R) (b := d) (A := 32768) (B := 1048576) (by omega) (by omega)
 have fd := Oa (a := 2 * F) (b := d) (A := 32768) (B := 1048576) (by omega) (by omega)
 have fww := Oa (a := 2 * F) (b := w * w) (A := 32768) (B := 67108864) (by omega) (by omega)
 have e1 : (d : Rat) - A7 (w * w) (2 * R) = A7 (2 * R * d - w * w) (2 * R) := by
  simp only [C6, Rat.intCast_mul, Rat.intCast_sub, Rat.intCast_add]
  rw [show (((2 : Int)) : Rat) = 2 from rfl]
  grind
 have e2 : (d : Rat) - A7 (w * w) (2 * R) - A7 (w * w) (2 * F) = A7 (2 * R * F * d - w * w * (R + F)) (2 * R * F) := by
  simp only [C6, Rat.intCast_mul, Rat.intCast_sub, Rat.intCast_add]
  rw [show (((2 : Int)) : Rat) = 2 from rfl]
  grind
 have e3 : ((d : Rat) - A7 (w * w) (2 * R) - A7 (w * w) (2 * F)) / (w : Rat) = A7 (2 * R * F * d - w * w * (R + F)) (2 * R * F * w) := by
  simp only [C6, Rat.intCast_mul, Rat.intCast_sub, Rat.intCast_add]
  rw [show (((2 : Int)) : Rat) = 2 from rfl]
  grind
 have e4 : A7 w R + ((d : Rat) - A7 (w * w) (2 * R) - A7 (w * w) (2 * F)) / (w : Rat) = A7 (2 * R * F * d - w * w * (R + F) + 2 * F * (w * w)) (2 * R * F * w) := by
  simp only [C6, Rat.intCast_mul, Rat.intCast_sub, Rat.intCast_add]
  rw [show (((2 : Int)) : Rat) = 2 from rfl]
  grind
 have e5 : A7 w R + ((d : Rat) - A7 (w * w) (2 * R) - A7 (w * w) (2 * F)) / (w : Rat) + A7 w F = A7 (2 * R * F * d + w * w * (R + F)) (2 * R * F * w) := by
  simp only [C6, Rat.intCast_mul, Rat.intCast_sub, Rat.intCast_add]
  rw [show (((2 : Int)) : Rat) = 2 from rfl]
  grind
 have e6 : (d : Rat) - A7 (w * w) (2 * F) = A7 (2 * F * d - w * w) (2 * F) := by
  simp only [C6, Rat.intCast_mul, Rat.intCast_sub, Rat.intCast_add]
  rw [show (((2 : Int)) : Rat) = 2 from rfl]
  grind
 have g1 : Fits (A7 (w * w) (2 * R)) := Bt (by omega) (by omega) (by omega) (by omega)
 have g2 : Fits (A7 (w * w) (2 * F)) := Bt (by omega) (by omega) (by omega) (by omega)
 have g3 : Fits (A7 w R) := Bt (by omega) (by omega) (by omega) (by omega)
 have g4 : Fits (A7 w F) := Bt (by omega) (by omega) (by omega) (by omega)
 have g5 : Fits ((d : Rat) - A7 (w * w) (2 * R)) := by rw [e1];exact Bt (by omega) (by omega) (by omega) (by omega)
 have g6 : Fits ((d : Rat) - A7 (w * w) (2 * R) - A7 (w * w) (2 * F)) := by rw [e2];exact Bt (by omega) (by omega) (by omega) (by omega)
 have g7 : Fits (((d : Rat) - A7 (w * w) (2 * R) - A7 (w * w) (2 * F)) / (w : Rat)) := by rw [e3];exact Bt (by omega) (by omega) (by omega) (by omega)
 have g8 : Fits (A7 w R + ((d : Rat) - A7 (w * w) (2 * R) - A7 (w * w) (2 * F)) / (w : Rat)) := by rw [e4];exact Bt (by omega) (by omega) (by omega) (by omega)
 have g9 : Fits (A7 w R + ((d : Rat) - A7 (w * w) (2 * R) - A7 (w * w) (2 * F)) / (w : Rat) + A7 w F) := by rw [e5];exact Bt (by omega) (by omega) (by omega) (by omega)
 have g10 : Fits ((d : Rat) - A7 (w * w) (2 * F)) := by rw [e6];exact Bt (by omega) (by omega) (by omega) (by omega)
 have g11 : Fits (A7 R 2) := Bt (by omega) (by omega) (by omega) (by omega)
 have g12 : Fits (A7 (-F) 2) := Bt (by omega) (by omega) (by omega) (by omega)
 have g13 : Fits (w : Rat) := Cj (by omega) (by omega)
 have g14 : Fits (d : Rat) := Cj (by omega) (by omega)
 have hww : 1 <= w * w /\ w * w <= 67108864 := by omega
 subst hwe hRe hFe
 exact ⟨hw, hww, g1, g2, g3, g4, g5, g6, g7, g8, g9, g10, g11, g12, g13, g14, e5⟩
theorem S.keepV {N : Nat} {ops : Array Oper} {m : Option Nat} {K : Tm -> AH -> Prop} {tm : Tm} {H : AH} {rest : List Oper} {ty : TypeId} {pos : String} {af : Array Edge} {d : Nat} {f : Operand} {fv x : AV} {xs : Array Operand} {ts : Array TypeId} {a b : Int} (hf : evT tm f = some fv) (hfn : fnOf fv = some (163, [x])) (hx : evs (evT tm) xs.toList = some [A1 [.i a, .i b], .i 0]) (hz : Out1 (P2 m H) x (.rop [.i 0])) (hN : Nat.ble (d + 1) N = true) (h : Reg m Tryz.prog N ops rest ((d, A1 [.i a, .i b]) :: tm) H K) : Reg m Tryz.prog N ops (⟨some d, .call ⟨.value f, xs, ts⟩, ty, pos, af, none⟩ :: rest) tm H K :=
 S.callFV hf hfn hx (T0 a b) (Ws hz) rfl hN h
abbrev Iw (f a b c : List Lf) : List Lf := f ++ a ++ b ++ c
abbrev frZ : List Lf := [.i 0, .i 1]
def N5 (d : Int) (m : MoveR) : List (List Lf) := [Iw frZ frZ frZ (frR (A7 m.rise 2)), Iw (frR (Cu d m)) (frR (J3 d m)) (frR ((Ak d m : Int) : Rat)) (frR (A7 (-m.fall) 2)), Iw (frR (Do d m)) (frR (d : Rat)) frZ frZ]
def Me (d : Int) (m : MoveR) : List (List Lf) := [Iw frZ frZ frZ (frR (A7 m.rise 2)), Iw (frR (Dj d m)) (frR (Fe d m)) (frR ((Ak d m : Int) : Rat)) frZ, Iw (frR (Cu d m)) (frR (J3 d m)) (frR ((Ak d m : Int) : Rat)) (frR (A7 (-m.fall) 2)), Iw (frR (Do d m)) (frR (d : Rat)) frZ frZ]
theorem A43 (d : Int) (m : MoveR) : ∀ r ∈ N5 d m, r.length = 8 := by
 intro r hr
 simp only [N5, List.mem_cons, List.not_mem_nil, or_false] at hr
 rcases hr with rfl | rfl | rfl <;> rfl
theorem A5s (d : Int) (m : MoveR) : ∀ r ∈ Me d m, r.length = 8 := by
 intro r hr
 simp only [Me, List.mem_cons, List.not_mem_nil, or_false] at hr
 rcases hr with rfl | rfl | rfl | rfl <;> rfl
def K1 (d : Int) (m : MoveR) : List (List Lf) := if (Gs d m).num = 0 then N5 d m else Me d m
set_option maxHeartbeats 40000000 in
set_option maxRecDepth 100000 in
theorem S0 (d : Int) (m : MoveR) (hm : D8 m) (hd : 1 <= d /\ d <= 1048576) : Fn0 Tryz.prog 93 [.i d, A1 m.row] (.tup [.sl (K1 d m), .i 0]) := by
 have K := K8 hm hd
 have k1 := K.w
 have k2 := K.ww
 have cg : Fn0 Tryz.prog 161 [.i d, A1 m.row] (.i 0) := by
  have := Sj d m
  rwa [show Te d m = 0 by unfold Te;rw [if_pos hm, if_pos (by omega)]] at this
 have ct := A8m d m hm (by omega)
 have hmv := hm
 obtain ⟨_, _, h3, h4, h5⟩ := hm
 have o1 := G6 (Ak d m * Ak d m) (2 * m.rise) (by omega) (by omega) (by omega) (by omega) (by omega) K.rise
 have o2 := G6 (Ak d m * Ak d m) (2 * m.fall) (by omega) (by omega) (by omega) (by omega) (by omega) K.fall
 have o3 := G6 (Ak d m) m.rise (by omega) (by omega) (by omega) (by omega) (by omega) K.start
 have o4 := G6 (Ak d m) m.fall (by omega) (by omega) (by omega) (by omega) (by omega) K.last
 have o5 := G6 m.rise 2 (by omega) (by omega) (by omega) (by omega) (by omega) K.half
 have o6 := G6 (-m.fall) 2 (by omega) (by omega) (by omega) (by omega) (by omega) K.halfF
 have u1 := Q6 d
 have u2 := Q6 (Ak d m)
 have s1 := Nx (d : Rat) (Fe d m) K.dist K.rise K.way
 have s2 := Nx (A72 d m) (Gk d m) K.way K.fall K.run
 have s3 := A63 (Gs d m) ((Ak d m : Int) : Rat) K.run K.speed (Jz (by omega)) K.flat
 have s4 := Uw (Dj d m) (Jd d m) K.start K.flat K.stop
 have s5 := Uw (Cu d m) (Kf d m) K.stop K.last K.fin
 have s6 := Nx (d : Rat) (Gk d m) K.dist K.fall K.top
 have hd0 : ¬ d = 0 := by omega
 refine Fn0.of Tryz.func93 Tryz.ntmps93 rfl rfl rfl ?_
 simp only [A2]
 repeat' (first | refine W ?_|(apply T.drawR 9 A0 (by decide +kernel);simp only [td])|(apply T.draw 16 A0 (by decide +kernel);simp only [td])|(apply T.draw 15 A0 (by decide +kernel);simp only [td])|(apply T.draw 11 A0 (by decide +kernel);simp only [td])|(apply T.draw 9 A0 (by decide +kernel);simp only [td])|(apply T.draw 28 A0 (by decide +kernel);simp only [td])|(apply T.drawAll A0 (by decide +kernel))|refine Zc cg ?_|refine Zc ct ?_|refine Zc s1 ?_|refine Zc s2 ?_|refine Zc s3 ?_|refine Zc s4 ?_|refine Zc s5 ?_|refine Zc s6 ?_|(apply S.keepV;exact rfl;exact rfl;exact rfl;exact .ptr0 rfl;exact rfl)|(apply S.callFV;exact rfl;exact rfl;exact rfl;exact u1;exact .cons (.one (.lf _)) .nil;exact rfl;exact rfl)|(apply S.callFV;exact rfl;exact rfl;exact rfl;exact u2;exact .cons (.one (.lf _)) .nil;exact rfl;exact rfl)|(apply S.callFV;exact rfl;exact rfl;exact rfl;exact o1;exact Ie rfl rfl;exact rfl;exact rfl)|(apply S.callFV;exact rfl;exact rfl;exact rfl;exact o2;exact Ie rfl rfl;exact rfl;exact rfl)|(apply S.callFV;exact rfl;exact rfl;exact rfl;exact o3;exact Ie rfl rfl;exact rfl;exact rfl)|(apply S.callFV;exact rfl;exact rfl;exact rfl;exact o4;exact Ie rfl rfl;exact rfl;exact rfl)|(apply S.callFV;exact rfl;exact rfl;exact rfl;exact o5;exact Ie rfl rfl;exact rfl;exact rfl)|(apply S.callFV;exact rfl;exact rfl;exact rfl;exact o6;exact Ie rfl rfl;exact rfl;exact rfl)|(apply S.neg;exact rfl;exact rfl;omega)|refine Za ?_|(apply S.appendO;(iterate 9 exact rfl);exact Z4 rfl;exact rfl;exact rfl;simp [J8];simp [J8])|(apply S.buildSliceO (d := 110);(iterate 6 exact rfl))|(apply S.buildSliceF;(iterate 8 exact rfl)) | refine V ?_|(refine W2 ?_ ?_ <;> intro hc))
 all_goals first
  | (rw [show K1 d m = N5 d m from if_pos (by assumption)]
     exact ⟨.inr rfl, [_, _], .cons (.tmp rfl) (.cons (.tmp rfl) .nil), .tup (.cons (.one (.own (rows := N5 d m) rfl (OwnRows.of (N5 d m).flatten (A43 d m) rfl))) (.cons (.one (.lf _)) .nil))⟩)
  | (rw [show K1 d m = Me d m from if_neg (by assumption)]
     exact ⟨.inr rfl, [_, _], .cons (.tmp rfl) (.cons (.tmp rfl) .nil), .tup (.cons (.one (.own (rows := Me d m) rfl (OwnRows.of (Me d m).flatten (A5s d m) rfl))) (.cons (.one (.lf _)) .nil))⟩)
section
variable {P : Program} {N : Nat} {ops : Array Oper} {m : Option Nat} {K : Tm -> AH -> Prop} {tm : Tm} {H : AH} {rest : List Oper} {ty : TypeId} {pos : String} {af : Array Edge} {d : Nat} {t e : TypeId}
theorem S.buildSlice1 {ps : Array (Nat × Operand)} {n : Nat} {zv : Value} {ys : List (Nat × AV)} {out : List AV} {cs : List Lf} [hu : HasU P t (.slice e)] [hi : HasS P e n] [hz : HasZ P e zv] (h1 : Nat.ble 1 (1 * n) = true) (h2 : Nat.ble (1 * n) 16777216 = true) (hy : Dq (evT tm) ps.toList = some ys) (ho : Gc (fun (i : Nat) => some (i * n, n)) ys (F4 zv (1 * n)) = some out) (hc : lfs out = some cs) (hl : Nat.beq cs.length (1 * n) = true) (hN : Nat.ble (d + 1) N = true) (h : Reg m P N ops rest ((d, .sl [cs]) :: tm) H K) : Reg m P N ops (⟨some d, .buildSlice t 1 ps, ty, pos, af, none⟩ :: rest) tm H K :=
 S.buildSliceF h1 h2 hy ho hc hl (by
  have := Nat.eq_of_beq_eq_true hl
  simp only [chunks, Qr]
  rw [List.take_of_length_le (by omega)]) hN h
end
theorem Ae {n : Nat} {r : List Lf} (h : r.length = n) : ∀ x ∈ [r], x.length = n := by
 intro x hx
 simp only [List.mem_cons, List.not_mem_nil, or_false] at hx
 rw [hx];exact h
theorem Ai (n : Nat) (cs : List Lf) : (cs.map AV.lf).all (AV.under n) = true := by
 rw [List.all_eq_true]
 intro x hx
 obtain ⟨y, _, rfl⟩ := List.mem_map.1 hx
 rfl
set_option maxHeartbeats 8000000 in
theorem Z6 (m : MoveR) (hm : D8 m) : Fn0 Tryz.prog 93 [.i 0, A1 m.row] (.tup [.sl [Iw frZ frZ frZ frZ], .i 0]) := by
 have cg : Fn0 Tryz.prog 161 [.i 0, A1 m.row] (.i 0) := by
  have := Sj 0 m
  rwa [show Te 0 m = 0 by unfold Te;rw [if_pos hm, if_pos (by omega)]] at this
 refine Fn0.of Tryz.func93 Tryz.ntmps93 rfl rfl rfl ?_
 simp only [A2]
 repeat' (first | refine W ?_|refine Zc cg ?_|(apply S.buildSliceF;(iterate 8 exact rfl)) | refine V ?_|(refine W2 ?_ ?_ <;> intro hc))
 all_goals exact D2 rfl rfl rfl
structure PieceR where
 f1 : Int
 f2 : Int
 a1 : Int
 a2 : Int
 b1 : Int
 b2 : Int
 c1 : Int
 c2 : Int
def PieceR.row (p : PieceR) : List Lf := [.i p.f1, .i p.f2, .i p.a1, .i p.a2, .i p.b1, .i p.b2, .i p.c1, .i p.c2]
def PieceR.at (p : PieceR) : List Lf := [.i p.f1, .i p.f2]
def Ace : Nat -> AV
 | 0 => .val (.slice none 0 0)
 | k + 1 => .own 1 0 (k + 1) 2
def Acc (l : List PieceR) : Nat -> HB
 | 0 => .dead
 | k + 1 => .live (((l.take (k + 1)).map PieceR.at).flatten.map .lf)
theorem at_len (l : List PieceR) : ∀ r ∈ l.map PieceR.at, r.length = 2 := by
 intro r hr
 obtain ⟨p, _, rfl⟩ := List.mem_map.1 hr
 rfl
theorem A7i {l : List PieceR} {k : Nat} (h : k <= l.length) : (((l.take k).map PieceR.at).flatten.map AV.lf).length = k * 2 := by
 rw [List.length_map, Bc _ (at_len _), List.length_map, List.length_take, Nat.min_eq_left h]
theorem V5 {l : List PieceR} {k : Nat} {x : PieceR} (h : l.take (k + 1) = l.take k ++ [x]) : ((l.take (k + 1)).map PieceR.at).flatten.map AV.lf = ((l.take k).map PieceR.at).flatten.map AV.lf ++ ([x.at].flatten).map AV.lf := by
 rw [h];simp
set_option maxHeartbeats 8000000 in
theorem A1j (d : Int) (m : MoveR) (l : List PieceR) (hl : l.length <= 4) (h0 : l ≠ []) (hc : Fn0 Tryz.prog 93 [.i d, A1 m.row] (.tup [.sl (l.map PieceR.row), .i 0])) : Fn0 Tryz.prog 239 [.i d, A1 m.row] (.tup [.sl (l.map PieceR.at), .i 0]) := by
 have hle : (l.map PieceR.row).length = l.length := List.length_map _
 refine Fn0.of Tryz.func239 Tryz.ntmps239 rfl rfl rfl ?_
 simp only [A2]
 repeat' (first | refine W ?_|refine Zc hc ?_ | refine V ?_|(refine W2 ?_ ?_ <;> intro hc))
 refine T.kill 1 ?_
 refine T.loopS (fun k => k <= l.length) (fun k => l.length - k) (fun k => [(22, .i k), (21, .i (l.map PieceR.row).length), (20, .sl (l.map PieceR.row)), (8, Ace k)]) (fun k => [.live (m.row.map .lf), Acc l k]) 0 (Nat.zero_le _) CV CH ?_
 intro k hk
 by_cases hlt : k < l.length
 ·have h1 : (k : Int) < ((l.map PieceR.row).length : Nat) := by omega
  obtain ⟨x, hx⟩ := A9 hlt
  have hb := Ab (R := PieceR.row) hx
  have hsn := Br hx
  cases k with
  | zero =>
   repeat' (first | refine W ?_|refine Zi hb ?_|(apply S.buildSlice1;(iterate 7 exact rfl))|(apply S.appendN 1 (rows := []);(iterate 8 exact rfl);exact Ae rfl;exact rfl;exact Nat.le_of_ble_eq_true rfl;exact Nat.le_of_ble_eq_true rfl)|refine Za ?_ | refine V ?_|(refine W2 ?_ ?_ <;> intro hc))
   change Next _ _ _ _ _ _
   exact Next.go 1 (by omega) (by omega) CV (by
    show CovH _ _ [_, .live (((l.take (0 + 1)).map PieceR.at).flatten.map .lf)]
    rw [V5 hsn]
    exact .live rfl (.live rfl .nil))
  | succ k =>
   repeat' (first | refine W ?_|refine Zi hb ?_|(apply S.buildSlice1;(iterate 7 exact rfl))|(apply S.appendO;(iterate 8 exact rfl);exact A7i hk;exact Ae rfl;exact rfl;exact Aw _ _;simp only [List.length_cons, List.length_nil];omega;simp only [List.length_cons, List.length_nil];omega)|refine Za ?_ | refine V ?_|(refine W2 ?_ ?_ <;> intro hc))
   change Next _ _ _ _ _ _
   exact Next.go (k + 2) (by omega) (by omega) CV (by
    show CovH _ _ [_, .live (((l.take (k + 1 + 1)).map PieceR.at).flatten.map .lf)]
    rw [V5 hsn]
    exact .live rfl (.live (by rw [<- List.map_append];exact Ai _ _) .nil))
 ·have h1 : ¬ (k : Int) < ((l.map PieceR.row).length : Nat) := by omega
  have hkl : k = l.length := by omega
  repeat' (first | refine W ?_ | refine V ?_|(refine W2 ?_ ?_ <;> intro hc))
  cases k with
  | zero => exact absurd (List.eq_nil_of_length_eq_zero hkl.symm) h0
  | succ k =>
   have ht : l.take (k + 1) = l := List.take_of_length_le (by omega)
   refine ⟨.inr rfl, [_, _], .cons (.tmp rfl) (.cons (.tmp rfl) .nil), .tup (.cons (.one (.own (rows := l.map PieceR.at) (cells := ((l.map PieceR.at).flatten.map .lf)) ?_ ?_)) (.cons (.one (.lf _)) .nil))⟩
   ·show HB.live (((l.take (k + 1)).map PieceR.at).flatten.map .lf) = _
    rw [ht]
   ·have := OwnRows.of (l.map PieceR.at).flatten (at_len l) rfl
    rw [List.length_map, <- hkl] at this
    exact this
end Go.Proofs.YtocoehahhohpgaaGreat
