/- Contracts: package ratio's Make, Add, Sub, Div, Cmp and the reference's Make, Cmp, over rational numbers that fit. No conditions but those of each statement. -/
import Derived.Test.YtcfjofhapbkmfaaGreatDoorQb
import Derived.Test.YtcfjofhapbkmfaaGreatDoorMd
import Derived.Test.YtcfjofhapbkmfaaGreatDoorMn
import Derived.Test.YtcfjofhapbkmfaaGreatDoorMc
import Derived.Test.YtcfjofhapbkmfaaGreatDoorPa
set_option linter.unusedSimpArgs false
set_option linter.unusedVariables false
namespace Go.Proofs.YtcfjofhapbkmfaaGreatDoor
open Go.RowKit
theorem M5 (n d : Int) (hd : d ≠ 0) (n1 : -9223372036854775808 <= n) (n2 : n <= 9223372036854775807) (d1 : -9223372036854775808 <= d) (d2 : d <= 9223372036854775807) (hf : Fits (Aq n d)) : Fn0 Tryz.prog 124 [.i n, .i d] (frE (Aq n d) 0) := Fa hf ▸ Zt n d hd n1 n2 d1 d2
theorem W7 (p q : Rat) (hp : Fits p) (hq : Fits q) (hf : Fits (p + q)) : Fn0 Tryz.prog 171 [A6 (frR p), A6 (frR q)] (frE (p + q) 0) := Fa hf ▸ Wl p q hp hq
theorem Pz (n d : Int) (hd : d ≠ 0) (n1 : -9223372036854775808 <= n) (n2 : n <= 9223372036854775807) (d1 : -9223372036854775808 <= d) (d2 : d <= 9223372036854775807) (hf : Fits (Aq n d)) : Fn0 Tryz.prog 129 [.i n, .i d] (frE (Aq n d) 0) := by
 refine Fn0.of_calls (us := [.int .i64 n, .int .i64 d]) ⟨_, Tryz.func129, rfl, rfl⟩ rfl (fun w L => M6 w L An _ _ _) fun w => ?_
 have := Wh n d w n1 n2 d1 d2
 rw [show Ao n d = ((Aq n d).num, ((Aq n d).den : Int), 0) by unfold Ao;rw [if_neg hd, hf.out]] at this
 exact this
theorem Vp (n : Int) : Fn0 Tryz.prog 60 [.i n] (A6 [.i n, .i 1]) := by
 refine Fn0.of Tryz.func60 Tryz.ntmps60 rfl rfl rfl ?_
 simp only [A0]
 repeat' (first | refine W ?_ | refine V ?_|(refine W2 ?_ ?_ <;> intro hc))
 exact ⟨.inr rfl, [A6 [.i n, .i 1]], .cons (Res.row [.i n, .i 1] rfl rfl rfl rfl rfl) .nil, .one (.agg (B7 [.i n, .i 1]))⟩
/-! ### The fractions -/
theorem Ib {n d : Int} (h1 : -1152921504606846976 <= n) (h2 : n <= 1152921504606846976) (h3 : 1 <= d) (h4 : d <= 1152921504606846976) : Fits (Aq n d) := by
 obtain ⟨e1, e2⟩ := Ry n d (by omega)
 have hg : 0 < (Int.gcd n d : Int) := by
  have : 0 < Int.gcd n d := Int.gcd_pos_of_ne_zero_right n (by omega)
  omega
 have k1 : (n.natAbs : Int) / (Int.gcd n d : Int) <= n.natAbs := Int.ediv_le_self _ (by omega)
 have k2 : (d.natAbs : Int) / (Int.gcd n d : Int) <= d.natAbs := Int.ediv_le_self _ (by omega)
 have k3 : 0 <= (n.natAbs : Int) / (Int.gcd n d : Int) := Int.ediv_nonneg (by omega) (by omega)
 constructor
 ·rw [e1]
  split <;> omega
 ·omega
theorem De {a b A B : Int} (ha : 0 <= a /\ a <= A) (hb : 0 <= b /\ b <= B) : 0 <= a * b /\ a * b <= A * B := ⟨Int.mul_nonneg ha.1 hb.1, Int.mul_le_mul ha.2 hb.2 hb.1 (by omega)⟩
theorem A0m {a b : Int} (ha : 1 <= a) (hb : 1 <= b) : 1 <= a * b := by
 have := Int.mul_pos (by omega : 0 < a) (by omega : 0 < b)
 omega
section
variable (d : Int) (m : MoveR)
end
structure PieceR where
 f1 : Int
 f2 : Int
 a1 : Int
 a2 : Int
 b1 : Int
 b2 : Int
 c1 : Int
 c2 : Int
def PieceR.at (p : PieceR) : List Lf := [.i p.f1, .i p.f2]
theorem at_len (l : List PieceR) : ∀ r ∈ l.map PieceR.at, r.length = 2 := by
 intro r hr
 obtain ⟨p, _, rfl⟩ := List.mem_map.1 hr
 rfl
end Go.Proofs.YtcfjofhapbkmfaaGreatDoor
