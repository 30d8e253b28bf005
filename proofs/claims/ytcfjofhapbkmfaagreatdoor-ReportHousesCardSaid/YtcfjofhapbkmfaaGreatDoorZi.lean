/- Contracts: the reference's weights, balances, counts and points. No conditions but those of each statement. -/
import Derived.Test.YtcfjofhapbkmfaaGreatDoorZf
set_option linter.unusedSimpArgs false
set_option linter.unusedVariables false
namespace Go.Proofs.YtcfjofhapbkmfaaGreatDoor
open Go Go.RowKit
theorem Yc (s : SetR) (h : Bf s) : Fn0 Tryz.prog 99 [A6 s.row] (.i (Co s)) := by
 have hr := Dv h
 have hl := h.2.2.2.2.2.1
 have hq : s.length.tdiv 1000 = s.length / 1000 := by rw [Int.tdiv_eq_ediv_of_nonneg (by omega)]
 unfold Co at *
 refine Fn0.of Tryz.func99 Tryz.ntmps99 rfl rfl rfl ?_
 simp only [A0]
 repeat' (first
  | refine W ?_
  | refine Y ?_|(apply S.quo;(iterate 3 exact rfl);omega)|refine Za ?_
  | refine V ?_
  | (refine W2 ?_ ?_ <;> intro hc))
 all_goals exact A7 (by simp) Tryz.results99 rfl rfl
set_option maxHeartbeats 4000000 in
theorem Hm (s : SetR) (h : Bf s) : Fn0 Tryz.prog 50 [A6 s.row] (.i (wtS s)) := by
 have cp := Yc s h
 have hp := Dv h
 have h40 : s.items.length <= 40 := h.2.2.2.2.2.2.2.2.2.2.2.2.2.1.1
 have hle : (s.items.map ItemR.row).length = s.items.length := List.length_map _
 refine Fn0.of Tryz.func50 Tryz.ntmps50 rfl rfl rfl ?_
 simp only [A0]
 repeat' (first
  | refine W ?_
  | refine Y ?_
  | refine V ?_
  | (refine W2 ?_ ?_ <;> intro hc))
 refine T.loopS (fun k => k <= s.items.length) (fun k => s.items.length - k) (fun k => [(4, .i (k : Nat)), (3, .i (Co s + itW (s.items.take k))), (1, .ptr 0 0)]) (fun _ => [.live (s.row.map .lf)]) 0 (Nat.zero_le _) (by rw [show Co s + itW (s.items.take 0) = Co s by simp [itW]];exact CW) (.live rfl .nil) ?_
 intro k hk
 have hr := F8 h k
 by_cases hlt : k < s.items.length
 ·have h1 : ((k : Nat) : Int) < ((s.items.map ItemR.row).length : Nat) := by omega
  obtain ⟨x, hx⟩ := Aa hlt
  have hb := Ab (R := ItemR.row) hx
  have hs := Pp hx
  have hr2 := F8 h (k + 1)
  repeat' (first
   | refine W ?_
   | (apply S.indexR;(iterate 3 exact rfl);exact hb;omega;exact rfl) | refine Y ?_|refine Za ?_
   | refine V ?_
   | (refine W2 ?_ ?_ <;> intro hc))
  all_goals (change Next _ _ _ _ _ _)
  all_goals exact Next.go (k + 1) (by omega) (by omega) (by rw [hs, <- Int.add_assoc];exact CW) (.live rfl .nil)
 ·have h1 : ¬ ((k : Nat) : Int) < ((s.items.map ItemR.row).length : Nat) := by omega
  have hw : Co s + itW (s.items.take k) = wtS s := by rw [List.take_of_length_le (by omega)];rfl
  rw [hw]
  repeat' (first
   | refine W ?_
   | refine Y ?_
   | refine V ?_
   | (refine W2 ?_ ?_ <;> intro hc))
  all_goals exact A7 (by simp) Tryz.results50 rfl rfl
set_option maxHeartbeats 4000000 in
theorem Lz (l : List BrickR) (h8 : l.length <= 8) : Fn0 Tryz.prog 102 [.sl (l.map BrickR.row)] (.sl ((l.map BrickR.count).map A8)) := by
 have hle : (l.map BrickR.row).length = l.length := List.length_map _
 refine Fn0.of Tryz.func102 Tryz.ntmps102 rfl rfl rfl ?_
 simp only [A0]
 repeat' (first
  | refine W ?_
  | refine Y ?_
  | refine V ?_
  | (refine W2 ?_ ?_ <;> intro hc))
 refine T.kill 0 ?_
 refine T.loopS (fun k => k <= l.length) (fun k => l.length - k) (fun k => [(4, .i (k : Nat)), (0, .sl (l.map BrickR.row)), (3, rT 0 1 k)]) (fun k => [rB (Ba ((l.take k).map BrickR.count)) k]) 0 (Nat.zero_le _) CW (.dead .nil) ?_
 intro k hk
 by_cases hlt : k < l.length
 ·have h1 : ((k : Nat) : Int) < ((l.map BrickR.row).length : Nat) := by omega
  obtain ⟨x, hx⟩ := Aa hlt
  have hb := Ab (R := BrickR.row) hx
  have hS := Kc hx
  have hcl := Mj (l := l) (k := k) hk
  rcases Nat.eq_zero_or_pos k with h0 | hpos
  ·subst h0
   repeat' (first
    | refine W ?_
    | (apply S.indexR;(iterate 3 exact rfl);exact hb;omega;exact rfl) | refine Y ?_|(apply S.buildSlice1;(iterate 7 exact rfl))|(apply S.appendN 0 (rows := []);(iterate 8 exact rfl);exact Ad rfl;exact rfl;exact Nat.le_of_ble_eq_true rfl;exact Nat.le_of_ble_eq_true rfl)|refine Za ?_
    | refine V ?_
    | (refine W2 ?_ ?_ <;> intro hc))
   all_goals (change Next _ _ _ _ _ _)
   all_goals exact Next.go 1 (by omega) (by omega) CW (by
    show CovH _ _ [.live (Ba ((l.take (0 + 1)).map BrickR.count))]
    rw [hS];exact .live rfl .nil)
  ·rw [By hpos, Bx hpos]
   repeat' (first
    | refine W ?_
    | (apply S.indexR;(iterate 3 exact rfl);exact hb;omega;exact rfl) | refine Y ?_|(apply S.buildSlice1;(iterate 7 exact rfl))|(apply S.appendO;(iterate 8 exact rfl);exact hcl;exact Ad rfl;exact rfl;exact B8 _ _;simp only [List.length_cons, List.length_nil];omega;simp only [List.length_cons, List.length_nil];omega)|refine Za ?_
    | refine V ?_
    | (refine W2 ?_ ?_ <;> intro hc))
   all_goals (change Next _ _ _ _ _ _)
   all_goals exact Next.go (k + 1) (by omega) (by omega) CW (by
    show CovH _ _ [.live (Ba ((l.take (k + 1)).map BrickR.count))]
    rw [hS];exact .live (by rw [<- List.map_append];exact Aw _ _) .nil)
 have h1 : ¬ ((k : Nat) : Int) < ((l.map BrickR.row).length : Nat) := by omega
 obtain rfl : k = l.length := by omega
 rcases Nat.eq_zero_or_pos l.length with h0 | hpos
 ·obtain rfl : l = [] := List.eq_nil_of_length_eq_zero h0
  repeat' (first
   | refine W ?_
   | refine Y ?_|(refine T.nilU 2 rfl ?_;apply T.ret;change Cb _ _ _ _ _)
   | refine V ?_
   | (refine W2 ?_ ?_ <;> intro hc))
  all_goals exact ⟨.inr rfl, [.sl []], .cons (.tmp rfl) .nil, .one (.one (.lf _))⟩
 ·rw [By hpos, Bx hpos, List.take_length]
  repeat' (first
   | refine W ?_
   | refine Y ?_
   | refine V ?_
   | (refine W2 ?_ ?_ <;> intro hc))
  all_goals exact ⟨.inr rfl, [.own 0 0 l.length 1], .cons (.tmp rfl) .nil, .one (.one (.own rfl (Gk l)))⟩
set_option maxHeartbeats 4000000 in
theorem S3 (l : List BrickR) (h : Eo l) (hr : ∀ k, 0 <= bkS (l.take k) /\ bkS (l.take k) <= 503316480) : Fn0 Tryz.prog 101 [.sl (l.map BrickR.row), .sl ((l.map BrickR.count).map A8)] (.i (bkS l)) := by
 have hle : (l.map BrickR.row).length = l.length := List.length_map _
 have hle2 : ((l.map BrickR.count).map A8).length = l.length := by rw [List.length_map, List.length_map]
 obtain ⟨h8, hnd, hok, hsum⟩ := h
 refine Fn0.of Tryz.func101 Tryz.ntmps101 rfl rfl rfl ?_
 simp only [A0]
 repeat' (first
  | refine W ?_
  | refine Y ?_
  | refine V ?_
  | (refine W2 ?_ ?_ <;> intro hc))
 refine T.loopS (fun k => k <= l.length) (fun k => l.length - k) (fun k => [(6, .i (k : Nat)), (1, .sl ((l.map BrickR.count).map A8)), (0, .sl (l.map BrickR.row)), (5, .i (bkS (l.take k)))]) (fun _ => []) 0 (Nat.zero_le _) CW .nil ?_
 intro k hk
 have hrk := hr k
 by_cases hlt : k < l.length
 ·have h1 : ((k : Nat) : Int) < ((l.map BrickR.row).length : Nat) := by omega
  obtain ⟨x, hx⟩ := Aa hlt
  have hb := Ab (R := BrickR.row) hx
  have hb2 : ((l.map BrickR.count).map A8)[((k : Nat) : Int).toNat]? = some (A8 x.count) := by rw [Int.toNat_natCast, List.getElem?_map, List.getElem?_map, hx];rfl
  obtain ⟨x1, x2, x3, x4⟩ := hok x (List.mem_of_getElem? hx)
  have hm := De (a := x.weight) (b := x.count) (A := 1048576) (B := 60) (by omega) (by omega)
  have hs := Ju hx
  repeat' (first
   | refine W ?_
   | (apply S.indexR;(iterate 3 exact rfl);exact hb;omega;exact rfl)|(apply S.indexR;(iterate 3 exact rfl);exact hb2;omega;exact rfl) | refine Y ?_|refine Za ?_|(apply T.drawR 12 A3 (by decide +kernel);simp only [td])
   | refine V ?_
   | (refine W2 ?_ ?_ <;> intro hc))
  all_goals (change Next _ _ _ _ _ _)
  all_goals exact Next.go (k + 1) (by omega) (by omega) (by rw [hs];exact CW) .nil
 ·have h1 : ¬ ((k : Nat) : Int) < ((l.map BrickR.row).length : Nat) := by omega
  rw [List.take_of_length_le (by omega)]
  repeat' (first
   | refine W ?_
   | refine Y ?_
   | refine V ?_
   | (refine W2 ?_ ?_ <;> intro hc))
  all_goals exact A7 (by simp) Tryz.results101 rfl rfl
theorem Te (s : SetR) (h : Bf s) : Fn0 Tryz.prog 100 [A6 s.row] (.i (ndS s)) := by
 have cw := Hm s h
 have h1 := C5 h
 have h2 := F9 h
 have h3 := h.2.2.2.2.2.2.2.2.2.1
 have h5 := h.2.2.2.2.2.2.2.2.2.2.1
 have h4 := De (a := s.purchase) (b := wtS s) (A := 2) (B := 1140850688) (by omega) (by omega)
 unfold ndS at *
 rw [Int.mul_comm (wtS s)] at *
 generalize wtS s = n at *
 refine Fn0.of Tryz.func100 Tryz.ntmps100 rfl rfl rfl ?_
 simp only [A0]
 repeat' (first
  | refine W ?_
  | refine Y ?_|refine Za ?_|(apply T.drawAll A3 (by decide +kernel))
  | refine V ?_
  | (refine W2 ?_ ?_ <;> intro hc))
 all_goals exact A7 (by simp) Tryz.results100 rfl rfl
theorem Jl (s : SetR) (h : Bf s) : Fn0 Tryz.prog 51 [A6 s.row] (.i (Br s)) := by
 have c1 := Te s h
 have hbp := h.2.2.2.2.2.2.2.2.2.2.2.2.2.2
 have c2 := Lz s.bricks hbp.1
 have c3 := S3 s.bricks hbp (C0 h)
 have h2 := F9 h
 have h3 := C0 h s.bricks.length
 rw [List.take_length] at h3
 unfold Br
 generalize ndS s = n at *
 generalize bkS s.bricks = m at *
 refine Fn0.of Tryz.func51 Tryz.ntmps51 rfl rfl rfl ?_
 simp only [A0]
 repeat' (first
  | refine W ?_
  | refine Y ?_|refine Za ?_|(apply T.drawAll A3 (by decide +kernel))
  | refine V ?_
  | (refine W2 ?_ ?_ <;> intro hc))
 all_goals exact A7 (by simp) Tryz.results51 rfl rfl
theorem Tf (s : SetR) (n : Int) (h : Bf s) : Fn0 Tryz.prog 103 [A6 s.row, .i n] (.b (decide (-s.brake <= n /\ n <= s.brake))) := by
 have h3 := h.2.2.2.2.2.2.2.2.2.2.2.2.1
 by_cases a1 : -s.brake <= n
 ·by_cases a2 : n <= s.brake
  ·rw [decide_eq_true ⟨a1, a2⟩]
   have g1 : n >= -s.brake := a1
   refine Fn0.of Tryz.func103 Tryz.ntmps103 rfl rfl rfl ?_
   simp only [A0]
   repeat' (first
    | refine W ?_
    | refine Y ?_|(apply S.neg;exact rfl;exact rfl;omega)
    | refine V ?_
    | (refine W2 ?_ ?_ <;> intro hc))
   all_goals exact A7 (by simp) Tryz.results103 rfl (by simp [*])
  ·rw [decide_eq_false (fun h => a2 h.2)]
   have g1 : n >= -s.brake := a1
   refine Fn0.of Tryz.func103 Tryz.ntmps103 rfl rfl rfl ?_
   simp only [A0]
   repeat' (first
    | refine W ?_
    | refine Y ?_|(apply S.neg;exact rfl;exact rfl;omega)
    | refine V ?_
    | (refine W2 ?_ ?_ <;> intro hc))
   all_goals exact A7 (by simp) Tryz.results103 rfl (by simp [*])
 ·rw [decide_eq_false (fun h => a1 h.1)]
  have g1 : ¬ n >= -s.brake := a1
  refine Fn0.of Tryz.func103 Tryz.ntmps103 rfl rfl rfl ?_
  simp only [A0]
  repeat' (first
   | refine W ?_
   | refine Y ?_|(apply S.neg;exact rfl;exact rfl;omega)
   | refine V ?_
   | (refine W2 ?_ ?_ <;> intro hc))
  all_goals exact A7 (by simp) Tryz.results103 rfl (by simp [*])
theorem Vx (s : SetR) (h : Bf s) : Fn0 Tryz.prog 52 [A6 s.row] (.b (decide (Gf s))) := by
 have c1 := Jl s h
 have c2 := Tf s (Br s) h
 have e : decide (Gf s) = decide (-s.brake <= Br s /\ Br s <= s.brake) := by rw [decide_eq_decide];exact Iff.rfl
 rw [e]
 generalize decide (-s.brake <= Br s /\ Br s <= s.brake) = b at *
 refine Fn0.of Tryz.func52 Tryz.ntmps52 rfl rfl rfl ?_
 simp only [A0]
 repeat' (first
  | refine W ?_
  | refine Y ?_|(apply T.drawAll A3 (by decide +kernel))
  | refine V ?_
  | (refine W2 ?_ ?_ <;> intro hc))
 all_goals exact A7 (by simp) Tryz.results52 rfl rfl
theorem Q2 (x : RoofR) (d : Int) : Fn0 Tryz.prog 153 [A6 x.row, .i d] (.b (decide (ovR x d))) := by
 have c := Jk d x.from_ x.to
 have e : decide (ovR x d) = decide (x.from_ <= d /\ d <= x.to) := by rw [decide_eq_decide];exact Iff.rfl
 rw [e]
 generalize decide (x.from_ <= d /\ d <= x.to) = b at *
 refine Fn0.of Tryz.func153 Tryz.ntmps153 rfl rfl rfl ?_
 simp only [A0]
 repeat' (first
  | refine W ?_
  | refine Y ?_
  | refine V ?_
  | (refine W2 ?_ ?_ <;> intro hc))
 all_goals exact A7 (by simp) Tryz.results153 rfl rfl
set_option maxHeartbeats 4000000 in
theorem Ga (l : List RoofR) (d : Int) (hl : l.length <= 20) : Fn0 Tryz.prog 152 [.sl (l.map RoofR.row), .i d] (.i (Ap l d : Nat)) := by
 have hle : (l.map RoofR.row).length = l.length := List.length_map _
 refine Fn0.of Tryz.func152 Tryz.ntmps152 rfl rfl rfl ?_
 simp only [A0]
 repeat' (first
  | refine W ?_
  | refine Y ?_
  | refine V ?_
  | (refine W2 ?_ ?_ <;> intro hc))
 refine T.loopS (fun k => k <= l.length) (fun k => l.length - k) (fun k => [(6, .i (k : Nat)), (0, .sl (l.map RoofR.row)), (1, .i d), (5, .i (Ap (l.take k) d : Nat))]) (fun _ => []) 0 (Nat.zero_le _) CW .nil ?_
 intro k hk
 have hc := D6 (l.take k) d
 have hck : (l.take k).length <= 20 := by rw [List.length_take];omega
 by_cases hlt : k < l.length
 ·have h1 : ((k : Nat) : Int) < ((l.map RoofR.row).length : Nat) := by omega
  obtain ⟨x, hx⟩ := Aa hlt
  have hb := Ab (R := RoofR.row) hx
  have ci := Q2 x d
  have hs := Nd d hx
  by_cases ho : ovR x d
  ·rw [decide_eq_true ho] at ci
   rw [if_pos ho] at hs
   have hs2 : ((Ap (l.take (k + 1)) d : Nat) : Int) = (Ap (l.take k) d : Nat) + 1 := by omega
   repeat' (first
    | refine W ?_
    | (apply S.indexR;(iterate 3 exact rfl);exact hb;omega;exact rfl) | refine Y ?_|refine Za ?_
    | refine V ?_
    | (refine W2 ?_ ?_ <;> intro hc))
   all_goals (change Next _ _ _ _ _ _)
   all_goals exact Next.go (k + 1) (by omega) (by omega) (by rw [hs2];exact CW) .nil
  ·rw [decide_eq_false ho] at ci
   rw [if_neg ho, Nat.add_zero] at hs
   repeat' (first
    | refine W ?_
    | (apply S.indexR;(iterate 3 exact rfl);exact hb;omega;exact rfl) | refine Y ?_|refine Za ?_
    | refine V ?_
    | (refine W2 ?_ ?_ <;> intro hc))
   all_goals (change Next _ _ _ _ _ _)
   all_goals exact Next.go (k + 1) (by omega) (by omega) (by rw [hs];exact CW) .nil
 ·have h1 : ¬ ((k : Nat) : Int) < ((l.map RoofR.row).length : Nat) := by omega
  rw [List.take_of_length_le (by omega)]
  repeat' (first
   | refine W ?_
   | refine Y ?_
   | refine V ?_
   | (refine W2 ?_ ?_ <;> intro hc))
  all_goals exact A7 (by simp) Tryz.results152 rfl rfl
theorem Py (p q : Rat) (hp : Fits p) (hq : Fits q) (hf : Fits (p + q)) : Fn0 Tryz.prog 154 [A6 (frR p), A6 (frR q)] (frE (p + q) 0) := by
 refine Fn0.of_calls (us := [.agg #[.int .i64 p.num, .int .i64 p.den], .agg #[.int .i64 q.num, .int .i64 q.den]]) ⟨_, Tryz.func154, rfl, rfl⟩ rfl (fun w L => M6 w L An _ _ _) fun w => ?_
 have := Yd p.num p.den q.num q.den w hp.valid hq.valid
 rw [show En p.num p.den q.num q.den = ((p + q).num, ((p + q).den : Int), 0) by unfold En;rw [if_pos ⟨hp.valid, hq.valid⟩, Iq, Iq, hf.out]] at this
 exact this
set_option maxHeartbeats 16000000 in
theorem Tg (h : HouseR) (hp : Az h) : Fn0 Tryz.prog 104 [A6 h.row] (.sl (h.sets.map ldR)) := by
 have hle : (h.sets.map SetR.row).length = h.sets.length := List.length_map _
 have hn5 : h.sets.length <= 1000 := by have := hp.2.2.2.1;omega
 refine Fn0.of Tryz.func104 Tryz.ntmps104 rfl rfl rfl ?_
 simp only [A0]
 repeat' (first
  | refine W ?_
  | refine Y ?_
  | refine V ?_
  | (refine W2 ?_ ?_ <;> intro hc))
 refine T.kill 1 ?_
 refine T.loopS (fun k => k <= h.sets.length) (fun k => h.sets.length - k) (fun k => [(4, .i (k : Nat)), (1, .ptr 0 0), (3, rT 1 2 k)]) (fun k => [.live (h.row.map .lf), rB (ldC (h.sets.take k)) k]) 0 (Nat.zero_le _) CW CH ?_
 intro k hk
 by_cases hlt : k < h.sets.length
 ·have h1 : ((k : Nat) : Int) < ((h.sets.map SetR.row).length : Nat) := by omega
  obtain ⟨s, hs⟩ := Aa hlt
  have hb := Ab (R := SetR.row) hs
  have hsp := (hp.2.2.2.2.2.1 s (List.mem_of_getElem? hs)).1
  have hbp := hsp.2.2.2.2.2.2.2.2.2.2.2.2.2.2
  have har := hsp.2.2.2.2.2.2.2.2.2.1
  have cw := Hm s hsp
  have cc := Lz s.bricks hbp.1
  have cs := S3 s.bricks hbp (C0 hsp)
  have r1 := C5 hsp
  have r3 := C0 hsp s.bricks.length
  rw [List.take_length] at r3
  have hS := Kj hs
  have hcl := Ki (l := h.sets) (k := k) hk
  rcases Nat.eq_zero_or_pos k with h0 | hpos
  ·subst h0
   repeat' (first
    | refine W ?_
    | (apply S.indexR;(iterate 3 exact rfl);exact hb;omega;exact rfl) | refine Y ?_|(apply T.drawN 3 17 A3 (by decide +kernel);simp only [td])|(apply T.drawRN 3 17 A3 (by decide +kernel);simp only [td])|(apply S.buildSlice1;(iterate 7 exact rfl))|(apply S.appendN 1 (rows := []);(iterate 8 exact rfl);exact Ad rfl;exact rfl;exact Nat.le_of_ble_eq_true rfl;exact Nat.le_of_ble_eq_true rfl)|refine Za ?_
    | refine V ?_
    | (refine W2 ?_ ?_ <;> intro hc))
   all_goals (change Next _ _ _ _ _ _)
   all_goals exact Next.go 1 (by omega) (by omega) CW (by
    show CovH _ _ [_, .live (ldC (h.sets.take (0 + 1)))]
    rw [hS];exact .live rfl (.live rfl .nil))
  ·rw [By hpos, Bx hpos]
   repeat' (first
    | refine W ?_
    | (apply S.indexR;(iterate 3 exact rfl);exact hb;omega;exact rfl) | refine Y ?_|(apply T.drawN 3 17 A3 (by decide +kernel);simp only [td])|(apply T.drawRN 3 17 A3 (by decide +kernel);simp only [td])|(apply S.buildSlice1;(iterate 7 exact rfl))|(apply S.appendO;(iterate 8 exact rfl);exact hcl;exact Ad rfl;exact rfl;exact B8 _ _;simp only [List.length_cons, List.length_nil];omega;simp only [List.length_cons, List.length_nil];omega)|refine Za ?_
    | refine V ?_
    | (refine W2 ?_ ?_ <;> intro hc))
   all_goals (change Next _ _ _ _ _ _)
   all_goals exact Next.go (k + 1) (by omega) (by omega) CW (by
    show CovH _ _ [_, .live (ldC (h.sets.take (k + 1)))]
    rw [hS];exact .live rfl (.live (Ih _ s _) .nil))
 have h1 : ¬ ((k : Nat) : Int) < ((h.sets.map SetR.row).length : Nat) := by omega
 obtain rfl : k = h.sets.length := by omega
 rcases Nat.eq_zero_or_pos h.sets.length with h0 | hpos
 ·have e0 : h.sets = [] := List.eq_nil_of_length_eq_zero h0
  rw [h0] at h1 ⊢
  rw [show h.sets.map ldR = [] by rw [e0];rfl]
  repeat' (first
   | refine W ?_
   | refine Y ?_|(refine T.nilU 2 rfl ?_;apply T.ret;change Cb _ _ _ _ _)
   | refine V ?_
   | (refine W2 ?_ ?_ <;> intro hc))
  all_goals exact ⟨.inr rfl, [.sl []], .cons (.tmp rfl) .nil, .one (.one (.lf _))⟩
 ·rw [By hpos, Bx hpos, List.take_length]
  repeat' (first
   | refine W ?_
   | refine Y ?_
   | refine V ?_
   | (refine W2 ?_ ?_ <;> intro hc))
  all_goals exact ⟨.inr rfl, [.own 1 0 h.sets.length 2], .cons (.tmp rfl) .nil, .one (.one (.own rfl (Ru h.sets)))⟩
set_option maxHeartbeats 16000000 in
theorem Ip (h : HouseR) (hf : h.fits) (hp : Az h) (rs : List (List Lf)) (e : Int) (h1 : (∀ s ∈ h.sets, ptW s <= 67108864) -> Fn0 Tryz.prog 105 [.sl (h.roofs.map RoofR.row), .sl (h.sets.map ldR)] (.tup [.sl rs, .i e])) (h2 : ¬ (∀ s ∈ h.sets, ptW s <= 67108864) -> rs = [] /\ e = 5) : Fn0 Tryz.prog 53 [A6 h.row] (.tup [.sl rs, .i e]) := by
 have cv := Nu h hf
 rw [decide_eq_true hp] at cv
 have cp := Tg h hp
 have hle : (h.sets.map ldR).length = h.sets.length := List.length_map _
 have hn5 : h.sets.length <= 1000 := by have := hp.2.2.2.1;omega
 refine Fn0.of Tryz.func53 Tryz.ntmps53 rfl rfl rfl ?_
 simp only [A0]
 repeat' (first
  | refine W ?_
  | refine Y ?_
  | refine V ?_
  | (refine W2 ?_ ?_ <;> intro hc))
 refine T.loopS (fun k => k <= h.sets.length /\ ∀ s ∈ h.sets.take k, ptW s <= 67108864) (fun k => h.sets.length - k) (fun k => [(5, .i (k : Nat)), (4, .sl (h.sets.map ldR)), (1, .ptr 0 0)]) (fun k => [.live (h.row.map .lf)]) 0 ⟨Nat.zero_le _, by simp⟩ CW (.live rfl .nil) ?_
 rintro k ⟨hk, hall⟩
 by_cases hlt : k < h.sets.length
 ·have h3 : ((k : Nat) : Int) < ((h.sets.map ldR).length : Nat) := by omega
  obtain ⟨s, hs⟩ := Aa hlt
  have hb := Ab (R := ldR) hs
  have hsm := List.mem_of_getElem? hs
  by_cases hbig : ptW s > 67108864
  ·obtain ⟨e1, e2⟩ := h2 (fun hh => by have := hh s hsm;omega)
   subst e1 e2
   repeat' (first
    | refine W ?_
    | (apply S.indexR;(iterate 3 exact rfl);exact hb;omega;exact rfl) | refine Y ?_|refine Za ?_|(refine T.nilU 2 rfl ?_;apply T.ret;change Cb _ _ _ _ _)
    | refine V ?_
    | (refine W2 ?_ ?_ <;> intro hc))
   all_goals exact D2 rfl rfl rfl
  ·have hnew : ∀ y ∈ h.sets.take (k + 1), ptW y <= 67108864 := by
    rw [Ai hs]
    intro y hy
    rcases List.mem_append.1 hy with hy | hy
    ·exact hall y hy
    ·obtain rfl : y = s := by simpa using hy
     omega
   repeat' (first
    | refine W ?_
    | (apply S.indexR;(iterate 3 exact rfl);exact hb;omega;exact rfl) | refine Y ?_|refine Za ?_
    | refine V ?_
    | (refine W2 ?_ ?_ <;> intro hc))
   all_goals (change Next _ _ _ _ _ _)
   all_goals exact Next.go (k + 1) ⟨by omega, hnew⟩ (by omega) CW (.live rfl .nil)
 have h3 : ¬ ((k : Nat) : Int) < ((h.sets.map ldR).length : Nat) := by omega
 obtain rfl : k = h.sets.length := by omega
 rw [List.take_length] at hall
 have cg := h1 hall
 repeat' (first
  | refine W ?_
  | refine Y ?_
  | refine V ?_
  | (refine W2 ?_ ?_ <;> intro hc))
 all_goals exact D2 rfl rfl rfl
/-! ### grid -/
set_option maxHeartbeats 16000000 in
theorem Mx (l : List RoofR) (hl : l.length <= 20) (Z : List SetR) (hZ : Z.length <= 1000) (hn : ∃ s ∈ Z, Ap l s.depth = 0) : Fn0 Tryz.prog 105 [.sl (l.map RoofR.row), .sl (Z.map ldR)] (.tup [.sl [], .i 12]) := by
 have hle : (Z.map ldR).length = Z.length := List.length_map _
 refine Fn0.of Tryz.func105 Tryz.ntmps105 rfl rfl rfl ?_
 simp only [A0]
 repeat' (first
  | refine W ?_
  | refine Y ?_
  | refine V ?_
  | (refine W2 ?_ ?_ <;> intro hc))
 refine T.loopS (fun k => k <= Z.length /\ ∀ s ∈ Z.take k, 0 < Ap l s.depth) (fun k => Z.length - k) (fun k => [(6, .i (k : Nat)), (0, .sl (l.map RoofR.row)), (1, .sl (Z.map ldR))]) (fun k => []) 0 ⟨Nat.zero_le _, by simp⟩ CW .nil ?_
 rintro k ⟨hk, hall⟩
 by_cases hlt : k < Z.length
 ·have h3 : ((k : Nat) : Int) < ((Z.map ldR).length : Nat) := by omega
  obtain ⟨s, hs⟩ := Aa hlt
  have hb := Ab (R := ldR) hs
  have cc := Ga l s.depth hl
  by_cases h0 : Ap l s.depth = 0
  ·have h4 : ((Ap l s.depth : Nat) : Int) = 0 := by omega
   repeat' (first
    | refine W ?_
    | (apply S.indexR;(iterate 3 exact rfl);exact hb;omega;exact rfl) | refine Y ?_|refine Za ?_|(refine T.nilU 4 rfl ?_;apply T.ret;change Cb _ _ _ _ _)
    | refine V ?_
    | (refine W2 ?_ ?_ <;> intro hc))
   all_goals exact D2 rfl rfl rfl
  ·have h4 : ¬ ((Ap l s.depth : Nat) : Int) = 0 := by omega
   have hnew : ∀ y ∈ Z.take (k + 1), 0 < Ap l y.depth := by
    rw [Ai hs]
    intro y hy
    rcases List.mem_append.1 hy with hy | hy
    ·exact hall y hy
    ·obtain rfl : y = s := by simpa using hy
     omega
   repeat' (first
    | refine W ?_
    | (apply S.indexR;(iterate 3 exact rfl);exact hb;omega;exact rfl) | refine Y ?_|refine Za ?_
    | refine V ?_
    | (refine W2 ?_ ?_ <;> intro hc))
   all_goals (change Next _ _ _ _ _ _)
   all_goals exact Next.go (k + 1) ⟨by omega, hnew⟩ (by omega) CW .nil
 ·rw [List.take_of_length_le (by omega)] at hall
  obtain ⟨s, hs, h0⟩ := hn
  have := hall s hs
  omega
def frL (l : List RoofR) (Z : List SetR) (k : Nat) : List AV := (((l.take k).map fun x => frR (brQ l Z x)).flatten).map AV.lf
theorem Xf {l : List RoofR} {Z : List SetR} {k : Nat} {x : RoofR} (hx : l[k]? = some x) : frL l Z (k + 1) = frL l Z k ++ ([frR (brQ l Z x)].flatten).map AV.lf := by
 unfold frL
 rw [Ai hx];simp
theorem Pb (l t : List RoofR) (Z : List SetR) : ∀ r ∈ t.map (fun x => frR (brQ l Z x)), r.length = 2 := by
 intro r hr
 obtain ⟨y, _, rfl⟩ := List.mem_map.1 hr
 rfl
theorem Z6 {l : List RoofR} (Z : List SetR) {k : Nat} (hk : k <= l.length) : (frL l Z k).length = k * 2 := by
 unfold frL
 rw [List.length_map, B6 _ (Pb l _ Z), List.length_map, List.length_take];omega
theorem Z7 (l : List RoofR) (Z : List SetR) : OwnRows (frL l Z l.length) 0 l.length 2 (l.map fun x => frR (brQ l Z x)) := by
 unfold frL
 rw [List.take_length]
 have := OwnRows.of (l.map fun x => frR (brQ l Z x)).flatten (Pb l l Z) rfl
 rw [List.length_map] at this
 exact this
set_option maxRecDepth 20000 in
set_option maxHeartbeats 64000000 in
theorem Vq (l : List RoofR) (hl : l.length <= 20) (Z : List SetR) (hZ : Z.length <= 5) (hw : ∀ s ∈ Z, 0 <= ptW s /\ ptW s <= 67108864) (hc : ∀ s ∈ Z, 0 < Ap l s.depth) : Fn0 Tryz.prog 105 [.sl (l.map RoofR.row), .sl (Z.map ldR)] (.tup [.sl (l.map fun x => frR (brQ l Z x)), .i 0]) := by
 have hle : (Z.map ldR).length = Z.length := List.length_map _
 have hle2 : (l.map RoofR.row).length = l.length := List.length_map _
 have co := Vp 0
 refine Fn0.of Tryz.func105 Tryz.ntmps105 rfl rfl rfl ?_
 simp only [A0]
 repeat' (first
  | refine W ?_
  | refine Y ?_
  | refine V ?_
  | (refine W2 ?_ ?_ <;> intro hc))
 refine T.loopS (fun k => k <= Z.length) (fun k => Z.length - k) (fun k => [(6, .i (k : Nat)), (0, .sl (l.map RoofR.row)), (1, .sl (Z.map ldR))]) (fun k => []) 0 (Nat.zero_le _) CW .nil ?_
 intro k hk
 by_cases hlt : k < Z.length
 ·have h3 : ((k : Nat) : Int) < ((Z.map ldR).length : Nat) := by omega
  obtain ⟨s, hs⟩ := Aa hlt
  have hb := Ab (R := ldR) hs
  have cc := Ga l s.depth hl
  have h4 : ¬ ((Ap l s.depth : Nat) : Int) = 0 := by have := hc s (List.mem_of_getElem? hs);omega
  repeat' (first
   | refine W ?_
   | (apply S.indexR;(iterate 3 exact rfl);exact hb;omega;exact rfl) | refine Y ?_|refine Za ?_
   | refine V ?_
   | (refine W2 ?_ ?_ <;> intro hc))
  all_goals (change Next _ _ _ _ _ _)
  all_goals exact Next.go (k + 1) (by omega) (by omega) CW .nil
 have h3 : ¬ ((k : Nat) : Int) < ((Z.map ldR).length : Nat) := by omega
 repeat' (first
  | refine W ?_
  | refine Y ?_
  | refine V ?_
  | (refine W2 ?_ ?_ <;> intro hc))
 refine T.kill 0 ?_
 clear h3 hlt hk
 refine T.loopS (fun i => i <= l.length) (fun i => l.length - i) (fun i => [(8, .i (i : Nat)), (7, rT 0 2 i), (0, .sl (l.map RoofR.row)), (1, .sl (Z.map ldR))]) (fun i => [rB (frL l Z i) i]) 0 (Nat.zero_le _) CW (.dead .nil) ?_
 intro i hi
 by_cases hit : i < l.length
 ·have h1 : ((i : Nat) : Int) < ((l.map RoofR.row).length : Nat) := by omega
  obtain ⟨x, hx⟩ := Aa hit
  have hbx := Ab (R := RoofR.row) hx
  have hS := Xf (Z := Z) hx
  have hcl := Z6 Z hi
  have hfit := fun k hk => Mf (List.mem_of_getElem? hx) hl hw hZ (k := k) hk
  rcases Nat.eq_zero_or_pos i with h0 | hpos
  ·subst h0
   repeat' (first
    | refine W ?_
    | refine Y ?_
    | refine V ?_
    | (refine W2 ?_ ?_ <;> intro hc))
   refine T.loopS (fun k => k <= Z.length) (fun k => Z.length - k) (fun k => [(10, .i (k : Nat)), (9, .ptr 1 0), (8, .i (0 : Nat)), (7, .val (.slice none 0 0)), (0, .sl (l.map RoofR.row)), (1, .sl (Z.map ldR))]) (fun k => [.dead, .live ((frR (brQ l (Z.take k) x)).map .lf)]) 0 (Nat.zero_le _) CW CH ?_
   intro k hk
   by_cases hkt : k < Z.length
   ·have h3 : ((k : Nat) : Int) < ((Z.map ldR).length : Nat) := by omega
    obtain ⟨s, hs⟩ := Aa hkt
    have hb := Ab (R := ldR) hs
    have hsm := List.mem_of_getElem? hs
    have hld : ldR s = [.i s.depth, .i (ptW s)] := rfl
    have ci := Q2 x s.depth
    have cc := Ga l s.depth hl
    have hpos2 := hc s hsm
    have hcl2 := D6 l s.depth
    have hwt := hw s hsm
    have hsn := Gy (l := l) x hs
    have f0 := hfit k (by omega)
    have f1 := hfit (k + 1) (by omega)
    by_cases ho : ovR x s.depth
    ·rw [decide_eq_true ho] at ci
     rw [if_pos ho] at hsn
     have hsh := Ht hl hwt hpos2
     have cm := Pz (ptW s) (Ap l s.depth : Nat) (by omega) (by omega) (by omega) (by omega) (by omega) hsh
     have hshq : Aq (ptW s) (Ap l s.depth : Nat) = shQ l s := rfl
     rw [hshq] at cm
     rw [hsn] at f1
     have cad := Py _ _ f0 hsh f1
     generalize hq : brQ l (Z.take k) x = q at *
     generalize shQ l s = sh at *
     repeat' (first
      | refine W ?_
      | (apply S.indexR;(iterate 3 exact rfl);exact hbx;omega;exact rfl)|(apply S.indexR;(iterate 3 exact rfl);exact hb;omega;exact rfl) | refine Y ?_|(apply T.drawN 3 11 A3 (by decide +kernel);simp only [td])|(apply T.drawRN 3 11 A3 (by decide +kernel);simp only [td])|(apply T.drawN 2 13 A3 (by decide +kernel);simp only [td])|(apply T.drawRN 2 13 A3 (by decide +kernel);simp only [td])|(apply T.drawAll A3 (by decide +kernel))|refine Za ?_
      | refine V ?_
      | (refine W2 ?_ ?_ <;> intro hc))
     all_goals (change Next _ _ _ _ _ _)
     all_goals exact Next.go (k + 1) (by omega) (by omega) CW (by rw [hsn];exact .dead (.live rfl .nil))
    ·rw [decide_eq_false ho] at ci
     rw [if_neg ho] at hsn
     repeat' (first
      | refine W ?_
      | (apply S.indexR;(iterate 3 exact rfl);exact hbx;omega;exact rfl)|(apply S.indexR;(iterate 3 exact rfl);exact hb;omega;exact rfl) | refine Y ?_|(apply T.drawN 3 11 A3 (by decide +kernel);simp only [td])|(apply T.drawRN 3 11 A3 (by decide +kernel);simp only [td])|(apply T.drawAll A3 (by decide +kernel))|refine Za ?_
      | refine V ?_
      | (refine W2 ?_ ?_ <;> intro hc))
     all_goals (change Next _ _ _ _ _ _)
     all_goals exact Next.go (k + 1) (by omega) (by omega) CW (by rw [hsn];exact .dead (.live rfl .nil))
   have h3 : ¬ ((k : Nat) : Int) < ((Z.map ldR).length : Nat) := by omega
   rw [List.take_of_length_le (by omega)]
   repeat' (first
    | refine W ?_
    | refine Y ?_|(apply S.buildSlice1;(iterate 7 exact rfl))|(apply S.appendN 0 (rows := []);(iterate 8 exact rfl);exact Ad rfl;exact rfl;exact Nat.le_of_ble_eq_true rfl;exact Nat.le_of_ble_eq_true rfl)|refine Za ?_
    | refine V ?_
    | (refine W2 ?_ ?_ <;> intro hc))
   all_goals (change Next _ _ _ _ _ _)
   all_goals exact Next.go (1) (by omega) (by omega) CW (by
    show CovH _ _ [.live (frL l Z (0 + 1))]
    rw [hS];exact .live rfl .nil)
  ·rw [By hpos, Bx hpos]
   repeat' (first
    | refine W ?_
    | refine Y ?_
    | refine V ?_
    | (refine W2 ?_ ?_ <;> intro hc))
   refine T.loopS (fun k => k <= Z.length) (fun k => Z.length - k) (fun k => [(10, .i (k : Nat)), (9, .ptr 1 0), (8, .i (i : Nat)), (7, .own 0 0 i 2), (0, .sl (l.map RoofR.row)), (1, .sl (Z.map ldR))]) (fun k => [.live (frL l Z i), .live ((frR (brQ l (Z.take k) x)).map .lf)]) 0 (Nat.zero_le _) CW (.live (Aw _ _) (.live rfl .nil)) ?_
   intro k hk
   by_cases hkt : k < Z.length
   ·have h3 : ((k : Nat) : Int) < ((Z.map ldR).length : Nat) := by omega
    obtain ⟨s, hs⟩ := Aa hkt
    have hb := Ab (R := ldR) hs
    have hsm := List.mem_of_getElem? hs
    have hld : ldR s = [.i s.depth, .i (ptW s)] := rfl
    have ci := Q2 x s.depth
    have cc := Ga l s.depth hl
    have hpos2 := hc s hsm
    have hcl2 := D6 l s.depth
    have hwt := hw s hsm
    have hsn := Gy (l := l) x hs
    have f0 := hfit k (by omega)
    have f1 := hfit (k + 1) (by omega)
    by_cases ho : ovR x s.depth
    ·rw [decide_eq_true ho] at ci
     rw [if_pos ho] at hsn
     have hsh := Ht hl hwt hpos2
     have cm := Pz (ptW s) (Ap l s.depth : Nat) (by omega) (by omega) (by omega) (by omega) (by omega) hsh
     have hshq : Aq (ptW s) (Ap l s.depth : Nat) = shQ l s := rfl
     rw [hshq] at cm
     rw [hsn] at f1
     have cad := Py _ _ f0 hsh f1
     generalize hq : brQ l (Z.take k) x = q at *
     generalize shQ l s = sh at *
     repeat' (first
      | refine W ?_
      | (apply S.indexR;(iterate 3 exact rfl);exact hbx;omega;exact rfl)|(apply S.indexR;(iterate 3 exact rfl);exact hb;omega;exact rfl) | refine Y ?_|(apply T.drawN 3 11 A3 (by decide +kernel);simp only [td])|(apply T.drawRN 3 11 A3 (by decide +kernel);simp only [td])|(apply T.drawN 2 13 A3 (by decide +kernel);simp only [td])|(apply T.drawRN 2 13 A3 (by decide +kernel);simp only [td])|(apply T.drawAll A3 (by decide +kernel))|refine Za ?_
      | refine V ?_
      | (refine W2 ?_ ?_ <;> intro hc))
     all_goals (change Next _ _ _ _ _ _)
     all_goals exact Next.go (k + 1) (by omega) (by omega) CW (by rw [hsn];exact .live (Aw _ _) (.live rfl .nil))
    ·rw [decide_eq_false ho] at ci
     rw [if_neg ho] at hsn
     repeat' (first
      | refine W ?_
      | (apply S.indexR;(iterate 3 exact rfl);exact hbx;omega;exact rfl)|(apply S.indexR;(iterate 3 exact rfl);exact hb;omega;exact rfl) | refine Y ?_|(apply T.drawN 3 11 A3 (by decide +kernel);simp only [td])|(apply T.drawRN 3 11 A3 (by decide +kernel);simp only [td])|(apply T.drawAll A3 (by decide +kernel))|refine Za ?_
      | refine V ?_
      | (refine W2 ?_ ?_ <;> intro hc))
     all_goals (change Next _ _ _ _ _ _)
     all_goals exact Next.go (k + 1) (by omega) (by omega) CW (by rw [hsn];exact .live (Aw _ _) (.live rfl .nil))
   have h3 : ¬ ((k : Nat) : Int) < ((Z.map ldR).length : Nat) := by omega
   rw [List.take_of_length_le (by omega)]
   repeat' (first
    | refine W ?_
    | refine Y ?_|(apply S.buildSlice1;(iterate 7 exact rfl))|(apply S.appendO;(iterate 8 exact rfl);exact hcl;exact Ad rfl;exact rfl;exact B8 _ _;simp only [List.length_cons, List.length_nil];omega;simp only [List.length_cons, List.length_nil];omega)|refine Za ?_
    | refine V ?_
    | (refine W2 ?_ ?_ <;> intro hc))
   all_goals (change Next _ _ _ _ _ _)
   all_goals exact Next.go (i + 1) (by omega) (by omega) CW (by
    show CovH _ _ [.live (frL l Z (i + 1))]
    rw [hS];exact .live (by unfold frL;rw [<- List.map_append];exact Aw _ _) .nil)
 have h1 : ¬ ((i : Nat) : Int) < ((l.map RoofR.row).length : Nat) := by omega
 obtain rfl : i = l.length := by omega
 rcases Nat.eq_zero_or_pos l.length with h0 | hpos
 ·obtain rfl : l = [] := List.eq_nil_of_length_eq_zero h0
  repeat' (first
   | refine W ?_
   | refine Y ?_|(refine T.nilU 4 rfl ?_;apply T.ret;change Cb _ _ _ _ _)
   | refine V ?_
   | (refine W2 ?_ ?_ <;> intro hc))
  all_goals exact D2 rfl rfl rfl
 ·rw [By hpos, Bx hpos]
  repeat' (first
   | refine W ?_
   | refine Y ?_
   | refine V ?_
   | (refine W2 ?_ ?_ <;> intro hc))
  all_goals exact ⟨.inr rfl, [.own 0 0 l.length 2, .i 0], .cons (.tmp rfl) (.cons (.tmp rfl) .nil), .tup (.cons (.one (.own rfl (Z7 l Z))) (.cons (.one (.lf _)) .nil))⟩
end Go.Proofs.YtcfjofhapbkmfaaGreatDoor
