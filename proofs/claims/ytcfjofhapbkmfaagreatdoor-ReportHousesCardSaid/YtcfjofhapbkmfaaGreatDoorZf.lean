/- Contracts: grid.Loads, house.Loads, house.Order. No conditions but those of each statement. -/
import Derived.Test.YtcfjofhapbkmfaaGreatDoorZd
import Derived.Test.YtcfjofhapbkmfaaGreatDoorZe
import Derived.Test.YtcfjofhapbkmfaaGreatDoorYj
set_option linter.unusedSimpArgs false
set_option linter.unusedVariables false
namespace Go.Proofs.YtcfjofhapbkmfaaGreatDoor
open Go Go.RowKit
set_option maxHeartbeats 4000000 in
theorem Of {α : Type} (l : List α) (R : α -> List Lf) (p : α -> Prop) [DecidablePred p] (g : FuncId) (caps : List AV) (hR : ∀ x, (R x).length = 2) (hl : l.length <= 9223372036854775807) (hcaps : caps.all AV.cap = true) (hg : ∀ x ∈ l, Fn0 Tryz.prog g (.agg ((R x).map .lf) :: caps) (.b (decide (p x)))) :
  Fn0 Tryz.prog 224 [.sl (l.map R), .fn (.func g) [] caps] (.i (idx p l)) := by
 refine Fn0.of Tryz.func224 Tryz.ntmps224 rfl rfl rfl ?_
 simp only [A0]
 repeat' (first
  | refine W ?_

  | refine V ?_
  | (refine W2 ?_ ?_ <;> intro hc))
 refine T.loopS (fun k => k <= l.length /\ ∀ x ∈ l.take k, ¬ p x) (fun k => l.length - k) (fun k => [(8, .i k), (7, .i (l.map R).length), (0, .sl (l.map R)), (1, .fn (.func g) [] caps)]) (fun _ => []) 0 ⟨Nat.zero_le _, by simp⟩ (.cons rfl rfl (.cons rfl rfl (.cons rfl rfl (.cons rfl (As hcaps) .nil)))) .nil ?_
 rintro k ⟨hk, hno⟩
 have hle : (l.map R).length = l.length := List.length_map _
 by_cases hlt : k < l.length
 ·have h1 : (k : Int) < ((l.map R).length : Nat) := by omega
  obtain ⟨x, hx⟩ : ∃ x, l[k]? = some x := ⟨l[k], List.getElem?_eq_getElem hlt⟩
  have hb : (l.map R)[((k : Nat) : Int).toNat]? = some (R x) := by rw [Int.toNat_natCast, List.getElem?_map, hx];rfl
  have hx2 := hg x (List.mem_of_getElem? hx)
  repeat' (first
   | refine W ?_
   | (apply S.indexR;(iterate 3 exact rfl);exact hb;omega;exact hR x)|(apply S.loadRW;(iterate 3 exact rfl);exact hR x)|(apply S.callF;exact rfl;exact rfl;exact hx2;exact Cy hcaps;exact rfl)|refine Za ?_
   | refine V ?_
   | (refine W2 ?_ ?_ <;> intro hc))
  all_goals first
   | exact Next.go (k + 1) ⟨by omega, by rw [List.take_add_one, hx];intro y hy;rcases List.mem_append.1 hy with hy | hy;exact hno y hy;obtain rfl : y = x := (by simpa using hy);assumption⟩ (by omega) (.cons rfl rfl (.cons rfl rfl (.cons rfl rfl (.cons rfl (As hcaps) .nil)))) .nil
   | exact A7 (by simp) Tryz.results224 rfl (by rw [Du hx hno (by assumption)])
 ·have h1 : ¬ (k : Int) < ((l.map R).length : Nat) := by omega
  repeat' (first
   | refine W ?_

   | refine V ?_
   | (refine W2 ?_ ?_ <;> intro hc))
  exact A7 (by simp) Tryz.results224 rfl (by rw [Cj (by rw [List.take_of_length_le (by omega)] at hno;exact hno)])
set_option maxHeartbeats 4000000 in
theorem Ka {α : Type} (l : List α) (R : α -> List Lf) (p : α -> Prop) [DecidablePred p] (g : FuncId) (caps : List AV) (hR : ∀ x, (R x).length = 2) (hl : l.length <= 9223372036854775807) (hcaps : caps.all AV.cap = true) (hg : ∀ x ∈ l, Fn0 Tryz.prog g (.agg ((R x).map .lf) :: caps) (.b (decide (p x)))) :
  Fn0 Tryz.prog 165 [.sl (l.map R), .fn (.func g) [] caps] (.b (decide (∃ x ∈ l, p x))) := by
 refine Fn0.of Tryz.func165 Tryz.ntmps165 rfl rfl rfl ?_
 simp only [A0]
 repeat' (first
  | refine W ?_
  | (apply S.call;exact rfl;exact Gh hcaps;exact Of l R p g caps hR hl hcaps hg;exact rfl)
  | refine V ?_
  | (refine W2 ?_ ?_ <;> intro hc))
 all_goals exact A7 (by simp) Tryz.results165 rfl (by rw [Ie p l])
theorem Qr (s : SetR) (h : Bf s) (hp : ptW s <= 67108864) : Fn0 Tryz.prog 166 [A6 (ldR s)] (.b (decide False)) := by
 have cw := Jh s.depth
 have h1 := h.2.1
 have h2 := (G9 h).1
 rw [decide_eq_true (show 0 <= s.depth /\ s.depth <= 1048576 from h1)] at cw
 have n1 : ¬ ptW s < 0 := by omega
 have n2 : ¬ ptW s > 67108864 := by omega
 refine Fn0.of Tryz.func166 Tryz.ntmps166 rfl rfl rfl ?_
 simp only [A0]
 repeat' (first
  | refine W ?_
  | refine Y ?_
  | refine V ?_
  | (refine W2 ?_ ?_ <;> intro hc))
 all_goals exact A7 (by simp) Tryz.results166 rfl (by simp;exact hp)
theorem Ld (l : List RoofR) (hr : G1 l) (Z : List SetR) (hZ : Z.length <= 1000) (hs : ∀ s ∈ Z, Bf s) (hp : ∀ s ∈ Z, ptW s <= 67108864) : Fn0 Tryz.prog 110 [.sl (l.map RoofR.row), .sl (Z.map ldR)] (.i 0) := by
 have cv := Lh l (by have := hr.1;omega)
 rw [decide_eq_true hr] at cv
 have hle2 : (Z.map ldR).length = Z.length := List.length_map _
 have n1 : ¬ (((Z.map ldR).length : Nat) : Int) > 1000 := by omega
 have cc := Ka Z ldR (fun _ => False) 166 [] (fun _ => rfl) (by omega) rfl fun s h => Qr s (hs s h) (hp s h)
 rw [decide_eq_false (fun ⟨_, _, h⟩ => h)] at cc
 refine Fn0.of Tryz.func110 Tryz.ntmps110 rfl rfl rfl ?_
 simp only [A0]
 repeat' (first
  | refine W ?_
  | refine Y ?_
  | refine V ?_
  | (refine W2 ?_ ?_ <;> intro hc))
 all_goals exact A7 (by simp) Tryz.results110 rfl rfl
theorem Lg (l : List RoofR) (hr : G1 l) (Z : List SetR) (hZ : Z.length <= 1000) (hs : ∀ s ∈ Z, Bf s) (hp : ∀ s ∈ Z, ptW s <= 67108864) (hn : ∃ s ∈ Z, Ap l s.depth = 0) : Fn0 Tryz.prog 58 [.sl (l.map RoofR.row), .sl (Z.map ldR)] (.tup [.sl [], .i 12]) := by
 have c1 := Ld l hr Z hZ hs hp
 have c2 := Lc l hr.1 Z hZ hn
 refine Fn0.of Tryz.func58 Tryz.ntmps58 rfl rfl rfl ?_
 simp only [A0]
 repeat' (first
  | refine W ?_
  | refine Y ?_
  | refine V ?_
  | (refine W2 ?_ ?_ <;> intro hc))
 all_goals exact D2 rfl rfl rfl
theorem Wj {l : List RoofR} {Z : List SetR} (hc : ∀ s ∈ Z, 0 < Ap l s.depth) (h0 : ¬ 0 < l.length) : Z = [] := by
 cases Z with
 | nil => rfl
 | cons s r =>
  have h1 := hc s (by simp)
  have h2 := D6 l s.depth
  omega
set_option maxHeartbeats 4000000 in
theorem Qq : Fn0 Tryz.prog 111 [.sl [], .sl []] (.tup [.sl [], .i 0]) := by
 have co := Mm 0
 have cr := O4
 refine Fn0.of Tryz.func111 Tryz.ntmps111 rfl rfl rfl ?_
 simp only [A0]
 repeat' (first
  | refine W ?_
  | refine Y ?_|(apply S.buildSlice1;(iterate 7 exact rfl))|(refine T.unroll ?_)|(refine TL.round ?_)|(dsimp only [Au, Ae];refine TL.round ?_)
  | refine V ?_
  | (refine W2 ?_ ?_ <;> intro hc))
 all_goals exact ⟨.inr rfl, [.sl [], .i 0], .cons (.cell rfl rfl rfl Tryz.underlying59 rfl) (.cons (.cell rfl rfl rfl Tryz.underlying28 rfl) .nil), .tup (.cons (.one (.lf _)) (.cons (.one (.lf _)) .nil))⟩
theorem Ss (l : List RoofR) (hr : G1 l) (Z : List SetR) (hZ : Z.length <= 5) (hs : ∀ s ∈ Z, Bf s) (hp : ∀ s ∈ Z, ptW s <= 67108864) (hc : ∀ s ∈ Z, 0 < Ap l s.depth) : Fn0 Tryz.prog 58 [.sl (l.map RoofR.row), .sl (Z.map ldR)] (.tup [.sl (l.map fun x => frR (brQ l Z x)), .i 0]) := by
 have c1 := Ld l hr Z (by omega) hs hp
 have c2 : Fn0 Tryz.prog 111 [.sl (l.map RoofR.row), .sl (Z.map ldR)] (.tup [.sl (l.map fun x => frR (brQ l Z x)), .i 0]) := by
  by_cases h0 : 0 < l.length
  ·exact Sr l hr.1 h0 Z hZ (fun s h => ⟨(G9 (hs s h)).1, hp s h⟩) hc
  ·obtain rfl := Wj hc h0
   obtain rfl : l = [] := List.eq_nil_of_length_eq_zero (by omega)
   exact Qq
 generalize l.map (fun x => frR (brQ l Z x)) = rs at *
 refine Fn0.of Tryz.func58 Tryz.ntmps58 rfl rfl rfl ?_
 simp only [A0]
 repeat' (first
  | refine W ?_
  | refine Y ?_
  | refine V ?_
  | (refine W2 ?_ ?_ <;> intro hc))
 all_goals exact D2 rfl rfl rfl
/-! ### house.Order -/
theorem Iy {h : HouseR} {i : Nat} {s : SetR} (hs : h.sets[i]? = some s) : Ak h i = s.depth := by unfold Ak;rw [hs];rfl
set_option maxHeartbeats 4000000 in
theorem Z9 (h : HouseR) (hp : Az h) (n x y : Nat) (hn : n = h.sets.length) (hx : x < n) (hy : y < n) : Fn0 Tryz.prog 56 [.i x, .i y, .rop h.row] (.i (Ak h x - Ak h y)) := by
 obtain ⟨a, ha⟩ := Aa (l := h.sets) (k := x) (by omega)
 obtain ⟨b, hb⟩ := Aa (l := h.sets) (k := y) (by omega)
 have b1 := Ab (R := SetR.row) ha
 have b2 := Ab (R := SetR.row) hb
 have d1 := (hp.2.2.2.2.2.1 a (List.mem_of_getElem? ha)).1.2.1
 have d2 := (hp.2.2.2.2.2.1 b (List.mem_of_getElem? hb)).1.2.1
 rw [Iy ha, Iy hb]
 refine Fn0.of Tryz.func56 Tryz.ntmps56 rfl rfl rfl ?_
 simp only [A0]
 repeat' (first
  | refine W ?_
  | refine Y ?_|(apply S.indexR;(iterate 3 exact rfl);exact b1;omega;exact rfl)|(apply S.indexR;(iterate 3 exact rfl);exact b2;omega;exact rfl)|refine Za ?_|(apply T.drawAll A3 (by decide +kernel))|(apply T.draw 13 A3 (by decide +kernel);simp only [td])|(apply T.drawR 14 A3 (by decide +kernel);simp only [td])
  | refine V ?_
  | (refine W2 ?_ ?_ <;> intro hc))
 all_goals exact A7 (by simp) Tryz.results56 rfl rfl
set_option maxHeartbeats 4000000 in
theorem Oc (h : HouseR) (hf : h.fits) (hp : ¬ Az h) : Fn0 Tryz.prog 20 [A6 h.row] (.tup [.sl [], .i 1]) := by
 have cv := Ez h hf
 rw [decide_eq_false hp] at cv
 refine Fn0.of Tryz.func20 Tryz.ntmps20 rfl rfl rfl ?_
 simp only [A0]
 repeat' (first
  | refine W ?_
  | refine Y ?_|(refine T.nilU 2 rfl ?_;apply T.ret;change Cb _ _ _ _ _)
  | refine V ?_
  | (refine W2 ?_ ?_ <;> intro hc))
 all_goals exact D2 rfl rfl rfl
set_option maxHeartbeats 16000000 in
theorem Od (h : HouseR) (hf : h.fits) (hp : Az h) (hn : h.sets.length = 0) : Fn0 Tryz.prog 20 [A6 h.row] (.tup [.sl [], .i 0]) := by
 have cv := Ez h hf
 rw [decide_eq_true hp] at cv
 have hle : (h.sets.map SetR.row).length = h.sets.length := List.length_map _
 have h0 : ¬ (0 : Int) < ((h.sets.map SetR.row).length : Nat) := by omega
 refine Fn0.of Tryz.func20 Tryz.ntmps20 rfl rfl rfl ?_
 simp only [A0]
 repeat' (first
  | refine W ?_
  | refine Y ?_|(apply S.lenN;exact rfl;exact rfl)|(refine T.unroll ?_)|(refine TL.round ?_)|(dsimp only [Au, Ae];refine TL.round ?_)|(apply S.arith;(iterate 4 exact rfl);decide)|(refine ⟨by first | exact .inl rfl | exact .inr rfl, [], .nil, rfl, ?_⟩;show Reg none _ _ _ _ _ _ _)|(refine S.inline [(4, .val (.slice none 0 0))] Tryz.func55 Tryz.ntmps55 rfl rfl rfl rfl rfl rfl rfl CW rfl ?_;intro vs1;simp only [A0, List.cons_append, List.nil_append])|(refine S.inline [] Tryz.func108 Tryz.ntmps108 rfl rfl rfl rfl rfl rfl rfl CW rfl ?_;intro vs2;simp only [A0, List.cons_append, List.nil_append])|(refine S.inline [(6, .i 20), (1, .i 0)] Tryz.func161 Tryz.ntmps161 rfl rfl rfl rfl rfl rfl rfl CW rfl ?_;intro vs3;simp only [A0, List.cons_append, List.nil_append])|(refine T.nilU 2 rfl ?_;apply T.ret;change Cb _ _ _ _ _)
  | refine V ?_
  | (refine W2 ?_ ?_ <;> intro hc))
 all_goals exact D2 rfl rfl rfl
set_option maxRecDepth 20000 in
set_option maxHeartbeats 64000000 in
theorem Uv (h : HouseR) (hf : h.fits) (hp : Az h) (n : Nat) (hcn : h.sets.length = n) (hn0 : 0 < n) (hn : n <= 19) : Fn0 Tryz.prog 20 [A6 h.row] (.tup [.sl ((iN (Ac (Ak h) n)).map A8), .i 0]) := by
 have cv := Ez h hf
 rw [decide_eq_true hp] at cv
 have hle : (h.sets.map SetR.row).length = n := by rw [List.length_map, hcn]
 have hcmp := fun x y hx hy => Z9 h hp n x y hcn.symm hx hy
 obtain ⟨key, hkey⟩ : ∃ key, key = Ak h := ⟨_, rfl⟩
 rw [<- hkey] at hcmp ⊢
 have h20 : ¬ (20 : Int) <= (n : Nat) := by omega
 have h20b : ¬ (20 : Int) < (n : Nat) := by omega
 refine Fn0.of Tryz.func20 Tryz.ntmps20 rfl rfl rfl ?_
 simp only [A0]
 repeat' (first
  | refine W ?_
  | refine Y ?_
  | refine V ?_
  | (refine W2 ?_ ?_ <;> intro hc))
 refine T.kill 1 ?_
 refine T.loopS (fun k => k <= n) (fun k => n - k) (fun k => [(12, .i (k : Nat)), (11, .i (h.sets.map SetR.row).length), (1, .ptr 0 0), (4, rT 1 1 k)]) (fun k => [.live (h.row.map .lf), rB (Ba (upL k)) k]) 0 (Nat.zero_le _) CW CH ?_
 intro k hk
 by_cases hlt : k < n
 ·have h1 : ((k : Nat) : Int) < ((h.sets.map SetR.row).length : Nat) := by omega
  rcases Nat.eq_zero_or_pos k with h0 | hpos
  ·subst h0
   repeat' (first
    | refine W ?_
    | refine Y ?_|(apply S.buildSlice1;(iterate 7 exact rfl))|(apply S.appendN 1 (rows := []);(iterate 8 exact rfl);exact Ad rfl;exact rfl;exact Nat.le_of_ble_eq_true rfl;exact Nat.le_of_ble_eq_true rfl)|refine Za ?_
    | refine V ?_
    | (refine W2 ?_ ?_ <;> intro hc))
   all_goals (change Next _ _ _ _ _ _)
   all_goals exact Next.go 1 (by omega) (by omega) CW CH
  ·rw [By hpos, Bx hpos]
   have hul : (Ba (upL k)).length = k * 1 := by rw [L2, Zv, Nat.mul_one]
   have hus : Ba (upL (k + 1)) = Ba (upL k) ++ ([A8 (k : Int)].flatten).map AV.lf := by rw [Yp];simp [Ba]
   repeat' (first
    | refine W ?_
    | refine Y ?_|(apply S.buildSlice1;(iterate 7 exact rfl))|(apply S.appendO;(iterate 8 exact rfl);exact hul;exact Ad rfl;exact rfl;exact B8 _ _;simp only [List.length_cons, List.length_nil];omega;simp only [List.length_cons, List.length_nil];omega)|refine Za ?_
    | refine V ?_
    | (refine W2 ?_ ?_ <;> intro hc))
   all_goals (change Next _ _ _ _ _ _)
   all_goals exact Next.go (k + 1) (by omega) (by omega) CW (by show CovH _ _ [_, .live (Ba (upL (k + 1)))];rw [hus];exact .live rfl (.live (by rw [<- List.map_append];exact Aw _ _) .nil))
 obtain rfl : n = k := by omega
 have h1 : ¬ ((n : Nat) : Int) < ((h.sets.map SetR.row).length : Nat) := by omega
 rw [By hn0, Bx hn0]
 rw [show Ba (upL n) = iA (iN (List.range n)) from (Ph _).symm]
 clear cv
 repeat' (first
  | refine W ?_
  | refine Y ?_|(refine T.unroll (N := Tryz.f108.ntmps) ?_)|(refine TL.round ?_)|(dsimp only [Au, Ae];refine TL.round ?_)|(refine ⟨by first | exact .inl rfl | exact .inr rfl, [], .nil, rfl, ?_⟩;show Reg none _ _ _ _ _ _ _)|(refine S.inline [(4, .own 1 0 n 1)] Tryz.func55 Tryz.ntmps55 rfl rfl rfl rfl rfl rfl rfl CW rfl ?_;intro vs1;simp only [A0, List.cons_append, List.nil_append])|(refine S.inline [] Tryz.func108 Tryz.ntmps108 rfl rfl rfl rfl rfl rfl rfl CW rfl ?_;intro vs2;simp only [A0, List.cons_append, List.nil_append])|(refine S.inline [(6, .i 20), (1, .i n)] Tryz.func161 Tryz.ntmps161 rfl rfl rfl rfl rfl rfl rfl CW rfl ?_;intro vs3;simp only [A0, List.cons_append, List.nil_append])|refine Za ?_
  | refine V ?_
  | (refine W2 ?_ ?_ <;> intro hc))
 refine T.loopS (fun i : Nat => 1 <= i /\ i <= n) (fun i => n - i) (fun i => [(0, .own 1 0 n 1), (1, .i 0), (2, .i n), (3, .fn (.func 56) [] [.ptr 0 0]), (8, .i (i : Nat))]) (fun i => [.live (h.row.map .lf), .live (iA (iN (Ac key i ++ Bq n i))), .gho ([.own 1 0 n 1]) vs1, .gho [] vs2, .gho [.i 20, .i n] vs3]) 1 ⟨Nat.le_refl _, by omega⟩ CW (by rw [show Ac key 1 ++ Bq n 1 = List.range n from Zm key hn0];exact .live rfl (.live (Fx _ _) (.gho rfl (.gho rfl (.gho rfl .nil))))) ?_
 rintro i ⟨hi1, hin⟩
 by_cases hlt : i < n
 ·have h1 : ((i : Nat) : Int) < (n : Nat) := by omega
  have hpl := Bk key i
  repeat' (first
   | refine W ?_
   | refine Y ?_|refine Za ?_
   | refine V ?_
   | (refine W2 ?_ ?_ <;> intro hc))
  refine T.loopS (fun a : InsS => (Ac key i).reverse = a.B.reverse ++ a.A /\ Cc key i (Ac key i).reverse = a.B.reverse ++ Cc key i a.A) (fun a => a.A.length) (fun a => [(0, .own 1 0 n 1), (1, .i 0), (2, .i n), (3, .fn (.func 56) [] [.ptr 0 0]), (8, .i (i : Nat)), (9, .i (a.A.length : Nat))]) (fun a => [.live (h.row.map .lf), .live (iA (iN (a.A.reverse ++ i :: (a.B ++ Bq n (i + 1))))), .gho ([.own 1 0 n 1]) vs1, .gho [] vs2, .gho [.i 20, .i n] vs3]) ⟨(Ac key i).reverse, []⟩ ⟨rfl, rfl⟩ (by rw [List.length_reverse, hpl];exact CW) (by rw [List.reverse_reverse, List.nil_append, <- M8 hlt];exact .live rfl (.live (Fx _ _) (.gho rfl (.gho rfl (.gho rfl .nil))))) ?_
  rintro ⟨A, B⟩ ⟨q1, q2⟩
  dsimp only at q1 q2 ⊢
  have hAB : A.length <= i := by
   have := congrArg List.length q1
   rw [List.length_reverse, hpl, List.length_append, List.length_reverse] at this
   omega
  have hBl : A.length + B.length = i := by
   have := congrArg List.length q1
   rw [List.length_reverse, hpl, List.length_append, List.length_reverse] at this
   omega
  cases A with
  | nil =>
   have g1 : ¬ (((([] : List Nat).length : Nat)) : Int) > 0 := by simp
   have hend : iN (([] : List Nat).reverse ++ i :: (B ++ Bq n (i + 1))) = iN (Ac key (i + 1) ++ Bq n (i + 1)) := by
    rw [show Ac key (i + 1) = (Cc key i (Ac key i).reverse).reverse from rfl, q2]
    simp [Cc]
   rw [hend]
   repeat' (first
    | refine W ?_
    | refine Y ?_|(apply T.drawN 5 17 A3 (by decide +kernel);simp only [td])|(apply T.drawRN 5 17 A3 (by decide +kernel);simp only [td])|refine Za ?_
    | refine V ?_
    | (refine W2 ?_ ?_ <;> intro hc))
   all_goals (change Next _ _ _ _ _ _)
   all_goals exact Next.go (i + 1) ⟨by omega, by omega⟩ (by omega) CW (.live rfl (.live (Fx _ _) (.gho rfl (.gho rfl (.gho rfl .nil)))))
  | cons a r =>
   rw [List.length_cons]
   have hr1 : r.length + 1 <= i := hAB
   have g1 : (((r.length + 1 : Nat) : Nat) : Int) > 0 := by omega
   have hai : a < n := by
    have : a ∈ (Ac key i).reverse := by rw [q1];simp
    rw [List.mem_reverse, ordP_mem] at this
    omega
   have ce : (iN ((a :: r).reverse ++ i :: (B ++ Bq n (i + 1))))[r.length + 1]? = some (i : Int) := Zd r a i _
   have ca : (iN ((a :: r).reverse ++ i :: (B ++ Bq n (i + 1))))[r.length]? = some (a : Int) := Zb r a i _
   have cc := hcmp i a hlt hai
   by_cases hk : key i < key a
   ·have hk2 : key i - key a < 0 := by omega
    have hs : iN (r.reverse ++ i :: ((a :: B) ++ Bq n (i + 1))) = _ := (Xq r a i (B ++ Bq n (i + 1))).symm
    have hlen : (iN ((a :: r).reverse ++ i :: (B ++ Bq n (i + 1)))).length = n := by
     rw [iN, List.length_map, List.length_append, List.length_cons, List.length_append, List.length_reverse, Bq, List.length_drop, List.length_range]
     simp only [List.length_cons] at hBl ⊢
     omega
    have hi2 : Cc key i (a :: r) = a :: Cc key i r := by rw [Cc, if_pos hk]
    generalize iN ((a :: r).reverse ++ i :: (B ++ Bq n (i + 1))) = D at *
    repeat' (first
     | refine W ?_
     | refine Y ?_|(refine T.ordersR (N := Tryz.f161.ntmps) (id := 6) A3 ?_)|(refine T.orders (N := Tryz.f161.ntmps) (id := 6) A3 ?_)|(apply Ords.nil;decide +kernel)|(apply Ords.takeMove 0;exact rfl;decide +kernel;decide +kernel;decide +kernel;exact rfl;exact rfl)|(apply Ords.takeMove 1;exact rfl;decide +kernel;decide +kernel;decide +kernel;exact rfl;exact rfl)|(apply Ords.takeMove 2;exact rfl;decide +kernel;decide +kernel;decide +kernel;exact rfl;exact rfl)|(apply Ords.takeMove 3;exact rfl;decide +kernel;decide +kernel;decide +kernel;exact rfl;exact rfl)|(apply Ords.takeMove 5;exact rfl;decide +kernel;decide +kernel;decide +kernel;exact rfl;exact rfl)|(apply Ords.takeMove 6;exact rfl;decide +kernel;decide +kernel;decide +kernel;exact rfl;exact rfl)|(apply Ords.takeMove 10;exact rfl;decide +kernel;decide +kernel;decide +kernel;exact rfl;exact rfl)|(apply Ords.takeMove 11;exact rfl;decide +kernel;decide +kernel;decide +kernel;exact rfl;exact rfl)|(apply Ords.takeArith 4;exact rfl;decide +kernel;decide +kernel;decide +kernel;(iterate 4 exact rfl);omega)|(apply Ords.takeArith 7;exact rfl;decide +kernel;decide +kernel;decide +kernel;(iterate 4 exact rfl);omega)|(apply Ords.takeIdxO 8 r.length;exact rfl;decide +kernel;decide +kernel;decide +kernel;exact inferInstance;exact inferInstance;(iterate 4 exact rfl);omega;omega)|(apply Ords.takeIdxO 12 (r.length + 1);exact rfl;decide +kernel;decide +kernel;decide +kernel;exact inferInstance;exact inferInstance;(iterate 4 exact rfl);omega;omega)|(apply Ords.takeIdxO 14 (r.length + 1);exact rfl;decide +kernel;decide +kernel;decide +kernel;exact inferInstance;exact inferInstance;(iterate 4 exact rfl);omega;omega)|(apply Ords.takeIdxO 16 r.length;exact rfl;decide +kernel;decide +kernel;decide +kernel;exact inferInstance;exact inferInstance;(iterate 4 exact rfl);omega;omega)|(apply Ords.two (i := 9) (j := 13);decide +kernel;exact rfl;exact rfl)|(apply Ords.one (i := 9);decide +kernel;exact rfl)|(apply Ords.one (i := 13);decide +kernel;exact rfl)|(apply Ords.one (i := 15);decide +kernel;exact rfl)|(apply Ords.one (i := 17);decide +kernel;exact rfl)|(apply T.drawN 5 17 A3 (by decide +kernel);simp only [td])|(apply T.drawRN 5 17 A3 (by decide +kernel);simp only [td])|(apply S.indexO (o2 := r.length);(iterate 4 exact rfl);omega;omega)|(apply S.indexO (o2 := (r.length + 1));(iterate 4 exact rfl);omega;omega)|(apply S.loadP;exact rfl;exact rfl;exact Oq ce;exact rfl)|(apply S.loadP;exact rfl;exact rfl;exact Oq ca;exact rfl)|(apply S.callFV;(iterate 3 exact rfl);exact cc;exact .cons (.one (.lf _)) (.cons (.one (.lf _)) (.cons (.one (.ptr0 rfl)) .nil));exact rfl;exact rfl)|(apply S.storeI;(iterate 3 exact rfl);first | omega|(rw [List.length_set];omega))|refine Za ?_
     | refine V ?_
     | (refine W2 ?_ ?_ <;> intro hc))
    all_goals (change Next _ _ _ _ _ _)
    all_goals exact Next.go ⟨r, a :: B⟩ ⟨by dsimp only;rw [q1];simp, by dsimp only;rw [q2, hi2];simp⟩ (by dsimp only [List.length_cons];omega) (by dsimp only;rw [show ((r.length : Nat) : Int) = ((r.length + 1 : Nat) : Int) - 1 by omega];exact CW) (by dsimp only;rw [hs];exact .live rfl (.live (Fx _ _) (.gho rfl (.gho rfl (.gho rfl .nil)))))
   ·have hk2 : ¬ key i - key a < 0 := by omega
    have hi2 : Cc key i (a :: r) = i :: a :: r := by rw [Cc, if_neg hk]
    have hend : iN ((a :: r).reverse ++ i :: (B ++ Bq n (i + 1))) = iN (Ac key (i + 1) ++ Bq n (i + 1)) := by
     rw [show Ac key (i + 1) = (Cc key i (Ac key i).reverse).reverse from rfl, q2, hi2]
     simp
    rw [hend] at ce ca ⊢
    generalize hD : iN (Ac key (i + 1) ++ Bq n (i + 1)) = D at *
    repeat' (first
     | refine W ?_
     | refine Y ?_|(apply T.drawN 5 17 A3 (by decide +kernel);simp only [td])|(apply T.drawRN 5 17 A3 (by decide +kernel);simp only [td])|(apply S.indexO (o2 := r.length);(iterate 4 exact rfl);omega;omega)|(apply S.indexO (o2 := (r.length + 1));(iterate 4 exact rfl);omega;omega)|(apply S.loadP;exact rfl;exact rfl;exact Oq ce;exact rfl)|(apply S.loadP;exact rfl;exact rfl;exact Oq ca;exact rfl)|(apply S.callFV;(iterate 3 exact rfl);exact cc;exact .cons (.one (.lf _)) (.cons (.one (.lf _)) (.cons (.one (.ptr0 rfl)) .nil));exact rfl;exact rfl)|refine Za ?_
     | refine V ?_
     | (refine W2 ?_ ?_ <;> intro hc))
    all_goals (change Next _ _ _ _ _ _)
    all_goals exact Next.go (i + 1) ⟨by omega, by omega⟩ (by omega) CW (by (try dsimp only);rw [hD];exact .live rfl (.live (Fx _ _) (.gho rfl (.gho rfl (.gho rfl .nil)))))
 obtain rfl : n = i := by omega
 have h1 : ¬ ((n : Nat) : Int) < (n : Nat) := by omega
 rw [Ws, List.append_nil]
 obtain ⟨L, hL⟩ : ∃ L, L = iN (Ac key n) := ⟨_, rfl⟩
 have hLl : L.length = n := by rw [hL, Lk, Bk]
 have how : OwnRows (iA L) 0 n 1 (L.map A8) := by
  rw [Ph]
  have := OwnRows.of (L.map A8).flatten (D0 L) rfl
  rw [List.length_map, hLl] at this
  exact this
 rw [<- hL]
 repeat' (first
  | refine W ?_
  | refine Y ?_|(refine T.unroll (N := Tryz.f108.ntmps) ?_)|(refine TL.round ?_)|(dsimp only [Au, Ae];refine TL.round ?_)|(refine ⟨by first | exact .inl rfl | exact .inr rfl, [], .nil, rfl, ?_⟩;show Reg none _ _ _ _ _ _ _)
  | refine V ?_
  | (refine W2 ?_ ?_ <;> intro hc))
 all_goals exact ⟨.inr rfl, [.own 1 0 n 1, .i 0], .cons (.tmp rfl) (.cons (.tmp rfl) .nil), .tup (.cons (.one (.own rfl how)) (.cons (.one (.lf _)) .nil))⟩
def ldC (l : List SetR) : List AV := ((l.map ldR).flatten).map AV.lf
theorem Pr (l : List SetR) : ∀ x ∈ l.map ldR, x.length = 2 := by
 intro x hx
 obtain ⟨y, _, rfl⟩ := List.mem_map.1 hx
 rfl
theorem Zf (l : List SetR) : (ldC l).length = l.length * 2 := by
 unfold ldC
 rw [List.length_map, B6 _ (Pr l), List.length_map]
theorem Kj {l : List SetR} {k : Nat} {s : SetR} (hs : l[k]? = some s) : ldC (l.take (k + 1)) = ldC (l.take k) ++ ([ldR s].flatten).map AV.lf := by
 unfold ldC
 rw [Ai hs];simp
theorem Ih (l : List SetR) (s : SetR) (n : Nat) : (ldC l ++ ([ldR s].flatten).map AV.lf).all (AV.under n) = true := by
 unfold ldC
 rw [<- List.map_append];exact Aw _ _
theorem Ru (l : List SetR) : OwnRows (ldC l) 0 l.length 2 (l.map ldR) := by
 have := OwnRows.of (l.map ldR).flatten (Pr l) rfl
 rw [List.length_map] at this
 exact this
theorem Gk (l : List BrickR) : OwnRows (Ba (l.map BrickR.count)) 0 l.length 1 ((l.map BrickR.count).map A8) := by
 have := OwnRows.of ((l.map BrickR.count).map A8).flatten (D0 _) rfl
 rw [List.length_map, List.length_map] at this
 exact this
theorem Kc {l : List BrickR} {k : Nat} {x : BrickR} (hx : l[k]? = some x) : Ba ((l.take (k + 1)).map BrickR.count) = Ba ((l.take k).map BrickR.count) ++ ([A8 x.count].flatten).map AV.lf := by
 rw [Ai hx];simp [Ba]
theorem Mj {l : List BrickR} {k : Nat} (hk : k <= l.length) : (Ba ((l.take k).map BrickR.count)).length = k * 1 := by
 rw [L2, List.length_map, List.length_take];omega
theorem Ki {l : List SetR} {k : Nat} (hk : k <= l.length) : (ldC (l.take k)).length = k * 2 := by
 rw [Zf, List.length_take];omega
theorem Rf {b n : Nat} {x : HB} {cs : List Lf} {H : AH} (hx : HB.clear b x = true) (h : AH.clear b (n + 1 + 1) H = true) : AH.clear b n (x :: .live (cs.map AV.lf) :: H) = true := by
 have h2 : HB.clear b (.live (cs.map AV.lf)) = true := B8 b cs
 unfold AH.clear AH.clear
 rw [hx, h, h2]
 cases Nat.beq n b <;> cases Nat.beq (n + 1) b <;> rfl
theorem Hh {g : FuncId} {l : List BrickR} {r : AV} (h0 : l.length = 0) (c : Fn0 Tryz.prog g [.sl (l.map BrickR.row), .sl ((l.map BrickR.count).map A8)] r) : Fn0 Tryz.prog g [.sl (l.map BrickR.row), .val (.slice none 0 0)] r /\ l = [] := by
 obtain rfl : l = [] := List.eq_nil_of_length_eq_zero h0
 exact ⟨c.nils (args := [.sl [], .val (.slice none 0 0)]) rfl, rfl⟩
set_option maxHeartbeats 16000000 in
theorem Ic (h : HouseR) (hf : h.fits) (hp : Az h) (rs : List (List Lf)) (e : Int) (h1 : (∀ s ∈ h.sets, ptW s <= 67108864) -> Fn0 Tryz.prog 58 [.sl (h.roofs.map RoofR.row), .sl (h.sets.map ldR)] (.tup [.sl rs, .i e])) (h2 : ¬ (∀ s ∈ h.sets, ptW s <= 67108864) -> rs = [] /\ e = 5) : Fn0 Tryz.prog 21 [A6 h.row] (.tup [.sl rs, .i e]) := by
 have cv := Ez h hf
 rw [decide_eq_true hp] at cv
 have hle : (h.sets.map SetR.row).length = h.sets.length := List.length_map _
 have hn5 : h.sets.length <= 1000 := by have := hp.2.2.2.1;omega
 refine Fn0.of Tryz.func21 Tryz.ntmps21 rfl rfl rfl ?_
 simp only [A0]
 repeat' (first
  | refine W ?_
  | refine Y ?_
  | refine V ?_
  | (refine W2 ?_ ?_ <;> intro hc))
 refine T.kill 1 ?_
 refine T.loopS (fun k => k <= h.sets.length /\ ∀ s ∈ h.sets.take k, ptW s <= 67108864) (fun k => h.sets.length - k) (fun k => [(20, .i (k : Nat)), (19, .i (h.sets.map SetR.row).length), (18, .sl (h.sets.map SetR.row)), (1, .ptr 0 0), (4, rT 1 2 k)]) (fun k => [.live (h.row.map .lf), rB (ldC (h.sets.take k)) k]) 0 ⟨Nat.zero_le _, by simp⟩ CW CH ?_
 rintro k ⟨hk, hall⟩
 by_cases hlt : k < h.sets.length
 ·have h3 : ((k : Nat) : Int) < ((h.sets.map SetR.row).length : Nat) := by omega
  obtain ⟨s, hs⟩ := Aa hlt
  have hb := Ab (R := SetR.row) hs
  have hsm := List.mem_of_getElem? hs
  have hsp := (hp.2.2.2.2.2.1 s hsm).1
  have hsf : s.fits := hf.2.2 s hsm
  have cw := Gx s hsf hsp
  have hbp := hsp.2.2.2.2.2.2.2.2.2.2.2.2.2.2
  have har := hsp.2.2.2.2.2.2.2.2.2.1
  have r1 := C5 hsp
  have r3 := C0 hsp s.bricks.length
  rw [List.take_length] at r3
  have ca := Sc s.bricks hbp (C0 hsp)
  have hle2 : (s.bricks.map BrickR.row).length = s.bricks.length := List.length_map _
  have hpt : wtS s + s.arbor + bkS s.bricks = ptW s := rfl
  have hb8 := hbp.1
  rcases Nat.eq_zero_or_pos k with k0 | kpos
  ·subst k0
   repeat' (first
    | refine W ?_
    | (apply S.indexR;(iterate 3 exact rfl);exact hb;omega;exact rfl) | refine Y ?_|refine Za ?_
    | refine V ?_
    | (refine W2 ?_ ?_ <;> intro hc))
   refine T.kill 3 ?_
   refine T.loopS (fun j => j <= s.bricks.length) (fun j => s.bricks.length - j) (fun j => [(35, .i (j : Nat)), (34, .i (s.bricks.map BrickR.row).length), (33, .sl (s.bricks.map BrickR.row)), (6, .ptr 2 0), (7, .i (wtS s)), (20, .i (0 : Nat)), (19, .i (h.sets.map SetR.row).length), (18, .sl (h.sets.map SetR.row)), (1, .ptr 0 0), (4, .val (.slice none 0 0)), (9, rT 3 1 j)]) (fun j => [.live (h.row.map .lf), .dead, .live (s.row.map .lf), rB (Ba ((s.bricks.take j).map BrickR.count)) j]) 0 (Nat.zero_le _) CW CH ?_
   intro j hj
   by_cases hjt : j < s.bricks.length
   ·have h4 : ((j : Nat) : Int) < ((s.bricks.map BrickR.row).length : Nat) := by omega
    obtain ⟨x, hx⟩ := Aa hjt
    have hbx := Ab (R := BrickR.row) hx
    have hS := Kc hx
    have hcl := Mj (l := s.bricks) (k := j) hj
    rcases Nat.eq_zero_or_pos j with h0 | hpos
    ·subst h0
     repeat' (first
      | refine W ?_
      | (apply S.indexR;(iterate 3 exact rfl);exact hbx;omega;exact rfl) | refine Y ?_|(apply S.buildSlice1;(iterate 7 exact rfl))|(apply S.appendN 3 (rows := []);(iterate 8 exact rfl);exact Ad rfl;exact rfl;exact Nat.le_of_ble_eq_true rfl;exact Nat.le_of_ble_eq_true rfl)|refine Za ?_
      | refine V ?_
      | (refine W2 ?_ ?_ <;> intro hc))
     all_goals (change Next _ _ _ _ _ _)
     all_goals exact Next.go 1 (by omega) (by omega) CW (by
      show CovH _ _ [_, _, _, .live (Ba ((s.bricks.take (0 + 1)).map BrickR.count))]
      rw [hS];exact .live rfl CH)
    ·rw [By hpos, Bx hpos]
     repeat' (first
      | refine W ?_
      | (apply S.indexR;(iterate 3 exact rfl);exact hbx;omega;exact rfl) | refine Y ?_|(apply S.buildSlice1;(iterate 7 exact rfl))|(apply S.appendO;(iterate 8 exact rfl);exact hcl;exact Ad rfl;exact rfl;exact B8 _ _;simp only [List.length_cons, List.length_nil];omega;simp only [List.length_cons, List.length_nil];omega)|refine Za ?_
      | refine V ?_
      | (refine W2 ?_ ?_ <;> intro hc))
     all_goals (change Next _ _ _ _ _ _)
     all_goals exact Next.go (j + 1) (by omega) (by omega) CW (by
      show CovH _ _ [_, _, _, .live (Ba ((s.bricks.take (j + 1)).map BrickR.count))]
      rw [hS];exact .live rfl (.dead (.live rfl (.live (by rw [<- List.map_append];exact Aw _ _) .nil))))
   have h4 : ¬ ((j : Nat) : Int) < ((s.bricks.map BrickR.row).length : Nat) := by omega
   obtain rfl : j = s.bricks.length := by omega
   by_cases hbig : wtS s + s.arbor + bkS s.bricks > 67108864
   ·obtain ⟨e1, e2⟩ := h2 (fun hh => by have := hh s hsm;omega)
    subst e1 e2
    rcases Nat.eq_zero_or_pos s.bricks.length with b0 | bpos
    ·obtain ⟨ca0, hbr⟩ := Hh b0 ca
     rw [b0] at h4 ⊢
     repeat' (first
      | refine W ?_
      | refine Y ?_|refine Za ?_|(refine T.nilU 2 rfl ?_;apply T.ret;change Cb _ _ _ _ _)
      | refine V ?_
      | (refine W2 ?_ ?_ <;> intro hc))
     all_goals exact D2 rfl rfl rfl
    ·rw [By bpos, Bx bpos, List.take_length]
     repeat' (first
      | (refine T.freeze 9 rfl rfl (Gk s.bricks) ?_)
      | refine W ?_
      | refine Y ?_|refine Za ?_|(refine T.nilU 2 rfl ?_;apply T.ret;change Cb _ _ _ _ _)
      | refine V ?_
      | (refine W2 ?_ ?_ <;> intro hc))
     all_goals exact D2 rfl rfl rfl
   ·have hnew : ∀ y ∈ h.sets.take (0 + 1), ptW y <= 67108864 := by
     rw [Ai hs]
     intro y hy
     rcases List.mem_append.1 hy with hy | hy
     ·exact hall y hy
     ·obtain rfl : y = s := by simpa using hy
      omega
    have hS := Kj hs
    have hcl := Ki (l := h.sets) (k := 0) (by omega)
    rcases Nat.eq_zero_or_pos s.bricks.length with b0 | bpos
    ·obtain ⟨ca0, hbr⟩ := Hh b0 ca
     rw [b0] at h4 ⊢
     repeat' (first
      | refine W ?_
      | refine Y ?_|(apply S.buildSlice1;(iterate 7 exact rfl))|(apply S.appendN 1 (rows := []);(iterate 8 exact rfl);exact Ad rfl;exact rfl;exact Nat.le_of_ble_eq_true rfl;exact Nat.le_of_ble_eq_true rfl)|refine Za ?_
      | refine V ?_
      | (refine W2 ?_ ?_ <;> intro hc))
     all_goals (change Next _ _ _ _ _ _)
     all_goals exact Next.go (0 + 1) ⟨by omega, hnew⟩ (by omega) CW (by
      show CovH _ _ [_, .live (ldC (h.sets.take (0 + 1)))]
      rw [hS];exact .live rfl (.live rfl .nil))
    ·rw [By bpos, Bx bpos, List.take_length]
     repeat' (first
      | (refine T.freeze 9 rfl rfl (Gk s.bricks) ?_)
      | refine W ?_
      | refine Y ?_|(apply S.buildSlice1;(iterate 7 exact rfl))|(apply S.appendN 1 (rows := []);(iterate 8 exact rfl);exact Ad rfl;exact rfl;exact Nat.le_of_ble_eq_true rfl;exact Nat.le_of_ble_eq_true rfl)|refine Za ?_
      | refine V ?_
      | (refine W2 ?_ ?_ <;> intro hc))
     all_goals (change Next _ _ _ _ _ _)
     all_goals exact Next.go (0 + 1) ⟨by omega, hnew⟩ (by omega) CW (by
      show CovH _ _ [_, .live (ldC (h.sets.take (0 + 1)))]
      rw [hS];exact .live rfl (.live rfl .nil))
  ·rw [By kpos, Bx kpos]
   repeat' (first
    | refine W ?_
    | (apply S.indexR;(iterate 3 exact rfl);exact hb;omega;exact rfl) | refine Y ?_|refine Za ?_
    | refine V ?_
    | (refine W2 ?_ ?_ <;> intro hc))
   refine T.kill 3 ?_
   refine T.loopS (fun j => j <= s.bricks.length) (fun j => s.bricks.length - j) (fun j => [(35, .i (j : Nat)), (34, .i (s.bricks.map BrickR.row).length), (33, .sl (s.bricks.map BrickR.row)), (6, .ptr 2 0), (7, .i (wtS s)), (20, .i (k : Nat)), (19, .i (h.sets.map SetR.row).length), (18, .sl (h.sets.map SetR.row)), (1, .ptr 0 0), (4, .own 1 0 k 2), (9, rT 3 1 j)]) (fun j => [.live (h.row.map .lf), .live (ldC (h.sets.take k)), .live (s.row.map .lf), rB (Ba ((s.bricks.take j).map BrickR.count)) j]) 0 (Nat.zero_le _) CW (.live rfl (.live (Aw _ _) CH)) ?_
   intro j hj
   by_cases hjt : j < s.bricks.length
   ·have h4 : ((j : Nat) : Int) < ((s.bricks.map BrickR.row).length : Nat) := by omega
    obtain ⟨x, hx⟩ := Aa hjt
    have hbx := Ab (R := BrickR.row) hx
    have hS := Kc hx
    have hcl := Mj (l := s.bricks) (k := j) hj
    rcases Nat.eq_zero_or_pos j with h0 | hpos
    ·subst h0
     repeat' (first
      | refine W ?_
      | (apply S.indexR;(iterate 3 exact rfl);exact hbx;omega;exact rfl) | refine Y ?_|(apply S.buildSlice1;(iterate 7 exact rfl))|(apply S.appendN 3 (rows := []);(iterate 4 exact rfl);exact Rf rfl rfl;(iterate 3 exact rfl);exact Ad rfl;exact rfl;exact Nat.le_of_ble_eq_true rfl;exact Nat.le_of_ble_eq_true rfl)|refine Za ?_
      | refine V ?_
      | (refine W2 ?_ ?_ <;> intro hc))
     all_goals (change Next _ _ _ _ _ _)
     all_goals exact Next.go 1 (by omega) (by omega) CW (by
      show CovH _ _ [_, _, _, .live (Ba ((s.bricks.take (0 + 1)).map BrickR.count))]
      rw [hS];exact .live rfl (.live (Aw _ _) CH))
    ·rw [By hpos, Bx hpos]
     repeat' (first
      | refine W ?_
      | (apply S.indexR;(iterate 3 exact rfl);exact hbx;omega;exact rfl) | refine Y ?_|(apply S.buildSlice1;(iterate 7 exact rfl))|(apply S.appendO;(iterate 4 exact rfl);exact Rf rfl rfl;(iterate 3 exact rfl);exact hcl;exact Ad rfl;exact rfl;exact B8 _ _;simp only [List.length_cons, List.length_nil];omega;simp only [List.length_cons, List.length_nil];omega)|refine Za ?_
      | refine V ?_
      | (refine W2 ?_ ?_ <;> intro hc))
     all_goals (change Next _ _ _ _ _ _)
     all_goals exact Next.go (j + 1) (by omega) (by omega) CW (by
      show CovH _ _ [_, _, _, .live (Ba ((s.bricks.take (j + 1)).map BrickR.count))]
      rw [hS];exact .live rfl (.live (Aw _ _) (.live rfl (.live (by rw [<- List.map_append];exact Aw _ _) .nil))))
   have h4 : ¬ ((j : Nat) : Int) < ((s.bricks.map BrickR.row).length : Nat) := by omega
   obtain rfl : j = s.bricks.length := by omega
   by_cases hbig : wtS s + s.arbor + bkS s.bricks > 67108864
   ·obtain ⟨e1, e2⟩ := h2 (fun hh => by have := hh s hsm;omega)
    subst e1 e2
    rcases Nat.eq_zero_or_pos s.bricks.length with b0 | bpos
    ·obtain ⟨ca0, hbr⟩ := Hh b0 ca
     rw [b0] at h4 ⊢
     repeat' (first
      | refine W ?_
      | refine Y ?_|refine Za ?_|(refine T.nilU 2 rfl ?_;apply T.ret;change Cb _ _ _ _ _)
      | refine V ?_
      | (refine W2 ?_ ?_ <;> intro hc))
     all_goals exact D2 rfl rfl rfl
    ·rw [By bpos, Bx bpos, List.take_length]
     repeat' (first
      | (refine T.freeze 9 rfl rfl (Gk s.bricks) ?_)
      | refine W ?_
      | refine Y ?_|refine Za ?_|(refine T.nilU 2 rfl ?_;apply T.ret;change Cb _ _ _ _ _)
      | refine V ?_
      | (refine W2 ?_ ?_ <;> intro hc))
     all_goals exact D2 rfl rfl rfl
   ·have hnew : ∀ y ∈ h.sets.take (k + 1), ptW y <= 67108864 := by
     rw [Ai hs]
     intro y hy
     rcases List.mem_append.1 hy with hy | hy
     ·exact hall y hy
     ·obtain rfl : y = s := by simpa using hy
      omega
    have hS := Kj hs
    have hcl := Ki (l := h.sets) (k := k) (by omega)
    rcases Nat.eq_zero_or_pos s.bricks.length with b0 | bpos
    ·obtain ⟨ca0, hbr⟩ := Hh b0 ca
     rw [b0] at h4 ⊢
     repeat' (first
      | refine W ?_
      | refine Y ?_|(apply S.buildSlice1;(iterate 7 exact rfl))|(apply S.appendO;(iterate 8 exact rfl);exact hcl;exact Ad rfl;exact rfl;exact B8 _ _;simp only [List.length_cons, List.length_nil];omega;simp only [List.length_cons, List.length_nil];omega)|refine Za ?_
      | refine V ?_
      | (refine W2 ?_ ?_ <;> intro hc))
     all_goals (change Next _ _ _ _ _ _)
     all_goals exact Next.go (k + 1) ⟨by omega, hnew⟩ (by omega) CW (by
      show CovH _ _ [_, .live (ldC (h.sets.take (k + 1)))]
      rw [hS];exact .live rfl (.live (Ih _ s _) .nil))
    ·rw [By bpos, Bx bpos, List.take_length]
     repeat' (first
      | (refine T.freeze 9 rfl rfl (Gk s.bricks) ?_)
      | refine W ?_
      | refine Y ?_|(apply S.buildSlice1;(iterate 7 exact rfl))|(apply S.appendO;(iterate 8 exact rfl);exact hcl;exact Ad rfl;exact rfl;exact B8 _ _;simp only [List.length_cons, List.length_nil];omega;simp only [List.length_cons, List.length_nil];omega)|refine Za ?_
      | refine V ?_
      | (refine W2 ?_ ?_ <;> intro hc))
     all_goals (change Next _ _ _ _ _ _)
     all_goals exact Next.go (k + 1) ⟨by omega, hnew⟩ (by omega) CW (by
      show CovH _ _ [_, .live (ldC (h.sets.take (k + 1)))]
      rw [hS];exact .live rfl (.live (Ih _ s _) .nil))
 have h3 : ¬ ((k : Nat) : Int) < ((h.sets.map SetR.row).length : Nat) := by omega
 obtain rfl : k = h.sets.length := by omega
 rw [List.take_length] at hall
 have cg := h1 hall
 rcases Nat.eq_zero_or_pos h.sets.length with k0 | kpos
 ·have e0 : h.sets = [] := List.eq_nil_of_length_eq_zero k0
  have cg0 : Fn0 Tryz.prog 58 [.sl (h.roofs.map RoofR.row), .val (.slice none 0 0)] (.tup [.sl rs, .i e]) := by
   rw [e0] at cg
   exact cg.nils (args := [.sl (h.roofs.map RoofR.row), .val (.slice none 0 0)]) rfl
  rw [k0] at h3 ⊢
  repeat' (first
   | refine W ?_
   | refine Y ?_
   | refine V ?_
   | (refine W2 ?_ ?_ <;> intro hc))
  all_goals exact D2 rfl rfl rfl
 ·rw [By kpos, Bx kpos, List.take_length]
  repeat' (first
   | (refine T.freeze 4 rfl rfl (Ru h.sets) ?_)
   | refine W ?_
   | refine Y ?_
   | refine V ?_
   | (refine W2 ?_ ?_ <;> intro hc))
  all_goals exact D2 rfl rfl rfl
end Go.Proofs.YtcfjofhapbkmfaaGreatDoor
