/- Contracts at the chapter's example of a system of ropes: losses. No conditions. -/
import Derived.Test.YtcfjofhapbkmfaaGreatDoorYd
import Derived.Test.YtcfjofhapbkmfaaGreatDoorYa
import Derived.Test.YtcfjofhapbkmfaaGreatDoorYc
set_option linter.unusedSimpArgs false
set_option linter.unusedVariables false
namespace Go.Proofs.YtcfjofhapbkmfaaGreatDoor
open Go Go.RowKit
abbrev fr (n : Int) : List Lf := [.i n, .i 1]
theorem Lb (a b c : Int) (ha : Fits (a : Rat)) (hb : Fits (b : Rat)) (hc : (a : Rat) * (b : Rat) = (c : Rat)) (hf : Fits (c : Rat)) : Fn0 Tryz.prog 138 [A6 (fr a), A6 (fr b)] (.tup [A6 (fr c), .i 0]) := by
 have := Wm (a : Rat) (b : Rat) ha hb
 rw [hc] at this
 rw [Fa hf] at this
 exact this
theorem Sq (a b c : Int) (ha : Fits (a : Rat)) (hb : Fits (b : Rat)) (hc : (a : Rat) + (b : Rat) = (c : Rat)) (hf : Fits (c : Rat)) : Fn0 Tryz.prog 171 [A6 (fr a), A6 (fr b)] (.tup [A6 (fr c), .i 0]) := by
 have := Wl (a : Rat) (b : Rat) ha hb
 rw [hc] at this
 rw [Fa hf] at this
 exact this
theorem Yv (a b c : Int) (ha : Fits (a : Rat)) (hb : Fits (b : Rat)) (h0 : (b : Rat) ≠ 0) (hc : (a : Rat) / (b : Rat) = (c : Rat)) (hf : Fits (c : Rat)) : Fn0 Tryz.prog 249 [A6 (fr a), A6 (fr b)] (.tup [A6 (fr c), .i 0]) := by
 have := A0u (a : Rat) (b : Rat) ha hb h0
 rw [hc] at this
 rw [Fa hf] at this
 exact this
theorem m11 : Fn0 Tryz.prog 138 [A6 (fr 1), A6 (fr 1)] (.tup [A6 (fr 1), .i 0]) := Lb 1 1 1 (by decide) (by decide) (by decide +kernel) (by decide)
theorem d11 : Fn0 Tryz.prog 249 [A6 (fr 1), A6 (fr 1)] (.tup [A6 (fr 1), .i 0]) := Yv 1 1 1 (by decide) (by decide) (by decide +kernel) (by decide +kernel) (by decide)
theorem a11 : Fn0 Tryz.prog 171 [A6 (fr 1), A6 (fr 1)] (.tup [A6 (fr 2), .i 0]) := Sq 1 1 2 (by decide) (by decide) (by decide +kernel) (by decide)
theorem m12 : Fn0 Tryz.prog 138 [A6 (fr 1), A6 (fr 2)] (.tup [A6 (fr 2), .i 0]) := Lb 1 2 2 (by decide) (by decide) (by decide +kernel) (by decide)
theorem a02 : Fn0 Tryz.prog 171 [A6 (fr 0), A6 (fr 2)] (.tup [A6 (fr 2), .i 0]) := Sq 0 2 2 (by decide) (by decide) (by decide +kernel) (by decide)
theorem A18 : Fn0 Tryz.prog 138 [A6 (fr 1), A6 (fr 300)] (.tup [A6 (fr 300), .i 0]) := Lb 1 300 300 (by decide) (by decide) (by decide +kernel) (by decide)
theorem A13 : Fn0 Tryz.prog 171 [A6 (fr 0), A6 (fr 300)] (.tup [A6 (fr 300), .i 0]) := Sq 0 300 300 (by decide) (by decide) (by decide +kernel) (by decide)
theorem A15 : Fn0 Tryz.prog 249 [A6 (fr 300), A6 (fr 2)] (.tup [A6 (fr 150), .i 0]) := Yv 300 2 150 (by decide) (by decide) (by decide +kernel) (by decide +kernel) (by decide)
theorem A1a : Fn0 Tryz.prog 138 [A6 (fr 2), A6 (fr 150)] (.tup [A6 (fr 300), .i 0]) := Lb 2 150 300 (by decide) (by decide) (by decide +kernel) (by decide)
theorem A19 : Fn0 Tryz.prog 138 [A6 (fr 150), A6 (fr 1)] (.tup [A6 (fr 150), .i 0]) := Lb 150 1 150 (by decide) (by decide) (by decide +kernel) (by decide)
theorem A1o : Fn0 Tryz.prog 39 [A6 (fr 150), A6 (fr 150)] (.tup [.i 0, .i 0]) := by
 have := A0t (150 : Rat) (150 : Rat) (by decide) (by decide)
 rw [show Sj (150 : Rat) 150 = 0 by decide +kernel] at this
 exact this
theorem Dd (n : Int) : Fn0 Tryz.prog 200 [.i n] (A6 (fr n)) := by
 refine Fn0.of Tryz.func200 Tryz.ntmps200 rfl rfl rfl ?_
 simp only [A0]
 repeat' (first
  | refine W ?_
  | refine Y ?_
  | refine V ?_
  | (refine W2 ?_ ?_ <;> intro hc))
 all_goals exact ⟨.inr rfl, [A6 (fr n)], .cons (Res.row (fr n) rfl rfl rfl rfl rfl) .nil, .one (.agg (B7 _))⟩
theorem Va : Fn0 Tryz.prog 248 [A6 (fr 1)] (.b true) := by
 have c := Np
 refine Fn0.of Tryz.func248 Tryz.ntmps248 rfl rfl rfl ?_
 simp only [A0]
 repeat' (first
  | refine W ?_
  | refine Y ?_
  | refine V ?_
  | (refine W2 ?_ ?_ <;> intro hc))
 all_goals exact A7 (by simp) Tryz.results248 rfl rfl
set_option maxHeartbeats 16000000 in
theorem V5 (up : Bool) : Fn0 Tryz.prog 197 [A6 Ir, .b up] (.tup [.sl [fr 1, fr 1], .i 0]) := by
 have c0 := Dd 1
 have c1 := Va
 have c2 := m11
 have c3 := d11
 refine Fn0.of Tryz.func197 Tryz.ntmps197 rfl rfl rfl ?_
 simp only [A0]
 cases up
 all_goals repeat' (first
  | (refine T.freeze 7 rfl rfl (OwnRows.of (rows := [fr 1, fr 1]) [.i 1, .i 1, .i 1, .i 1] (by simp) rfl) ?_)
  | refine W ?_
  | refine Y ?_|(refine T.unroll ?_)|(refine TL.round ?_)|(dsimp only [Au, Ae];refine TL.round ?_)|(apply S.arith;(iterate 4 exact rfl);decide)|(apply S.indexR;(iterate 4 exact rfl);decide;exact rfl)|(apply S.indexO;(iterate 4 exact rfl);decide;exact rfl)|(apply S.ne2;(iterate 3 exact rfl))|(apply S.buildSliceO (d := 23);(iterate 6 exact rfl))|(apply S.buildSlice1;(iterate 7 exact rfl))|(apply S.appendO;(iterate 9 exact rfl);exact Ad rfl;exact rfl;exact rfl;exact Nat.le_of_ble_eq_true rfl;exact Nat.le_of_ble_eq_true rfl)|(apply T.draw 5 A3 (by decide +kernel);simp only [td])|(apply T.drawN 4 12 A3 (by decide +kernel);simp only [td])|(apply T.drawRN 4 12 A3 (by decide +kernel);simp only [td])|(apply T.draw 13 A3 (by decide +kernel);simp only [td])|(apply T.drawR 13 A3 (by decide +kernel);simp only [td])
  | refine V ?_
  | (refine W2 ?_ ?_ <;> intro hc))
 all_goals exact D2 rfl rfl rfl
set_option maxHeartbeats 16000000 in
theorem V8 : Fn0 Tryz.prog 198 [A6 Cn, A6 Ir, .sl [fr 1, fr 1]] (.tup [.sl [fr 2], .i 0]) := by
 have c0 := Dd 0
 have c1 := Dd 1
 have c2 := a11
 have c3 := m12
 have c4 := a02
 refine Fn0.of Tryz.func198 Tryz.ntmps198 rfl rfl rfl ?_
 simp only [A0]
 repeat' (first
  | (refine T.freeze 8 rfl rfl (OwnRows.of (rows := [(fr 2)]) (fr 2) (by simp) rfl) ?_)
  | refine W ?_
  | refine Y ?_|(refine T.unroll ?_)|(refine TL.round ?_)|(dsimp only [Au, Ae];refine TL.round ?_)|(apply S.arith;(iterate 4 exact rfl);decide)|(apply S.indexR;(iterate 4 exact rfl);decide;exact rfl)|(apply S.indexO;(iterate 4 exact rfl);decide;exact rfl)|(apply S.quo;(iterate 3 exact rfl);decide)|(apply S.buildSlice1;(iterate 7 exact rfl))|(apply S.appendN 9 (rows := []);(iterate 8 exact rfl);exact Ad rfl;exact rfl;exact Nat.le_of_ble_eq_true rfl;exact Nat.le_of_ble_eq_true rfl)|(apply T.draw 9 A3 (by decide +kernel);simp only [td])|(apply T.drawN 6 12 A3 (by decide +kernel);simp only [td])|(apply T.drawRN 6 12 A3 (by decide +kernel);simp only [td])|(apply T.drawN 6 14 A3 (by decide +kernel);simp only [td])|(apply T.drawRN 6 14 A3 (by decide +kernel);simp only [td])|(apply T.draw 12 A3 (by decide +kernel);simp only [td])|(apply T.drawR 12 A3 (by decide +kernel);simp only [td])|(apply T.drawR 9 A3 (by decide +kernel);simp only [td])
  | refine V ?_
  | (refine W2 ?_ ?_ <;> intro hc))
 all_goals exact D2 rfl rfl rfl
theorem Uc : Fn0 Tryz.prog 225 [.val (.int .u64 1), .val (.int .u64 1)] (.tup [.val (.int .u64 0), .val (.int .u64 1)]) := by
 have c := Jt 1 1 (by decide) (by decide)
 refine Fn0.of Tryz.func225 Tryz.ntmps225 rfl rfl rfl ?_
 simp only [A0]
 repeat' (first
  | refine W ?_
  | refine Y ?_
  | refine V ?_
  | (refine W2 ?_ ?_ <;> intro hc))
 all_goals exact D2 rfl rfl rfl
set_option maxHeartbeats 16000000 in
theorem Yh : FnOwn Tryz.prog 167 [.sl [fr 0], .i 1] [fr 0] 2 := by
 have c := Uc
 refine FnOwn.of Tryz.func167 Tryz.ntmps167 rfl rfl rfl ?_
 simp only [A0]
 repeat' (first
  | refine W ?_
  | refine Y ?_|(refine T.unroll ?_)|(refine TL.round ?_)|(dsimp only [Au, Ae];refine TL.round ?_)|(apply S.conv;(iterate 3 exact rfl))|(apply S.makeOc (n := 1) (cells := [.val (.int .i64 0), .val (.int .i64 0)]);exact rfl;exact rfl;kernel_rfl;decide;exact rfl;exact rfl)|(apply S.copyO;(iterate 5 exact rfl);decide;exact rfl;exact Ad rfl;exact rfl)
  | refine V ?_
  | (refine W2 ?_ ?_ <;> intro hc))
 all_goals (apply T.ret;change On _ _ _ _ _ _)
 all_goals exact ⟨.inr rfl, .inr (.inr ⟨0, .cons (.tmp rfl) .nil, rfl⟩)⟩
set_option maxHeartbeats 16000000 in
theorem Qy : Fn0 Tryz.prog 199 [A6 Cn, .i 0] (.tup [.sl [[.sl [fr 1]]], .i 0]) := by
 have c0 := Dd 0
 have c1 := Dd 1
 refine Fn0.of Tryz.func199 Tryz.ntmps199 rfl rfl rfl ?_
 simp only [A0]
 repeat' (first
  | (refine T.freeze 9 rfl rfl (OwnRows.of (rows := [(fr 1)]) (fr 1) (by simp) rfl) ?_)|(refine T.freeze 7 rfl rfl (OwnRows.of (rows := [[.sl [fr 1]]]) [.sl [fr 1]] (by simp) rfl) ?_)
  | refine W ?_
  | refine Y ?_|(refine T.unroll ?_)|(refine TL.round ?_)|(dsimp only [Au, Ae];refine TL.round ?_)|(apply S.arith;(iterate 4 exact rfl);decide)|(apply S.indexR;(iterate 4 exact rfl);decide;exact rfl)|(apply S.indexO;(iterate 4 exact rfl);decide;exact rfl)|(apply S.buildSlice1;(iterate 7 exact rfl))|(apply S.appendN 2 (rows := []);(iterate 8 exact rfl);exact Ad rfl;exact rfl;exact Nat.le_of_ble_eq_true rfl;exact Nat.le_of_ble_eq_true rfl)|(apply S.callOwn 1;exact Yh;(iterate 6 exact rfl);exact Ad rfl;exact (fun h => by cases h))
  | refine V ?_
  | (refine W2 ?_ ?_ <;> intro hc))
 all_goals exact D2 rfl rfl rfl
set_option maxHeartbeats 16000000 in
theorem Rw (a b c : Int) (hm : Fn0 Tryz.prog 138 [A6 (fr a), A6 (fr b)] (.tup [A6 (fr c), .i 0])) (ha : Fn0 Tryz.prog 171 [A6 (fr 0), A6 (fr c)] (.tup [A6 (fr c), .i 0])) : Fn0 Tryz.prog 201 [.sl [fr a], .sl [fr b]] (.tup [A6 (fr c), .i 0]) := by
 have c0 := Dd 0
 refine Fn0.of Tryz.func201 Tryz.ntmps201 rfl rfl rfl ?_
 simp only [A0]
 repeat' (first
  | refine W ?_
  | refine Y ?_|(refine T.unroll ?_)|(refine TL.round ?_)|(dsimp only [Au, Ae];refine TL.round ?_)|(apply S.arith;(iterate 4 exact rfl);decide)|(apply S.indexR;(iterate 4 exact rfl);decide;exact rfl)|(apply T.drawN 2 14 A3 (by decide +kernel);simp only [td])|(apply T.drawRN 2 14 A3 (by decide +kernel);simp only [td])
  | refine V ?_
  | (refine W2 ?_ ?_ <;> intro hc))
 all_goals exact ⟨.inr rfl, [A6 (fr c), .i 0], .cons (Res.row (fr c) rfl rfl rfl rfl rfl) (.cons (.tmp rfl) .nil), .tup (.cons (.agg (B7 _)) (.cons (.one (.lf _)) .nil))⟩
theorem Vd (n : Int) (h : ¬ n = 0) : Fn0 Tryz.prog 253 [A6 (fr n)] (.b true) := by
 refine Fn0.of Tryz.func253 Tryz.ntmps253 rfl rfl rfl ?_
 simp only [A0]
 repeat' (first
  | refine W ?_
  | refine Y ?_
  | refine V ?_
  | (refine W2 ?_ ?_ <;> intro hc))
 all_goals exact A7 (by simp) Tryz.results253 rfl (by simp [h])
theorem Zg (n : Int) (h : ¬ n = 0) : Fn0 Tryz.prog 252 [.sl [fr n], .fn (.func 253) [] []] (.i 0) := by
 have c := Vd n h
 refine Fn0.of Tryz.func252 Tryz.ntmps252 rfl rfl rfl ?_
 simp only [A0]
 repeat' (first
  | refine W ?_
  | refine Y ?_|(refine T.unroll ?_)|(refine TL.round ?_)|(dsimp only [Au, Ae];refine TL.round ?_)|(apply S.arith;(iterate 4 exact rfl);decide)|(apply S.indexR;(iterate 4 exact rfl);decide;exact rfl)|(apply S.callF;exact rfl;exact rfl;exact c;exact rfl;exact rfl)
  | refine V ?_
  | (refine W2 ?_ ?_ <;> intro hc))
 all_goals exact A7 (by simp) Tryz.results252 rfl rfl
theorem Xy (n : Int) (h : ¬ n = 0) : Fn0 Tryz.prog 251 [.sl [fr n]] (.i 0) := by
 have c := Zg n h
 refine Fn0.of Tryz.func251 Tryz.ntmps251 rfl rfl rfl ?_
 simp only [A0]
 repeat' (first
  | refine W ?_
  | refine Y ?_
  | refine V ?_
  | (refine W2 ?_ ?_ <;> intro hc))
 all_goals exact A7 (by simp) Tryz.results251 rfl rfl
set_option maxHeartbeats 16000000 in
theorem Qw : Fn0 Tryz.prog 202 [.sl [fr 300], .sl [fr 2]] (.tup [A6 (fr 150), .i 0]) := by
 have c0 := Xy 2 (by decide)
 have c2 := A15
 have c3 := A1a
 refine Fn0.of Tryz.func202 Tryz.ntmps202 rfl rfl rfl ?_
 simp only [A0]
 repeat' (first
  | refine W ?_
  | refine Y ?_|(refine T.unroll ?_)|(refine TL.round ?_)|(dsimp only [Au, Ae];refine TL.round ?_)|(apply S.arith;(iterate 4 exact rfl);decide)|(apply S.indexR;(iterate 4 exact rfl);decide;exact rfl)|(apply S.callF;exact rfl;exact rfl;exact c0;exact rfl;exact rfl)|(apply S.eq2;(iterate 3 exact rfl))|(apply T.drawN 1 14 A3 (by decide +kernel);simp only [td])|(apply T.drawRN 1 14 A3 (by decide +kernel);simp only [td])|(apply T.drawN 2 11 A3 (by decide +kernel);simp only [td])|(apply T.drawRN 2 11 A3 (by decide +kernel);simp only [td])|(apply T.drawN 3 9 A3 (by decide +kernel);simp only [td])|(apply T.drawRN 3 9 A3 (by decide +kernel);simp only [td])
  | refine V ?_
  | (refine W2 ?_ ?_ <;> intro hc))
 all_goals exact ⟨.inr rfl, [A6 (fr 150), .i 0], .cons (Res.row (fr 150) rfl rfl rfl rfl rfl) (.cons (.tmp rfl) .nil), .tup (.cons (.agg (B7 _)) (.cons (.one (.lf _)) .nil))⟩
theorem V9 : Fn0 Tryz.prog 245 [A6 Ir] (.b true) := by
 refine Fn0.of Tryz.func245 Tryz.ntmps245 rfl rfl rfl ?_
 simp only [A0]
 repeat' (first
  | refine W ?_
  | refine Y ?_
  | refine V ?_
  | (refine W2 ?_ ?_ <;> intro hc))
 all_goals exact A7 (by simp) Tryz.results245 rfl rfl
theorem Xx : Fn0 Tryz.prog 244 [.sl [Ir], .fn (.func 245) [] []] (.i 0) := by
 have c := V9
 refine Fn0.of Tryz.func244 Tryz.ntmps244 rfl rfl rfl ?_
 simp only [A0]
 repeat' (first
  | refine W ?_
  | refine Y ?_|(refine T.unroll ?_)|(refine TL.round ?_)|(dsimp only [Au, Ae];refine TL.round ?_)|(apply S.arith;(iterate 4 exact rfl);decide)|(apply S.indexR;(iterate 4 exact rfl);decide;exact rfl)|(apply S.callF;exact rfl;exact rfl;exact c;exact rfl;exact rfl)
  | refine V ?_
  | (refine W2 ?_ ?_ <;> intro hc))
 all_goals exact A7 (by simp) Tryz.results244 rfl rfl
theorem V7 : Fn0 Tryz.prog 196 [A6 Cn] (.tup [.i 0, .i 0]) := by
 have c := Gb
 have c1 := Xx
 refine Fn0.of Tryz.func196 Tryz.ntmps196 rfl rfl rfl ?_
 simp only [A0]
 repeat' (first
  | refine W ?_
  | refine Y ?_|(refine T.unroll ?_)|(refine TL.round ?_)|(dsimp only [Au, Ae];refine TL.round ?_)|(apply S.arith;(iterate 4 exact rfl);decide)|(apply S.indexR;(iterate 4 exact rfl);decide;exact rfl)
  | refine V ?_
  | (refine W2 ?_ ?_ <;> intro hc))
 all_goals exact D2 rfl rfl rfl
set_option maxHeartbeats 32000000 in
theorem V6 (up : Bool) : Fn0 Tryz.prog 137 [A6 Cn, .b up] (.tup [A6 (fr 150), .sl [fr 1, fr 1], .i 0]) := by
 have c0 := Dd 300
 have c1 := V7
 have c2 := V5 up
 have c3 := V8
 have c4 := Qy
 have c5 := Rw 1 300 300 A18 A13
 have c6 := Rw 1 2 2 m12 a02
 have c7 := Qw
 refine Fn0.of Tryz.func137 Tryz.ntmps137 rfl rfl rfl ?_
 simp only [A0]
 repeat' (first
  | (refine T.freeze 13 rfl rfl (OwnRows.of (rows := [(fr 300)]) (fr 300) (by simp) rfl) ?_)|(refine T.freeze 16 rfl rfl (OwnRows.of (rows := [(fr 300)]) (fr 300) (by simp) rfl) ?_)|(refine T.freeze 17 rfl rfl (OwnRows.of (rows := [(fr 2)]) (fr 2) (by simp) rfl) ?_)|(refine T.ordersR (id := 30) A3 ?_)
  | refine W ?_
  | (apply Ords.nil;decide +kernel)|(apply Ords.takeMove 0;exact rfl;decide +kernel;decide +kernel;decide +kernel;exact rfl;exact rfl)|(apply Ords.takeMove 4;exact rfl;decide +kernel;decide +kernel;decide +kernel;exact rfl;exact rfl)|(apply Ords.two (i := 1) (j := 5);decide +kernel;exact rfl;exact rfl)|(apply Ords.two (i := 2) (j := 5);decide +kernel;exact rfl;exact rfl)|(apply Ords.two (i := 3) (j := 5);decide +kernel;exact rfl;exact rfl)|(apply Ords.two (i := 1) (j := 6);decide +kernel;exact rfl;exact rfl)|(apply Ords.two (i := 2) (j := 6);decide +kernel;exact rfl;exact rfl)|(apply Ords.two (i := 3) (j := 6);decide +kernel;exact rfl;exact rfl)|(apply Ords.one (i := 1);decide +kernel;exact rfl)|(apply Ords.one (i := 2);decide +kernel;exact rfl)|(apply Ords.one (i := 3);decide +kernel;exact rfl)|(apply Ords.one (i := 5);decide +kernel;exact rfl)|(apply Ords.one (i := 6);decide +kernel;exact rfl)|(apply Ords.one (i := 7);decide +kernel;exact rfl)|(apply Ords.one (i := 8);decide +kernel;exact rfl)|(apply Ords.one (i := 9);decide +kernel;exact rfl) | refine Y ?_|(refine T.unroll ?_)|(refine TL.round ?_)|(dsimp only [Au, Ae];refine TL.round ?_)|(apply S.arith;(iterate 4 exact rfl);decide)|(apply S.indexR;(iterate 4 exact rfl);decide;exact rfl)|(apply S.buildSlice1;(iterate 7 exact rfl))|(apply S.appendN 5 (rows := []);(iterate 8 exact rfl);exact Ad rfl;exact rfl;exact Nat.le_of_ble_eq_true rfl;exact Nat.le_of_ble_eq_true rfl)|(apply S.appendN 7 (rows := []);(iterate 8 exact rfl);exact Ad rfl;exact rfl;exact Nat.le_of_ble_eq_true rfl;exact Nat.le_of_ble_eq_true rfl)|(apply S.appendN 8 (rows := []);(iterate 8 exact rfl);exact Ad rfl;exact rfl;exact Nat.le_of_ble_eq_true rfl;exact Nat.le_of_ble_eq_true rfl)
  | refine V ?_
  | (refine W2 ?_ ?_ <;> intro hc))
 all_goals exact ⟨.inr rfl, [A6 (fr 150), .sl [fr 1, fr 1], .i 0], .cons (Res.row (fr 150) rfl rfl rfl rfl rfl) (.cons (.tmp rfl) (.cons (.tmp rfl) .nil)), .tup (.cons (.agg (B7 _)) (.cons (.one (.lf _)) (.cons (.one (.lf _)) .nil)))⟩
set_option maxHeartbeats 16000000 in
theorem Nm (up : Bool) : Fn0 Tryz.prog 84 [A6 Cn, .b up] (.tup [A6 (fr 150), .i 0]) := by
 have c0 := V6 up
 have c1 := A19
 refine Fn0.of Tryz.func84 Tryz.ntmps84 rfl rfl rfl ?_
 simp only [A0]
 repeat' (first
  | refine W ?_
  | refine Y ?_|(apply S.arith;(iterate 4 exact rfl);decide)|(apply S.indexR;(iterate 4 exact rfl);decide;exact rfl)|(apply T.drawN 3 10 A3 (by decide +kernel);simp only [td])|(apply T.drawRN 3 10 A3 (by decide +kernel);simp only [td])
  | refine V ?_
  | (refine W2 ?_ ?_ <;> intro hc))
 all_goals exact ⟨.inr rfl, [A6 (fr 150), .i 0], .cons (Res.row (fr 150) rfl rfl rfl rfl rfl) (.cons (.tmp rfl) .nil), .tup (.cons (.agg (B7 _)) (.cons (.one (.lf _)) .nil))⟩
theorem Vc : Fn0 Tryz.prog 37 [A6 Cn] (.tup [A6 (fr 150), .i 0]) := by
 have c0 := Nm true
 refine Fn0.of Tryz.func37 Tryz.ntmps37 rfl rfl rfl ?_
 simp only [A0]
 repeat' (first
  | refine W ?_
  | refine Y ?_
  | refine V ?_
  | (refine W2 ?_ ?_ <;> intro hc))
 all_goals exact ⟨.inr rfl, [A6 (fr 150), .i 0], .cons (Res.row (fr 150) rfl rfl rfl rfl rfl) (.cons (.tmp rfl) .nil), .tup (.cons (.agg (B7 _)) (.cons (.one (.lf _)) .nil))⟩
theorem Vb : Fn0 Tryz.prog 38 [A6 Cn] (.tup [A6 (fr 150), .i 0]) := by
 have c0 := Nm false
 refine Fn0.of Tryz.func38 Tryz.ntmps38 rfl rfl rfl ?_
 simp only [A0]
 repeat' (first
  | refine W ?_
  | refine Y ?_
  | refine V ?_
  | (refine W2 ?_ ?_ <;> intro hc))
 all_goals exact ⟨.inr rfl, [A6 (fr 150), .i 0], .cons (Res.row (fr 150) rfl rfl rfl rfl rfl) (.cons (.tmp rfl) .nil), .tup (.cons (.agg (B7 _)) (.cons (.one (.lf _)) .nil))⟩
set_option maxHeartbeats 16000000 in
theorem Qx : Fn0 Tryz.prog 14 [A6 Cn] (.tup [A6 (fr 150), A6 (fr 150), .i 0]) := by
 have c0 := Vc
 have c1 := Vb
 have c2 := A1o
 refine Fn0.of Tryz.func14 Tryz.ntmps14 rfl rfl rfl ?_
 simp only [A0]
 repeat' (first
  | (refine T.ordersR (id := 12) A3 ?_)
  | refine W ?_
  | refine Y ?_|(apply Ords.nil;decide +kernel)|(apply Ords.one (i := 0);decide +kernel;exact rfl)|(apply Ords.one (i := 1);decide +kernel;exact rfl)|(apply Ords.one (i := 2);decide +kernel;exact rfl)|(apply Ords.one (i := 3);decide +kernel;exact rfl)|(apply Ords.one (i := 4);decide +kernel;exact rfl)|(apply Ords.two (i := 0) (j := 1);decide +kernel;exact rfl;exact rfl)|(apply Ords.two (i := 2) (j := 3);decide +kernel;exact rfl;exact rfl)|(apply Ords.two (i := 1) (j := 2);decide +kernel;exact rfl;exact rfl)
  | refine V ?_
  | (refine W2 ?_ ?_ <;> intro hc))
 all_goals exact ⟨.inr rfl, [A6 (fr 150), A6 (fr 150), .i 0], .cons (Res.row (fr 150) rfl rfl rfl rfl rfl) (.cons (Res.row (fr 150) rfl rfl rfl rfl rfl) (.cons (.tmp rfl) .nil)), .tup (.cons (.agg (B7 _)) (.cons (.agg (B7 _)) (.cons (.one (.lf _)) .nil)))⟩
theorem R5 : Fn0 Tryz.prog 85 [A6 [.i 150, .i 1]] (.b true) := Jm 150 1
set_option maxHeartbeats 64000000 in
theorem To : Fn0 Tryz.prog 9 [A6 Cn] (.tup [.val (.string ⟨#[115, 121, 115, 116, 101, 109, 32, 49, 32, 49, 10, 116, 101, 110, 115, 105, 111, 110, 32, 114, 32, 49, 53, 48, 10, 104, 111, 108, 100, 105, 110, 103, 32, 49, 53, 48, 32, 49, 53, 48, 10]⟩), .i 0]) := by
 have c1 := Gb
 have c2 := Qa
 have c3 := Qx
 have c4 := Dh 1 (by decide) (by decide)
 have c5 := W6 150 (by decide) (by decide) R5
 rw [show Af 1 = ⟨#[49]⟩ by decide +kernel] at c4
 rw [show Af 150 = ⟨#[49, 53, 48]⟩ by decide +kernel] at c5
 refine Fn0.of Tryz.func9 Tryz.ntmps9 rfl rfl rfl ?_
 simp only [A0]
 repeat' (first
  | refine W ?_
  | (apply S.papN;exact rfl;exact rfl)|(apply S.mkIface;(iterate 4 exact rfl))|(refine T.unroll ?_)|(refine TL.round ?_)|(dsimp only [Au, Ae];refine TL.round ?_)|(apply S.arith;(iterate 4 exact rfl);decide)|(apply S.indexR;(iterate 4 exact rfl);decide;exact rfl)|(apply S.buildSliceF;(iterate 8 exact rfl))|(refine ⟨by first | exact .inl rfl | exact .inr rfl, [], .nil, rfl, ?_⟩;show Reg none _ _ _ _ _ _ _)|(refine S.inline [(1, .ptr 0 0), (4, .ptr 1 0), (5, .sl [fr 150]), (35, .sl [Ir]), (36, .i 1), (37, .i 0)] Tryz.func27 Tryz.ntmps27 rfl rfl rfl rfl rfl rfl rfl CW rfl ?_;intro vs;simp only [A0, List.cons_append, List.nil_append])|(refine S.inline [(1, .ptr 0 0), (4, .ptr 1 0)] Tryz.func27 Tryz.ntmps27 rfl rfl rfl rfl rfl rfl rfl CW rfl ?_;intro vs;simp only [A0, List.cons_append, List.nil_append])|(apply S.papW;(iterate 6 exact rfl);exact Nat.le_of_ble_eq_true rfl)|(apply S.fieldB;(iterate 3 exact rfl))|(apply S.nilCheckB;(iterate 3 exact rfl))|(apply S.assertYes;(iterate 3 exact rfl))|(apply S.assertNo;(iterate 4 exact rfl))|(refine T.ordersR (N := Tryz.f27.ntmps) (id := 11) A3 ?_)|(apply Ords.nil;decide +kernel)|(apply Ords.takeMove 0;exact rfl;decide +kernel;decide +kernel;decide +kernel;exact rfl;exact rfl)|(apply Ords.takeMove 3;exact rfl;decide +kernel;decide +kernel;decide +kernel;exact rfl;exact rfl)|(apply Ords.takeNilB 1;exact rfl;decide +kernel;decide +kernel;decide +kernel;(iterate 3 exact rfl))|(apply Ords.takeFieldB 2;exact rfl;decide +kernel;decide +kernel;decide +kernel;exact inferInstance;(iterate 3 exact rfl))|(apply Ords.one (i := 4);decide +kernel;exact rfl)|(apply Ords.one (i := 5);decide +kernel;exact rfl)|(apply S.papT;(iterate 3 exact rfl)) | refine Y ?_|(apply T.drawN 5 10 A3 (by decide +kernel);simp only [td])|(apply T.drawRN 5 10 A3 (by decide +kernel);simp only [td])
  | refine V ?_
  | (refine W2 ?_ ?_ <;> intro hc))
 all_goals exact ⟨.inr rfl, [.val (.string ⟨#[115, 121, 115, 116, 101, 109, 32, 49, 32, 49, 10, 116, 101, 110, 115, 105, 111, 110, 32, 114, 32, 49, 53, 48, 10, 104, 111, 108, 100, 105, 110, 103, 32, 49, 53, 48, 32, 49, 53, 48, 10]⟩), .i 0], .cons (.tmp rfl) (.cons (.tmp rfl) .nil), Out.tup (.cons (.one (.lf _)) (.cons (.one (.lf _)) .nil))⟩
end Go.Proofs.YtcfjofhapbkmfaaGreatDoor
