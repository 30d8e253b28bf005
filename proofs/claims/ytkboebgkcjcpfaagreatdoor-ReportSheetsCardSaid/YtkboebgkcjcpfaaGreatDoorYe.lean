/- Contracts at the chapter's example of a system of ropes: losses. No conditions. -/
import Derived.Test.YtkboebgkcjcpfaaGreatDoorYd
import Derived.Test.YtkboebgkcjcpfaaGreatDoorYa
import Derived.Test.YtkboebgkcjcpfaaGreatDoorYc
set_option linter.unusedSimpArgs false
set_option linter.unusedVariables false
namespace Go.Proofs.YtkboebgkcjcpfaaGreatDoor
open Go Go.RowKit
abbrev fr (n : Int) : List Lf := [.i n, .i 1]
theorem O5 (a b c : Int) (ha : Fits (a : Rat)) (hb : Fits (b : Rat)) (hc : (a : Rat) * (b : Rat) = (c : Rat)) (hf : Fits (c : Rat)) : Fn0 Tryz.prog 50 [A4 (fr a), A4 (fr b)] (.tup [A4 (fr c), .i 0]) := by
 have := Tz (a : Rat) (b : Rat) ha hb
 rw [hc] at this
 rw [Ea hf] at this
 exact this
theorem Wu (a b c : Int) (ha : Fits (a : Rat)) (hb : Fits (b : Rat)) (hc : (a : Rat) + (b : Rat) = (c : Rat)) (hf : Fits (c : Rat)) : Fn0 Tryz.prog 236 [A4 (fr a), A4 (fr b)] (.tup [A4 (fr c), .i 0]) := by
 have := Ty (a : Rat) (b : Rat) ha hb
 rw [hc] at this
 rw [Ea hf] at this
 exact this
theorem A3x (a b c : Int) (ha : Fits (a : Rat)) (hb : Fits (b : Rat)) (h0 : (b : Rat) ≠ 0) (hc : (a : Rat) / (b : Rat) = (c : Rat)) (hf : Fits (c : Rat)) : Fn0 Tryz.prog 237 [A4 (fr a), A4 (fr b)] (.tup [A4 (fr c), .i 0]) := by
 have := A17 (a : Rat) (b : Rat) ha hb h0
 rw [hc] at this
 rw [Ea hf] at this
 exact this
theorem m11 : Fn0 Tryz.prog 50 [A4 (fr 1), A4 (fr 1)] (.tup [A4 (fr 1), .i 0]) := O5 1 1 1 (by decide) (by decide) (by decide +kernel) (by decide)
theorem d11 : Fn0 Tryz.prog 237 [A4 (fr 1), A4 (fr 1)] (.tup [A4 (fr 1), .i 0]) := A3x 1 1 1 (by decide) (by decide) (by decide +kernel) (by decide +kernel) (by decide)
theorem a11 : Fn0 Tryz.prog 236 [A4 (fr 1), A4 (fr 1)] (.tup [A4 (fr 2), .i 0]) := Wu 1 1 2 (by decide) (by decide) (by decide +kernel) (by decide)
theorem m12 : Fn0 Tryz.prog 50 [A4 (fr 1), A4 (fr 2)] (.tup [A4 (fr 2), .i 0]) := O5 1 2 2 (by decide) (by decide) (by decide +kernel) (by decide)
theorem a02 : Fn0 Tryz.prog 236 [A4 (fr 0), A4 (fr 2)] (.tup [A4 (fr 2), .i 0]) := Wu 0 2 2 (by decide) (by decide) (by decide +kernel) (by decide)
theorem A66 : Fn0 Tryz.prog 50 [A4 (fr 1), A4 (fr 300)] (.tup [A4 (fr 300), .i 0]) := O5 1 300 300 (by decide) (by decide) (by decide +kernel) (by decide)
theorem A5z : Fn0 Tryz.prog 236 [A4 (fr 0), A4 (fr 300)] (.tup [A4 (fr 300), .i 0]) := Wu 0 300 300 (by decide) (by decide) (by decide +kernel) (by decide)
theorem A60 : Fn0 Tryz.prog 237 [A4 (fr 300), A4 (fr 2)] (.tup [A4 (fr 150), .i 0]) := A3x 300 2 150 (by decide) (by decide) (by decide +kernel) (by decide +kernel) (by decide)
theorem A68 : Fn0 Tryz.prog 50 [A4 (fr 2), A4 (fr 150)] (.tup [A4 (fr 300), .i 0]) := O5 2 150 300 (by decide) (by decide) (by decide +kernel) (by decide)
theorem A67 : Fn0 Tryz.prog 50 [A4 (fr 150), A4 (fr 1)] (.tup [A4 (fr 150), .i 0]) := O5 150 1 150 (by decide) (by decide) (by decide +kernel) (by decide)
theorem A6i : Fn0 Tryz.prog 65 [A4 (fr 150), A4 (fr 150)] (.tup [.i 0, .i 0]) := by
 have := A16 (150 : Rat) (150 : Rat) (by decide) (by decide)
 rw [show Dy (150 : Rat) 150 = 0 by decide +kernel] at this
 exact this
theorem E0 (n : Int) : Fn0 Tryz.prog 208 [.i n] (A4 (fr n)) := by
 refine Fn0.of Tryz.func208 Tryz.ntmps208 rfl rfl rfl ?_
 simp only [A0]
 repeat' (first
  | refine W ?_
  | refine Y ?_
  | refine V ?_
  | (refine W2 ?_ ?_ <;> intro hc))
 all_goals exact ⟨.inr rfl, [A4 (fr n)], .cons (Res.row (fr n) rfl rfl rfl rfl rfl) .nil, .one (.agg (An _))⟩
theorem Zo : Fn0 Tryz.prog 243 [A4 (fr 1)] (.b true) := by
 have c := Qy
 refine Fn0.of Tryz.func243 Tryz.ntmps243 rfl rfl rfl ?_
 simp only [A0]
 repeat' (first
  | refine W ?_
  | refine Y ?_
  | refine V ?_
  | (refine W2 ?_ ?_ <;> intro hc))
 all_goals exact A5 (by simp) Tryz.results243 rfl rfl
set_option maxHeartbeats 16000000 in
theorem Zj (up : Bool) : Fn0 Tryz.prog 205 [A4 La, .b up] (.tup [.sl [fr 1, fr 1], .i 0]) := by
 have c0 := E0 1
 have c1 := Zo
 have c2 := m11
 have c3 := d11
 refine Fn0.of Tryz.func205 Tryz.ntmps205 rfl rfl rfl ?_
 simp only [A0]
 cases up
 all_goals repeat' (first
  | (refine T.freeze 7 rfl rfl (OwnRows.of (rows := [fr 1, fr 1]) [.i 1, .i 1, .i 1, .i 1] (by simp) rfl) ?_)
  | refine W ?_
  | refine Y ?_|(refine T.unroll ?_)|(refine TL.round ?_)|(dsimp only [B9, Ai];refine TL.round ?_)|(apply S.arith;(iterate 4 exact rfl);decide)|(apply S.indexR;(iterate 4 exact rfl);decide;exact rfl)|(apply S.indexO;(iterate 4 exact rfl);decide;exact rfl)|(apply S.ne2;(iterate 3 exact rfl))|(apply S.buildSliceO (d := 23);(iterate 6 exact rfl))|(apply S.buildSlice1;(iterate 7 exact rfl))|(apply S.appendO;(iterate 9 exact rfl);exact Ae rfl;exact rfl;exact rfl;exact Nat.le_of_ble_eq_true rfl;exact Nat.le_of_ble_eq_true rfl)|(apply T.draw 5 A3 (by decide +kernel);simp only [td])|(apply T.drawN 4 12 A3 (by decide +kernel);simp only [td])|(apply T.drawRN 4 12 A3 (by decide +kernel);simp only [td])|(apply T.draw 13 A3 (by decide +kernel);simp only [td])|(apply T.drawR 13 A3 (by decide +kernel);simp only [td])
  | refine V ?_
  | (refine W2 ?_ ?_ <;> intro hc))
 all_goals exact D2 rfl rfl rfl
set_option maxHeartbeats 16000000 in
theorem Zm : Fn0 Tryz.prog 206 [A4 Cz, A4 La, .sl [fr 1, fr 1]] (.tup [.sl [fr 2], .i 0]) := by
 have c0 := E0 0
 have c1 := E0 1
 have c2 := a11
 have c3 := m12
 have c4 := a02
 refine Fn0.of Tryz.func206 Tryz.ntmps206 rfl rfl rfl ?_
 simp only [A0]
 repeat' (first
  | (refine T.freeze 8 rfl rfl (OwnRows.of (rows := [(fr 2)]) (fr 2) (by simp) rfl) ?_)
  | refine W ?_
  | refine Y ?_|(refine T.unroll ?_)|(refine TL.round ?_)|(dsimp only [B9, Ai];refine TL.round ?_)|(apply S.arith;(iterate 4 exact rfl);decide)|(apply S.indexR;(iterate 4 exact rfl);decide;exact rfl)|(apply S.indexO;(iterate 4 exact rfl);decide;exact rfl)|(apply S.quo;(iterate 3 exact rfl);decide)|(apply S.buildSlice1;(iterate 7 exact rfl))|(apply S.appendN 9 (rows := []);(iterate 8 exact rfl);exact Ae rfl;exact rfl;exact Nat.le_of_ble_eq_true rfl;exact Nat.le_of_ble_eq_true rfl)|(apply T.draw 9 A3 (by decide +kernel);simp only [td])|(apply T.drawN 6 12 A3 (by decide +kernel);simp only [td])|(apply T.drawRN 6 12 A3 (by decide +kernel);simp only [td])|(apply T.drawN 6 14 A3 (by decide +kernel);simp only [td])|(apply T.drawRN 6 14 A3 (by decide +kernel);simp only [td])|(apply T.draw 12 A3 (by decide +kernel);simp only [td])|(apply T.drawR 12 A3 (by decide +kernel);simp only [td])|(apply T.drawR 9 A3 (by decide +kernel);simp only [td])
  | refine V ?_
  | (refine W2 ?_ ?_ <;> intro hc))
 all_goals exact D2 rfl rfl rfl
theorem Yg : Fn0 Tryz.prog 263 [.val (.int .u64 1), .val (.int .u64 1)] (.tup [.val (.int .u64 0), .val (.int .u64 1)]) := by
 have c := S5 1 1 (by decide) (by decide)
 refine Fn0.of Tryz.func263 Tryz.ntmps263 rfl rfl rfl ?_
 simp only [A0]
 repeat' (first
  | refine W ?_
  | refine Y ?_
  | refine V ?_
  | (refine W2 ?_ ?_ <;> intro hc))
 all_goals exact D2 rfl rfl rfl
set_option maxHeartbeats 16000000 in
theorem A3j : FnOwn Tryz.prog 244 [.sl [fr 0], .i 1] [fr 0] 2 := by
 have c := Yg
 refine FnOwn.of Tryz.func244 Tryz.ntmps244 rfl rfl rfl ?_
 simp only [A0]
 repeat' (first
  | refine W ?_
  | refine Y ?_|(refine T.unroll ?_)|(refine TL.round ?_)|(dsimp only [B9, Ai];refine TL.round ?_)|(apply S.conv;(iterate 3 exact rfl))|(apply S.makeOc (n := 1) (cells := [.val (.int .i64 0), .val (.int .i64 0)]);exact rfl;exact rfl;kernel_rfl;decide;exact rfl;exact rfl)|(apply S.copyO;(iterate 5 exact rfl);decide;exact rfl;exact Ae rfl;exact rfl)
  | refine V ?_
  | (refine W2 ?_ ?_ <;> intro hc))
 all_goals (apply T.ret;change Rw _ _ _ _ _ _)
 all_goals exact ⟨.inr rfl, .inr (.inr ⟨0, .cons (.tmp rfl) .nil, rfl⟩)⟩
set_option maxHeartbeats 16000000 in
theorem V1 : Fn0 Tryz.prog 207 [A4 Cz, .i 0] (.tup [.sl [[.sl [fr 1]]], .i 0]) := by
 have c0 := E0 0
 have c1 := E0 1
 refine Fn0.of Tryz.func207 Tryz.ntmps207 rfl rfl rfl ?_
 simp only [A0]
 repeat' (first
  | (refine T.freeze 9 rfl rfl (OwnRows.of (rows := [(fr 1)]) (fr 1) (by simp) rfl) ?_)|(refine T.freeze 7 rfl rfl (OwnRows.of (rows := [[.sl [fr 1]]]) [.sl [fr 1]] (by simp) rfl) ?_)
  | refine W ?_
  | refine Y ?_|(refine T.unroll ?_)|(refine TL.round ?_)|(dsimp only [B9, Ai];refine TL.round ?_)|(apply S.arith;(iterate 4 exact rfl);decide)|(apply S.indexR;(iterate 4 exact rfl);decide;exact rfl)|(apply S.indexO;(iterate 4 exact rfl);decide;exact rfl)|(apply S.buildSlice1;(iterate 7 exact rfl))|(apply S.appendN 2 (rows := []);(iterate 8 exact rfl);exact Ae rfl;exact rfl;exact Nat.le_of_ble_eq_true rfl;exact Nat.le_of_ble_eq_true rfl)|(apply S.callOwn 1;exact A3j;(iterate 6 exact rfl);exact Ae rfl;exact (fun h => by cases h))
  | refine V ?_
  | (refine W2 ?_ ?_ <;> intro hc))
 all_goals exact D2 rfl rfl rfl
set_option maxHeartbeats 16000000 in
theorem Vp (a b c : Int) (hm : Fn0 Tryz.prog 50 [A4 (fr a), A4 (fr b)] (.tup [A4 (fr c), .i 0])) (ha : Fn0 Tryz.prog 236 [A4 (fr 0), A4 (fr c)] (.tup [A4 (fr c), .i 0])) : Fn0 Tryz.prog 209 [.sl [fr a], .sl [fr b]] (.tup [A4 (fr c), .i 0]) := by
 have c0 := E0 0
 refine Fn0.of Tryz.func209 Tryz.ntmps209 rfl rfl rfl ?_
 simp only [A0]
 repeat' (first
  | refine W ?_
  | refine Y ?_|(refine T.unroll ?_)|(refine TL.round ?_)|(dsimp only [B9, Ai];refine TL.round ?_)|(apply S.arith;(iterate 4 exact rfl);decide)|(apply S.indexR;(iterate 4 exact rfl);decide;exact rfl)|(apply T.drawN 2 14 A3 (by decide +kernel);simp only [td])|(apply T.drawRN 2 14 A3 (by decide +kernel);simp only [td])
  | refine V ?_
  | (refine W2 ?_ ?_ <;> intro hc))
 all_goals exact ⟨.inr rfl, [A4 (fr c), .i 0], .cons (Res.row (fr c) rfl rfl rfl rfl rfl) (.cons (.tmp rfl) .nil), .tup (.cons (.agg (An _)) (.cons (.one (.lf _)) .nil))⟩
theorem Zr (n : Int) (h : ¬ n = 0) : Fn0 Tryz.prog 248 [A4 (fr n)] (.b true) := by
 refine Fn0.of Tryz.func248 Tryz.ntmps248 rfl rfl rfl ?_
 simp only [A0]
 repeat' (first
  | refine W ?_
  | refine Y ?_
  | refine V ?_
  | (refine W2 ?_ ?_ <;> intro hc))
 all_goals exact A5 (by simp) Tryz.results248 rfl (by simp [h])
theorem A4i (n : Int) (h : ¬ n = 0) : Fn0 Tryz.prog 247 [.sl [fr n], .fn (.func 248) [] []] (.i 0) := by
 have c := Zr n h
 refine Fn0.of Tryz.func247 Tryz.ntmps247 rfl rfl rfl ?_
 simp only [A0]
 repeat' (first
  | refine W ?_
  | refine Y ?_|(refine T.unroll ?_)|(refine TL.round ?_)|(dsimp only [B9, Ai];refine TL.round ?_)|(apply S.arith;(iterate 4 exact rfl);decide)|(apply S.indexR;(iterate 4 exact rfl);decide;exact rfl)|(apply S.callF;exact rfl;exact rfl;exact c;exact rfl;exact rfl)
  | refine V ?_
  | (refine W2 ?_ ?_ <;> intro hc))
 all_goals exact A5 (by simp) Tryz.results247 rfl rfl
theorem A2w (n : Int) (h : ¬ n = 0) : Fn0 Tryz.prog 246 [.sl [fr n]] (.i 0) := by
 have c := A4i n h
 refine Fn0.of Tryz.func246 Tryz.ntmps246 rfl rfl rfl ?_
 simp only [A0]
 repeat' (first
  | refine W ?_
  | refine Y ?_
  | refine V ?_
  | (refine W2 ?_ ?_ <;> intro hc))
 all_goals exact A5 (by simp) Tryz.results246 rfl rfl
set_option maxHeartbeats 16000000 in
theorem Uz : Fn0 Tryz.prog 210 [.sl [fr 300], .sl [fr 2]] (.tup [A4 (fr 150), .i 0]) := by
 have c0 := A2w 2 (by decide)
 have c2 := A60
 have c3 := A68
 refine Fn0.of Tryz.func210 Tryz.ntmps210 rfl rfl rfl ?_
 simp only [A0]
 repeat' (first
  | refine W ?_
  | refine Y ?_|(refine T.unroll ?_)|(refine TL.round ?_)|(dsimp only [B9, Ai];refine TL.round ?_)|(apply S.arith;(iterate 4 exact rfl);decide)|(apply S.indexR;(iterate 4 exact rfl);decide;exact rfl)|(apply S.callF;exact rfl;exact rfl;exact c0;exact rfl;exact rfl)|(apply S.eq2;(iterate 3 exact rfl))|(apply T.drawN 1 14 A3 (by decide +kernel);simp only [td])|(apply T.drawRN 1 14 A3 (by decide +kernel);simp only [td])|(apply T.drawN 2 11 A3 (by decide +kernel);simp only [td])|(apply T.drawRN 2 11 A3 (by decide +kernel);simp only [td])|(apply T.drawN 3 9 A3 (by decide +kernel);simp only [td])|(apply T.drawRN 3 9 A3 (by decide +kernel);simp only [td])
  | refine V ?_
  | (refine W2 ?_ ?_ <;> intro hc))
 all_goals exact ⟨.inr rfl, [A4 (fr 150), .i 0], .cons (Res.row (fr 150) rfl rfl rfl rfl rfl) (.cons (.tmp rfl) .nil), .tup (.cons (.agg (An _)) (.cons (.one (.lf _)) .nil))⟩
theorem Zn : Fn0 Tryz.prog 240 [A4 La] (.b true) := by
 refine Fn0.of Tryz.func240 Tryz.ntmps240 rfl rfl rfl ?_
 simp only [A0]
 repeat' (first
  | refine W ?_
  | refine Y ?_
  | refine V ?_
  | (refine W2 ?_ ?_ <;> intro hc))
 all_goals exact A5 (by simp) Tryz.results240 rfl rfl
theorem A2v : Fn0 Tryz.prog 239 [.sl [La], .fn (.func 240) [] []] (.i 0) := by
 have c := Zn
 refine Fn0.of Tryz.func239 Tryz.ntmps239 rfl rfl rfl ?_
 simp only [A0]
 repeat' (first
  | refine W ?_
  | refine Y ?_|(refine T.unroll ?_)|(refine TL.round ?_)|(dsimp only [B9, Ai];refine TL.round ?_)|(apply S.arith;(iterate 4 exact rfl);decide)|(apply S.indexR;(iterate 4 exact rfl);decide;exact rfl)|(apply S.callF;exact rfl;exact rfl;exact c;exact rfl;exact rfl)
  | refine V ?_
  | (refine W2 ?_ ?_ <;> intro hc))
 all_goals exact A5 (by simp) Tryz.results239 rfl rfl
theorem Zl : Fn0 Tryz.prog 204 [A4 Cz] (.tup [.i 0, .i 0]) := by
 have c := Hy
 have c1 := A2v
 refine Fn0.of Tryz.func204 Tryz.ntmps204 rfl rfl rfl ?_
 simp only [A0]
 repeat' (first
  | refine W ?_
  | refine Y ?_|(refine T.unroll ?_)|(refine TL.round ?_)|(dsimp only [B9, Ai];refine TL.round ?_)|(apply S.arith;(iterate 4 exact rfl);decide)|(apply S.indexR;(iterate 4 exact rfl);decide;exact rfl)
  | refine V ?_
  | (refine W2 ?_ ?_ <;> intro hc))
 all_goals exact D2 rfl rfl rfl
set_option maxHeartbeats 32000000 in
theorem Zk (up : Bool) : Fn0 Tryz.prog 171 [A4 Cz, .b up] (.tup [A4 (fr 150), .sl [fr 1, fr 1], .i 0]) := by
 have c0 := E0 300
 have c1 := Zl
 have c2 := Zj up
 have c3 := Zm
 have c4 := V1
 have c5 := Vp 1 300 300 A66 A5z
 have c6 := Vp 1 2 2 m12 a02
 have c7 := Uz
 refine Fn0.of Tryz.func171 Tryz.ntmps171 rfl rfl rfl ?_
 simp only [A0]
 repeat' (first
  | (refine T.freeze 13 rfl rfl (OwnRows.of (rows := [(fr 300)]) (fr 300) (by simp) rfl) ?_)|(refine T.freeze 16 rfl rfl (OwnRows.of (rows := [(fr 300)]) (fr 300) (by simp) rfl) ?_)|(refine T.freeze 17 rfl rfl (OwnRows.of (rows := [(fr 2)]) (fr 2) (by simp) rfl) ?_)|(refine T.ordersR (id := 30) A3 ?_)
  | refine W ?_
  | (apply Ords.nil;decide +kernel)|(apply Ords.takeMove 0;exact rfl;decide +kernel;decide +kernel;decide +kernel;exact rfl;exact rfl)|(apply Ords.takeMove 4;exact rfl;decide +kernel;decide +kernel;decide +kernel;exact rfl;exact rfl)|(apply Ords.two (i := 1) (j := 5);decide +kernel;exact rfl;exact rfl)|(apply Ords.two (i := 2) (j := 5);decide +kernel;exact rfl;exact rfl)|(apply Ords.two (i := 3) (j := 5);decide +kernel;exact rfl;exact rfl)|(apply Ords.two (i := 1) (j := 6);decide +kernel;exact rfl;exact rfl)|(apply Ords.two (i := 2) (j := 6);decide +kernel;exact rfl;exact rfl)|(apply Ords.two (i := 3) (j := 6);decide +kernel;exact rfl;exact rfl)|(apply Ords.one (i := 1);decide +kernel;exact rfl)|(apply Ords.one (i := 2);decide +kernel;exact rfl)|(apply Ords.one (i := 3);decide +kernel;exact rfl)|(apply Ords.one (i := 5);decide +kernel;exact rfl)|(apply Ords.one (i := 6);decide +kernel;exact rfl)|(apply Ords.one (i := 7);decide +kernel;exact rfl)|(apply Ords.one (i := 8);decide +kernel;exact rfl)|(apply Ords.one (i := 9);decide +kernel;exact rfl) | refine Y ?_|(refine T.unroll ?_)|(refine TL.round ?_)|(dsimp only [B9, Ai];refine TL.round ?_)|(apply S.arith;(iterate 4 exact rfl);decide)|(apply S.indexR;(iterate 4 exact rfl);decide;exact rfl)|(apply S.buildSlice1;(iterate 7 exact rfl))|(apply S.appendN 5 (rows := []);(iterate 8 exact rfl);exact Ae rfl;exact rfl;exact Nat.le_of_ble_eq_true rfl;exact Nat.le_of_ble_eq_true rfl)|(apply S.appendN 7 (rows := []);(iterate 8 exact rfl);exact Ae rfl;exact rfl;exact Nat.le_of_ble_eq_true rfl;exact Nat.le_of_ble_eq_true rfl)|(apply S.appendN 8 (rows := []);(iterate 8 exact rfl);exact Ae rfl;exact rfl;exact Nat.le_of_ble_eq_true rfl;exact Nat.le_of_ble_eq_true rfl)
  | refine V ?_
  | (refine W2 ?_ ?_ <;> intro hc))
 all_goals exact ⟨.inr rfl, [A4 (fr 150), .sl [fr 1, fr 1], .i 0], .cons (Res.row (fr 150) rfl rfl rfl rfl rfl) (.cons (.tmp rfl) (.cons (.tmp rfl) .nil)), .tup (.cons (.agg (An _)) (.cons (.one (.lf _)) (.cons (.one (.lf _)) .nil)))⟩
set_option maxHeartbeats 16000000 in
theorem Qu (up : Bool) : Fn0 Tryz.prog 116 [A4 Cz, .b up] (.tup [A4 (fr 150), .i 0]) := by
 have c0 := Zk up
 have c1 := A67
 refine Fn0.of Tryz.func116 Tryz.ntmps116 rfl rfl rfl ?_
 simp only [A0]
 repeat' (first
  | refine W ?_
  | refine Y ?_|(apply S.arith;(iterate 4 exact rfl);decide)|(apply S.indexR;(iterate 4 exact rfl);decide;exact rfl)|(apply T.drawN 3 10 A3 (by decide +kernel);simp only [td])|(apply T.drawRN 3 10 A3 (by decide +kernel);simp only [td])
  | refine V ?_
  | (refine W2 ?_ ?_ <;> intro hc))
 all_goals exact ⟨.inr rfl, [A4 (fr 150), .i 0], .cons (Res.row (fr 150) rfl rfl rfl rfl rfl) (.cons (.tmp rfl) .nil), .tup (.cons (.agg (An _)) (.cons (.one (.lf _)) .nil))⟩
theorem Zq : Fn0 Tryz.prog 63 [A4 Cz] (.tup [A4 (fr 150), .i 0]) := by
 have c0 := Qu true
 refine Fn0.of Tryz.func63 Tryz.ntmps63 rfl rfl rfl ?_
 simp only [A0]
 repeat' (first
  | refine W ?_
  | refine Y ?_
  | refine V ?_
  | (refine W2 ?_ ?_ <;> intro hc))
 all_goals exact ⟨.inr rfl, [A4 (fr 150), .i 0], .cons (Res.row (fr 150) rfl rfl rfl rfl rfl) (.cons (.tmp rfl) .nil), .tup (.cons (.agg (An _)) (.cons (.one (.lf _)) .nil))⟩
theorem Zp : Fn0 Tryz.prog 64 [A4 Cz] (.tup [A4 (fr 150), .i 0]) := by
 have c0 := Qu false
 refine Fn0.of Tryz.func64 Tryz.ntmps64 rfl rfl rfl ?_
 simp only [A0]
 repeat' (first
  | refine W ?_
  | refine Y ?_
  | refine V ?_
  | (refine W2 ?_ ?_ <;> intro hc))
 all_goals exact ⟨.inr rfl, [A4 (fr 150), .i 0], .cons (Res.row (fr 150) rfl rfl rfl rfl rfl) (.cons (.tmp rfl) .nil), .tup (.cons (.agg (An _)) (.cons (.one (.lf _)) .nil))⟩
set_option maxHeartbeats 16000000 in
theorem V0 : Fn0 Tryz.prog 34 [A4 Cz] (.tup [A4 (fr 150), A4 (fr 150), .i 0]) := by
 have c0 := Zq
 have c1 := Zp
 have c2 := A6i
 refine Fn0.of Tryz.func34 Tryz.ntmps34 rfl rfl rfl ?_
 simp only [A0]
 repeat' (first
  | (refine T.ordersR (id := 12) A3 ?_)
  | refine W ?_
  | refine Y ?_|(apply Ords.nil;decide +kernel)|(apply Ords.one (i := 0);decide +kernel;exact rfl)|(apply Ords.one (i := 1);decide +kernel;exact rfl)|(apply Ords.one (i := 2);decide +kernel;exact rfl)|(apply Ords.one (i := 3);decide +kernel;exact rfl)|(apply Ords.one (i := 4);decide +kernel;exact rfl)|(apply Ords.two (i := 0) (j := 1);decide +kernel;exact rfl;exact rfl)|(apply Ords.two (i := 2) (j := 3);decide +kernel;exact rfl;exact rfl)|(apply Ords.two (i := 1) (j := 2);decide +kernel;exact rfl;exact rfl)
  | refine V ?_
  | (refine W2 ?_ ?_ <;> intro hc))
 all_goals exact ⟨.inr rfl, [A4 (fr 150), A4 (fr 150), .i 0], .cons (Res.row (fr 150) rfl rfl rfl rfl rfl) (.cons (Res.row (fr 150) rfl rfl rfl rfl rfl) (.cons (.tmp rfl) .nil)), .tup (.cons (.agg (An _)) (.cons (.agg (An _)) (.cons (.one (.lf _)) .nil)))⟩
theorem V5 : Fn0 Tryz.prog 72 [A4 [.i 150, .i 1]] (.b true) := Mp 150 1
set_option maxHeartbeats 64000000 in
theorem Xk : Fn0 Tryz.prog 16 [A4 Cz] (.tup [.val (.string ⟨#[115, 121, 115, 116, 101, 109, 32, 49, 32, 49, 10, 116, 101, 110, 115, 105, 111, 110, 32, 114, 32, 49, 53, 48, 10, 104, 111, 108, 100, 105, 110, 103, 32, 49, 53, 48, 32, 49, 53, 48, 10]⟩), .i 0]) := by
 have c1 := Hy
 have c2 := U2
 have c3 := V0
 have c4 := F3 1 (by decide) (by decide)
 have c5 := A0n 150 (by decide) (by decide) V5
 rw [show Ao 1 = ⟨#[49]⟩ by decide +kernel] at c4
 rw [show Ao 150 = ⟨#[49, 53, 48]⟩ by decide +kernel] at c5
 refine Fn0.of Tryz.func16 Tryz.ntmps16 rfl rfl rfl ?_
 simp only [A0]
 repeat' (first
  | refine W ?_
  | (apply S.papN;exact rfl;exact rfl)|(apply S.mkIface;(iterate 4 exact rfl))|(refine T.unroll ?_)|(refine TL.round ?_)|(dsimp only [B9, Ai];refine TL.round ?_)|(apply S.arith;(iterate 4 exact rfl);decide)|(apply S.indexR;(iterate 4 exact rfl);decide;exact rfl)|(apply S.buildSliceF;(iterate 8 exact rfl))|(refine ⟨by first | exact .inl rfl | exact .inr rfl, [], .nil, rfl, ?_⟩;show Reg none _ _ _ _ _ _ _)|(refine S.inline [(1, .ptr 0 0), (4, .ptr 1 0), (5, .sl [fr 150]), (35, .sl [La]), (36, .i 1), (37, .i 0)] Tryz.func23 Tryz.ntmps23 rfl rfl rfl rfl rfl rfl rfl CW rfl ?_;intro vs;simp only [A0, List.cons_append, List.nil_append])|(refine S.inline [(1, .ptr 0 0), (4, .ptr 1 0)] Tryz.func23 Tryz.ntmps23 rfl rfl rfl rfl rfl rfl rfl CW rfl ?_;intro vs;simp only [A0, List.cons_append, List.nil_append])|(apply S.papW;(iterate 6 exact rfl);exact Nat.le_of_ble_eq_true rfl)|(apply S.fieldB;(iterate 3 exact rfl))|(apply S.nilCheckB;(iterate 3 exact rfl))|(apply S.assertYes;(iterate 3 exact rfl))|(apply S.assertNo;(iterate 4 exact rfl))|(refine T.ordersR (N := Tryz.f23.ntmps) (id := 11) A3 ?_)|(apply Ords.nil;decide +kernel)|(apply Ords.takeMove 0;exact rfl;decide +kernel;decide +kernel;decide +kernel;exact rfl;exact rfl)|(apply Ords.takeMove 3;exact rfl;decide +kernel;decide +kernel;decide +kernel;exact rfl;exact rfl)|(apply Ords.takeNilB 1;exact rfl;decide +kernel;decide +kernel;decide +kernel;(iterate 3 exact rfl))|(apply Ords.takeFieldB 2;exact rfl;decide +kernel;decide +kernel;decide +kernel;exact inferInstance;(iterate 3 exact rfl))|(apply Ords.one (i := 4);decide +kernel;exact rfl)|(apply Ords.one (i := 5);decide +kernel;exact rfl)|(apply S.papT;(iterate 3 exact rfl)) | refine Y ?_|(apply T.drawN 5 10 A3 (by decide +kernel);simp only [td])|(apply T.drawRN 5 10 A3 (by decide +kernel);simp only [td])
  | refine V ?_
  | (refine W2 ?_ ?_ <;> intro hc))
 all_goals exact ⟨.inr rfl, [.val (.string ⟨#[115, 121, 115, 116, 101, 109, 32, 49, 32, 49, 10, 116, 101, 110, 115, 105, 111, 110, 32, 114, 32, 49, 53, 48, 10, 104, 111, 108, 100, 105, 110, 103, 32, 49, 53, 48, 32, 49, 53, 48, 10]⟩), .i 0], .cons (.tmp rfl) (.cons (.tmp rfl) .nil), Out.tup (.cons (.one (.lf _)) (.cons (.one (.lf _)) .nil))⟩
end Go.Proofs.YtkboebgkcjcpfaaGreatDoor
