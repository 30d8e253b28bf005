/- Contracts at the chapter's example of a system of ropes: losses. No conditions. -/
import Derived.Test.YtlmppfffalaphaaGreatDoorYd
import Derived.Test.YtlmppfffalaphaaGreatDoorYa
import Derived.Test.YtlmppfffalaphaaGreatDoorYc
set_option linter.unusedSimpArgs false
set_option linter.unusedVariables false
namespace Go.Proofs.YtlmppfffalaphaaGreatDoor
open Go Go.RowKit
abbrev fr (n : Int) : List Lf := [.i n, .i 1]
theorem Gq (a b c : Int) (ha : Fits (a : Rat)) (hb : Fits (b : Rat)) (hc : (a : Rat) * (b : Rat) = (c : Rat)) (hf : Fits (c : Rat)) : Fn0 Tryz.prog 70 [A1 (fr a), A1 (fr b)] (.tup [A1 (fr c), .i 0]) := by
 have := Mz (a : Rat) (b : Rat) ha hb
 rw [hc] at this
 rw [Dn hf] at this
 exact this
theorem Ku (a b c : Int) (ha : Fits (a : Rat)) (hb : Fits (b : Rat)) (hc : (a : Rat) + (b : Rat) = (c : Rat)) (hf : Fits (c : Rat)) : Fn0 Tryz.prog 261 [A1 (fr a), A1 (fr b)] (.tup [A1 (fr c), .i 0]) := by
 have := Q8 (a : Rat) (b : Rat) ha hb
 rw [hc] at this
 rw [Dn hf] at this
 exact this
theorem Oy (a b c : Int) (ha : Fits (a : Rat)) (hb : Fits (b : Rat)) (h0 : (b : Rat) ≠ 0) (hc : (a : Rat) / (b : Rat) = (c : Rat)) (hf : Fits (c : Rat)) : Fn0 Tryz.prog 262 [A1 (fr a), A1 (fr b)] (.tup [A1 (fr c), .i 0]) := by
 have := Qa (a : Rat) (b : Rat) ha hb h0
 rw [hc] at this
 rw [Dn hf] at this
 exact this
theorem m11 : Fn0 Tryz.prog 70 [A1 (fr 1), A1 (fr 1)] (.tup [A1 (fr 1), .i 0]) := Gq 1 1 1 (by decide) (by decide) (by decide +kernel) (by decide)
theorem d11 : Fn0 Tryz.prog 262 [A1 (fr 1), A1 (fr 1)] (.tup [A1 (fr 1), .i 0]) := Oy 1 1 1 (by decide) (by decide) (by decide +kernel) (by decide +kernel) (by decide)
theorem a11 : Fn0 Tryz.prog 261 [A1 (fr 1), A1 (fr 1)] (.tup [A1 (fr 2), .i 0]) := Ku 1 1 2 (by decide) (by decide) (by decide +kernel) (by decide)
theorem m12 : Fn0 Tryz.prog 70 [A1 (fr 1), A1 (fr 2)] (.tup [A1 (fr 2), .i 0]) := Gq 1 2 2 (by decide) (by decide) (by decide +kernel) (by decide)
theorem a02 : Fn0 Tryz.prog 261 [A1 (fr 0), A1 (fr 2)] (.tup [A1 (fr 2), .i 0]) := Ku 0 2 2 (by decide) (by decide) (by decide +kernel) (by decide)
theorem Qt : Fn0 Tryz.prog 70 [A1 (fr 1), A1 (fr 300)] (.tup [A1 (fr 300), .i 0]) := Gq 1 300 300 (by decide) (by decide) (by decide +kernel) (by decide)
theorem Qi : Fn0 Tryz.prog 261 [A1 (fr 0), A1 (fr 300)] (.tup [A1 (fr 300), .i 0]) := Ku 0 300 300 (by decide) (by decide) (by decide +kernel) (by decide)
theorem Qj : Fn0 Tryz.prog 262 [A1 (fr 300), A1 (fr 2)] (.tup [A1 (fr 150), .i 0]) := Oy 300 2 150 (by decide) (by decide) (by decide +kernel) (by decide +kernel) (by decide)
theorem Qv : Fn0 Tryz.prog 70 [A1 (fr 2), A1 (fr 150)] (.tup [A1 (fr 300), .i 0]) := Gq 2 150 300 (by decide) (by decide) (by decide +kernel) (by decide)
theorem Qu : Fn0 Tryz.prog 70 [A1 (fr 150), A1 (fr 1)] (.tup [A1 (fr 150), .i 0]) := Gq 150 1 150 (by decide) (by decide) (by decide +kernel) (by decide)
theorem Qz : Fn0 Tryz.prog 84 [A1 (fr 150), A1 (fr 150)] (.tup [.i 0, .i 0]) := by
 have := Q9 (150 : Rat) (150 : Rat) (by decide) (by decide)
 rw [show Kr (150 : Rat) 150 = 0 by decide +kernel] at this
 exact this
theorem Bo (n : Int) : Fn0 Tryz.prog 232 [.i n] (A1 (fr n)) := by
 refine Fn0.of Tryz.func232 Tryz.ntmps232 rfl rfl rfl ?_
 simp only [A0]
 repeat' (first
  | refine W ?_
  | refine Y ?_
  | refine V ?_
  | (refine W2 ?_ ?_ <;> intro hc))
 all_goals exact ⟨.inr rfl, [A1 (fr n)], .cons (Res.row (fr n) rfl rfl rfl rfl rfl) .nil, .one (.agg (A5 _))⟩
theorem Mb : Fn0 Tryz.prog 268 [A1 (fr 1)] (.b true) := by
 have c := I1
 refine Fn0.of Tryz.func268 Tryz.ntmps268 rfl rfl rfl ?_
 simp only [A0]
 repeat' (first
  | refine W ?_
  | refine Y ?_
  | refine V ?_
  | (refine W2 ?_ ?_ <;> intro hc))
 all_goals exact A4 (by simp) Tryz.results268 rfl rfl
set_option maxHeartbeats 16000000 in
theorem M6 (up : Bool) : Fn0 Tryz.prog 229 [A1 F7, .b up] (.tup [.sl [fr 1, fr 1], .i 0]) := by
 have c0 := Bo 1
 have c1 := Mb
 have c2 := m11
 have c3 := d11
 refine Fn0.of Tryz.func229 Tryz.ntmps229 rfl rfl rfl ?_
 simp only [A0]
 cases up
 all_goals repeat' (first
  | (refine T.freeze 7 rfl rfl (OwnRows.of (rows := [fr 1, fr 1]) [.i 1, .i 1, .i 1, .i 1] (by simp) rfl) ?_)
  | refine W ?_
  | refine Y ?_|(refine T.unroll ?_)|(refine TL.round ?_)|(dsimp only [An, Aa];refine TL.round ?_)|(apply S.arith;(iterate 4 exact rfl);decide)|(apply S.indexR;(iterate 4 exact rfl);decide;exact rfl)|(apply S.indexO;(iterate 4 exact rfl);decide;exact rfl)|(apply S.ne2;(iterate 3 exact rfl))|(apply S.buildSliceO (d := 23);(iterate 6 exact rfl))|(apply S.buildSlice1;(iterate 7 exact rfl))|(apply S.appendO;(iterate 9 exact rfl);exact A9 rfl;exact rfl;exact rfl;exact Nat.le_of_ble_eq_true rfl;exact Nat.le_of_ble_eq_true rfl)|(apply T.draw 5 A2 (by decide +kernel);simp only [td])|(apply T.drawN 4 12 A2 (by decide +kernel);simp only [td])|(apply T.drawRN 4 12 A2 (by decide +kernel);simp only [td])|(apply T.draw 13 A2 (by decide +kernel);simp only [td])|(apply T.drawR 13 A2 (by decide +kernel);simp only [td])
  | refine V ?_
  | (refine W2 ?_ ?_ <;> intro hc))
 all_goals exact D2 rfl rfl rfl
set_option maxHeartbeats 16000000 in
theorem M9 : Fn0 Tryz.prog 230 [A1 Ba, A1 F7, .sl [fr 1, fr 1]] (.tup [.sl [fr 2], .i 0]) := by
 have c0 := Bo 0
 have c1 := Bo 1
 have c2 := a11
 have c3 := m12
 have c4 := a02
 refine Fn0.of Tryz.func230 Tryz.ntmps230 rfl rfl rfl ?_
 simp only [A0]
 repeat' (first
  | (refine T.freeze 8 rfl rfl (OwnRows.of (rows := [(fr 2)]) (fr 2) (by simp) rfl) ?_)
  | refine W ?_
  | refine Y ?_|(refine T.unroll ?_)|(refine TL.round ?_)|(dsimp only [An, Aa];refine TL.round ?_)|(apply S.arith;(iterate 4 exact rfl);decide)|(apply S.indexR;(iterate 4 exact rfl);decide;exact rfl)|(apply S.indexO;(iterate 4 exact rfl);decide;exact rfl)|(apply S.quo;(iterate 3 exact rfl);decide)|(apply S.buildSlice1;(iterate 7 exact rfl))|(apply S.appendN 9 (rows := []);(iterate 8 exact rfl);exact A9 rfl;exact rfl;exact Nat.le_of_ble_eq_true rfl;exact Nat.le_of_ble_eq_true rfl)|(apply T.draw 9 A2 (by decide +kernel);simp only [td])|(apply T.drawN 6 12 A2 (by decide +kernel);simp only [td])|(apply T.drawRN 6 12 A2 (by decide +kernel);simp only [td])|(apply T.drawN 6 14 A2 (by decide +kernel);simp only [td])|(apply T.drawRN 6 14 A2 (by decide +kernel);simp only [td])|(apply T.draw 12 A2 (by decide +kernel);simp only [td])|(apply T.drawR 12 A2 (by decide +kernel);simp only [td])|(apply T.drawR 9 A2 (by decide +kernel);simp only [td])
  | refine V ?_
  | (refine W2 ?_ ?_ <;> intro hc))
 all_goals exact D2 rfl rfl rfl
theorem Li : Fn0 Tryz.prog 288 [.val (.int .u64 1), .val (.int .u64 1)] (.tup [.val (.int .u64 0), .val (.int .u64 1)]) := by
 have c := Io 1 1 (by decide) (by decide)
 refine Fn0.of Tryz.func288 Tryz.ntmps288 rfl rfl rfl ?_
 simp only [A0]
 repeat' (first
  | refine W ?_
  | refine Y ?_
  | refine V ?_
  | (refine W2 ?_ ?_ <;> intro hc))
 all_goals exact D2 rfl rfl rfl
set_option maxHeartbeats 16000000 in
theorem Oj : FnOwn Tryz.prog 269 [.sl [fr 0], .i 1] [fr 0] 2 := by
 have c := Li
 refine FnOwn.of Tryz.func269 Tryz.ntmps269 rfl rfl rfl ?_
 simp only [A0]
 repeat' (first
  | refine W ?_
  | refine Y ?_|(refine T.unroll ?_)|(refine TL.round ?_)|(dsimp only [An, Aa];refine TL.round ?_)|(apply S.conv;(iterate 3 exact rfl))|(apply S.makeOc (n := 1) (cells := [.val (.int .i64 0), .val (.int .i64 0)]);exact rfl;exact rfl;kernel_rfl;decide;exact rfl;exact rfl)|(apply S.copyO;(iterate 5 exact rfl);decide;exact rfl;exact A9 rfl;exact rfl)
  | refine V ?_
  | (refine W2 ?_ ?_ <;> intro hc))
 all_goals (apply T.ret;change Ih _ _ _ _ _ _)
 all_goals exact ⟨.inr rfl, .inr (.inr ⟨0, .cons (.tmp rfl) .nil, rfl⟩)⟩
set_option maxHeartbeats 16000000 in
theorem Jz : Fn0 Tryz.prog 231 [A1 Ba, .i 0] (.tup [.sl [[.sl [fr 1]]], .i 0]) := by
 have c0 := Bo 0
 have c1 := Bo 1
 refine Fn0.of Tryz.func231 Tryz.ntmps231 rfl rfl rfl ?_
 simp only [A0]
 repeat' (first
  | (refine T.freeze 9 rfl rfl (OwnRows.of (rows := [(fr 1)]) (fr 1) (by simp) rfl) ?_)|(refine T.freeze 7 rfl rfl (OwnRows.of (rows := [[.sl [fr 1]]]) [.sl [fr 1]] (by simp) rfl) ?_)
  | refine W ?_
  | refine Y ?_|(refine T.unroll ?_)|(refine TL.round ?_)|(dsimp only [An, Aa];refine TL.round ?_)|(apply S.arith;(iterate 4 exact rfl);decide)|(apply S.indexR;(iterate 4 exact rfl);decide;exact rfl)|(apply S.indexO;(iterate 4 exact rfl);decide;exact rfl)|(apply S.buildSlice1;(iterate 7 exact rfl))|(apply S.appendN 2 (rows := []);(iterate 8 exact rfl);exact A9 rfl;exact rfl;exact Nat.le_of_ble_eq_true rfl;exact Nat.le_of_ble_eq_true rfl)|(apply S.callOwn 1;exact Oj;(iterate 6 exact rfl);exact A9 rfl;exact (fun h => by cases h))
  | refine V ?_
  | (refine W2 ?_ ?_ <;> intro hc))
 all_goals exact D2 rfl rfl rfl
set_option maxHeartbeats 16000000 in
theorem Kg (a b c : Int) (hm : Fn0 Tryz.prog 70 [A1 (fr a), A1 (fr b)] (.tup [A1 (fr c), .i 0])) (ha : Fn0 Tryz.prog 261 [A1 (fr 0), A1 (fr c)] (.tup [A1 (fr c), .i 0])) : Fn0 Tryz.prog 233 [.sl [fr a], .sl [fr b]] (.tup [A1 (fr c), .i 0]) := by
 have c0 := Bo 0
 refine Fn0.of Tryz.func233 Tryz.ntmps233 rfl rfl rfl ?_
 simp only [A0]
 repeat' (first
  | refine W ?_
  | refine Y ?_|(refine T.unroll ?_)|(refine TL.round ?_)|(dsimp only [An, Aa];refine TL.round ?_)|(apply S.arith;(iterate 4 exact rfl);decide)|(apply S.indexR;(iterate 4 exact rfl);decide;exact rfl)|(apply T.drawN 2 14 A2 (by decide +kernel);simp only [td])|(apply T.drawRN 2 14 A2 (by decide +kernel);simp only [td])
  | refine V ?_
  | (refine W2 ?_ ?_ <;> intro hc))
 all_goals exact ⟨.inr rfl, [A1 (fr c), .i 0], .cons (Res.row (fr c) rfl rfl rfl rfl rfl) (.cons (.tmp rfl) .nil), .tup (.cons (.agg (A5 _)) (.cons (.one (.lf _)) .nil))⟩
theorem Me (n : Int) (h : ¬ n = 0) : Fn0 Tryz.prog 273 [A1 (fr n)] (.b true) := by
 refine Fn0.of Tryz.func273 Tryz.ntmps273 rfl rfl rfl ?_
 simp only [A0]
 repeat' (first
  | refine W ?_
  | refine Y ?_
  | refine V ?_
  | (refine W2 ?_ ?_ <;> intro hc))
 all_goals exact A4 (by simp) Tryz.results273 rfl (by simp [h])
theorem Pa (n : Int) (h : ¬ n = 0) : Fn0 Tryz.prog 272 [.sl [fr n], .fn (.func 273) [] []] (.i 0) := by
 have c := Me n h
 refine Fn0.of Tryz.func272 Tryz.ntmps272 rfl rfl rfl ?_
 simp only [A0]
 repeat' (first
  | refine W ?_
  | refine Y ?_|(refine T.unroll ?_)|(refine TL.round ?_)|(dsimp only [An, Aa];refine TL.round ?_)|(apply S.arith;(iterate 4 exact rfl);decide)|(apply S.indexR;(iterate 4 exact rfl);decide;exact rfl)|(apply S.callF;exact rfl;exact rfl;exact c;exact rfl;exact rfl)
  | refine V ?_
  | (refine W2 ?_ ?_ <;> intro hc))
 all_goals exact A4 (by simp) Tryz.results272 rfl rfl
theorem O5 (n : Int) (h : ¬ n = 0) : Fn0 Tryz.prog 271 [.sl [fr n]] (.i 0) := by
 have c := Pa n h
 refine Fn0.of Tryz.func271 Tryz.ntmps271 rfl rfl rfl ?_
 simp only [A0]
 repeat' (first
  | refine W ?_
  | refine Y ?_
  | refine V ?_
  | (refine W2 ?_ ?_ <;> intro hc))
 all_goals exact A4 (by simp) Tryz.results271 rfl rfl
set_option maxHeartbeats 16000000 in
theorem Jx : Fn0 Tryz.prog 234 [.sl [fr 300], .sl [fr 2]] (.tup [A1 (fr 150), .i 0]) := by
 have c0 := O5 2 (by decide)
 have c2 := Qj
 have c3 := Qv
 refine Fn0.of Tryz.func234 Tryz.ntmps234 rfl rfl rfl ?_
 simp only [A0]
 repeat' (first
  | refine W ?_
  | refine Y ?_|(refine T.unroll ?_)|(refine TL.round ?_)|(dsimp only [An, Aa];refine TL.round ?_)|(apply S.arith;(iterate 4 exact rfl);decide)|(apply S.indexR;(iterate 4 exact rfl);decide;exact rfl)|(apply S.callF;exact rfl;exact rfl;exact c0;exact rfl;exact rfl)|(apply S.eq2;(iterate 3 exact rfl))|(apply T.drawN 1 14 A2 (by decide +kernel);simp only [td])|(apply T.drawRN 1 14 A2 (by decide +kernel);simp only [td])|(apply T.drawN 2 11 A2 (by decide +kernel);simp only [td])|(apply T.drawRN 2 11 A2 (by decide +kernel);simp only [td])|(apply T.drawN 3 9 A2 (by decide +kernel);simp only [td])|(apply T.drawRN 3 9 A2 (by decide +kernel);simp only [td])
  | refine V ?_
  | (refine W2 ?_ ?_ <;> intro hc))
 all_goals exact ⟨.inr rfl, [A1 (fr 150), .i 0], .cons (Res.row (fr 150) rfl rfl rfl rfl rfl) (.cons (.tmp rfl) .nil), .tup (.cons (.agg (A5 _)) (.cons (.one (.lf _)) .nil))⟩
theorem Ma : Fn0 Tryz.prog 265 [A1 F7] (.b true) := by
 refine Fn0.of Tryz.func265 Tryz.ntmps265 rfl rfl rfl ?_
 simp only [A0]
 repeat' (first
  | refine W ?_
  | refine Y ?_
  | refine V ?_
  | (refine W2 ?_ ?_ <;> intro hc))
 all_goals exact A4 (by simp) Tryz.results265 rfl rfl
theorem O4 : Fn0 Tryz.prog 264 [.sl [F7], .fn (.func 265) [] []] (.i 0) := by
 have c := Ma
 refine Fn0.of Tryz.func264 Tryz.ntmps264 rfl rfl rfl ?_
 simp only [A0]
 repeat' (first
  | refine W ?_
  | refine Y ?_|(refine T.unroll ?_)|(refine TL.round ?_)|(dsimp only [An, Aa];refine TL.round ?_)|(apply S.arith;(iterate 4 exact rfl);decide)|(apply S.indexR;(iterate 4 exact rfl);decide;exact rfl)|(apply S.callF;exact rfl;exact rfl;exact c;exact rfl;exact rfl)
  | refine V ?_
  | (refine W2 ?_ ?_ <;> intro hc))
 all_goals exact A4 (by simp) Tryz.results264 rfl rfl
theorem M8 : Fn0 Tryz.prog 228 [A1 Ba] (.tup [.i 0, .i 0]) := by
 have c := Dp
 have c1 := O4
 refine Fn0.of Tryz.func228 Tryz.ntmps228 rfl rfl rfl ?_
 simp only [A0]
 repeat' (first
  | refine W ?_
  | refine Y ?_|(refine T.unroll ?_)|(refine TL.round ?_)|(dsimp only [An, Aa];refine TL.round ?_)|(apply S.arith;(iterate 4 exact rfl);decide)|(apply S.indexR;(iterate 4 exact rfl);decide;exact rfl)
  | refine V ?_
  | (refine W2 ?_ ?_ <;> intro hc))
 all_goals exact D2 rfl rfl rfl
set_option maxHeartbeats 32000000 in
theorem M7 (up : Bool) : Fn0 Tryz.prog 194 [A1 Ba, .b up] (.tup [A1 (fr 150), .sl [fr 1, fr 1], .i 0]) := by
 have c0 := Bo 300
 have c1 := M8
 have c2 := M6 up
 have c3 := M9
 have c4 := Jz
 have c5 := Kg 1 300 300 Qt Qi
 have c6 := Kg 1 2 2 m12 a02
 have c7 := Jx
 refine Fn0.of Tryz.func194 Tryz.ntmps194 rfl rfl rfl ?_
 simp only [A0]
 repeat' (first
  | (refine T.freeze 13 rfl rfl (OwnRows.of (rows := [(fr 300)]) (fr 300) (by simp) rfl) ?_)|(refine T.freeze 16 rfl rfl (OwnRows.of (rows := [(fr 300)]) (fr 300) (by simp) rfl) ?_)|(refine T.freeze 17 rfl rfl (OwnRows.of (rows := [(fr 2)]) (fr 2) (by simp) rfl) ?_)|(refine T.ordersR (id := 30) A2 ?_)
  | refine W ?_
  | (apply Ords.nil;decide +kernel)|(apply Ords.takeMove 0;exact rfl;decide +kernel;decide +kernel;decide +kernel;exact rfl;exact rfl)|(apply Ords.takeMove 4;exact rfl;decide +kernel;decide +kernel;decide +kernel;exact rfl;exact rfl)|(apply Ords.two (i := 1) (j := 5);decide +kernel;exact rfl;exact rfl)|(apply Ords.two (i := 2) (j := 5);decide +kernel;exact rfl;exact rfl)|(apply Ords.two (i := 3) (j := 5);decide +kernel;exact rfl;exact rfl)|(apply Ords.two (i := 1) (j := 6);decide +kernel;exact rfl;exact rfl)|(apply Ords.two (i := 2) (j := 6);decide +kernel;exact rfl;exact rfl)|(apply Ords.two (i := 3) (j := 6);decide +kernel;exact rfl;exact rfl)|(apply Ords.one (i := 1);decide +kernel;exact rfl)|(apply Ords.one (i := 2);decide +kernel;exact rfl)|(apply Ords.one (i := 3);decide +kernel;exact rfl)|(apply Ords.one (i := 5);decide +kernel;exact rfl)|(apply Ords.one (i := 6);decide +kernel;exact rfl)|(apply Ords.one (i := 7);decide +kernel;exact rfl)|(apply Ords.one (i := 8);decide +kernel;exact rfl)|(apply Ords.one (i := 9);decide +kernel;exact rfl) | refine Y ?_|(refine T.unroll ?_)|(refine TL.round ?_)|(dsimp only [An, Aa];refine TL.round ?_)|(apply S.arith;(iterate 4 exact rfl);decide)|(apply S.indexR;(iterate 4 exact rfl);decide;exact rfl)|(apply S.buildSlice1;(iterate 7 exact rfl))|(apply S.appendN 5 (rows := []);(iterate 8 exact rfl);exact A9 rfl;exact rfl;exact Nat.le_of_ble_eq_true rfl;exact Nat.le_of_ble_eq_true rfl)|(apply S.appendN 7 (rows := []);(iterate 8 exact rfl);exact A9 rfl;exact rfl;exact Nat.le_of_ble_eq_true rfl;exact Nat.le_of_ble_eq_true rfl)|(apply S.appendN 8 (rows := []);(iterate 8 exact rfl);exact A9 rfl;exact rfl;exact Nat.le_of_ble_eq_true rfl;exact Nat.le_of_ble_eq_true rfl)
  | refine V ?_
  | (refine W2 ?_ ?_ <;> intro hc))
 all_goals exact ⟨.inr rfl, [A1 (fr 150), .sl [fr 1, fr 1], .i 0], .cons (Res.row (fr 150) rfl rfl rfl rfl rfl) (.cons (.tmp rfl) (.cons (.tmp rfl) .nil)), .tup (.cons (.agg (A5 _)) (.cons (.one (.lf _)) (.cons (.one (.lf _)) .nil)))⟩
set_option maxHeartbeats 16000000 in
theorem Hz (up : Bool) : Fn0 Tryz.prog 136 [A1 Ba, .b up] (.tup [A1 (fr 150), .i 0]) := by
 have c0 := M7 up
 have c1 := Qu
 refine Fn0.of Tryz.func136 Tryz.ntmps136 rfl rfl rfl ?_
 simp only [A0]
 repeat' (first
  | refine W ?_
  | refine Y ?_|(apply S.arith;(iterate 4 exact rfl);decide)|(apply S.indexR;(iterate 4 exact rfl);decide;exact rfl)|(apply T.drawN 3 10 A2 (by decide +kernel);simp only [td])|(apply T.drawRN 3 10 A2 (by decide +kernel);simp only [td])
  | refine V ?_
  | (refine W2 ?_ ?_ <;> intro hc))
 all_goals exact ⟨.inr rfl, [A1 (fr 150), .i 0], .cons (Res.row (fr 150) rfl rfl rfl rfl rfl) (.cons (.tmp rfl) .nil), .tup (.cons (.agg (A5 _)) (.cons (.one (.lf _)) .nil))⟩
theorem Md : Fn0 Tryz.prog 82 [A1 Ba] (.tup [A1 (fr 150), .i 0]) := by
 have c0 := Hz true
 refine Fn0.of Tryz.func82 Tryz.ntmps82 rfl rfl rfl ?_
 simp only [A0]
 repeat' (first
  | refine W ?_
  | refine Y ?_
  | refine V ?_
  | (refine W2 ?_ ?_ <;> intro hc))
 all_goals exact ⟨.inr rfl, [A1 (fr 150), .i 0], .cons (Res.row (fr 150) rfl rfl rfl rfl rfl) (.cons (.tmp rfl) .nil), .tup (.cons (.agg (A5 _)) (.cons (.one (.lf _)) .nil))⟩
theorem Mc : Fn0 Tryz.prog 83 [A1 Ba] (.tup [A1 (fr 150), .i 0]) := by
 have c0 := Hz false
 refine Fn0.of Tryz.func83 Tryz.ntmps83 rfl rfl rfl ?_
 simp only [A0]
 repeat' (first
  | refine W ?_
  | refine Y ?_
  | refine V ?_
  | (refine W2 ?_ ?_ <;> intro hc))
 all_goals exact ⟨.inr rfl, [A1 (fr 150), .i 0], .cons (Res.row (fr 150) rfl rfl rfl rfl rfl) (.cons (.tmp rfl) .nil), .tup (.cons (.agg (A5 _)) (.cons (.one (.lf _)) .nil))⟩
set_option maxHeartbeats 16000000 in
theorem Jy : Fn0 Tryz.prog 49 [A1 Ba] (.tup [A1 (fr 150), A1 (fr 150), .i 0]) := by
 have c0 := Md
 have c1 := Mc
 have c2 := Qz
 refine Fn0.of Tryz.func49 Tryz.ntmps49 rfl rfl rfl ?_
 simp only [A0]
 repeat' (first
  | (refine T.ordersR (id := 12) A2 ?_)
  | refine W ?_
  | refine Y ?_|(apply Ords.nil;decide +kernel)|(apply Ords.one (i := 0);decide +kernel;exact rfl)|(apply Ords.one (i := 1);decide +kernel;exact rfl)|(apply Ords.one (i := 2);decide +kernel;exact rfl)|(apply Ords.one (i := 3);decide +kernel;exact rfl)|(apply Ords.one (i := 4);decide +kernel;exact rfl)|(apply Ords.two (i := 0) (j := 1);decide +kernel;exact rfl;exact rfl)|(apply Ords.two (i := 2) (j := 3);decide +kernel;exact rfl;exact rfl)|(apply Ords.two (i := 1) (j := 2);decide +kernel;exact rfl;exact rfl)
  | refine V ?_
  | (refine W2 ?_ ?_ <;> intro hc))
 all_goals exact ⟨.inr rfl, [A1 (fr 150), A1 (fr 150), .i 0], .cons (Res.row (fr 150) rfl rfl rfl rfl rfl) (.cons (Res.row (fr 150) rfl rfl rfl rfl rfl) (.cons (.tmp rfl) .nil)), .tup (.cons (.agg (A5 _)) (.cons (.agg (A5 _)) (.cons (.one (.lf _)) .nil)))⟩
theorem K1 : Fn0 Tryz.prog 90 [A1 [.i 150, .i 1]] (.b true) := Fw 150 1
set_option maxHeartbeats 64000000 in
theorem L5 : Fn0 Tryz.prog 25 [A1 Ba] (.tup [.val (.string ⟨#[115, 121, 115, 116, 101, 109, 32, 49, 32, 49, 10, 116, 101, 110, 115, 105, 111, 110, 32, 114, 32, 49, 53, 48, 10, 104, 111, 108, 100, 105, 110, 103, 32, 49, 53, 48, 32, 49, 53, 48, 10]⟩), .i 0]) := by
 have c1 := Dp
 have c2 := Jl
 have c3 := Jy
 have c4 := Df 1 (by decide) (by decide)
 have c5 := Mr 150 (by decide) (by decide) K1
 rw [show A6 1 = ⟨#[49]⟩ by decide +kernel] at c4
 rw [show A6 150 = ⟨#[49, 53, 48]⟩ by decide +kernel] at c5
 refine Fn0.of Tryz.func25 Tryz.ntmps25 rfl rfl rfl ?_
 simp only [A0]
 repeat' (first
  | refine W ?_
  | (apply S.papN;exact rfl;exact rfl)|(apply S.mkIface;(iterate 4 exact rfl))|(refine T.unroll ?_)|(refine TL.round ?_)|(dsimp only [An, Aa];refine TL.round ?_)|(apply S.arith;(iterate 4 exact rfl);decide)|(apply S.indexR;(iterate 4 exact rfl);decide;exact rfl)|(apply S.buildSliceF;(iterate 8 exact rfl))|(refine ⟨by first | exact .inl rfl | exact .inr rfl, [], .nil, rfl, ?_⟩;show Reg none _ _ _ _ _ _ _)|(refine S.inline [(1, .ptr 0 0), (4, .ptr 1 0), (5, .sl [fr 150]), (35, .sl [F7]), (36, .i 1), (37, .i 0)] Tryz.func34 Tryz.ntmps34 rfl rfl rfl rfl rfl rfl rfl CW rfl ?_;intro vs;simp only [A0, List.cons_append, List.nil_append])|(refine S.inline [(1, .ptr 0 0), (4, .ptr 1 0)] Tryz.func34 Tryz.ntmps34 rfl rfl rfl rfl rfl rfl rfl CW rfl ?_;intro vs;simp only [A0, List.cons_append, List.nil_append])|(apply S.papW;(iterate 6 exact rfl);exact Nat.le_of_ble_eq_true rfl)|(apply S.fieldB;(iterate 3 exact rfl))|(apply S.nilCheckB;(iterate 3 exact rfl))|(apply S.assertYes;(iterate 3 exact rfl))|(apply S.assertNo;(iterate 4 exact rfl))|(refine T.ordersR (N := Tryz.f34.ntmps) (id := 11) A2 ?_)|(apply Ords.nil;decide +kernel)|(apply Ords.takeMove 0;exact rfl;decide +kernel;decide +kernel;decide +kernel;exact rfl;exact rfl)|(apply Ords.takeMove 3;exact rfl;decide +kernel;decide +kernel;decide +kernel;exact rfl;exact rfl)|(apply Ords.takeNilB 1;exact rfl;decide +kernel;decide +kernel;decide +kernel;(iterate 3 exact rfl))|(apply Ords.takeFieldB 2;exact rfl;decide +kernel;decide +kernel;decide +kernel;exact inferInstance;(iterate 3 exact rfl))|(apply Ords.one (i := 4);decide +kernel;exact rfl)|(apply Ords.one (i := 5);decide +kernel;exact rfl)|(apply S.papT;(iterate 3 exact rfl)) | refine Y ?_|(apply T.drawN 5 10 A2 (by decide +kernel);simp only [td])|(apply T.drawRN 5 10 A2 (by decide +kernel);simp only [td])
  | refine V ?_
  | (refine W2 ?_ ?_ <;> intro hc))
 all_goals exact ⟨.inr rfl, [.val (.string ⟨#[115, 121, 115, 116, 101, 109, 32, 49, 32, 49, 10, 116, 101, 110, 115, 105, 111, 110, 32, 114, 32, 49, 53, 48, 10, 104, 111, 108, 100, 105, 110, 103, 32, 49, 53, 48, 32, 49, 53, 48, 10]⟩), .i 0], .cons (.tmp rfl) (.cons (.tmp rfl) .nil), Out.tup (.cons (.one (.lf _)) (.cons (.one (.lf _)) .nil))⟩
end Go.Proofs.YtlmppfffalaphaaGreatDoor
