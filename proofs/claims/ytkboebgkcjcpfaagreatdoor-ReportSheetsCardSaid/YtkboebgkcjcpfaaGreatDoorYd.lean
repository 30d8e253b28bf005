/- Contracts at the chapter's example of a system of ropes: reeving. No conditions but those of each statement. -/
import Derived.Test.YtkboebgkcjcpfaaGreatDoorPa
import Derived.Test.YtkboebgkcjcpfaaGreatDoorXa
import Derived.Test.YtkboebgkcjcpfaaGreatDoorMr
import Derived.Test.YtkboebgkcjcpfaaGreatDoorYa
import Derived.Test.YtkboebgkcjcpfaaGreatDoorMi
import Derived.Test.YtkboebgkcjcpfaaGreatDoorXd
import Derived.Test.YtkboebgkcjcpfaaGreatDoorMn
import Derived.Test.YtkboebgkcjcpfaaGreatDoorMp
set_option linter.unusedSimpArgs false
set_option linter.unusedVariables false
namespace Go.Proofs.YtkboebgkcjcpfaaGreatDoor
open Go Go.RowKit
abbrev eB : ByteArray := ⟨#[98]⟩
abbrev eR : ByteArray := ⟨#[114]⟩
abbrev e0 : ByteArray := ⟨#[]⟩
abbrev S7 (p : ByteArray × Int) : List Lf := [.s p.1, .i p.2]
abbrev A2l : List Lf := [.s e0, .i 0, .i 1, .i 1]
abbrev A5d : List Lf := [.s eB, .i 2, .i 1, .i 1]
abbrev La : List Lf := [.s eR, .sl [A2l, A5d, A2l], .val (.bool true)]
abbrev Cz : List Lf := [.sl [S7 (eB, 300)], .sl [La]]
set_option maxHeartbeats 4000000 in
theorem Ie {α : Type} (l : List α) (R : α -> List Lf) (p : α -> Prop) [DecidablePred p] (g : FuncId) (caps : List AV) (hR : ∀ x, (R x).length = 2) (hl : l.length <= 9223372036854775807) (hcaps : caps.all AV.cap = true) (hg : ∀ x ∈ l, Fn0 Tryz.prog g (.agg ((R x).map .lf) :: caps) (.b (decide (p x)))) :
  Fn0 Tryz.prog 165 [.sl (l.map R), .fn (.func g) [] caps] (.i (idx p l)) := by
 refine Fn0.of Tryz.func165 Tryz.ntmps165 rfl rfl rfl ?_
 simp only [A0]
 repeat' (first
  | refine W ?_

  | refine V ?_
  | (refine W2 ?_ ?_ <;> intro hc))
 refine T.loopS (fun k => k <= l.length /\ ∀ x ∈ l.take k, ¬ p x) (fun k => l.length - k) (fun k => [(8, .i k), (7, .i (l.map R).length), (0, .sl (l.map R)), (1, .fn (.func g) [] caps)]) (fun _ => []) 0 ⟨Nat.zero_le _, by simp⟩ (.cons rfl rfl (.cons rfl rfl (.cons rfl rfl (.cons rfl (Ak hcaps) .nil)))) .nil ?_
 rintro k ⟨hk, hno⟩
 have hle : (l.map R).length = l.length := List.length_map _
 by_cases hlt : k < l.length
 ·have h1 : (k : Int) < ((l.map R).length : Nat) := by omega
  obtain ⟨x, hx⟩ : ∃ x, l[k]? = some x := ⟨l[k], List.getElem?_eq_getElem hlt⟩
  have hb : (l.map R)[((k : Nat) : Int).toNat]? = some (R x) := by rw [Int.toNat_natCast, List.getElem?_map, hx];rfl
  have hx2 := hg x (List.mem_of_getElem? hx)
  repeat' (first
   | refine W ?_
   | (apply S.indexR;(iterate 3 exact rfl);exact hb;omega;exact hR x)|(apply S.loadRW;(iterate 3 exact rfl);exact hR x)|(apply S.callF;exact rfl;exact rfl;exact hx2;exact Ch hcaps;exact rfl)|refine Za ?_
   | refine V ?_
   | (refine W2 ?_ ?_ <;> intro hc))
  all_goals first
   | exact Next.go (k + 1) ⟨by omega, by rw [List.take_add_one, hx];intro y hy;rcases List.mem_append.1 hy with hy | hy;exact hno y hy;obtain rfl : y = x := (by simpa using hy);assumption⟩ (by omega) (.cons rfl rfl (.cons rfl rfl (.cons rfl rfl (.cons rfl (Ak hcaps) .nil)))) .nil
   | exact A5 (by simp) Tryz.results165 rfl (by rw [Ca hx hno (by assumption)])
 ·have h1 : ¬ (k : Int) < ((l.map R).length : Nat) := by omega
  repeat' (first
   | refine W ?_

   | refine V ?_
   | (refine W2 ?_ ?_ <;> intro hc))
  exact A5 (by simp) Tryz.results165 rfl (by rw [Bw (by rw [List.take_of_length_le (by omega)] at hno;exact hno)])
theorem Jo (n lo hi : Int) : Fn0 Tryz.prog 57 [.i n, .i lo, .i hi] (.b (decide (lo <= n /\ n <= hi))) := by
 refine Fn0.of Tryz.func57 Tryz.ntmps57 rfl rfl rfl ?_
 simp only [A0]
 repeat' (first
  | refine W ?_
  | refine Y ?_
  | refine V ?_
  | (refine W2 ?_ ?_ <;> intro hc))
 all_goals exact A5 (by simp) Tryz.results57 rfl (by simp only [Value.bool.injEq];first | rfl|(rw [decide_eq_decide];omega)|(symm;rw [decide_eq_true_iff];omega)|(symm;rw [decide_eq_false_iff_not];omega))
theorem Ra (p : ByteArray × Int) (s : ByteArray) : Fn0 Tryz.prog 166 [A4 (S7 p), .rop [.s s]] (.b (decide (p.1 = s))) := by
 refine Fn0.of Tryz.func166 Tryz.ntmps166 rfl rfl rfl ?_
 simp only [A0]
 repeat' (first
  | refine W ?_
  | refine Y ?_
  | refine V ?_
  | (refine W2 ?_ ?_ <;> intro hc))
 all_goals exact A5 (by simp) Tryz.results166 rfl rfl
theorem Tv : Fn0 Tryz.prog 110 [A4 Cz, .s eB] (.i 0) := by
 have cf := Ie [(eB, (300 : Int))] S7 (fun p => p.1 = eB) 166 [.rop [.s eB]] (fun _ => rfl) (by decide) rfl (fun p _ => Ra p eB)
 rw [show idx (fun p : ByteArray × Int => p.1 = eB) [(eB, (300 : Int))] = 0 from rfl] at cf
 refine Fn0.of Tryz.func110 Tryz.ntmps110 rfl rfl rfl ?_
 simp only [A0]
 repeat' (first
  | refine W ?_
  | refine Y ?_|(apply S.callV;exact rfl;exact cf;exact .cons (.one (.lf _)) (.cons (.fn (.cons (.ptr0 (cs := [.s eB]) rfl) .nil)) .nil);exact rfl;exact rfl)
  | refine V ?_
  | (refine W2 ?_ ?_ <;> intro hc))
 all_goals exact A5 (by simp) Tryz.results110 rfl rfl
theorem A0r : Fn0 Tryz.prog 110 [A4 Cz, .s e0] (.i (-1)) := by
 have cf := Ie [(eB, (300 : Int))] S7 (fun p => p.1 = e0) 166 [.rop [.s e0]] (fun _ => rfl) (by decide) rfl (fun p _ => Ra p e0)
 rw [show idx (fun p : ByteArray × Int => p.1 = e0) [(eB, (300 : Int))] = -1 by decide] at cf
 refine Fn0.of Tryz.func110 Tryz.ntmps110 rfl rfl rfl ?_
 simp only [A0]
 repeat' (first
  | refine W ?_
  | refine Y ?_|(apply S.callV;exact rfl;exact cf;exact .cons (.one (.lf _)) (.cons (.fn (.cons (.ptr0 (cs := [.s e0]) rfl) .nil)) .nil);exact rfl;exact rfl)
  | refine V ?_
  | (refine W2 ?_ ?_ <;> intro hc))
 all_goals exact A5 (by simp) Tryz.results110 rfl rfl
theorem Qy : Fn0 Tryz.prog 72 [A4 [.i 1, .i 1]] (.b true) := Mp 1 1
theorem A0u : Fn0 Tryz.prog 164 [A4 [.i 1, .i 1]] (.b true) := by
 have c := Qy
 refine Fn0.of Tryz.func164 Tryz.ntmps164 rfl rfl rfl ?_
 simp only [A0]
 repeat' (first
  | refine W ?_
  | refine Y ?_
  | refine V ?_
  | (refine W2 ?_ ?_ <;> intro hc))
 all_goals exact A5 (by simp) Tryz.results164 rfl rfl
theorem A0s : Fn0 Tryz.prog 109 [A4 Cz, A4 A2l, .b true] (.b true) := by
 refine Fn0.of Tryz.func109 Tryz.ntmps109 rfl rfl rfl ?_
 simp only [A0]
 repeat' (first
  | refine W ?_
  | refine Y ?_|(apply S.ne2;(iterate 3 exact rfl))
  | refine V ?_
  | (refine W2 ?_ ?_ <;> intro hc))
 all_goals exact A5 (by simp) Tryz.results109 rfl rfl
theorem A0t : Fn0 Tryz.prog 109 [A4 Cz, A4 A5d, .b false] (.b true) := by
 have c := Tv
 have c2 := A0u
 refine Fn0.of Tryz.func109 Tryz.ntmps109 rfl rfl rfl ?_
 simp only [A0]
 repeat' (first
  | refine W ?_
  | refine Y ?_|(apply S.ne2;(iterate 3 exact rfl))
  | refine V ?_
  | (refine W2 ?_ ?_ <;> intro hc))
 all_goals exact A5 (by simp) Tryz.results109 rfl rfl
theorem A3i : Fn0 Tryz.prog 59 [A4 Cz, A4 La] (.b true) := by
 have c := Jo 3 2 10
 have c1 := A0s
 have c2 := A0t
 refine Fn0.of Tryz.func59 Tryz.ntmps59 rfl rfl rfl ?_
 simp only [A0]
 repeat' (first
  | refine W ?_
  | refine Y ?_|(refine T.unroll ?_)|(refine TL.round ?_)|(dsimp only [B9, Ai];refine TL.round ?_)|(apply S.arith;(iterate 4 exact rfl);decide)|(apply S.indexR;(iterate 4 exact rfl);decide;exact rfl)
  | refine V ?_
  | (refine W2 ?_ ?_ <;> intro hc))
 all_goals exact A5 (by simp) Tryz.results59 rfl rfl
set_option maxHeartbeats 16000000 in
theorem Hy : Fn0 Tryz.prog 32 [A4 Cz] (.b true) := by
 have w1 := Jo 1 1 6
 have w2 := Jo 300 0 16777216
 have c1 := Bv eB
 have c2 := Bv eR
 rw [show decide (B8 eB = true) = true by decide +kernel] at c1
 rw [show decide (B8 eR = true) = true by decide +kernel] at c2
 have c3 := A3i
 refine Fn0.of Tryz.func32 Tryz.ntmps32 rfl rfl rfl ?_
 simp only [A0]
 repeat' (first
  | refine W ?_
  | refine Y ?_|(refine T.unroll ?_)|(refine TL.round ?_)|(dsimp only [B9, Ai];refine TL.round ?_)|(apply S.arith;(iterate 4 exact rfl);decide)|(apply S.indexR;(iterate 4 exact rfl);decide;exact rfl)|(apply S.makeMap;exact rfl;exact rfl)|(apply S.lookupS (es := []);(iterate 5 exact rfl))|(apply S.lookupS (es := [(eB, .bool true)]);(iterate 5 exact rfl))|(apply S.mapUpdate (es := []);(iterate 5 exact rfl))|(apply S.mapUpdate (es := [(eB, .bool true)]);(iterate 5 exact rfl))|(refine S.inline [(1, .ptr 0 0), (3, .ptr 2 0), (4, .fn (.func 58) [] [.ptr 2 0]), (6, .ptr 3 0), (25, .sl [S7 (eB, 300)]), (26, .i 1), (27, .i 0)] Tryz.func58 Tryz.ntmps58 rfl rfl rfl rfl rfl rfl rfl CW rfl ?_;intro vs;simp only [A0, List.cons_append, List.nil_append])|(refine S.inline [(1, .ptr 0 0), (7, .i 0), (9, .ptr 5 0), (44, .sl [La]), (45, .i 1), (46, .i 0)] Tryz.func58 Tryz.ntmps58 rfl rfl rfl rfl rfl rfl rfl CW rfl ?_;intro vs;simp only [A0, List.cons_append, List.nil_append])|(apply T.ret;(first | change A1x Tryz.prog Tryz.f58 _ _ _ _ _ _|(dsimp only [Ai, B9];change A1x Tryz.prog Tryz.f58 _ _ _ _ _ _));refine ⟨.inr rfl, [_], .cons (.tmp rfl) .nil, rfl, ?_⟩;show Reg none _ _ _ _ _ _ _)
  | refine V ?_
  | (refine W2 ?_ ?_ <;> intro hc))
 all_goals exact A5 (by simp) Tryz.results32 rfl rfl
set_option maxHeartbeats 16000000 in
theorem Xi : Fn0 Tryz.prog 60 [A4 Cz] (.tup [.sl [[.sl [[.i 2]]]], .i 0]) := by
 have c1 := Hy
 have c2 := Tv
 have c3 := A0r
 refine Fn0.of Tryz.func60 Tryz.ntmps60 rfl rfl rfl ?_
 simp only [A0]
 repeat' (first
  | (refine T.freezeH 1 0 rfl rfl rfl rfl (OwnRows.of (rows := [[.i 2]]) [.i 2] (by simp) rfl) ?_)|(refine T.freeze 4 rfl rfl (OwnRows.of (rows := [[.sl [[.i 2]]]]) [.sl [[.i 2]]] (by simp) rfl) ?_)
  | refine W ?_
  | refine Y ?_|(refine T.unroll ?_)|(refine TL.round ?_)|(dsimp only [B9, Ai];refine TL.round ?_)|(apply S.arith;(iterate 4 exact rfl);decide)|(apply S.indexR;(iterate 4 exact rfl);decide;exact rfl)|(apply S.indexO;(iterate 4 exact rfl);decide;exact rfl)|(apply S.makeO (n := 1);(iterate 3 exact rfl);decide;exact rfl;exact rfl)|(apply T.drawR 11 A3 (by decide +kernel);simp only [td])
  | refine V ?_
  | (refine W2 ?_ ?_ <;> intro hc))
 all_goals exact D2 rfl rfl rfl
set_option maxHeartbeats 16000000 in
theorem Va : Fn0 Tryz.prog 61 [A4 Cz] (.tup [.sl [[.i 300]], .i 0]) := by
 have c1 := Hy
 refine Fn0.of Tryz.func61 Tryz.ntmps61 rfl rfl rfl ?_
 simp only [A0]
 repeat' (first
  | (refine T.freeze 4 rfl rfl (OwnRows.of (rows := [[.i 300]]) [.i 300] (by simp) rfl) ?_)
  | refine W ?_
  | refine Y ?_|(refine T.unroll ?_)|(refine TL.round ?_)|(dsimp only [B9, Ai];refine TL.round ?_)|(apply S.arith;(iterate 4 exact rfl);decide)|(apply S.indexR;(iterate 4 exact rfl);decide;exact rfl)|(apply S.indexO;(iterate 4 exact rfl);decide;exact rfl)|(apply S.buildSlice1;(iterate 7 exact rfl))|(apply S.appendN 2 (rows := []);(iterate 8 exact rfl);exact Ae rfl;exact rfl;exact Nat.le_of_ble_eq_true rfl;exact Nat.le_of_ble_eq_true rfl)
  | refine V ?_
  | (refine W2 ?_ ?_ <;> intro hc))
 all_goals exact D2 rfl rfl rfl
theorem A5k : Fn0 Tryz.prog 169 [.i 2, .rop [.i 32]] (.b false) := by
 refine Fn0.of Tryz.func169 Tryz.ntmps169 rfl rfl rfl ?_
 simp only [A0]
 repeat' (first
  | refine W ?_
  | refine Y ?_|(apply S.neg;exact rfl;exact rfl;decide)
  | refine V ?_
  | (refine W2 ?_ ?_ <;> intro hc))
 all_goals exact A5 (by simp) Tryz.results169 rfl rfl
theorem A5l : Fn0 Tryz.prog 169 [.i 300, .rop [.i 67108864]] (.b false) := by
 refine Fn0.of Tryz.func169 Tryz.ntmps169 rfl rfl rfl ?_
 simp only [A0]
 repeat' (first
  | refine W ?_
  | refine Y ?_|(apply S.neg;exact rfl;exact rfl;decide)
  | refine V ?_
  | (refine W2 ?_ ?_ <;> intro hc))
 all_goals exact A5 (by simp) Tryz.results169 rfl rfl
theorem A5g (x m : Int) (h : Fn0 Tryz.prog 169 [.i x, .rop [.i m]] (.b false)) : Fn0 Tryz.prog 148 [.sl [[.i x]], .fn (.func 169) [] [.rop [.i m]]] (.i (-1)) := by
 refine Fn0.of Tryz.func148 Tryz.ntmps148 rfl rfl rfl ?_
 simp only [A0]
 repeat' (first
  | refine W ?_
  | refine Y ?_|(refine T.unroll ?_)|(refine TL.round ?_)|(dsimp only [B9, Ai];refine TL.round ?_)|(apply S.arith;(iterate 4 exact rfl);decide)|(apply S.indexR;(iterate 4 exact rfl);decide;exact rfl)|(apply S.callF;exact rfl;exact rfl;exact h;exact rfl;exact rfl)
  | refine V ?_
  | (refine W2 ?_ ?_ <;> intro hc))
 all_goals exact A5 (by simp) Tryz.results148 rfl rfl
theorem A5f (x m : Int) (h : Fn0 Tryz.prog 169 [.i x, .rop [.i m]] (.b false)) : Fn0 Tryz.prog 98 [.sl [[.i x]], .fn (.func 169) [] [.rop [.i m]]] (.b false) := by
 have c := A5g x m h
 refine Fn0.of Tryz.func98 Tryz.ntmps98 rfl rfl rfl ?_
 simp only [A0]
 repeat' (first
  | refine W ?_
  | refine Y ?_
  | refine V ?_
  | (refine W2 ?_ ?_ <;> intro hc))
 all_goals exact A5 (by simp) Tryz.results98 rfl rfl
theorem Vo (x m : Int) (h : Fn0 Tryz.prog 169 [.i x, .rop [.i m]] (.b false)) : Fn0 Tryz.prog 112 [.sl [[.i x]], .i m] (.b true) := by
 have cf := A5f x m h
 refine Fn0.of Tryz.func112 Tryz.ntmps112 rfl rfl rfl ?_
 simp only [A0]
 repeat' (first
  | refine W ?_
  | refine Y ?_|(apply S.callV;exact rfl;exact cf;exact .cons (.one (.lf _)) (.cons (.fn (.cons (.ptr0 (cs := [.i m]) rfl) .nil)) .nil);exact rfl;exact rfl)
  | refine V ?_
  | (refine W2 ?_ ?_ <;> intro hc))
 all_goals exact A5 (by simp) Tryz.results112 rfl rfl
theorem A5j : Fn0 Tryz.prog 168 [.sl [[.i 2]], .rop [.i 1]] (.b false) := by
 have c := Vo 2 32 A5k
 refine Fn0.of Tryz.func168 Tryz.ntmps168 rfl rfl rfl ?_
 simp only [A0]
 repeat' (first
  | refine W ?_
  | refine Y ?_
  | refine V ?_
  | (refine W2 ?_ ?_ <;> intro hc))
 all_goals exact A5 (by simp) Tryz.results168 rfl rfl
theorem A5i : Fn0 Tryz.prog 199 [.sl [[.sl [[.i 2]]]], .fn (.func 168) [] [.rop [.i 1]]] (.i (-1)) := by
 refine Fn0.of Tryz.func199 Tryz.ntmps199 rfl rfl rfl ?_
 simp only [A0]
 repeat' (first
  | refine W ?_
  | refine Y ?_|(refine T.unroll ?_)|(refine TL.round ?_)|(dsimp only [B9, Ai];refine TL.round ?_)|(apply S.arith;(iterate 4 exact rfl);decide)|(apply S.indexR;(iterate 4 exact rfl);decide;exact rfl)|(apply S.callF;exact rfl;exact rfl;exact A5j;exact rfl;exact rfl)
  | refine V ?_
  | (refine W2 ?_ ?_ <;> intro hc))
 all_goals exact A5 (by simp) Tryz.results199 rfl rfl
theorem A5h : Fn0 Tryz.prog 167 [.sl [[.sl [[.i 2]]]], .fn (.func 168) [] [.rop [.i 1]]] (.b false) := by
 have c := A5i
 refine Fn0.of Tryz.func167 Tryz.ntmps167 rfl rfl rfl ?_
 simp only [A0]
 repeat' (first
  | refine W ?_
  | refine Y ?_
  | refine V ?_
  | (refine W2 ?_ ?_ <;> intro hc))
 all_goals exact A5 (by simp) Tryz.results167 rfl rfl
theorem Zg : Fn0 Tryz.prog 111 [.sl [[.sl [[.i 2]]]]] (.b true) := by
 refine Fn0.of Tryz.func111 Tryz.ntmps111 rfl rfl rfl ?_
 simp only [A0]
 repeat' (first
  | refine W ?_
  | refine Y ?_|(apply S.indexR;(iterate 4 exact rfl);decide;exact rfl)|(apply S.callV;exact rfl;exact A5h;exact .cons (.one (.lf _)) (.cons (.fn (.cons (.ptr0 (cs := [.i 1]) rfl) .nil)) .nil);exact rfl;exact rfl)
  | refine V ?_
  | (refine W2 ?_ ?_ <;> intro hc))
 all_goals exact A5 (by simp) Tryz.results111 rfl rfl
theorem Res.ownZ {P : Program} {st : St} {t b k n : Nat} (h : st.tm.get t = some (.own b 0 (0 + k) n)) : Res P st (.tmp t) (.own b 0 k n) := by
 rw [Nat.zero_add] at h
 exact .tmp h
set_option maxHeartbeats 8000000 in
theorem Ny (rows : List (List Lf)) (hr : ∀ r ∈ rows, r.length = 1) (h1 : rows.flatten.all Lf.one = true) (hl : rows.length <= 1000) : FnOwn Tryz.prog 113 [.sl rows] rows 1 := by
 refine FnOwn.of Tryz.func113 Tryz.ntmps113 rfl rfl rfl ?_
 simp only [A0]
 repeat' (first
  | refine W ?_
  | (apply S.eqNil;exact rfl;exact rfl;intro hnil;rotate_left;rotate_right)|(apply S.buildSliceO;(iterate 6 exact rfl))|(apply S.appendO;(iterate 9 exact rfl);exact hr;exact h1;exact rfl;omega;omega)
  | refine V ?_
  | (refine W2 ?_ ?_ <;> intro hc))
 all_goals (apply T.ret;change Rw _ _ _ _ _ _)
 ·exact ⟨.inr rfl, .inl ⟨_, .cons (.tmp rfl) .nil, rfl, hnil⟩⟩
 ·exact ⟨.inr rfl, .inr (.inr ⟨0, .cons (Res.ownZ rfl) .nil, rfl⟩)⟩
abbrev Fy : List (List Lf) := [[.i 2], [.i 300]]
set_option maxHeartbeats 64000000 in
theorem A2u : Fn0 Tryz.prog 114 [.sl [[.sl Fy]], .i 1] (A4 [.sl [[.sl Fy]], .i 2, .sl [[.i 0]], .sl [[.i 0]], .val (.bool false)]) := by
 have hc := (Ny Fy (by simp [Fy]) rfl (by decide)).pure (by simp [Fy])
 refine Fn0.of Tryz.func114 Tryz.ntmps114 rfl rfl rfl ?_
 simp only [A0]
 repeat' (first
  | (apply S.build;(iterate 3 exact rfl))|(refine T.freezeH 1 0 rfl rfl rfl rfl (OwnRows.of (rows := [[.sl Fy]]) [.sl Fy] (by simp) rfl) ?_)|(refine T.freezeH 1 3 rfl rfl rfl rfl (OwnRows.of (rows := [[.i 0]]) [.i 0] (by simp) rfl) ?_)|(refine T.freezeH 1 2 rfl rfl rfl rfl (OwnRows.of (rows := [[.i 0]]) [.i 0] (by simp) rfl) ?_)|(refine T.orders (id := 5) A3 ?_)
  | refine W ?_
  | refine Y ?_|(refine T.unroll ?_)|(refine TL.round ?_)|(dsimp only [B9, Ai];refine TL.round ?_)|(apply S.arith;(iterate 4 exact rfl);decide)|(apply S.indexR;(iterate 4 exact rfl);decide;exact rfl)|(apply S.indexO;(iterate 4 exact rfl);decide;exact rfl)|(apply S.buildSlice1;(iterate 7 exact rfl))|(apply S.lenN;exact rfl;exact rfl)|(apply Ords.nil;decide +kernel)|(apply Ords.takeMove 2;exact rfl;decide +kernel;decide +kernel;decide +kernel;exact rfl;exact rfl)|(apply Ords.takeF 0;exact rfl;decide +kernel;decide +kernel;decide +kernel;exact inferInstance;(iterate 3 exact rfl))|(apply Ords.two (i := 1) (j := 3);decide +kernel;exact rfl;exact rfl)|(apply Ords.two (i := 1) (j := 4);decide +kernel;exact rfl;exact rfl)|(apply Ords.one (i := 1);decide +kernel;exact rfl)|(apply Ords.one (i := 3);decide +kernel;exact rfl)|(apply Ords.one (i := 4);decide +kernel;exact rfl)|(apply Ords.one (i := 5);decide +kernel;exact rfl)|(apply Ords.one (i := 6);decide +kernel;exact rfl)|(apply Ords.one (i := 7);decide +kernel;exact rfl)|(apply S.appendN 2 (rows := []);(iterate 8 exact rfl);exact Ae rfl;exact rfl;exact Nat.le_of_ble_eq_true rfl;exact Nat.le_of_ble_eq_true rfl)|(apply S.appendN 3 (rows := []);(iterate 8 exact rfl);exact Ae rfl;exact rfl;exact Nat.le_of_ble_eq_true rfl;exact Nat.le_of_ble_eq_true rfl)|(apply S.appendN 4 (rows := []);(iterate 8 exact rfl);exact Ae rfl;exact rfl;exact Nat.le_of_ble_eq_true rfl;exact Nat.le_of_ble_eq_true rfl)
  | refine V ?_
  | (refine W2 ?_ ?_ <;> intro hc))
 all_goals exact ⟨.inr rfl, [A4 [.sl [[.sl Fy]], .i 2, .sl [[.i 0]], .sl [[.i 0]], .val (.bool false)]], .cons (Res.row [.sl [[.sl Fy]], .i 2, .sl [[.i 0]], .sl [[.i 0]], .val (.bool false)] rfl rfl rfl rfl rfl) .nil, .one (.agg (An _))⟩
theorem A6m : frE (Ab 300 2) 0 = .tup [A4 [.i 150, .i 1], .i 0] := by
 rw [show Ab 300 2 = (150 : Rat) by decide +kernel]
 rfl
set_option maxHeartbeats 64000000 in
theorem Zf : Fn0 Tryz.prog 62 [.sl [[.sl [[.i 2]]]], .sl [[.i 300]]] (.tup [.sl [[.i 150, .i 1]], .i 0]) := by
 have c1 := Zg
 have c2 := Vo 300 67108864 A5l
 have c3 := A2u
 have c4 := Oy 300 2 (by decide) (by decide) (by decide) (by decide) (by decide) (by rw [show Ab 300 2 = (150 : Rat) by decide +kernel];decide)
 rw [A6m] at c4
 refine Fn0.of Tryz.func62 Tryz.ntmps62 rfl rfl rfl ?_
 simp only [A0]
 repeat' (first
  | (refine T.ordersR (id := 12) A3 ?_)|(refine Reg.freeze 50 rfl rfl (OwnRows.of (rows := Fy) [.i 2, .i 300] (by simp [Fy]) rfl) ?_)|(refine T.freeze 7 rfl rfl (OwnRows.of (rows := [[.sl Fy]]) [.sl Fy] (by simp) rfl) ?_)|(refine T.freeze 13 rfl rfl (OwnRows.of (rows := [[.i 150, .i 1]]) [.i 150, .i 1] (by simp) rfl) ?_)
  | refine W ?_
  | refine Y ?_|(refine T.unroll ?_)|(refine TL.round ?_)|(dsimp only [B9, Ai];refine TL.round ?_)|(apply S.arith;(iterate 4 exact rfl);decide)|(apply S.indexR;(iterate 4 exact rfl);decide;exact rfl)|(apply S.indexO;(iterate 4 exact rfl);decide;exact rfl)|(apply S.buildSlice1;(iterate 7 exact rfl))|(apply Ords.nil;decide +kernel)|(apply Ords.takeMove 0;exact rfl;decide +kernel;decide +kernel;decide +kernel;exact rfl;exact rfl)|(apply Ords.takeMove 1;exact rfl;decide +kernel;decide +kernel;decide +kernel;exact rfl;exact rfl)|(apply Ords.takeMove 3;exact rfl;decide +kernel;decide +kernel;decide +kernel;exact rfl;exact rfl)|(apply Ords.takeMove 4;exact rfl;decide +kernel;decide +kernel;decide +kernel;exact rfl;exact rfl)|(apply Ords.takeIndex 5;exact rfl;decide +kernel;decide +kernel;decide +kernel;exact rfl;exact inferInstance;exact inferInstance;(iterate 3 exact rfl);decide;exact rfl)|(apply Ords.two (i := 2) (j := 6);decide +kernel;exact rfl;exact rfl)|(apply Ords.two (i := 2) (j := 7);decide +kernel;exact rfl;exact rfl)|(apply Ords.one (i := 2);decide +kernel;exact rfl)|(apply Ords.one (i := 6);decide +kernel;exact rfl)|(apply Ords.one (i := 7);decide +kernel;exact rfl)|(apply Ords.one (i := 8);decide +kernel;exact rfl)|(apply Ords.one (i := 9);decide +kernel;exact rfl)|(apply Ords.one (i := 10);decide +kernel;exact rfl)|(apply Ords.one (i := 11);decide +kernel;exact rfl)|(apply S.callOwn 0;exact Ny [[.i 2]] (by simp) rfl (by decide);(iterate 6 exact rfl);exact (by simp);exact (fun h => by cases h))|(apply S.appendO;(iterate 9 exact rfl);exact Ae rfl;exact rfl;exact rfl;exact Nat.le_of_ble_eq_true rfl;exact Nat.le_of_ble_eq_true rfl)|(apply S.appendN 1 (rows := []);(iterate 8 exact rfl);exact Ae rfl;exact rfl;exact Nat.le_of_ble_eq_true rfl;exact Nat.le_of_ble_eq_true rfl)|(apply S.appendN 3 (rows := []);(iterate 8 exact rfl);exact Ae rfl;exact rfl;exact Nat.le_of_ble_eq_true rfl;exact Nat.le_of_ble_eq_true rfl)|(apply S.sliceFrom;(iterate 3 exact rfl);decide;exact (by simp))|(apply T.drawR 16 A3 (by decide +kernel);simp only [td])|(apply T.draw 16 A3 (by decide +kernel);simp only [td])
  | refine V ?_
  | (refine W2 ?_ ?_ <;> intro hc))
 all_goals exact D2 rfl rfl rfl
theorem U2 : Fn0 Tryz.prog 33 [A4 Cz] (.tup [.sl [[.i 150, .i 1]], .i 0]) := by
 have c1 := Xi
 have c2 := Va
 have c3 := Zf
 refine Fn0.of Tryz.func33 Tryz.ntmps33 rfl rfl rfl ?_
 simp only [A0]
 repeat' (first
  | refine W ?_
  | refine Y ?_
  | refine V ?_
  | (refine W2 ?_ ?_ <;> intro hc))
 all_goals exact D2 rfl rfl rfl
end Go.Proofs.YtkboebgkcjcpfaaGreatDoor
