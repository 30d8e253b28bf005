/- Contracts at the chapter's example of a system of ropes: reeving. No conditions but those of each statement. -/
import Derived.Test.YtlmppfffalaphaaGreatDoorPa
import Derived.Test.YtlmppfffalaphaaGreatDoorXa
import Derived.Test.YtlmppfffalaphaaGreatDoorXk
import Derived.Test.YtlmppfffalaphaaGreatDoorYa
import Derived.Test.YtlmppfffalaphaaGreatDoorMi
import Derived.Test.YtlmppfffalaphaaGreatDoorNh
import Derived.Test.YtlmppfffalaphaaGreatDoorNn
import Derived.Test.YtlmppfffalaphaaGreatDoorMn
import Derived.Test.YtlmppfffalaphaaGreatDoorMp
set_option linter.unusedSimpArgs false
set_option linter.unusedVariables false
namespace Go.Proofs.YtlmppfffalaphaaGreatDoor
open Go Go.RowKit
abbrev eB : ByteArray := ⟨#[98]⟩
abbrev eR : ByteArray := ⟨#[114]⟩
abbrev e0 : ByteArray := ⟨#[]⟩
abbrev Iq (p : ByteArray × Int) : List Lf := [.s p.1, .i p.2]
abbrev Nu : List Lf := [.s e0, .i 0, .i 1, .i 1]
abbrev Pt : List Lf := [.s eB, .i 2, .i 1, .i 1]
abbrev F7 : List Lf := [.s eR, .sl [Nu, Pt, Nu], .val (.bool true)]
abbrev Ba : List Lf := [.sl [Iq (eB, 300)], .sl [F7]]
set_option maxHeartbeats 4000000 in
theorem E1 {α : Type} (l : List α) (R : α -> List Lf) (p : α -> Prop) [DecidablePred p] (g : FuncId) (caps : List AV) (hR : ∀ x, (R x).length = 2) (hl : l.length <= 9223372036854775807) (hcaps : caps.all AV.cap = true) (hg : ∀ x ∈ l, Fn0 Tryz.prog g (.agg ((R x).map .lf) :: caps) (.b (decide (p x)))) :
  Fn0 Tryz.prog 188 [.sl (l.map R), .fn (.func g) [] caps] (.i (idx p l)) := by
 refine Fn0.of Tryz.func188 Tryz.ntmps188 rfl rfl rfl ?_
 simp only [A0]
 repeat' (first
  | refine W ?_

  | refine V ?_
  | (refine W2 ?_ ?_ <;> intro hc))
 refine T.loopS (fun k => k <= l.length /\ ∀ x ∈ l.take k, ¬ p x) (fun k => l.length - k) (fun k => [(8, .i k), (7, .i (l.map R).length), (0, .sl (l.map R)), (1, .fn (.func g) [] caps)]) (fun _ => []) 0 ⟨Nat.zero_le _, by simp⟩ (.cons rfl rfl (.cons rfl rfl (.cons rfl rfl (.cons rfl (D0 hcaps) .nil)))) .nil ?_
 rintro k ⟨hk, hno⟩
 have hle : (l.map R).length = l.length := List.length_map _
 by_cases hlt : k < l.length
 ·have h1 : (k : Int) < ((l.map R).length : Nat) := by omega
  obtain ⟨x, hx⟩ : ∃ x, l[k]? = some x := ⟨l[k], List.getElem?_eq_getElem hlt⟩
  have hb : (l.map R)[((k : Nat) : Int).toNat]? = some (R x) := by rw [Int.toNat_natCast, List.getElem?_map, hx];rfl
  have hx2 := hg x (List.mem_of_getElem? hx)
  repeat' (first
   | refine W ?_
   | (apply S.indexR;(iterate 3 exact rfl);exact hb;omega;exact hR x)|(apply S.loadRW;(iterate 3 exact rfl);exact hR x)|(apply S.callF;exact rfl;exact rfl;exact hx2;exact Is hcaps;exact rfl)|refine Za ?_
   | refine V ?_
   | (refine W2 ?_ ?_ <;> intro hc))
  all_goals first
   | exact Next.go (k + 1) ⟨by omega, by rw [List.take_add_one, hx];intro y hy;rcases List.mem_append.1 hy with hy | hy;exact hno y hy;obtain rfl : y = x := (by simpa using hy);assumption⟩ (by omega) (.cons rfl rfl (.cons rfl rfl (.cons rfl rfl (.cons rfl (D0 hcaps) .nil)))) .nil
   | exact A4 (by simp) Tryz.results188 rfl (by rw [J2 hx hno (by assumption)])
 ·have h1 : ¬ (k : Int) < ((l.map R).length : Nat) := by omega
  repeat' (first
   | refine W ?_

   | refine V ?_
   | (refine W2 ?_ ?_ <;> intro hc))
  exact A4 (by simp) Tryz.results188 rfl (by rw [Db (by rw [List.take_of_length_le (by omega)] at hno;exact hno)])
theorem Ek (n lo hi : Int) : Fn0 Tryz.prog 76 [.i n, .i lo, .i hi] (.b (decide (lo <= n /\ n <= hi))) := by
 refine Fn0.of Tryz.func76 Tryz.ntmps76 rfl rfl rfl ?_
 simp only [A0]
 repeat' (first
  | refine W ?_
  | refine Y ?_
  | refine V ?_
  | (refine W2 ?_ ?_ <;> intro hc))
 all_goals exact A4 (by simp) Tryz.results76 rfl (by simp only [Value.bool.injEq];first | rfl|(rw [decide_eq_decide];omega)|(symm;rw [decide_eq_true_iff];omega)|(symm;rw [decide_eq_false_iff_not];omega))
theorem I5 (p : ByteArray × Int) (s : ByteArray) : Fn0 Tryz.prog 189 [A1 (Iq p), .rop [.s s]] (.b (decide (p.1 = s))) := by
 refine Fn0.of Tryz.func189 Tryz.ntmps189 rfl rfl rfl ?_
 simp only [A0]
 repeat' (first
  | refine W ?_
  | refine Y ?_
  | refine V ?_
  | (refine W2 ?_ ?_ <;> intro hc))
 all_goals exact A4 (by simp) Tryz.results189 rfl rfl
theorem Jg : Fn0 Tryz.prog 130 [A1 Ba, .s eB] (.i 0) := by
 have cf := E1 [(eB, (300 : Int))] Iq (fun p => p.1 = eB) 189 [.rop [.s eB]] (fun _ => rfl) (by decide) rfl (fun p _ => I5 p eB)
 rw [show idx (fun p : ByteArray × Int => p.1 = eB) [(eB, (300 : Int))] = 0 from rfl] at cf
 refine Fn0.of Tryz.func130 Tryz.ntmps130 rfl rfl rfl ?_
 simp only [A0]
 repeat' (first
  | refine W ?_
  | refine Y ?_|(apply S.callV;exact rfl;exact cf;exact .cons (.one (.lf _)) (.cons (.fn (.cons (.ptr0 (cs := [.s eB]) rfl) .nil)) .nil);exact rfl;exact rfl)
  | refine V ?_
  | (refine W2 ?_ ?_ <;> intro hc))
 all_goals exact A4 (by simp) Tryz.results130 rfl rfl
theorem Ms : Fn0 Tryz.prog 130 [A1 Ba, .s e0] (.i (-1)) := by
 have cf := E1 [(eB, (300 : Int))] Iq (fun p => p.1 = e0) 189 [.rop [.s e0]] (fun _ => rfl) (by decide) rfl (fun p _ => I5 p e0)
 rw [show idx (fun p : ByteArray × Int => p.1 = e0) [(eB, (300 : Int))] = -1 by decide] at cf
 refine Fn0.of Tryz.func130 Tryz.ntmps130 rfl rfl rfl ?_
 simp only [A0]
 repeat' (first
  | refine W ?_
  | refine Y ?_|(apply S.callV;exact rfl;exact cf;exact .cons (.one (.lf _)) (.cons (.fn (.cons (.ptr0 (cs := [.s e0]) rfl) .nil)) .nil);exact rfl;exact rfl)
  | refine V ?_
  | (refine W2 ?_ ?_ <;> intro hc))
 all_goals exact A4 (by simp) Tryz.results130 rfl rfl
theorem I1 : Fn0 Tryz.prog 90 [A1 [.i 1, .i 1]] (.b true) := Fw 1 1
theorem Mw : Fn0 Tryz.prog 187 [A1 [.i 1, .i 1]] (.b true) := by
 have c := I1
 refine Fn0.of Tryz.func187 Tryz.ntmps187 rfl rfl rfl ?_
 simp only [A0]
 repeat' (first
  | refine W ?_
  | refine Y ?_
  | refine V ?_
  | (refine W2 ?_ ?_ <;> intro hc))
 all_goals exact A4 (by simp) Tryz.results187 rfl rfl
theorem Mt : Fn0 Tryz.prog 129 [A1 Ba, A1 Nu, .b true] (.b true) := by
 refine Fn0.of Tryz.func129 Tryz.ntmps129 rfl rfl rfl ?_
 simp only [A0]
 repeat' (first
  | refine W ?_
  | refine Y ?_|(apply S.ne2;(iterate 3 exact rfl))
  | refine V ?_
  | (refine W2 ?_ ?_ <;> intro hc))
 all_goals exact A4 (by simp) Tryz.results129 rfl rfl
theorem Mu : Fn0 Tryz.prog 129 [A1 Ba, A1 Pt, .b false] (.b true) := by
 have c := Jg
 have c2 := Mw
 refine Fn0.of Tryz.func129 Tryz.ntmps129 rfl rfl rfl ?_
 simp only [A0]
 repeat' (first
  | refine W ?_
  | refine Y ?_|(apply S.ne2;(iterate 3 exact rfl))
  | refine V ?_
  | (refine W2 ?_ ?_ <;> intro hc))
 all_goals exact A4 (by simp) Tryz.results129 rfl rfl
theorem Oi : Fn0 Tryz.prog 78 [A1 Ba, A1 F7] (.b true) := by
 have c := Ek 3 2 10
 have c1 := Mt
 have c2 := Mu
 refine Fn0.of Tryz.func78 Tryz.ntmps78 rfl rfl rfl ?_
 simp only [A0]
 repeat' (first
  | refine W ?_
  | refine Y ?_|(refine T.unroll ?_)|(refine TL.round ?_)|(dsimp only [An, Aa];refine TL.round ?_)|(apply S.arith;(iterate 4 exact rfl);decide)|(apply S.indexR;(iterate 4 exact rfl);decide;exact rfl)
  | refine V ?_
  | (refine W2 ?_ ?_ <;> intro hc))
 all_goals exact A4 (by simp) Tryz.results78 rfl rfl
set_option maxHeartbeats 16000000 in
theorem Dp : Fn0 Tryz.prog 47 [A1 Ba] (.b true) := by
 have w1 := Ek 1 1 6
 have w2 := Ek 300 0 16777216
 have c1 := Cd eB
 have c2 := Cd eR
 rw [show decide (At eB = true) = true by decide +kernel] at c1
 rw [show decide (At eR = true) = true by decide +kernel] at c2
 have c3 := Oi
 refine Fn0.of Tryz.func47 Tryz.ntmps47 rfl rfl rfl ?_
 simp only [A0]
 repeat' (first
  | refine W ?_
  | refine Y ?_|(refine T.unroll ?_)|(refine TL.round ?_)|(dsimp only [An, Aa];refine TL.round ?_)|(apply S.arith;(iterate 4 exact rfl);decide)|(apply S.indexR;(iterate 4 exact rfl);decide;exact rfl)|(apply S.makeMap;exact rfl;exact rfl)|(apply S.lookupS (es := []);(iterate 5 exact rfl))|(apply S.lookupS (es := [(eB, .bool true)]);(iterate 5 exact rfl))|(apply S.mapUpdate (es := []);(iterate 5 exact rfl))|(apply S.mapUpdate (es := [(eB, .bool true)]);(iterate 5 exact rfl))|(refine S.inline [(1, .ptr 0 0), (3, .ptr 2 0), (4, .fn (.func 77) [] [.ptr 2 0]), (6, .ptr 3 0), (25, .sl [Iq (eB, 300)]), (26, .i 1), (27, .i 0)] Tryz.func77 Tryz.ntmps77 rfl rfl rfl rfl rfl rfl rfl CW rfl ?_;intro vs;simp only [A0, List.cons_append, List.nil_append])|(refine S.inline [(1, .ptr 0 0), (7, .i 0), (9, .ptr 5 0), (44, .sl [F7]), (45, .i 1), (46, .i 0)] Tryz.func77 Tryz.ntmps77 rfl rfl rfl rfl rfl rfl rfl CW rfl ?_;intro vs;simp only [A0, List.cons_append, List.nil_append])|(apply T.ret;(first | change N8 Tryz.prog Tryz.f77 _ _ _ _ _ _|(dsimp only [Aa, An];change N8 Tryz.prog Tryz.f77 _ _ _ _ _ _));refine ⟨.inr rfl, [_], .cons (.tmp rfl) .nil, rfl, ?_⟩;show Reg none _ _ _ _ _ _ _)
  | refine V ?_
  | (refine W2 ?_ ?_ <;> intro hc))
 all_goals exact A4 (by simp) Tryz.results47 rfl rfl
set_option maxHeartbeats 16000000 in
theorem L3 : Fn0 Tryz.prog 79 [A1 Ba] (.tup [.sl [[.sl [[.i 2]]]], .i 0]) := by
 have c1 := Dp
 have c2 := Jg
 have c3 := Ms
 refine Fn0.of Tryz.func79 Tryz.ntmps79 rfl rfl rfl ?_
 simp only [A0]
 repeat' (first
  | (refine T.freezeH 1 0 rfl rfl rfl rfl (OwnRows.of (rows := [[.i 2]]) [.i 2] (by simp) rfl) ?_)|(refine T.freeze 4 rfl rfl (OwnRows.of (rows := [[.sl [[.i 2]]]]) [.sl [[.i 2]]] (by simp) rfl) ?_)
  | refine W ?_
  | refine Y ?_|(refine T.unroll ?_)|(refine TL.round ?_)|(dsimp only [An, Aa];refine TL.round ?_)|(apply S.arith;(iterate 4 exact rfl);decide)|(apply S.indexR;(iterate 4 exact rfl);decide;exact rfl)|(apply S.indexO;(iterate 4 exact rfl);decide;exact rfl)|(apply S.makeO (n := 1);(iterate 3 exact rfl);decide;exact rfl;exact rfl)|(apply T.drawR 11 A2 (by decide +kernel);simp only [td])
  | refine V ?_
  | (refine W2 ?_ ?_ <;> intro hc))
 all_goals exact D2 rfl rfl rfl
set_option maxHeartbeats 16000000 in
theorem K3 : Fn0 Tryz.prog 80 [A1 Ba] (.tup [.sl [[.i 300]], .i 0]) := by
 have c1 := Dp
 refine Fn0.of Tryz.func80 Tryz.ntmps80 rfl rfl rfl ?_
 simp only [A0]
 repeat' (first
  | (refine T.freeze 4 rfl rfl (OwnRows.of (rows := [[.i 300]]) [.i 300] (by simp) rfl) ?_)
  | refine W ?_
  | refine Y ?_|(refine T.unroll ?_)|(refine TL.round ?_)|(dsimp only [An, Aa];refine TL.round ?_)|(apply S.arith;(iterate 4 exact rfl);decide)|(apply S.indexR;(iterate 4 exact rfl);decide;exact rfl)|(apply S.indexO;(iterate 4 exact rfl);decide;exact rfl)|(apply S.buildSlice1;(iterate 7 exact rfl))|(apply S.appendN 2 (rows := []);(iterate 8 exact rfl);exact A9 rfl;exact rfl;exact Nat.le_of_ble_eq_true rfl;exact Nat.le_of_ble_eq_true rfl)
  | refine V ?_
  | (refine W2 ?_ ?_ <;> intro hc))
 all_goals exact D2 rfl rfl rfl
theorem Q2 : Fn0 Tryz.prog 192 [.i 2, .rop [.i 32]] (.b false) := by
 refine Fn0.of Tryz.func192 Tryz.ntmps192 rfl rfl rfl ?_
 simp only [A0]
 repeat' (first
  | refine W ?_
  | refine Y ?_|(apply S.neg;exact rfl;exact rfl;decide)
  | refine V ?_
  | (refine W2 ?_ ?_ <;> intro hc))
 all_goals exact A4 (by simp) Tryz.results192 rfl rfl
theorem Q3 : Fn0 Tryz.prog 192 [.i 300, .rop [.i 67108864]] (.b false) := by
 refine Fn0.of Tryz.func192 Tryz.ntmps192 rfl rfl rfl ?_
 simp only [A0]
 repeat' (first
  | refine W ?_
  | refine Y ?_|(apply S.neg;exact rfl;exact rfl;decide)
  | refine V ?_
  | (refine W2 ?_ ?_ <;> intro hc))
 all_goals exact A4 (by simp) Tryz.results192 rfl rfl
theorem Pw (x m : Int) (h : Fn0 Tryz.prog 192 [.i x, .rop [.i m]] (.b false)) : Fn0 Tryz.prog 175 [.sl [[.i x]], .fn (.func 192) [] [.rop [.i m]]] (.i (-1)) := by
 refine Fn0.of Tryz.func175 Tryz.ntmps175 rfl rfl rfl ?_
 simp only [A0]
 repeat' (first
  | refine W ?_
  | refine Y ?_|(refine T.unroll ?_)|(refine TL.round ?_)|(dsimp only [An, Aa];refine TL.round ?_)|(apply S.arith;(iterate 4 exact rfl);decide)|(apply S.indexR;(iterate 4 exact rfl);decide;exact rfl)|(apply S.callF;exact rfl;exact rfl;exact h;exact rfl;exact rfl)
  | refine V ?_
  | (refine W2 ?_ ?_ <;> intro hc))
 all_goals exact A4 (by simp) Tryz.results175 rfl rfl
theorem Pv (x m : Int) (h : Fn0 Tryz.prog 192 [.i x, .rop [.i m]] (.b false)) : Fn0 Tryz.prog 119 [.sl [[.i x]], .fn (.func 192) [] [.rop [.i m]]] (.b false) := by
 have c := Pw x m h
 refine Fn0.of Tryz.func119 Tryz.ntmps119 rfl rfl rfl ?_
 simp only [A0]
 repeat' (first
  | refine W ?_
  | refine Y ?_
  | refine V ?_
  | (refine W2 ?_ ?_ <;> intro hc))
 all_goals exact A4 (by simp) Tryz.results119 rfl rfl
theorem Kf (x m : Int) (h : Fn0 Tryz.prog 192 [.i x, .rop [.i m]] (.b false)) : Fn0 Tryz.prog 132 [.sl [[.i x]], .i m] (.b true) := by
 have cf := Pv x m h
 refine Fn0.of Tryz.func132 Tryz.ntmps132 rfl rfl rfl ?_
 simp only [A0]
 repeat' (first
  | refine W ?_
  | refine Y ?_|(apply S.callV;exact rfl;exact cf;exact .cons (.one (.lf _)) (.cons (.fn (.cons (.ptr0 (cs := [.i m]) rfl) .nil)) .nil);exact rfl;exact rfl)
  | refine V ?_
  | (refine W2 ?_ ?_ <;> intro hc))
 all_goals exact A4 (by simp) Tryz.results132 rfl rfl
theorem Pz : Fn0 Tryz.prog 191 [.sl [[.i 2]], .rop [.i 1]] (.b false) := by
 have c := Kf 2 32 Q2
 refine Fn0.of Tryz.func191 Tryz.ntmps191 rfl rfl rfl ?_
 simp only [A0]
 repeat' (first
  | refine W ?_
  | refine Y ?_
  | refine V ?_
  | (refine W2 ?_ ?_ <;> intro hc))
 all_goals exact A4 (by simp) Tryz.results191 rfl rfl
theorem Py : Fn0 Tryz.prog 223 [.sl [[.sl [[.i 2]]]], .fn (.func 191) [] [.rop [.i 1]]] (.i (-1)) := by
 refine Fn0.of Tryz.func223 Tryz.ntmps223 rfl rfl rfl ?_
 simp only [A0]
 repeat' (first
  | refine W ?_
  | refine Y ?_|(refine T.unroll ?_)|(refine TL.round ?_)|(dsimp only [An, Aa];refine TL.round ?_)|(apply S.arith;(iterate 4 exact rfl);decide)|(apply S.indexR;(iterate 4 exact rfl);decide;exact rfl)|(apply S.callF;exact rfl;exact rfl;exact Pz;exact rfl;exact rfl)
  | refine V ?_
  | (refine W2 ?_ ?_ <;> intro hc))
 all_goals exact A4 (by simp) Tryz.results223 rfl rfl
theorem Px : Fn0 Tryz.prog 190 [.sl [[.sl [[.i 2]]]], .fn (.func 191) [] [.rop [.i 1]]] (.b false) := by
 have c := Py
 refine Fn0.of Tryz.func190 Tryz.ntmps190 rfl rfl rfl ?_
 simp only [A0]
 repeat' (first
  | refine W ?_
  | refine Y ?_
  | refine V ?_
  | (refine W2 ?_ ?_ <;> intro hc))
 all_goals exact A4 (by simp) Tryz.results190 rfl rfl
theorem M5 : Fn0 Tryz.prog 131 [.sl [[.sl [[.i 2]]]]] (.b true) := by
 refine Fn0.of Tryz.func131 Tryz.ntmps131 rfl rfl rfl ?_
 simp only [A0]
 repeat' (first
  | refine W ?_
  | refine Y ?_|(apply S.indexR;(iterate 4 exact rfl);decide;exact rfl)|(apply S.callV;exact rfl;exact Px;exact .cons (.one (.lf _)) (.cons (.fn (.cons (.ptr0 (cs := [.i 1]) rfl) .nil)) .nil);exact rfl;exact rfl)
  | refine V ?_
  | (refine W2 ?_ ?_ <;> intro hc))
 all_goals exact A4 (by simp) Tryz.results131 rfl rfl
theorem Res.ownZ {P : Program} {st : St} {t b k n : Nat} (h : st.tm.get t = some (.own b 0 (0 + k) n)) : Res P st (.tmp t) (.own b 0 k n) := by
 rw [Nat.zero_add] at h
 exact .tmp h
set_option maxHeartbeats 8000000 in
theorem Gj (rows : List (List Lf)) (hr : ∀ r ∈ rows, r.length = 1) (h1 : rows.flatten.all Lf.one = true) (hl : rows.length <= 1000) : FnOwn Tryz.prog 133 [.sl rows] rows 1 := by
 refine FnOwn.of Tryz.func133 Tryz.ntmps133 rfl rfl rfl ?_
 simp only [A0]
 repeat' (first
  | refine W ?_
  | (apply S.eqNil;exact rfl;exact rfl;intro hnil;rotate_left;rotate_right)|(apply S.buildSliceO;(iterate 6 exact rfl))|(apply S.appendO;(iterate 9 exact rfl);exact hr;exact h1;exact rfl;omega;omega)
  | refine V ?_
  | (refine W2 ?_ ?_ <;> intro hc))
 all_goals (apply T.ret;change Ih _ _ _ _ _ _)
 ·exact ⟨.inr rfl, .inl ⟨_, .cons (.tmp rfl) .nil, rfl, hnil⟩⟩
 ·exact ⟨.inr rfl, .inr (.inr ⟨0, .cons (Res.ownZ rfl) .nil, rfl⟩)⟩
abbrev Cj : List (List Lf) := [[.i 2], [.i 300]]
set_option maxHeartbeats 64000000 in
theorem O2 : Fn0 Tryz.prog 134 [.sl [[.sl Cj]], .i 1] (A1 [.sl [[.sl Cj]], .i 2, .sl [[.i 0]], .sl [[.i 0]], .val (.bool false)]) := by
 have hc := (Gj Cj (by simp [Cj]) rfl (by decide)).pure (by simp [Cj])
 refine Fn0.of Tryz.func134 Tryz.ntmps134 rfl rfl rfl ?_
 simp only [A0]
 repeat' (first
  | (apply S.build;(iterate 3 exact rfl))|(refine T.freezeH 1 0 rfl rfl rfl rfl (OwnRows.of (rows := [[.sl Cj]]) [.sl Cj] (by simp) rfl) ?_)|(refine T.freezeH 1 3 rfl rfl rfl rfl (OwnRows.of (rows := [[.i 0]]) [.i 0] (by simp) rfl) ?_)|(refine T.freezeH 1 2 rfl rfl rfl rfl (OwnRows.of (rows := [[.i 0]]) [.i 0] (by simp) rfl) ?_)|(refine T.orders (id := 5) A2 ?_)
  | refine W ?_
  | refine Y ?_|(refine T.unroll ?_)|(refine TL.round ?_)|(dsimp only [An, Aa];refine TL.round ?_)|(apply S.arith;(iterate 4 exact rfl);decide)|(apply S.indexR;(iterate 4 exact rfl);decide;exact rfl)|(apply S.indexO;(iterate 4 exact rfl);decide;exact rfl)|(apply S.buildSlice1;(iterate 7 exact rfl))|(apply S.lenN;exact rfl;exact rfl)|(apply Ords.nil;decide +kernel)|(apply Ords.takeMove 2;exact rfl;decide +kernel;decide +kernel;decide +kernel;exact rfl;exact rfl)|(apply Ords.takeF 0;exact rfl;decide +kernel;decide +kernel;decide +kernel;exact inferInstance;(iterate 3 exact rfl))|(apply Ords.two (i := 1) (j := 3);decide +kernel;exact rfl;exact rfl)|(apply Ords.two (i := 1) (j := 4);decide +kernel;exact rfl;exact rfl)|(apply Ords.one (i := 1);decide +kernel;exact rfl)|(apply Ords.one (i := 3);decide +kernel;exact rfl)|(apply Ords.one (i := 4);decide +kernel;exact rfl)|(apply Ords.one (i := 5);decide +kernel;exact rfl)|(apply Ords.one (i := 6);decide +kernel;exact rfl)|(apply Ords.one (i := 7);decide +kernel;exact rfl)|(apply S.appendN 2 (rows := []);(iterate 8 exact rfl);exact A9 rfl;exact rfl;exact Nat.le_of_ble_eq_true rfl;exact Nat.le_of_ble_eq_true rfl)|(apply S.appendN 3 (rows := []);(iterate 8 exact rfl);exact A9 rfl;exact rfl;exact Nat.le_of_ble_eq_true rfl;exact Nat.le_of_ble_eq_true rfl)|(apply S.appendN 4 (rows := []);(iterate 8 exact rfl);exact A9 rfl;exact rfl;exact Nat.le_of_ble_eq_true rfl;exact Nat.le_of_ble_eq_true rfl)
  | refine V ?_
  | (refine W2 ?_ ?_ <;> intro hc))
 all_goals exact ⟨.inr rfl, [A1 [.sl [[.sl Cj]], .i 2, .sl [[.i 0]], .sl [[.i 0]], .val (.bool false)]], .cons (Res.row [.sl [[.sl Cj]], .i 2, .sl [[.i 0]], .sl [[.i 0]], .val (.bool false)] rfl rfl rfl rfl rfl) .nil, .one (.agg (A5 _))⟩
theorem R5 : frE (Bm 300 2) 0 = .tup [A1 [.i 150, .i 1], .i 0] := by
 rw [show Bm 300 2 = (150 : Rat) by decide +kernel]
 rfl
set_option maxHeartbeats 64000000 in
theorem M4 : Fn0 Tryz.prog 81 [.sl [[.sl [[.i 2]]]], .sl [[.i 300]]] (.tup [.sl [[.i 150, .i 1]], .i 0]) := by
 have c1 := M5
 have c2 := Kf 300 67108864 Q3
 have c3 := O2
 have c4 := L1 300 2 (by decide) (by decide) (by decide) (by decide) (by decide) (by rw [show Bm 300 2 = (150 : Rat) by decide +kernel];decide)
 rw [R5] at c4
 refine Fn0.of Tryz.func81 Tryz.ntmps81 rfl rfl rfl ?_
 simp only [A0]
 repeat' (first
  | (refine T.ordersR (id := 12) A2 ?_)|(refine Reg.freeze 50 rfl rfl (OwnRows.of (rows := Cj) [.i 2, .i 300] (by simp [Cj]) rfl) ?_)|(refine T.freeze 7 rfl rfl (OwnRows.of (rows := [[.sl Cj]]) [.sl Cj] (by simp) rfl) ?_)|(refine T.freeze 13 rfl rfl (OwnRows.of (rows := [[.i 150, .i 1]]) [.i 150, .i 1] (by simp) rfl) ?_)
  | refine W ?_
  | refine Y ?_|(refine T.unroll ?_)|(refine TL.round ?_)|(dsimp only [An, Aa];refine TL.round ?_)|(apply S.arith;(iterate 4 exact rfl);decide)|(apply S.indexR;(iterate 4 exact rfl);decide;exact rfl)|(apply S.indexO;(iterate 4 exact rfl);decide;exact rfl)|(apply S.buildSlice1;(iterate 7 exact rfl))|(apply Ords.nil;decide +kernel)|(apply Ords.takeMove 0;exact rfl;decide +kernel;decide +kernel;decide +kernel;exact rfl;exact rfl)|(apply Ords.takeMove 1;exact rfl;decide +kernel;decide +kernel;decide +kernel;exact rfl;exact rfl)|(apply Ords.takeMove 3;exact rfl;decide +kernel;decide +kernel;decide +kernel;exact rfl;exact rfl)|(apply Ords.takeMove 4;exact rfl;decide +kernel;decide +kernel;decide +kernel;exact rfl;exact rfl)|(apply Ords.takeIndex 5;exact rfl;decide +kernel;decide +kernel;decide +kernel;exact rfl;exact inferInstance;exact inferInstance;(iterate 3 exact rfl);decide;exact rfl)|(apply Ords.two (i := 2) (j := 6);decide +kernel;exact rfl;exact rfl)|(apply Ords.two (i := 2) (j := 7);decide +kernel;exact rfl;exact rfl)|(apply Ords.one (i := 2);decide +kernel;exact rfl)|(apply Ords.one (i := 6);decide +kernel;exact rfl)|(apply Ords.one (i := 7);decide +kernel;exact rfl)|(apply Ords.one (i := 8);decide +kernel;exact rfl)|(apply Ords.one (i := 9);decide +kernel;exact rfl)|(apply Ords.one (i := 10);decide +kernel;exact rfl)|(apply Ords.one (i := 11);decide +kernel;exact rfl)|(apply S.callOwn 0;exact Gj [[.i 2]] (by simp) rfl (by decide);(iterate 6 exact rfl);exact (by simp);exact (fun h => by cases h))|(apply S.appendO;(iterate 9 exact rfl);exact A9 rfl;exact rfl;exact rfl;exact Nat.le_of_ble_eq_true rfl;exact Nat.le_of_ble_eq_true rfl)|(apply S.appendN 1 (rows := []);(iterate 8 exact rfl);exact A9 rfl;exact rfl;exact Nat.le_of_ble_eq_true rfl;exact Nat.le_of_ble_eq_true rfl)|(apply S.appendN 3 (rows := []);(iterate 8 exact rfl);exact A9 rfl;exact rfl;exact Nat.le_of_ble_eq_true rfl;exact Nat.le_of_ble_eq_true rfl)|(apply S.sliceFrom;(iterate 3 exact rfl);decide;exact (by simp))|(apply T.drawR 16 A2 (by decide +kernel);simp only [td])|(apply T.draw 16 A2 (by decide +kernel);simp only [td])
  | refine V ?_
  | (refine W2 ?_ ?_ <;> intro hc))
 all_goals exact D2 rfl rfl rfl
theorem Jl : Fn0 Tryz.prog 48 [A1 Ba] (.tup [.sl [[.i 150, .i 1]], .i 0]) := by
 have c1 := L3
 have c2 := K3
 have c3 := M4
 refine Fn0.of Tryz.func48 Tryz.ntmps48 rfl rfl rfl ?_
 simp only [A0]
 repeat' (first
  | refine W ?_
  | refine Y ?_
  | refine V ?_
  | (refine W2 ?_ ?_ <;> intro hc))
 all_goals exact D2 rfl rfl rfl
end Go.Proofs.YtlmppfffalaphaaGreatDoor
