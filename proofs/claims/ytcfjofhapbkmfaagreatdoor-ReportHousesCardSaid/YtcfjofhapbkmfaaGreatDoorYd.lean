/- Contracts at the chapter's example of a system of ropes: reeving. No conditions but those of each statement. -/
import Derived.Test.YtcfjofhapbkmfaaGreatDoorPa
import Derived.Test.YtcfjofhapbkmfaaGreatDoorXa
import Derived.Test.YtcfjofhapbkmfaaGreatDoorMn
import Derived.Test.YtcfjofhapbkmfaaGreatDoorYa
import Derived.Test.YtcfjofhapbkmfaaGreatDoorMi
import Derived.Test.YtcfjofhapbkmfaaGreatDoorPd
import Derived.Test.YtcfjofhapbkmfaaGreatDoorMp
set_option linter.unusedSimpArgs false
set_option linter.unusedVariables false
namespace Go.Proofs.YtcfjofhapbkmfaaGreatDoor
open Go Go.RowKit
abbrev eB : ByteArray := ⟨#[98]⟩
abbrev eR : ByteArray := ⟨#[114]⟩
abbrev e0 : ByteArray := ⟨#[]⟩
abbrev P0 (p : ByteArray × Int) : List Lf := [.s p.1, .i p.2]
abbrev Xm : List Lf := [.s e0, .i 0, .i 1, .i 1]
abbrev A07 : List Lf := [.s eB, .i 2, .i 1, .i 1]
abbrev Ir : List Lf := [.s eR, .sl [Xm, A07, Xm], .val (.bool true)]
abbrev Cn : List Lf := [.sl [P0 (eB, 300)], .sl [Ir]]
set_option maxHeartbeats 4000000 in
theorem Gm {α : Type} (l : List α) (R : α -> List Lf) (p : α -> Prop) [DecidablePred p] (g : FuncId) (caps : List AV) (hR : ∀ x, (R x).length = 2) (hl : l.length <= 9223372036854775807) (hcaps : caps.all AV.cap = true) (hg : ∀ x ∈ l, Fn0 Tryz.prog g (.agg ((R x).map .lf) :: caps) (.b (decide (p x)))) :
  Fn0 Tryz.prog 179 [.sl (l.map R), .fn (.func g) [] caps] (.i (idx p l)) := by
 refine Fn0.of Tryz.func179 Tryz.ntmps179 rfl rfl rfl ?_
 simp only [A0]
 repeat' (first
  | refine W ?_

  | refine V ?_
  | (refine W2 ?_ ?_ <;> intro hc))
 refine T.loopS (fun k => k <= l.length /\ ∀ x ∈ l.take k, ¬ p x) (fun k => l.length - k) (fun k => [(8, .i k), (7, .i (l.map R).length), (0, .sl (l.map R)), (1, .fn (.func g) [] caps)]) (fun _ => []) 0 ⟨Nat.zero_le _, by simp⟩ (.cons rfl rfl (.cons rfl rfl (.cons rfl rfl (.cons rfl (As hcaps) .nil)))) .nil ?_
 rintro k ⟨hk, hno⟩
 have hle : (l.map R).length = l.length := List.length_map _
 by_cases hlt : k < l.length
 ·have h1 : (k : Int) < ((l.map R).length : Nat) := by omega
  obtain ⟨x, hx⟩ : ∃ x, l[k]? = some x := ⟨l[k], List.getElem?_eq_getElem hlt⟩
  have hb : (l.map R)[((k : Nat) : Int).toNat]? = some (R x) := by rw [Int.toNat_natCast, List.getElem?_map, hx];rfl
  have hx2 := hg x (List.mem_of_getElem? hx)
  repeat' (first
   | refine W ?_
   | (apply S.indexR;(iterate 3 exact rfl);exact hb;omega;exact hR x)|(apply S.loadRW;(iterate 3 exact rfl);exact hR x)|(apply S.callF;exact rfl;exact rfl;exact hx2;exact Cy hcaps;exact rfl)|refine Za ?_
   | refine V ?_
   | (refine W2 ?_ ?_ <;> intro hc))
  all_goals first
   | exact Next.go (k + 1) ⟨by omega, by rw [List.take_add_one, hx];intro y hy;rcases List.mem_append.1 hy with hy | hy;exact hno y hy;obtain rfl : y = x := (by simpa using hy);assumption⟩ (by omega) (.cons rfl rfl (.cons rfl rfl (.cons rfl rfl (.cons rfl (As hcaps) .nil)))) .nil
   | exact A7 (by simp) Tryz.results179 rfl (by rw [Du hx hno (by assumption)])
 ·have h1 : ¬ (k : Int) < ((l.map R).length : Nat) := by omega
  repeat' (first
   | refine W ?_

   | refine V ?_
   | (refine W2 ?_ ?_ <;> intro hc))
  exact A7 (by simp) Tryz.results179 rfl (by rw [Cj (by rw [List.take_of_length_le (by omega)] at hno;exact hno)])
theorem Hn (n lo hi : Int) : Fn0 Tryz.prog 64 [.i n, .i lo, .i hi] (.b (decide (lo <= n /\ n <= hi))) := by
 refine Fn0.of Tryz.func64 Tryz.ntmps64 rfl rfl rfl ?_
 simp only [A0]
 repeat' (first
  | refine W ?_
  | refine Y ?_
  | refine V ?_
  | (refine W2 ?_ ?_ <;> intro hc))
 all_goals exact A7 (by simp) Tryz.results64 rfl (by simp only [Value.bool.injEq];first | rfl|(rw [decide_eq_decide];omega)|(symm;rw [decide_eq_true_iff];omega)|(symm;rw [decide_eq_false_iff_not];omega))
theorem Ny (p : ByteArray × Int) (s : ByteArray) : Fn0 Tryz.prog 180 [A6 (P0 p), .rop [.s s]] (.b (decide (p.1 = s))) := by
 refine Fn0.of Tryz.func180 Tryz.ntmps180 rfl rfl rfl ?_
 simp only [A0]
 repeat' (first
  | refine W ?_
  | refine Y ?_
  | refine V ?_
  | (refine W2 ?_ ?_ <;> intro hc))
 all_goals exact A7 (by simp) Tryz.results180 rfl rfl
theorem Q5 : Fn0 Tryz.prog 119 [A6 Cn, .s eB] (.i 0) := by
 have cf := Gm [(eB, (300 : Int))] P0 (fun p => p.1 = eB) 180 [.rop [.s eB]] (fun _ => rfl) (by decide) rfl (fun p _ => Ny p eB)
 rw [show idx (fun p : ByteArray × Int => p.1 = eB) [(eB, (300 : Int))] = 0 from rfl] at cf
 refine Fn0.of Tryz.func119 Tryz.ntmps119 rfl rfl rfl ?_
 simp only [A0]
 repeat' (first
  | refine W ?_
  | refine Y ?_|(apply S.callV;exact rfl;exact cf;exact .cons (.one (.lf _)) (.cons (.fn (.cons (.ptr0 (cs := [.s eB]) rfl) .nil)) .nil);exact rfl;exact rfl)
  | refine V ?_
  | (refine W2 ?_ ?_ <;> intro hc))
 all_goals exact A7 (by simp) Tryz.results119 rfl rfl
theorem W8 : Fn0 Tryz.prog 119 [A6 Cn, .s e0] (.i (-1)) := by
 have cf := Gm [(eB, (300 : Int))] P0 (fun p => p.1 = e0) 180 [.rop [.s e0]] (fun _ => rfl) (by decide) rfl (fun p _ => Ny p e0)
 rw [show idx (fun p : ByteArray × Int => p.1 = e0) [(eB, (300 : Int))] = -1 by decide] at cf
 refine Fn0.of Tryz.func119 Tryz.ntmps119 rfl rfl rfl ?_
 simp only [A0]
 repeat' (first
  | refine W ?_
  | refine Y ?_|(apply S.callV;exact rfl;exact cf;exact .cons (.one (.lf _)) (.cons (.fn (.cons (.ptr0 (cs := [.s e0]) rfl) .nil)) .nil);exact rfl;exact rfl)
  | refine V ?_
  | (refine W2 ?_ ?_ <;> intro hc))
 all_goals exact A7 (by simp) Tryz.results119 rfl rfl
theorem Np : Fn0 Tryz.prog 85 [A6 [.i 1, .i 1]] (.b true) := Jm 1 1
theorem Wb : Fn0 Tryz.prog 177 [A6 [.i 1, .i 1]] (.b true) := by
 have c := Np
 refine Fn0.of Tryz.func177 Tryz.ntmps177 rfl rfl rfl ?_
 simp only [A0]
 repeat' (first
  | refine W ?_
  | refine Y ?_
  | refine V ?_
  | (refine W2 ?_ ?_ <;> intro hc))
 all_goals exact A7 (by simp) Tryz.results177 rfl rfl
theorem W9 : Fn0 Tryz.prog 116 [A6 Cn, A6 Xm, .b true] (.b true) := by
 refine Fn0.of Tryz.func116 Tryz.ntmps116 rfl rfl rfl ?_
 simp only [A0]
 repeat' (first
  | refine W ?_
  | refine Y ?_|(apply S.ne2;(iterate 3 exact rfl))
  | refine V ?_
  | (refine W2 ?_ ?_ <;> intro hc))
 all_goals exact A7 (by simp) Tryz.results116 rfl rfl
theorem Wa : Fn0 Tryz.prog 116 [A6 Cn, A6 A07, .b false] (.b true) := by
 have c := Q5
 have c2 := Wb
 refine Fn0.of Tryz.func116 Tryz.ntmps116 rfl rfl rfl ?_
 simp only [A0]
 repeat' (first
  | refine W ?_
  | refine Y ?_|(apply S.ne2;(iterate 3 exact rfl))
  | refine V ?_
  | (refine W2 ?_ ?_ <;> intro hc))
 all_goals exact A7 (by simp) Tryz.results116 rfl rfl
theorem Yf : Fn0 Tryz.prog 66 [A6 Cn, A6 Ir] (.b true) := by
 have c := Hn 3 2 10
 have c1 := W9
 have c2 := Wa
 refine Fn0.of Tryz.func66 Tryz.ntmps66 rfl rfl rfl ?_
 simp only [A0]
 repeat' (first
  | refine W ?_
  | refine Y ?_|(refine T.unroll ?_)|(refine TL.round ?_)|(dsimp only [Au, Ae];refine TL.round ?_)|(apply S.arith;(iterate 4 exact rfl);decide)|(apply S.indexR;(iterate 4 exact rfl);decide;exact rfl)
  | refine V ?_
  | (refine W2 ?_ ?_ <;> intro hc))
 all_goals exact A7 (by simp) Tryz.results66 rfl rfl
set_option maxHeartbeats 16000000 in
theorem Gb : Fn0 Tryz.prog 26 [A6 Cn] (.b true) := by
 have w1 := Hn 1 1 6
 have w2 := Hn 300 0 16777216
 have c1 := Bz eB
 have c2 := Bz eR
 rw [show decide (Bp eB = true) = true by decide +kernel] at c1
 rw [show decide (Bp eR = true) = true by decide +kernel] at c2
 have c3 := Yf
 refine Fn0.of Tryz.func26 Tryz.ntmps26 rfl rfl rfl ?_
 simp only [A0]
 repeat' (first
  | refine W ?_
  | refine Y ?_|(refine T.unroll ?_)|(refine TL.round ?_)|(dsimp only [Au, Ae];refine TL.round ?_)|(apply S.arith;(iterate 4 exact rfl);decide)|(apply S.indexR;(iterate 4 exact rfl);decide;exact rfl)|(apply S.makeMap;exact rfl;exact rfl)|(apply S.lookupS (es := []);(iterate 5 exact rfl))|(apply S.lookupS (es := [(eB, .bool true)]);(iterate 5 exact rfl))|(apply S.mapUpdate (es := []);(iterate 5 exact rfl))|(apply S.mapUpdate (es := [(eB, .bool true)]);(iterate 5 exact rfl))|(refine S.inline [(1, .ptr 0 0), (3, .ptr 2 0), (4, .fn (.func 65) [] [.ptr 2 0]), (6, .ptr 3 0), (25, .sl [P0 (eB, 300)]), (26, .i 1), (27, .i 0)] Tryz.func65 Tryz.ntmps65 rfl rfl rfl rfl rfl rfl rfl CW rfl ?_;intro vs;simp only [A0, List.cons_append, List.nil_append])|(refine S.inline [(1, .ptr 0 0), (7, .i 0), (9, .ptr 5 0), (44, .sl [Ir]), (45, .i 1), (46, .i 0)] Tryz.func65 Tryz.ntmps65 rfl rfl rfl rfl rfl rfl rfl CW rfl ?_;intro vs;simp only [A0, List.cons_append, List.nil_append])|(apply T.ret;(first | change X0 Tryz.prog Tryz.f65 _ _ _ _ _ _|(dsimp only [Ae, Au];change X0 Tryz.prog Tryz.f65 _ _ _ _ _ _));refine ⟨.inr rfl, [_], .cons (.tmp rfl) .nil, rfl, ?_⟩;show Reg none _ _ _ _ _ _ _)
  | refine V ?_
  | (refine W2 ?_ ?_ <;> intro hc))
 all_goals exact A7 (by simp) Tryz.results26 rfl rfl
set_option maxHeartbeats 16000000 in
theorem Tl : Fn0 Tryz.prog 69 [A6 Cn] (.tup [.sl [[.sl [[.i 2]]]], .i 0]) := by
 have c1 := Gb
 have c2 := Q5
 have c3 := W8
 refine Fn0.of Tryz.func69 Tryz.ntmps69 rfl rfl rfl ?_
 simp only [A0]
 repeat' (first
  | (refine T.freezeH 1 0 rfl rfl rfl rfl (OwnRows.of (rows := [[.i 2]]) [.i 2] (by simp) rfl) ?_)|(refine T.freeze 4 rfl rfl (OwnRows.of (rows := [[.sl [[.i 2]]]]) [.sl [[.i 2]]] (by simp) rfl) ?_)
  | refine W ?_
  | refine Y ?_|(refine T.unroll ?_)|(refine TL.round ?_)|(dsimp only [Au, Ae];refine TL.round ?_)|(apply S.arith;(iterate 4 exact rfl);decide)|(apply S.indexR;(iterate 4 exact rfl);decide;exact rfl)|(apply S.indexO;(iterate 4 exact rfl);decide;exact rfl)|(apply S.makeO (n := 1);(iterate 3 exact rfl);decide;exact rfl;exact rfl)|(apply T.drawR 11 A3 (by decide +kernel);simp only [td])
  | refine V ?_
  | (refine W2 ?_ ?_ <;> intro hc))
 all_goals exact D2 rfl rfl rfl
set_option maxHeartbeats 16000000 in
theorem R9 : Fn0 Tryz.prog 70 [A6 Cn] (.tup [.sl [[.i 300]], .i 0]) := by
 have c1 := Gb
 refine Fn0.of Tryz.func70 Tryz.ntmps70 rfl rfl rfl ?_
 simp only [A0]
 repeat' (first
  | (refine T.freeze 4 rfl rfl (OwnRows.of (rows := [[.i 300]]) [.i 300] (by simp) rfl) ?_)
  | refine W ?_
  | refine Y ?_|(refine T.unroll ?_)|(refine TL.round ?_)|(dsimp only [Au, Ae];refine TL.round ?_)|(apply S.arith;(iterate 4 exact rfl);decide)|(apply S.indexR;(iterate 4 exact rfl);decide;exact rfl)|(apply S.indexO;(iterate 4 exact rfl);decide;exact rfl)|(apply S.buildSlice1;(iterate 7 exact rfl))|(apply S.appendN 2 (rows := []);(iterate 8 exact rfl);exact Ad rfl;exact rfl;exact Nat.le_of_ble_eq_true rfl;exact Nat.le_of_ble_eq_true rfl)
  | refine V ?_
  | (refine W2 ?_ ?_ <;> intro hc))
 all_goals exact D2 rfl rfl rfl
theorem A0g : Fn0 Tryz.prog 184 [.i 2, .rop [.i 32]] (.b false) := by
 refine Fn0.of Tryz.func184 Tryz.ntmps184 rfl rfl rfl ?_
 simp only [A0]
 repeat' (first
  | refine W ?_
  | refine Y ?_|(apply S.neg;exact rfl;exact rfl;decide)
  | refine V ?_
  | (refine W2 ?_ ?_ <;> intro hc))
 all_goals exact A7 (by simp) Tryz.results184 rfl rfl
theorem A0h : Fn0 Tryz.prog 184 [.i 300, .rop [.i 67108864]] (.b false) := by
 refine Fn0.of Tryz.func184 Tryz.ntmps184 rfl rfl rfl ?_
 simp only [A0]
 repeat' (first
  | refine W ?_
  | refine Y ?_|(apply S.neg;exact rfl;exact rfl;decide)
  | refine V ?_
  | (refine W2 ?_ ?_ <;> intro hc))
 all_goals exact A7 (by simp) Tryz.results184 rfl rfl
theorem A0c (x m : Int) (h : Fn0 Tryz.prog 184 [.i x, .rop [.i m]] (.b false)) : Fn0 Tryz.prog 236 [.sl [[.i x]], .fn (.func 184) [] [.rop [.i m]]] (.i (-1)) := by
 refine Fn0.of Tryz.func236 Tryz.ntmps236 rfl rfl rfl ?_
 simp only [A0]
 repeat' (first
  | refine W ?_
  | refine Y ?_|(refine T.unroll ?_)|(refine TL.round ?_)|(dsimp only [Au, Ae];refine TL.round ?_)|(apply S.arith;(iterate 4 exact rfl);decide)|(apply S.indexR;(iterate 4 exact rfl);decide;exact rfl)|(apply S.callF;exact rfl;exact rfl;exact h;exact rfl;exact rfl)
  | refine V ?_
  | (refine W2 ?_ ?_ <;> intro hc))
 all_goals exact A7 (by simp) Tryz.results236 rfl rfl
theorem A0b (x m : Int) (h : Fn0 Tryz.prog 184 [.i x, .rop [.i m]] (.b false)) : Fn0 Tryz.prog 183 [.sl [[.i x]], .fn (.func 184) [] [.rop [.i m]]] (.b false) := by
 have c := A0c x m h
 refine Fn0.of Tryz.func183 Tryz.ntmps183 rfl rfl rfl ?_
 simp only [A0]
 repeat' (first
  | refine W ?_
  | refine Y ?_
  | refine V ?_
  | (refine W2 ?_ ?_ <;> intro hc))
 all_goals exact A7 (by simp) Tryz.results183 rfl rfl
theorem Rv (x m : Int) (h : Fn0 Tryz.prog 184 [.i x, .rop [.i m]] (.b false)) : Fn0 Tryz.prog 121 [.sl [[.i x]], .i m] (.b true) := by
 have cf := A0b x m h
 refine Fn0.of Tryz.func121 Tryz.ntmps121 rfl rfl rfl ?_
 simp only [A0]
 repeat' (first
  | refine W ?_
  | refine Y ?_|(apply S.callV;exact rfl;exact cf;exact .cons (.one (.lf _)) (.cons (.fn (.cons (.ptr0 (cs := [.i m]) rfl) .nil)) .nil);exact rfl;exact rfl)
  | refine V ?_
  | (refine W2 ?_ ?_ <;> intro hc))
 all_goals exact A7 (by simp) Tryz.results121 rfl rfl
theorem A0f : Fn0 Tryz.prog 182 [.sl [[.i 2]], .rop [.i 1]] (.b false) := by
 have c := Rv 2 32 A0g
 refine Fn0.of Tryz.func182 Tryz.ntmps182 rfl rfl rfl ?_
 simp only [A0]
 repeat' (first
  | refine W ?_
  | refine Y ?_
  | refine V ?_
  | (refine W2 ?_ ?_ <;> intro hc))
 all_goals exact A7 (by simp) Tryz.results182 rfl rfl
theorem A0e : Fn0 Tryz.prog 235 [.sl [[.sl [[.i 2]]]], .fn (.func 182) [] [.rop [.i 1]]] (.i (-1)) := by
 refine Fn0.of Tryz.func235 Tryz.ntmps235 rfl rfl rfl ?_
 simp only [A0]
 repeat' (first
  | refine W ?_
  | refine Y ?_|(refine T.unroll ?_)|(refine TL.round ?_)|(dsimp only [Au, Ae];refine TL.round ?_)|(apply S.arith;(iterate 4 exact rfl);decide)|(apply S.indexR;(iterate 4 exact rfl);decide;exact rfl)|(apply S.callF;exact rfl;exact rfl;exact A0f;exact rfl;exact rfl)
  | refine V ?_
  | (refine W2 ?_ ?_ <;> intro hc))
 all_goals exact A7 (by simp) Tryz.results235 rfl rfl
theorem A0d : Fn0 Tryz.prog 181 [.sl [[.sl [[.i 2]]]], .fn (.func 182) [] [.rop [.i 1]]] (.b false) := by
 have c := A0e
 refine Fn0.of Tryz.func181 Tryz.ntmps181 rfl rfl rfl ?_
 simp only [A0]
 repeat' (first
  | refine W ?_
  | refine Y ?_
  | refine V ?_
  | (refine W2 ?_ ?_ <;> intro hc))
 all_goals exact A7 (by simp) Tryz.results181 rfl rfl
theorem V3 : Fn0 Tryz.prog 120 [.sl [[.sl [[.i 2]]]]] (.b true) := by
 refine Fn0.of Tryz.func120 Tryz.ntmps120 rfl rfl rfl ?_
 simp only [A0]
 repeat' (first
  | refine W ?_
  | refine Y ?_|(apply S.indexR;(iterate 4 exact rfl);decide;exact rfl)|(apply S.callV;exact rfl;exact A0d;exact .cons (.one (.lf _)) (.cons (.fn (.cons (.ptr0 (cs := [.i 1]) rfl) .nil)) .nil);exact rfl;exact rfl)
  | refine V ?_
  | (refine W2 ?_ ?_ <;> intro hc))
 all_goals exact A7 (by simp) Tryz.results120 rfl rfl
theorem Res.ownZ {P : Program} {st : St} {t b k n : Nat} (h : st.tm.get t = some (.own b 0 (0 + k) n)) : Res P st (.tmp t) (.own b 0 k n) := by
 rw [Nat.zero_add] at h
 exact .tmp h
set_option maxHeartbeats 8000000 in
theorem L7 (rows : List (List Lf)) (hr : ∀ r ∈ rows, r.length = 1) (h1 : rows.flatten.all Lf.one = true) (hl : rows.length <= 1000) : FnOwn Tryz.prog 122 [.sl rows] rows 1 := by
 refine FnOwn.of Tryz.func122 Tryz.ntmps122 rfl rfl rfl ?_
 simp only [A0]
 repeat' (first
  | refine W ?_
  | (apply S.eqNil;exact rfl;exact rfl;intro hnil;rotate_left;rotate_right)|(apply S.buildSliceO;(iterate 6 exact rfl))|(apply S.appendO;(iterate 9 exact rfl);exact hr;exact h1;exact rfl;omega;omega)
  | refine V ?_
  | (refine W2 ?_ ?_ <;> intro hc))
 all_goals (apply T.ret;change On _ _ _ _ _ _)
 ·exact ⟨.inr rfl, .inl ⟨_, .cons (.tmp rfl) .nil, rfl, hnil⟩⟩
 ·exact ⟨.inr rfl, .inr (.inr ⟨0, .cons (Res.ownZ rfl) .nil, rfl⟩)⟩
abbrev Es : List (List Lf) := [[.i 2], [.i 300]]
set_option maxHeartbeats 64000000 in
theorem Xu : Fn0 Tryz.prog 123 [.sl [[.sl Es]], .i 1] (A6 [.sl [[.sl Es]], .i 2, .sl [[.i 0]], .sl [[.i 0]], .val (.bool false)]) := by
 have hc := (L7 Es (by simp [Es]) rfl (by decide)).pure (by simp [Es])
 refine Fn0.of Tryz.func123 Tryz.ntmps123 rfl rfl rfl ?_
 simp only [A0]
 repeat' (first
  | (apply S.build;(iterate 3 exact rfl))|(refine T.freezeH 1 0 rfl rfl rfl rfl (OwnRows.of (rows := [[.sl Es]]) [.sl Es] (by simp) rfl) ?_)|(refine T.freezeH 1 3 rfl rfl rfl rfl (OwnRows.of (rows := [[.i 0]]) [.i 0] (by simp) rfl) ?_)|(refine T.freezeH 1 2 rfl rfl rfl rfl (OwnRows.of (rows := [[.i 0]]) [.i 0] (by simp) rfl) ?_)|(refine T.orders (id := 5) A3 ?_)
  | refine W ?_
  | refine Y ?_|(refine T.unroll ?_)|(refine TL.round ?_)|(dsimp only [Au, Ae];refine TL.round ?_)|(apply S.arith;(iterate 4 exact rfl);decide)|(apply S.indexR;(iterate 4 exact rfl);decide;exact rfl)|(apply S.indexO;(iterate 4 exact rfl);decide;exact rfl)|(apply S.buildSlice1;(iterate 7 exact rfl))|(apply S.lenN;exact rfl;exact rfl)|(apply Ords.nil;decide +kernel)|(apply Ords.takeMove 2;exact rfl;decide +kernel;decide +kernel;decide +kernel;exact rfl;exact rfl)|(apply Ords.takeF 0;exact rfl;decide +kernel;decide +kernel;decide +kernel;exact inferInstance;(iterate 3 exact rfl))|(apply Ords.two (i := 1) (j := 3);decide +kernel;exact rfl;exact rfl)|(apply Ords.two (i := 1) (j := 4);decide +kernel;exact rfl;exact rfl)|(apply Ords.one (i := 1);decide +kernel;exact rfl)|(apply Ords.one (i := 3);decide +kernel;exact rfl)|(apply Ords.one (i := 4);decide +kernel;exact rfl)|(apply Ords.one (i := 5);decide +kernel;exact rfl)|(apply Ords.one (i := 6);decide +kernel;exact rfl)|(apply Ords.one (i := 7);decide +kernel;exact rfl)|(apply S.appendN 2 (rows := []);(iterate 8 exact rfl);exact Ad rfl;exact rfl;exact Nat.le_of_ble_eq_true rfl;exact Nat.le_of_ble_eq_true rfl)|(apply S.appendN 3 (rows := []);(iterate 8 exact rfl);exact Ad rfl;exact rfl;exact Nat.le_of_ble_eq_true rfl;exact Nat.le_of_ble_eq_true rfl)|(apply S.appendN 4 (rows := []);(iterate 8 exact rfl);exact Ad rfl;exact rfl;exact Nat.le_of_ble_eq_true rfl;exact Nat.le_of_ble_eq_true rfl)
  | refine V ?_
  | (refine W2 ?_ ?_ <;> intro hc))
 all_goals exact ⟨.inr rfl, [A6 [.sl [[.sl Es]], .i 2, .sl [[.i 0]], .sl [[.i 0]], .val (.bool false)]], .cons (Res.row [.sl [[.sl Es]], .i 2, .sl [[.i 0]], .sl [[.i 0]], .val (.bool false)] rfl rfl rfl rfl rfl) .nil, .one (.agg (B7 _))⟩
theorem A1s : frE (Aq 300 2) 0 = .tup [A6 [.i 150, .i 1], .i 0] := by
 rw [show Aq 300 2 = (150 : Rat) by decide +kernel]
 rfl
set_option maxHeartbeats 64000000 in
theorem V0 : Fn0 Tryz.prog 71 [.sl [[.sl [[.i 2]]]], .sl [[.i 300]]] (.tup [.sl [[.i 150, .i 1]], .i 0]) := by
 have c1 := V3
 have c2 := Rv 300 67108864 A0h
 have c3 := Xu
 have c4 := M5 300 2 (by decide) (by decide) (by decide) (by decide) (by decide) (by rw [show Aq 300 2 = (150 : Rat) by decide +kernel];decide)
 rw [A1s] at c4
 refine Fn0.of Tryz.func71 Tryz.ntmps71 rfl rfl rfl ?_
 simp only [A0]
 repeat' (first
  | (refine T.ordersR (id := 12) A3 ?_)|(refine Reg.freeze 50 rfl rfl (OwnRows.of (rows := Es) [.i 2, .i 300] (by simp [Es]) rfl) ?_)|(refine T.freeze 7 rfl rfl (OwnRows.of (rows := [[.sl Es]]) [.sl Es] (by simp) rfl) ?_)|(refine T.freeze 13 rfl rfl (OwnRows.of (rows := [[.i 150, .i 1]]) [.i 150, .i 1] (by simp) rfl) ?_)
  | refine W ?_
  | refine Y ?_|(refine T.unroll ?_)|(refine TL.round ?_)|(dsimp only [Au, Ae];refine TL.round ?_)|(apply S.arith;(iterate 4 exact rfl);decide)|(apply S.indexR;(iterate 4 exact rfl);decide;exact rfl)|(apply S.indexO;(iterate 4 exact rfl);decide;exact rfl)|(apply S.buildSlice1;(iterate 7 exact rfl))|(apply Ords.nil;decide +kernel)|(apply Ords.takeMove 0;exact rfl;decide +kernel;decide +kernel;decide +kernel;exact rfl;exact rfl)|(apply Ords.takeMove 1;exact rfl;decide +kernel;decide +kernel;decide +kernel;exact rfl;exact rfl)|(apply Ords.takeMove 3;exact rfl;decide +kernel;decide +kernel;decide +kernel;exact rfl;exact rfl)|(apply Ords.takeMove 4;exact rfl;decide +kernel;decide +kernel;decide +kernel;exact rfl;exact rfl)|(apply Ords.takeIndex 5;exact rfl;decide +kernel;decide +kernel;decide +kernel;exact rfl;exact inferInstance;exact inferInstance;(iterate 3 exact rfl);decide;exact rfl)|(apply Ords.two (i := 2) (j := 6);decide +kernel;exact rfl;exact rfl)|(apply Ords.two (i := 2) (j := 7);decide +kernel;exact rfl;exact rfl)|(apply Ords.one (i := 2);decide +kernel;exact rfl)|(apply Ords.one (i := 6);decide +kernel;exact rfl)|(apply Ords.one (i := 7);decide +kernel;exact rfl)|(apply Ords.one (i := 8);decide +kernel;exact rfl)|(apply Ords.one (i := 9);decide +kernel;exact rfl)|(apply Ords.one (i := 10);decide +kernel;exact rfl)|(apply Ords.one (i := 11);decide +kernel;exact rfl)|(apply S.callOwn 0;exact L7 [[.i 2]] (by simp) rfl (by decide);(iterate 6 exact rfl);exact (by simp);exact (fun h => by cases h))|(apply S.appendO;(iterate 9 exact rfl);exact Ad rfl;exact rfl;exact rfl;exact Nat.le_of_ble_eq_true rfl;exact Nat.le_of_ble_eq_true rfl)|(apply S.appendN 1 (rows := []);(iterate 8 exact rfl);exact Ad rfl;exact rfl;exact Nat.le_of_ble_eq_true rfl;exact Nat.le_of_ble_eq_true rfl)|(apply S.appendN 3 (rows := []);(iterate 8 exact rfl);exact Ad rfl;exact rfl;exact Nat.le_of_ble_eq_true rfl;exact Nat.le_of_ble_eq_true rfl)|(apply S.sliceFrom;(iterate 3 exact rfl);decide;exact (by simp))|(apply T.drawR 16 A3 (by decide +kernel);simp only [td])|(apply T.draw 16 A3 (by decide +kernel);simp only [td])
  | refine V ?_
  | (refine W2 ?_ ?_ <;> intro hc))
 all_goals exact D2 rfl rfl rfl
theorem Qa : Fn0 Tryz.prog 28 [A6 Cn] (.tup [.sl [[.i 150, .i 1]], .i 0]) := by
 have c1 := Tl
 have c2 := R9
 have c3 := V0
 refine Fn0.of Tryz.func28 Tryz.ntmps28 rfl rfl rfl ?_
 simp only [A0]
 repeat' (first
  | refine W ?_
  | refine Y ?_
  | refine V ?_
  | (refine W2 ?_ ?_ <;> intro hc))
 all_goals exact D2 rfl rfl rfl
end Go.Proofs.YtcfjofhapbkmfaaGreatDoor
