/- Contracts: the reference's words and integers of a string. Conditions: those of each statement (bounds on lengths). -/
import Derived.Test.YtkboebgkcjcpfaaGreatDoorXd
import Derived.Test.YtkboebgkcjcpfaaGreatDoorYb
import Derived.Test.YtkboebgkcjcpfaaGreatDoorYc
import Derived.Test.YtkboebgkcjcpfaaGreatDoorMk
import Derived.Test.YtkboebgkcjcpfaaGreatDoorMy
set_option linter.unusedSimpArgs false
set_option linter.unusedVariables false
namespace Go.Proofs.YtkboebgkcjcpfaaGreatDoor
open Go Go.RowKit
def C8 (x : ByteArray) : List Lf := [.s x]
theorem W9 (l : List ByteArray) : ∀ r ∈ l.map C8, r.length = 1 := by
 intro r hr
 obtain ⟨x, _, rfl⟩ := List.mem_map.1 hr
 rfl
abbrev Ep (l : List ByteArray) : List AV := (l.map C8).flatten.map .lf
theorem Wk (l : List ByteArray) : (Ep l).length = l.length * 1 := by
 rw [List.length_map, Bd _ (W9 l), List.length_map]
theorem Uj (l : List ByteArray) (x : ByteArray) : Ep (l ++ [x]) = Ep l ++ (([C8 x] : List (List Lf)).flatten).map AV.lf := by simp [Ep]
theorem A4r (l : List ByteArray) : OwnRows (Ep l) 0 l.length 1 (l.map C8) := by
 have := OwnRows.of (l.map C8).flatten (W9 l) rfl
 rwa [List.length_map] at this
set_option maxHeartbeats 4000000 in
theorem Kl {α : Type} (l : List α) (R : α -> List Lf) (p : α -> Prop) [DecidablePred p] (g : FuncId) (caps : List AV) (hR : ∀ x, (R x).length = 2) (hl : l.length <= 9223372036854775807) (hcaps : caps.all AV.cap = true) (hg : ∀ x ∈ l, Fn0 Tryz.prog g (.agg ((R x).map .lf) :: caps) (.b (decide (p x)))) :
  Fn0 Tryz.prog 36 [.sl (l.map R), .fn (.func g) [] caps] (.b (decide (∃ x ∈ l, p x))) := by
 refine Fn0.of Tryz.func36 Tryz.ntmps36 rfl rfl rfl ?_
 simp only [A0]
 repeat' (first
  | refine W ?_
  | (apply S.call;exact rfl;exact I7 hcaps;exact Nc l R p g caps hR hl hcaps hg;exact rfl)
  | refine V ?_
  | (refine W2 ?_ ?_ <;> intro hc))
 all_goals exact A5 (by simp) Tryz.results36 rfl (by rw [Gi p l])
theorem A5r (x : FinR) : Fn0 Tryz.prog 37 [A4 x.row] (.b (decide (¬ Gq x))) := by
 have cn := Bv x.name
 refine Fn0.of Tryz.func37 Tryz.ntmps37 rfl rfl rfl ?_
 simp only [A0]
 repeat' (first
  | refine W ?_
  | refine Y ?_
  | refine V ?_
  | (refine W2 ?_ ?_ <;> intro hc))
 all_goals exact A5 (by simp) Tryz.results37 rfl (by simp_all [Gq])
theorem Xu {l : List FinR} {k : Nat} {x : FinR} (h : l[k]? = some x) : Cv (l.take (k + 1)) = Cv (l.take k) ++ (lnF x ++ [10]) := by rw [Af h, U5, A1l]
theorem U6 : ∀ (l : List FinR), (∀ x ∈ l, Gq x) -> (Cv l).length <= l.length * 29
 | [], _ => by simp [Cv]
 | x :: l, h => by
  have h1 := A5m (Tw (h x (by simp)))
  have h2 := U6 l fun y hy => h y (by simp [hy])
  rw [Xt, List.length_append, List.length_cons, List.length_cons]
  omega
theorem Zh (L : List UInt8) (x : FinR) : L ++ (Ao x.kind).data.toList ++ (⟨#[32]⟩ : ByteArray).data.toList ++ x.name.data.toList ++ (⟨#[10]⟩ : ByteArray).data.toList = L ++ (lnF x ++ [10]) := by
 unfold lnF
 simp [Ao]
theorem Y4 (s : ByteArray) : s.data.toList.length = s.size := Array.length_toList
set_option maxHeartbeats 32000000 in
theorem Pz (l : List FinR) (hl : ¬ 1000 < l.length) (hr : ∀ x ∈ l, Gq x) : Fn0 Tryz.prog 18 [.sl (l.map FinR.row)] (.tup [.s (ofL (Cv l)), .i 0]) := by
 have hle : (l.map FinR.row).length = l.length := List.length_map _
 have h0 : ¬ ((l.map FinR.row).length : Int) > 1000 := by omega
 have c := Kl l FinR.row (fun x => ¬ Gq x) 37 [] (fun _ => rfl) (by omega) rfl (fun x _ => A5r x)
 rw [decide_eq_false (fun ⟨x, hx, hn⟩ => hn (hr x hx))] at c
 have s32 : (⟨#[32]⟩ : ByteArray).size = 1 := rfl
 have s10 : (⟨#[10]⟩ : ByteArray).size = 1 := rfl
 refine Fn0.of Tryz.func18 Tryz.ntmps18 rfl rfl rfl ?_
 simp only [A0]
 repeat' (first
  | refine W ?_
  | refine Y ?_|(apply S.papN;exact rfl;exact rfl)
  | refine V ?_
  | (refine W2 ?_ ?_ <;> intro hc))
 refine T.loopS (fun k => k <= l.length) (fun k => l.length - k) (fun k => [(16, .i k), (15, .i (l.map FinR.row).length), (14, .sl (l.map FinR.row)), (4, .ptr 0 0)]) (fun k => [Nj 1 (Cv (l.take k)), .hid]) 0 (Nat.zero_le _) CW (.bld rfl (.hid .nil)) ?_
 intro k hk
 by_cases hlt : k < l.length
 ·have h1 : (k : Int) < ((l.map FinR.row).length : Nat) := by omega
  obtain ⟨x, hx⟩ := Ac hlt
  have hb := Ad (R := FinR.row) hx
  have hxr := hr x (List.mem_of_getElem? hx)
  obtain ⟨b1, b2⟩ := A6d (Tw hxr)
  have hts := Xu hx
  have htl := U6 (l.take k) fun y hy => hr y (List.mem_of_mem_take hy)
  have htk : (l.take k).length <= 1000 := by rw [List.length_take];omega
  have ci := F3 x.kind b1 b2
  have si := Cr b1 b2
  have sn : x.name.size <= 20 := by
   have := hxr.2.2
   simp only [B8, Bool.and_eq_true, decide_eq_true_eq] at this
   have := this.1.1.2
   omega
  have hlt2 := Zh (Cv (l.take k)) x
  repeat' (first
   | refine W ?_
   | (apply S.indexR;(iterate 3 exact rfl);exact hb;omega;exact rfl) | refine Y ?_|(apply S.mkIface;(iterate 4 exact rfl))|(refine T.unroll ?_)|(refine TL.round ?_)|(dsimp only [B9, Ai];refine TL.round ?_)|(apply S.arith;(iterate 4 exact rfl);decide)|(apply S.indexR;(iterate 4 exact rfl);decide;exact rfl)|(apply S.buildSliceF;(iterate 8 exact rfl))|(refine ⟨by first | exact .inl rfl | exact .inr rfl, [], .nil, rfl, ?_⟩;show Reg none _ _ _ _ _ _ _)|(refine S.inline [(16, .i k), (15, .i (l.map FinR.row).length), (14, .sl (l.map FinR.row)), (4, .ptr 0 0)] Tryz.func23 Tryz.ntmps23 rfl rfl rfl rfl rfl rfl rfl CW rfl ?_;intro vs;simp only [A0, List.cons_append, List.nil_append])|(apply S.papW;(iterate 6 exact rfl);first | omega|(simp only [List.length_append, Y4, List.length_cons, List.length_nil];omega))|(apply S.papW;(iterate 6 exact rfl);exact Nat.le_of_ble_eq_true rfl)|(apply S.fieldB;(iterate 3 exact rfl))|(apply S.nilCheckB;(iterate 3 exact rfl))|(apply S.assertYes;(iterate 3 exact rfl))|(apply S.assertNo;(iterate 4 exact rfl))|(refine T.ordersR (N := Tryz.f23.ntmps) (id := 11) A3 ?_)|(apply Ords.nil;decide +kernel)|(apply Ords.takeMove 0;exact rfl;decide +kernel;decide +kernel;decide +kernel;exact rfl;exact rfl)|(apply Ords.takeMove 3;exact rfl;decide +kernel;decide +kernel;decide +kernel;exact rfl;exact rfl)|(apply Ords.takeNilB 1;exact rfl;decide +kernel;decide +kernel;decide +kernel;(iterate 3 exact rfl))|(apply Ords.takeFieldB 2;exact rfl;decide +kernel;decide +kernel;decide +kernel;exact inferInstance;(iterate 3 exact rfl))|(apply Ords.one (i := 4);decide +kernel;exact rfl)|(apply Ords.one (i := 5);decide +kernel;exact rfl)|refine Za ?_
   | refine V ?_
   | (refine W2 ?_ ?_ <;> intro hc))
  all_goals (change Next _ _ _ _ _ _)
  all_goals exact Next.go (k + 1) (by omega) (by omega) CW (.bldE (hts.trans hlt2.symm) rfl (.hid .nil))
 ·have h1 : ¬ (k : Int) < ((l.map FinR.row).length : Nat) := by omega
  have hkt : l.take k = l := List.take_of_length_le (by omega)
  rw [hkt]
  repeat' (first
   | refine W ?_
   | refine Y ?_|(apply S.papT;(iterate 3 exact rfl))
   | refine V ?_
   | (refine W2 ?_ ?_ <;> intro hc))
  all_goals exact D2 rfl rfl rfl
end Go.Proofs.YtkboebgkcjcpfaaGreatDoor
