/- Contract: report.Findings. No conditions. -/
import Derived.Test.YtcfjofhapbkmfaaGreatDoorYc
import Derived.Test.YtcfjofhapbkmfaaGreatDoorYb
import Derived.Test.YtcfjofhapbkmfaaGreatDoorPd
import Derived.Test.YtcfjofhapbkmfaaGreatDoorMk
import Derived.Test.YtcfjofhapbkmfaaGreatDoorMy
import Derived.Test.YtcfjofhapbkmfaaGreatDoorYa
import Derived.Test.YtcfjofhapbkmfaaGreatDoorMn
import Derived.Test.YtcfjofhapbkmfaaGreatDoorOl
import Derived.Test.YtcfjofhapbkmfaaGreatDoorYe
set_option linter.unusedSimpArgs false
set_option linter.unusedVariables false
namespace Go.Proofs.YtcfjofhapbkmfaaGreatDoor
open Go Go.RowKit
set_option maxHeartbeats 4000000 in
theorem Hz {α : Type} (l : List α) (R : α -> List Lf) (p : α -> Prop) [DecidablePred p] (g : FuncId) (caps : List AV) (hR : ∀ x, (R x).length = 2) (hl : l.length <= 9223372036854775807) (hcaps : caps.all AV.cap = true) (hg : ∀ x ∈ l, Fn0 Tryz.prog g (.agg ((R x).map .lf) :: caps) (.b (decide (p x)))) :
  Fn0 Tryz.prog 61 [.sl (l.map R), .fn (.func g) [] caps] (.b (decide (∃ x ∈ l, p x))) := by
 refine Fn0.of Tryz.func61 Tryz.ntmps61 rfl rfl rfl ?_
 simp only [A0]
 repeat' (first
  | refine W ?_
  | (apply S.call;exact rfl;exact Gh hcaps;exact Kg l R p g caps hR hl hcaps hg;exact rfl)
  | refine V ?_
  | (refine W2 ?_ ?_ <;> intro hc))
 all_goals exact A7 (by simp) Tryz.results61 rfl (by rw [Ie p l])
theorem A0s (x : FinR) : Fn0 Tryz.prog 62 [A6 x.row] (.b (decide (¬ Fc x))) := by
 have cn := Bz x.name
 refine Fn0.of Tryz.func62 Tryz.ntmps62 rfl rfl rfl ?_
 simp only [A0]
 repeat' (first
  | refine W ?_
  | refine Y ?_
  | refine V ?_
  | (refine W2 ?_ ?_ <;> intro hc))
 all_goals exact A7 (by simp) Tryz.results62 rfl (by simp_all [Fc])
theorem Tv {l : List FinR} {k : Nat} {x : FinR} (h : l[k]? = some x) : Ci (l.take (k + 1)) = Ci (l.take k) ++ (lnF x ++ [10]) := by rw [Ai h, Qd, Wv]
theorem Qe : ∀ (l : List FinR), (∀ x ∈ l, Fc x) -> (Ci l).length <= l.length * 29
 | [], _ => by simp [Ci]
 | x :: l, h => by
  have h1 := A0j (Q6 (h x (by simp)))
  have h2 := Qe l fun y hy => h y (by simp [hy])
  rw [Tu, List.length_append, List.length_cons, List.length_cons]
  omega
theorem V4 (L : List UInt8) (x : FinR) : L ++ (Af x.kind).data.toList ++ (⟨#[32]⟩ : ByteArray).data.toList ++ x.name.data.toList ++ (⟨#[10]⟩ : ByteArray).data.toList = L ++ (lnF x ++ [10]) := by
 unfold lnF
 simp [Af]
theorem Db (s : ByteArray) : s.data.toList.length = s.size := Array.length_toList
set_option maxHeartbeats 32000000 in
theorem Mz (l : List FinR) (hl : ¬ 1000 < l.length) (hr : ∀ x ∈ l, Fc x) : Fn0 Tryz.prog 25 [.sl (l.map FinR.row)] (.tup [.s (ofL (Ci l)), .i 0]) := by
 have hle : (l.map FinR.row).length = l.length := List.length_map _
 have h0 : ¬ ((l.map FinR.row).length : Int) > 1000 := by omega
 have c := Hz l FinR.row (fun x => ¬ Fc x) 62 [] (fun _ => rfl) (by omega) rfl (fun x _ => A0s x)
 rw [decide_eq_false (fun ⟨x, hx, hn⟩ => hn (hr x hx))] at c
 have s32 : (⟨#[32]⟩ : ByteArray).size = 1 := rfl
 have s10 : (⟨#[10]⟩ : ByteArray).size = 1 := rfl
 refine Fn0.of Tryz.func25 Tryz.ntmps25 rfl rfl rfl ?_
 simp only [A0]
 repeat' (first
  | refine W ?_
  | refine Y ?_|(apply S.papN;exact rfl;exact rfl)
  | refine V ?_
  | (refine W2 ?_ ?_ <;> intro hc))
 refine T.loopS (fun k => k <= l.length) (fun k => l.length - k) (fun k => [(16, .i k), (15, .i (l.map FinR.row).length), (14, .sl (l.map FinR.row)), (4, .ptr 0 0)]) (fun k => [Fz 1 (Ci (l.take k)), .hid]) 0 (Nat.zero_le _) CW (.bld rfl (.hid .nil)) ?_
 intro k hk
 by_cases hlt : k < l.length
 ·have h1 : (k : Int) < ((l.map FinR.row).length : Nat) := by omega
  obtain ⟨x, hx⟩ := Aa hlt
  have hb := Ab (R := FinR.row) hx
  have hxr := hr x (List.mem_of_getElem? hx)
  obtain ⟨b1, b2⟩ := A1f (Q6 hxr)
  have hts := Tv hx
  have htl := Qe (l.take k) fun y hy => hr y (List.mem_of_mem_take hy)
  have htk : (l.take k).length <= 1000 := by rw [List.length_take];omega
  have ci := Dh x.kind b1 b2
  have si := Ar b1 b2
  have sn : x.name.size <= 20 := by
   have := hxr.2.2
   simp only [Bp, Bool.and_eq_true, decide_eq_true_eq] at this
   have := this.1.1.2
   omega
  have hlt2 := V4 (Ci (l.take k)) x
  repeat' (first
   | refine W ?_
   | (apply S.indexR;(iterate 3 exact rfl);exact hb;omega;exact rfl) | refine Y ?_|(apply S.mkIface;(iterate 4 exact rfl))|(refine T.unroll ?_)|(refine TL.round ?_)|(dsimp only [Au, Ae];refine TL.round ?_)|(apply S.arith;(iterate 4 exact rfl);decide)|(apply S.indexR;(iterate 4 exact rfl);decide;exact rfl)|(apply S.buildSliceF;(iterate 8 exact rfl))|(refine ⟨by first | exact .inl rfl | exact .inr rfl, [], .nil, rfl, ?_⟩;show Reg none _ _ _ _ _ _ _)|(refine S.inline [(16, .i k), (15, .i (l.map FinR.row).length), (14, .sl (l.map FinR.row)), (4, .ptr 0 0)] Tryz.func27 Tryz.ntmps27 rfl rfl rfl rfl rfl rfl rfl CW rfl ?_;intro vs;simp only [A0, List.cons_append, List.nil_append])|(apply S.papW;(iterate 6 exact rfl);first | omega|(simp only [List.length_append, Db, List.length_cons, List.length_nil];omega))|(apply S.papW;(iterate 6 exact rfl);exact Nat.le_of_ble_eq_true rfl)|(apply S.fieldB;(iterate 3 exact rfl))|(apply S.nilCheckB;(iterate 3 exact rfl))|(apply S.assertYes;(iterate 3 exact rfl))|(apply S.assertNo;(iterate 4 exact rfl))|(refine T.ordersR (N := Tryz.f27.ntmps) (id := 11) A3 ?_)|(apply Ords.nil;decide +kernel)|(apply Ords.takeMove 0;exact rfl;decide +kernel;decide +kernel;decide +kernel;exact rfl;exact rfl)|(apply Ords.takeMove 3;exact rfl;decide +kernel;decide +kernel;decide +kernel;exact rfl;exact rfl)|(apply Ords.takeNilB 1;exact rfl;decide +kernel;decide +kernel;decide +kernel;(iterate 3 exact rfl))|(apply Ords.takeFieldB 2;exact rfl;decide +kernel;decide +kernel;decide +kernel;exact inferInstance;(iterate 3 exact rfl))|(apply Ords.one (i := 4);decide +kernel;exact rfl)|(apply Ords.one (i := 5);decide +kernel;exact rfl)|refine Za ?_
   | refine V ?_
   | (refine W2 ?_ ?_ <;> intro hc))
  all_goals (change Next _ _ _ _ _ _)
  all_goals exact Next.go (k + 1) (by omega) (by omega) CW (.bldE (hts.trans hlt2.symm) rfl (.hid .nil))
 ·have h1 : ¬ (k : Int) < ((l.map FinR.row).length : Nat) := by omega
  have hkt : l.take k = l := List.take_of_length_le (by omega)
  rw [hkt]
  repeat' (first
   | refine W ?_
   | refine Y ?_|(apply S.papT;(iterate 3 exact rfl))
   | refine V ?_
   | (refine W2 ?_ ?_ <;> intro hc))
  all_goals exact D2 rfl rfl rfl
theorem It (n : Int) (h0 : -9223372036854775808 <= n) (h1 : n <= 9223372036854775807) : Fn0 Tryz.prog 33 [.i n] (.val (.string (Af n))) := by
 have c := R7 n h0 h1
 refine Fn0.of Tryz.func33 Tryz.ntmps33 rfl rfl rfl ?_
 simp only [A0]
 repeat' (first
  | refine W ?_
  | refine Y ?_
  | refine V ?_
  | (refine W2 ?_ ?_ <;> intro hc))
 all_goals exact A7 (by simp) Tryz.results33 rfl rfl
section
variable {N : Nat} {ops : Array Oper} {m : Option Nat} {K : Tm -> AH -> Prop} {tm : Tm} {H : AH} {rest : List Oper} {ty : TypeId} {pos : String} {af : Array Edge} {d : Nat} {x y : Operand}
end
theorem Qv : Fn0 Tryz.prog 24 [] (A6 Cn) := by
 have c := Vp 1
 refine Fn0.of Tryz.func24 Tryz.ntmps24 rfl rfl rfl ?_
 simp only [A0]
 repeat' (first
  | refine W ?_
  | refine Y ?_|(apply S.buildSliceF;(iterate 8 exact rfl))
  | refine V ?_
  | (refine W2 ?_ ?_ <;> intro hc))
 all_goals exact ⟨.inr rfl, [A6 Cn], .cons (Res.row Cn rfl rfl rfl rfl rfl) .nil, .one (.agg (B7 _))⟩
def exF : List FinR := [⟨3, ⟨#[97]⟩⟩, ⟨12, ⟨#[98]⟩⟩]
theorem Xd : ofL (Ci exF) = ⟨#[51, 32, 97, 10, 49, 50, 32, 98, 10]⟩ := by decide +kernel
set_option maxHeartbeats 8000000 in
theorem Uz : Fn0 Tryz.prog 7 [] (.b true) := by
 have c1 := Qv
 have c2 := To
 have c3 := Mz exF (by decide) (by decide)
 rw [Xd] at c3
 have h2 : (⟨#[51, 32, 97, 10, 49, 50, 32, 98, 10]⟩ : ByteArray) = ⟨#[51, 32, 97, 10, 49, 50, 32, 98, 10]⟩ := rfl
 refine Fn0.of Tryz.func7 Tryz.ntmps7 rfl rfl rfl ?_
 simp only [A0]
 repeat' (first
  | refine W ?_
  | refine Y ?_|(apply S.buildSliceF;(iterate 8 exact rfl))
  | refine V ?_
  | (refine W2 ?_ ?_ <;> intro hc))
 all_goals exact A7 (by simp) Tryz.results7 rfl rfl
end Go.Proofs.YtcfjofhapbkmfaaGreatDoor
