/- Contract: lists of contacts compared. No conditions but those of each statement. -/
import Derived.Test.YtlapbaiejnaeiaaGreatDoorPa
import Derived.Test.YtlapbaiejnaeiaaGreatDoorPf
import Derived.Test.YtlapbaiejnaeiaaGreatDoorMk
set_option linter.unusedSimpArgs false
set_option linter.unusedVariables false
namespace Go.Proofs.YtlapbaiejnaeiaaGreatDoor
open Go Go.RowKit
set_option maxHeartbeats 4000000 in
theorem K8 {α : Type} (l : List α) (R : α -> List Lf) (p : α -> Prop) [DecidablePred p] (g : FuncId) (caps : List AV) (hR : ∀ x, (R x).length = 4) (hl : l.length <= 9223372036854775807) (hcaps : caps.all AV.cap = true) (hg : ∀ x ∈ l, Fn0 Tryz.prog g (.agg ((R x).map .lf) :: caps) (.b (decide (p x)))) :
  Fn0 Tryz.prog 22 [.sl (l.map R), .fn (.func g) [] caps] (.i (idx p l)) := by
 refine Fn0.of Tryz.func22 Tryz.ntmps22 rfl rfl rfl ?_
 simp only [A0]
 repeat' (first
  | refine W ?_

  | refine V ?_
  | (refine W2 ?_ ?_ <;> intro hc))
 refine T.loopS (fun k => k <= l.length /\ ∀ x ∈ l.take k, ¬ p x) (fun k => l.length - k) (fun k => [(8, .i k), (7, .i (l.map R).length), (0, .sl (l.map R)), (1, .fn (.func g) [] caps)]) (fun _ => []) 0 ⟨Nat.zero_le _, by simp⟩ (.cons rfl rfl (.cons rfl rfl (.cons rfl rfl (.cons rfl (Ai hcaps) .nil)))) .nil ?_
 rintro k ⟨hk, hno⟩
 have hle : (l.map R).length = l.length := List.length_map _
 by_cases hlt : k < l.length
 ·have h1 : (k : Int) < ((l.map R).length : Nat) := by omega
  obtain ⟨x, hx⟩ : ∃ x, l[k]? = some x := ⟨l[k], List.getElem?_eq_getElem hlt⟩
  have hb : (l.map R)[((k : Nat) : Int).toNat]? = some (R x) := by rw [Int.toNat_natCast, List.getElem?_map, hx];rfl
  have hx2 := hg x (List.mem_of_getElem? hx)
  repeat' (first
   | refine W ?_
   | (apply S.indexR;exact rfl;exact rfl;exact rfl;exact hb;omega;exact hR x)|(apply S.loadRW;exact rfl;exact rfl;exact rfl;exact hR x)|(apply S.callF;exact rfl;exact rfl;exact hx2;exact Cd hcaps;exact rfl)|refine Za ?_
   | refine V ?_
   | (refine W2 ?_ ?_ <;> intro hc))
  all_goals first
   | exact Next.go (k + 1) ⟨by omega, by rw [List.take_add_one, hx];intro y hy;rcases List.mem_append.1 hy with hy | hy;exact hno y hy;obtain rfl : y = x := (by simpa using hy);assumption⟩ (by omega) (.cons rfl rfl (.cons rfl rfl (.cons rfl rfl (.cons rfl (Ai hcaps) .nil)))) .nil
   | exact A3 (by simp) Tryz.results22 rfl (by rw [Df hx hno (by assumption)])
 ·have h1 : ¬ (k : Int) < ((l.map R).length : Nat) := by omega
  repeat' (first
   | refine W ?_

   | refine V ?_
   | (refine W2 ?_ ?_ <;> intro hc))
  exact A3 (by simp) Tryz.results22 rfl (by rw [C3 (by rw [List.take_of_length_le (by omega)] at hno;exact hno)])
theorem Sz {α : Type} {a b : List α} {k : Nat} {x y : α} (h : a.take k = b.take k) (hx : a[k]? = some x) (hy : b[k]? = some y) (e : x = y) : a.take (k + 1) = b.take (k + 1) := by rw [Bd hx, Bd hy, h, e]
theorem M3 (x y : ConR) : eqC x.a x.b x.lo x.hi y.a y.b y.lo y.hi ↔ x = y := by
 obtain ⟨a, b, u, v⟩ := x
 obtain ⟨a', b', u', v'⟩ := y
 simp [eqC]
instance : DecidableEq ConR := fun x y => decidable_of_iff _ (M3 x y)
set_option maxHeartbeats 8000000 in
theorem Ha (a b : List ConR) (ha : a.length <= 1000000) (hb : b.length <= 1000000) : Fn0 Tryz.prog 12 [.sl (a.map ConR.row), .sl (b.map ConR.row)] (.b (decide (a = b))) := by
 have hla : (a.map ConR.row).length = a.length := List.length_map _
 have hlb : (b.map ConR.row).length = b.length := List.length_map _
 by_cases hl : a.length = b.length
 ·have hl1 : ((a.map ConR.row).length : Int) = ((b.map ConR.row).length : Nat) := by omega
  refine Fn0.of Tryz.func12 Tryz.ntmps12 rfl rfl rfl ?_
  simp only [A0]
  repeat' (first
   | refine W ?_

   | refine V ?_
   | (refine W2 ?_ ?_ <;> intro hc))
  refine T.loopS (fun k => k <= a.length /\ a.take k = b.take k) (fun k => a.length - k) (fun k => [(13, .i k), (12, .i (a.map ConR.row).length), (0, .sl (a.map ConR.row)), (1, .sl (b.map ConR.row))]) (fun _ => []) 0 ⟨Nat.zero_le _, rfl⟩ CW .nil ?_
  rintro k ⟨hk, heq⟩
  by_cases hlt : k < a.length
  ·have h1 : (k : Int) < ((a.map ConR.row).length : Nat) := by omega
   obtain ⟨x, hx⟩ := Ac hlt
   obtain ⟨y, hy⟩ := Ac (l := b) (k := k) (by omega)
   have hbx := Ae (R := ConR.row) hx
   have hby := Ae (R := ConR.row) hy
   by_cases e : eqC x.a x.b x.lo x.hi y.a y.b y.lo y.hi
   ·repeat' (first
    | refine W ?_
    | (apply T.drawAll A2 (by decide +kernel)) | refine Y ?_|(apply S.eqCon rfl;exact rfl;exact rfl;exact rfl)|(apply S.neCon rfl;exact rfl;exact rfl;exact rfl)
    | refine V ?_
    | (refine W2 ?_ ?_ <;> intro hc))
    all_goals (try change Next _ _ _ _ _ _)
    all_goals exact Next.go (k + 1) ⟨by omega, Sz heq hx hy ((M3 x y).1 e)⟩ (by omega) CW .nil
   ·repeat' (first
    | refine W ?_
    | (apply T.drawAll A2 (by decide +kernel)) | refine Y ?_|(apply S.eqCon rfl;exact rfl;exact rfl;exact rfl)|(apply S.neCon rfl;exact rfl;exact rfl;exact rfl)
    | refine V ?_
    | (refine W2 ?_ ?_ <;> intro hc))
    all_goals exact A3 (by simp) Tryz.results12 rfl (congrArg Value.bool (decide_eq_false fun k => by subst k;rw [hx] at hy;injection hy with hy;exact e ((M3 x y).2 hy)).symm)
  ·have h1 : ¬ (k : Int) < ((a.map ConR.row).length : Nat) := by omega
   rw [List.take_of_length_le (by omega), List.take_of_length_le (by omega)] at heq
   repeat' (first
    | refine W ?_

    | refine V ?_
    | (refine W2 ?_ ?_ <;> intro hc))
   exact A3 (by simp) Tryz.results12 rfl (congrArg Value.bool (decide_eq_true heq).symm)
 ·have hl1 : ¬ ((a.map ConR.row).length : Int) = ((b.map ConR.row).length : Nat) := by omega
  refine Fn0.of Tryz.func12 Tryz.ntmps12 rfl rfl rfl ?_
  simp only [A0]
  repeat' (first
   | refine W ?_

   | refine V ?_
   | (refine W2 ?_ ?_ <;> intro hc))
  all_goals exact A3 (by simp) Tryz.results12 rfl (congrArg Value.bool (decide_eq_false fun e => hl (by rw [e])).symm)
end Go.Proofs.YtlapbaiejnaeiaaGreatDoor
