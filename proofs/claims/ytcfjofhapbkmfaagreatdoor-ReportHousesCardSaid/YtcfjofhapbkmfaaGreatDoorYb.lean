/- Plain laws of the texts of findings: how a text is read. No conditions but those of each statement. -/
import Derived.Test.YtcfjofhapbkmfaaGreatDoorXb
import Derived.Test.YtcfjofhapbkmfaaGreatDoorMh
import Derived.Test.YtcfjofhapbkmfaaGreatDoorPd
import Derived.Test.YtcfjofhapbkmfaaGreatDoorMn
import Derived.Test.YtcfjofhapbkmfaaGreatDoorXa
set_option linter.unusedSimpArgs false
set_option linter.unusedVariables false
namespace Go.Proofs.YtcfjofhapbkmfaaGreatDoor
open Go Go.RowKit
structure FinR where
 kind : Int
 name : ByteArray
abbrev FinR.row (x : FinR) : List Lf := [.i x.kind, .s x.name]
def lnF (x : FinR) : List UInt8 := Lib.itoa x.kind ++ 32 :: x.name.data.toList
def okF (x : FinR) : Prop := 0 <= x.kind /\ (Lib.itoa x.kind).length <= 7 /\ Bp x.name = true
theorem Zk {x : FinR} (h : okF x) : x.kind <= 9999999 := by
 obtain ⟨h0, h1, _⟩ := h
 refine Decidable.byContradiction fun hn => ?_
 obtain ⟨m, hm⟩ : ∃ m : Nat, x.kind = m := ⟨x.kind.toNat, by omega⟩
 rw [hm] at h1 hn
 have key : ∀ (k m : Nat), 10 ^ k <= m -> k + 1 <= (Lib.decDigits m).length := by
  intro k
  induction k with
  | zero =>
   intro m _
   have := A04 m
   cases h : Lib.decDigits m with
   | nil => exact absurd h this
   | cons a l => simp
  | succ k ih =>
   intro m hm
   have hp : 10 ^ (k + 1) = 10 ^ k * 10 := Nat.pow_succ ..
   have h10 : ¬ m < 10 := by
    have := Nat.one_le_pow k 10 (by decide)
    omega
   rw [Rd h10, List.length_append]
   have := ih (m / 10) (by omega)
   simp only [List.length_cons, List.length_nil]
   omega
 have := key 7 m (by omega)
 unfold Lib.itoa at h1
 rw [if_neg (by omega), Int.toNat_natCast] at h1
 omega
theorem A1f {x : FinR} (h : okF x) : -9223372036854775808 <= x.kind /\ x.kind <= 9223372036854775807 := by
 have := Zk h
 have := h.1
 omega
def Ci (l : List FinR) : List UInt8 := (l.map fun x => lnF x ++ [10]).flatten
theorem Tu (x : FinR) (l : List FinR) : Ci (x :: l) = lnF x ++ 10 :: Ci l := by simp [Ci]
theorem Qd (l m : List FinR) : Ci (l ++ m) = Ci l ++ Ci m := by simp [Ci]
theorem Wv (x : FinR) : Ci [x] = lnF x ++ [10] := by simp [Ci]
def Fc (x : FinR) : Prop := ¬ x.kind < 0 /\ ¬ x.kind > 1000000 /\ Bp x.name = true
instance (x : FinR) : Decidable (Fc x) := by unfold Fc;exact inferInstance
theorem Q6 {x : FinR} (h : Fc x) : okF x := by
 obtain ⟨h0, h1, h2⟩ := h
 refine ⟨by omega, ?_, h2⟩
 obtain ⟨m, hm⟩ : ∃ m : Nat, x.kind = m := ⟨x.kind.toNat, by omega⟩
 have key : ∀ (k m : Nat), m < 10 ^ (k + 1) -> (Lib.decDigits m).length <= k + 1 := by
  intro k
  induction k with
  | zero => intro m hm;rw [Lib.decDigits_one (by omega)];simp
  | succ k ih =>
   intro m hm
   by_cases h10 : m < 10
   ·rw [Lib.decDigits_one h10];simp
   ·rw [Rd h10, List.length_append]
    have hp : 10 ^ (k + 1 + 1) = 10 ^ (k + 1) * 10 := Nat.pow_succ ..
    have := ih (m / 10) (by omega)
    simp only [List.length_cons, List.length_nil]
    omega
 rw [hm]
 unfold Lib.itoa
 rw [if_neg (by omega), Int.toNat_natCast]
 exact key 6 m (by omega)
theorem A0j {x : FinR} (h : okF x) : (lnF x).length <= 28 := by
 obtain ⟨_, h1, h2⟩ := h
 simp only [Bp, Bool.and_eq_true, decide_eq_true_eq] at h2
 have := h2.1.1.2
 have hs : x.name.data.toList.length = x.name.size := Array.length_toList
 unfold lnF
 rw [List.length_append, List.length_cons, hs]
 omega
set_option maxHeartbeats 4000000 in
theorem Kg {α : Type} (l : List α) (R : α -> List Lf) (p : α -> Prop) [DecidablePred p] (g : FuncId) (caps : List AV) (hR : ∀ x, (R x).length = 2) (hl : l.length <= 9223372036854775807) (hcaps : caps.all AV.cap = true) (hg : ∀ x ∈ l, Fn0 Tryz.prog g (.agg ((R x).map .lf) :: caps) (.b (decide (p x)))) :
  Fn0 Tryz.prog 113 [.sl (l.map R), .fn (.func g) [] caps] (.i (idx p l)) := by
 refine Fn0.of Tryz.func113 Tryz.ntmps113 rfl rfl rfl ?_
 simp only [A0]
 repeat' (first
  | refine W ?_

  | refine V ?_
  | (refine W2 ?_ ?_ <;> intro hc))
 refine T.loopS (fun k => k <= l.length /\ ∀ x ∈ l.take k, ¬ p x) (fun k => l.length - k) (fun k => [(8, .i k), (7, .i (l.map R).length), (0, .sl (l.map R)), (1, .fn (.func g) [] caps)]) (fun _ => []) 0 ⟨Nat.zero_le _, by simp⟩ (.cons rfl rfl (.cons rfl rfl (.cons rfl rfl (.cons rfl (As hcaps) .nil)))) .nil ?_
 rintro k ⟨hk, hno⟩
 have hle : (l.map R).length = l.length := List.length_map _
 by_cases hlt : k < l.length
 ·have h1 : (k : Int) < ((l.map R).length : Nat) := by omega
  obtain ⟨x, hx⟩ : ∃ x, l[k]? = some x := ⟨l[k], List.getElem?_eq_getElem hlt⟩
  have hb : (l.map R)[((k : Nat) : Int).toNat]? = some (R x) := by rw [Int.toNat_natCast, List.getElem?_map, hx];rfl
  have hx2 := hg x (List.mem_of_getElem? hx)
  repeat' (first
   | refine W ?_
   | (apply S.indexR;(iterate 3 exact rfl);exact hb;omega;exact hR x)|(apply S.loadRW;(iterate 3 exact rfl);exact hR x)|(apply S.callF;exact rfl;exact rfl;exact hx2;exact Cy hcaps;exact rfl)|refine Za ?_
   | refine V ?_
   | (refine W2 ?_ ?_ <;> intro hc))
  all_goals first
   | exact Next.go (k + 1) ⟨by omega, by rw [List.take_add_one, hx];intro y hy;rcases List.mem_append.1 hy with hy | hy;exact hno y hy;obtain rfl : y = x := (by simpa using hy);assumption⟩ (by omega) (.cons rfl rfl (.cons rfl rfl (.cons rfl rfl (.cons rfl (As hcaps) .nil)))) .nil
   | exact A7 (by simp) Tryz.results113 rfl (by rw [Du hx hno (by assumption)])
 ·have h1 : ¬ (k : Int) < ((l.map R).length : Nat) := by omega
  repeat' (first
   | refine W ?_

   | refine V ?_
   | (refine W2 ?_ ?_ <;> intro hc))
  exact A7 (by simp) Tryz.results113 rfl (by rw [Cj (by rw [List.take_of_length_le (by omega)] at hno;exact hno)])
end Go.Proofs.YtcfjofhapbkmfaaGreatDoor
