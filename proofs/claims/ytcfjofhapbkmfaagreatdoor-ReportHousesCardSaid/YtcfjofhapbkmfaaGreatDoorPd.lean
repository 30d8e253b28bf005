/- Contracts: package links' find, time, linked, before, order, Starts, of valid sheets. No conditions but those of each statement. -/
import Derived.Test.YtcfjofhapbkmfaaGreatDoorPa
import Derived.Test.YtcfjofhapbkmfaaGreatDoorPc
import Derived.Test.YtcfjofhapbkmfaaGreatDoorXb
import Derived.Test.YtcfjofhapbkmfaaGreatDoorMp
import Derived.Test.YtcfjofhapbkmfaaGreatDoorNe
set_option linter.unusedSimpArgs false
set_option linter.unusedVariables false
namespace Go.Proofs.YtcfjofhapbkmfaaGreatDoor
open Go Go.RowKit
/-! ### Own slices of Booleans and of integers -/
abbrev iA (l : List Int) : List AV := l.map fun x => .val (.int .i64 x)
theorem Oq {l : List Int} {i : Nat} {x : Int} (h : l[i]? = some x) : (iA l)[i]? = some (.val (.int .i64 x)) := by rw [List.getElem?_map, h];rfl
theorem Ph (l : List Int) : iA l = Ba l := by
 induction l with
 | nil => rfl
 | cons x l ih =>
  show _ :: iA l = _
  rw [ih];rfl
theorem Fx (n : Nat) (l : List Int) : (iA l).all (AV.under n) = true := by
 rw [List.all_eq_true]
 intro x hx
 obtain ⟨_, _, rfl⟩ := List.mem_map.1 hx
 rfl
section
variable {P : Program} {N : Nat} {ops : Array Oper} {m : Option Nat} {K : Tm -> AH -> Prop} {tm tm' : Tm} {H : AH} {rest : List Oper} {ty : TypeId} {pos : String} {af : Array Edge} {d : Nat} {t e : TypeId} {x y : Operand}
theorem S.storeI {b j : Nat} {v : Int} {l : List Int} [hi : HasS P t 1] (hx : evT tm x = some (.ptr b j)) (hy : evT tm y = some (.val (.int .i64 v))) (hb : H.at b = .live (iA l)) (hl : j < l.length) (h : Reg none P N ops rest tm (H.put b (.live (iA (l.set j v)))) K) : Reg none P N ops (⟨none, .store t x y, ty, pos, af, none⟩ :: rest) tm H K := by
 refine S.storeW (r := .val (.int .i64 v)) hx hy hb rfl rfl rfl (by rw [List.length_map];exact hl) ?_
 rw [show (AV.val (.int .i64 v)).cells = [.val (.int .i64 v)] from rfl, Q7, show (iA l).set j (.val (.int .i64 v)) = iA (l.set j v) by rw [iA, iA, List.map_set]]
 exact h
end
def upL (n : Nat) : List Int := List.map (fun i : Nat => (i : Int)) (List.range n)
theorem Yp (n : Nat) : upL (n + 1) = upL n ++ [(n : Int)] := by simp [upL, List.range_succ]
theorem Zv (n : Nat) : (upL n).length = n := by simp [upL]
/-! ### One contract for all sheets -/
section
variable {P : Program} {N : Nat} {ops : Array Oper} {m : Option Nat} {K : Tm -> AH -> Prop} {tm tm' : Tm} {H : AH} {rest : List Oper} {ty : TypeId} {pos : String} {af : Array Edge} {d : Nat} {t e u : TypeId} {x y z : Operand}
end
end Go.Proofs.YtcfjofhapbkmfaaGreatDoor
namespace Go.Proofs.YtcfjofhapbkmfaaGreatDoor
open Go.RowKit
theorem Jm (n d : Int) : Fn0 Tryz.prog 85 [A6 [.i n, .i d]] (.b (Bd n d)) := Ks n d

/-! ### Operations that keep the first error -/
end Go.Proofs.YtcfjofhapbkmfaaGreatDoor
