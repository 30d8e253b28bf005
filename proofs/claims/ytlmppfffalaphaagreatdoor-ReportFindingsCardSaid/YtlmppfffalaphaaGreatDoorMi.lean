/- Contracts of the functions that say whether a house is valid: names, beams, items, bricks, line sets (the program's side). No conditions but those of each statement. -/
import Derived.Test.YtlmppfffalaphaaGreatDoorMh
set_option linter.unusedSimpArgs false
set_option linter.unusedVariables false
namespace Go.Proofs.YtlmppfffalaphaaGreatDoor
open Go.RowKit
/-! ### Names -/
def At (s : ByteArray) : Bool := decide (¬ s = ⟨#[]⟩) && decide ((s.size : Int) <= 20) && (match s[0]? with | some c => decide (Dl c.toNat) | none => false) && decide ((Ay s : Int) = s.size)
theorem Ee {s : ByteArray} (h : ¬ s = ⟨#[]⟩) : 0 < s.size := by
 rcases Nat.eq_zero_or_pos s.size with e | e
 ·exact absurd (by cases s with | mk a => exact congrArg _ (Array.eq_empty_of_size_eq_zero e)) h
 ·exact e
set_option maxHeartbeats 4000000 in
theorem Cd (s : ByteArray) : Fn0 Tryz.prog 33 [.s s] (.b (decide (At s = true))) := by
 by_cases h0 : s = ⟨#[]⟩
 ·have h0' : ¬ ¬ s = (⟨#[]⟩ : ByteArray) := fun h => h h0
  refine Fn0.of Tryz.func33 Tryz.ntmps33 rfl rfl rfl ?_
  simp only [A0]
  repeat' (first | refine W ?_ | refine V ?_|(refine W2 ?_ ?_ <;> intro hc))
  all_goals exact A4 (by simp) Tryz.results33 rfl (by simp_all [At])
 ·obtain ⟨c, hc, _⟩ := Bh (Ee h0)
  have hb : s[((0 : Int)).toNat]? = some c := hc
  by_cases h1 : (s.size : Int) <= 20
  ·have hw := Ni s (by omega)
   refine Fn0.of Tryz.func33 Tryz.ntmps33 rfl rfl rfl ?_
   simp only [A0]
   repeat' (first | refine W ?_|refine Zc (Gl _) ?_|refine Zc hw ?_|(apply S.byteAt;(iterate 3 exact rfl);omega;exact hb) | refine V ?_|(refine W2 ?_ ?_ <;> intro hc))
   all_goals exact A4 (by simp) Tryz.results33 rfl (by simp_all [At];try omega)
  ·skip
   refine Fn0.of Tryz.func33 Tryz.ntmps33 rfl rfl rfl ?_
   simp only [A0]
   repeat' (first | refine W ?_ | refine V ?_|(refine W2 ?_ ?_ <;> intro hc))
   all_goals exact A4 (by simp) Tryz.results33 rfl (by simp_all [At];try omega)
/-! ### Data -/
abbrev A1 (l : List Lf) : AV := .agg (l.map .lf)

/-! ### Items -/
theorem A2 : Tryz.prog.follows .mixedOrders = true := by kernel_rfl

/-! ### Names that occur twice -/
/-! ### Lists of items -/
end Go.Proofs.YtlmppfffalaphaaGreatDoor
