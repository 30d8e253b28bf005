/- Contracts of the reference's functions that say whether a house is valid: names, beams. No conditions but those of each statement. -/
import Derived.Test.YtlmppfffalaphaaGreatDoorMj
set_option linter.unusedSimpArgs false
set_option linter.unusedVariables false
namespace Go.Proofs.YtlmppfffalaphaaGreatDoor
open Go.RowKit
set_option maxHeartbeats 4000000 in
theorem Gy (n : Int) : Fn0 Tryz.prog 60 [.val (.int .u8 n)] (.b (decide (Dl n))) := by
 refine Fn0.of Tryz.func60 Tryz.ntmps60 rfl rfl rfl ?_
 simp only [A0]
 repeat' (first | refine W ?_ | refine V ?_|(refine W2 ?_ ?_ <;> intro hc))
 all_goals exact A4 (by simp) Tryz.results60 rfl (by simp only [Dl];simp [*];try omega)
set_option maxHeartbeats 4000000 in
theorem Mm (n : Int) : Fn0 Tryz.prog 92 [.val (.int .u8 n)] (.b (decide (G6 n))) := by
 refine Fn0.of Tryz.func92 Tryz.ntmps92 rfl rfl rfl ?_
 simp only [A0]
 repeat' (first | refine W ?_ | refine V ?_|(refine W2 ?_ ?_ <;> intro hc))
 all_goals exact A4 (by simp) Tryz.results92 rfl (by simp only [G6];simp [*];try omega)
set_option maxHeartbeats 4000000 in
theorem Of (s : ByteArray) (hs : s.size <= 9223372036854775807) : Fn0 Tryz.prog 61 [.s s, .i 0] (.i (Ay s)) := by
 refine Fn0.of Tryz.func61 Tryz.ntmps61 rfl rfl rfl ?_
 simp only [A0]
 repeat' (first | refine W ?_ | refine V ?_|(refine W2 ?_ ?_ <;> intro hc))
 refine T.loopS (fun k => k <= Ay s) (fun k => s.size - k) (fun k => [(1, .i k), (0, .s s)]) (fun _ => []) 0 (by omega) CV .nil ?_
 intro k hk
 have hle := H6 s
 by_cases hlt : k < s.size
 ·have h1 : (k : Int) < s.size := by omega
  obtain ⟨c, hc, hc2⟩ := Bh hlt
  have hn := Fe hk hc2
  have hb : s[((k : Nat) : Int).toNat]? = some c := hc
  repeat' (first | refine W ?_|(apply S.byteAt;(iterate 3 exact rfl);omega;exact hb)|refine Zc (Gy _) ?_|refine Zc (Mm _) ?_|refine Za ?_ | refine V ?_|(refine W2 ?_ ?_ <;> intro hc))
  all_goals (try change Next _ _ _ _ _ _)
  all_goals first
   | exact Next.go (k + 1) (by rw [if_pos (by simp [Bu, *])] at hn;exact hn) (by omega) CV .nil
   | exact A4 (by simp) Tryz.results61 rfl (by rw [if_neg (by simp [Bu, *])] at hn;rw [hn])
 ·have h1 : ¬ (k : Int) < s.size := by omega
  repeat' (first | refine W ?_ | refine V ?_|(refine W2 ?_ ?_ <;> intro hc))
  exact A4 (by simp) Tryz.results61 rfl (by rw [show Ay s = k by omega])
theorem Ie {s : ByteArray} : (s.size : Int) = 0 ↔ s = ⟨#[]⟩ := by
 constructor
 ·intro h
  exact Classical.byContradiction fun hn => by have := Ee hn;omega
 ·rintro rfl;rfl
set_option maxHeartbeats 4000000 in
theorem Ej (s : ByteArray) : Fn0 Tryz.prog 36 [.s s] (.b (decide (At s = true))) := by
 have hz := Ie (s := s)
 by_cases h0 : (s.size : Int) = 0
 ·skip
  refine Fn0.of Tryz.func36 Tryz.ntmps36 rfl rfl rfl ?_
  simp only [A0]
  repeat' (first | refine W ?_ | refine V ?_|(refine W2 ?_ ?_ <;> intro hc))
  all_goals exact A4 (by simp) Tryz.results36 rfl (by simp [At, hz.1 h0])
 ·have h0' : ¬ s = (⟨#[]⟩ : ByteArray) := fun h => h0 (hz.2 h)
  obtain ⟨c, hc, _⟩ := Bh (Ee h0')
  have hb : s[((0 : Int)).toNat]? = some c := hc
  by_cases h1 : (20 : Int) < s.size
  ·skip
   refine Fn0.of Tryz.func36 Tryz.ntmps36 rfl rfl rfl ?_
   simp only [A0]
   repeat' (first | refine W ?_ | refine V ?_|(refine W2 ?_ ?_ <;> intro hc))
   all_goals exact A4 (by simp) Tryz.results36 rfl (by simp [At];omega)
  ·have hw := Of s (by omega)
   refine Fn0.of Tryz.func36 Tryz.ntmps36 rfl rfl rfl ?_
   simp only [A0]
   repeat' (first | refine W ?_|refine Zc (Gy _) ?_|refine Zc hw ?_|(apply S.byteAt;(iterate 3 exact rfl);omega;exact hb) | refine V ?_|(refine W2 ?_ ?_ <;> intro hc))
   all_goals exact A4 (by simp) Tryz.results36 rfl (by simp_all [At];try omega)

/-! ### Beams -/
theorem D6 {α : Type} {l : List α} {k : Nat} {x : α} (hx : l[k]? = some x) : l.take (k + 1) = l.take k ++ [x] := by rw [List.take_add_one, hx];rfl
theorem F8 {α : Type} {l : List α} {R : α -> List Lf} {k : Nat} {x : α} (hx : l[k]? = some x) : (l.map R)[((k : Nat) : Int).toNat]? = some (R x) := by rw [Int.toNat_natCast, List.getElem?_map, hx];rfl
theorem Ez {α : Type} {l : List α} {k : Nat} (h : k < l.length) : ∃ x, l[k]? = some x := ⟨l[k], List.getElem?_eq_getElem h⟩
/-! ### Line sets and houses -/
/-! ### Moves -/
/-! ### Cues that are right -/
end Go.Proofs.YtlmppfffalaphaaGreatDoor
