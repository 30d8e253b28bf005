/- Arguments that came in: houses, cues, sheets, lists of integers, as the calculus has them. No conditions but those of each statement. -/
import Derived.Test.YtlmppfffalaphaaGreatDoorMm
import Derived.Test.YtlmppfffalaphaaGreatDoorMc
import Derived.Test.YtlmppfffalaphaaGreatDoorRows
import Derived.ProofKit
import Derived.OpenShut
import Derived.Deep.DeepHandedRow
import Derived.Lib.SmallJoins
import Derived.Carry
import Derived.ChangeOld
set_option linter.unusedSimpArgs false
set_option linter.unusedVariables false
namespace Go.Proofs.YtlmppfffalaphaaGreatDoor
open Go.RowKit
set_option maxRecDepth 100000 in
theorem Ju {n : Nat} {row : List Lf} (h : Au Tryz.prog (n + 1) 9 row) : ∃ s : ByteArray, row = [.s s] := by
 unfold Au at h
 rw [Tryz.underlying9] at h
 obtain ⟨s, rfl, _⟩ := h
 exact ⟨s, rfl⟩
set_option maxRecDepth 100000 in
theorem Ng {n : Nat} {row : List Lf} (h : Au Tryz.prog (n + 1) 3 row) : ∃ i : Int, row = [.i i] /\ -9223372036854775808 <= i /\ i <= 9223372036854775807 := by
 unfold Au at h
 rw [Tryz.underlying3] at h
 obtain ⟨i, rfl, h1, h2⟩ := h
 exact ⟨i, rfl, h1, h2⟩
set_option maxRecDepth 100000 in
theorem Lm {α : Type} {R : α -> List Lf} {p : α -> Prop} {n : Nat} {t e : TypeId} {row : List Lf} (hu : Tryz.prog.underlying t = some (.slice e)) (he : ∀ r, Au Tryz.prog n e r -> ∃ x, r = R x /\ p x) (h : Au Tryz.prog (n + 1) t row) :
  ∃ l : List α, row = [.sl (l.map R)] /\ l.length <= 9223372036854775807 /\ l.length * Tryz.prog.bytesOf e <= reachBytes /\ ∀ x ∈ l, p x := by
 unfold Au at h
 rw [hu] at h
 obtain ⟨rows, rfl, h1, h2, h3⟩ := h
 have key : ∀ rows : List (List Lf), (∀ r ∈ rows, Au Tryz.prog n e r) -> ∃ l : List α, rows = l.map R /\ ∀ x ∈ l, p x := by
  intro rows
  induction rows with
  | nil => intro _;exact ⟨[], rfl, by simp⟩
  | cons r rows ih =>
   intro h
   obtain ⟨l, rfl, hl⟩ := ih fun r hr => h r (by simp [hr])
   obtain ⟨x, rfl, hx⟩ := he r (h r (by simp))
   exact ⟨x :: l, rfl, by simpa using ⟨hx, hl⟩⟩
 obtain ⟨l, rfl, hl⟩ := key rows h3
 rw [List.length_map] at h1 h2
 exact ⟨l, rfl, h1, h2, hl⟩
end Go.Proofs.YtlmppfffalaphaaGreatDoor
namespace Go.Proofs.YtlmppfffalaphaaGreatDoor
open Go.ChangeShapes Go.WideShapes Go.ChangeAt Go.RowKit Go.Joins
theorem own : ownKnob Tryz.prog.godebug = none := by kernel_rfl
theorem Hh : laidOutB Tryz.prog = true := by kernel_rfl
abbrev noL : Nat -> Prop := fun _ => False
section
variable {H : Type} {enc : TypeId × Value -> H}
theorem G1 {W : World} {t : TypeId} {v : Value} {d : DataW H} {p : List MemPlace} (h : DataW.Trod enc Tryz.prog W 0 (fun _ => true) true t v d p) : ∀ x ∈ p, x.block < W.heap.size := by
 obtain ⟨m, hm⟩ := h;exact DataW.trod_lt m _ _ _ hm
end
end Go.Proofs.YtlmppfffalaphaaGreatDoor
