/- Arguments that came in: houses, cues, sheets, lists of integers, as the calculus has them. No conditions but those of each statement. | What the rows of this seat share: a world for the witnesses, the reading of arguments. No conditions but those of each statement. -/
import Derived.Test.YtlncmkafjjomgaaGreatMm
import Derived.Test.YtlncmkafjjomgaaGreatMc
import Derived.Test.YtlncmkafjjomgaaGreatRows
import Derived.ProofKit
import Derived.OpenShut
import Derived.Deep.DeepHandedRow
import Derived.Lib.SmallJoins
import Derived.Carry
import Derived.ChangeOld
set_option linter.unusedSimpArgs false
namespace Go.Proofs.YtlncmkafjjomgaaGreat
set_option linter.unusedVariables false
open Go.RowKit
set_option maxRecDepth 100000 in
theorem conf_string {n : Nat} {row : List Lf} (h : ConfR Tryz.prog (n + 1) 9 row) : ∃ s : ByteArray, row = [.s s] := by
 unfold ConfR at h
 rw [Tryz.underlying9] at h
 obtain ⟨s, rfl, _⟩ := h
 exact ⟨s, rfl⟩
set_option maxRecDepth 100000 in
theorem conf_int {n : Nat} {row : List Lf} (h : ConfR Tryz.prog (n + 1) 3 row) : ∃ i : Int, row = [.i i] ∧ -9223372036854775808 ≤ i ∧ i ≤ 9223372036854775807 := by
 unfold ConfR at h
 rw [Tryz.underlying3] at h
 obtain ⟨i, rfl, h1, h2⟩ := h
 exact ⟨i, rfl, h1, h2⟩
set_option maxRecDepth 100000 in
theorem conf_rows {α : Type} {R : α → List Lf} {p : α → Prop} {n : Nat} {t e : TypeId} {row : List Lf} (hu : Tryz.prog.underlying t = some (.slice e)) (he : ∀ r, ConfR Tryz.prog n e r → ∃ x, r = R x ∧ p x) (h : ConfR Tryz.prog (n + 1) t row) :
  ∃ l : List α, row = [.sl (l.map R)] ∧ l.length ≤ 9223372036854775807 ∧ l.length * Tryz.prog.bytesOf e ≤ reachBytes ∧ ∀ x ∈ l, p x := by
 unfold ConfR at h
 rw [hu] at h
 obtain ⟨rows, rfl, h1, h2, h3⟩ := h
 have key : ∀ rows : List (List Lf), (∀ r ∈ rows, ConfR Tryz.prog n e r) → ∃ l : List α, rows = l.map R ∧ ∀ x ∈ l, p x := by
  intro rows
  induction rows with
  | nil => intro _;exact ⟨[], rfl, by simp⟩
  | cons r rows ih =>
   intro h
   obtain ⟨l, rfl, hl⟩ := ih fun r hr => h r (by simp [hr])
   obtain ⟨x, rfl, hx⟩ := he r (h r (by simp))
   exact ⟨x :: l, rfl, by simpa using ⟨hx, hl⟩⟩
 obtain ⟨l, rfl, hl⟩ := key rows h3
 rw [List.length_map] at h1 h2
 exact ⟨l, rfl, h1, h2, hl⟩
set_option maxRecDepth 100000 in
theorem conf_ints {n : Nat} {row : List Lf} (h : ConfR Tryz.prog (n + 2) 22 row) : ∃ l : List Int, row = [.sl (l.map intRow)] ∧ l.length ≤ 9223372036854775807 ∧ l.length * Tryz.prog.bytesOf 3 ≤ reachBytes ∧ ∀ x ∈ l, -9223372036854775808 ≤ x ∧ x ≤ 9223372036854775807 :=
 conf_rows Tryz.underlying22 (fun r hr => by obtain ⟨i, rfl, hi⟩ := conf_int hr;exact ⟨i, rfl, hi⟩) h
set_option maxRecDepth 100000 in
theorem conf_item {n : Nat} {row : List Lf} (h : ConfR Tryz.prog (n + 2) 114 row) : ∃ x : ItemR, row = x.row ∧ True := by
 unfold ConfR at h
 rw [Tryz.underlying114] at h
 obtain ⟨_, _, rfl, h1, _, _, rfl, h2, _, _, rfl, h3, _, _, rfl, h4, _, _, rfl, h5, _, _, rfl, h6, _, _, rfl, h7, rfl⟩ := h
 obtain ⟨a1, rfl⟩ := conf_string h1
 obtain ⟨a2, rfl, _⟩ := conf_int h2
 obtain ⟨a3, rfl, _⟩ := conf_int h3
 obtain ⟨a4, rfl, _⟩ := conf_int h4
 obtain ⟨a5, rfl, _⟩ := conf_int h5
 obtain ⟨a6, rfl, _⟩ := conf_int h6
 obtain ⟨a7, rfl, _⟩ := conf_int h7
 exact ⟨⟨a1, a2, a3, a4, a5, a6, a7⟩, rfl, trivial⟩
set_option maxRecDepth 100000 in
theorem conf_brick {n : Nat} {row : List Lf} (h : ConfR Tryz.prog (n + 2) 144 row) : ∃ x : BrickR, row = x.row ∧ True := by
 unfold ConfR at h
 rw [Tryz.underlying144] at h
 obtain ⟨_, _, rfl, h1, _, _, rfl, h2, _, _, rfl, h3, rfl⟩ := h
 obtain ⟨a1, rfl⟩ := conf_string h1
 obtain ⟨a2, rfl, _⟩ := conf_int h2
 obtain ⟨a3, rfl, _⟩ := conf_int h3
 exact ⟨⟨a1, a2, a3⟩, rfl, trivial⟩
set_option maxRecDepth 100000 in
theorem conf_set {n : Nat} {row : List Lf} (h : ConfR Tryz.prog (n + 4) 26 row) : ∃ x : SetR, row = x.row ∧ x.fits := by
 unfold ConfR at h
 rw [Tryz.underlying26] at h
 obtain ⟨_, _, rfl, h1, _, _, rfl, h2, _, _, rfl, h3, _, _, rfl, h4, _, _, rfl, h5, _, _, rfl, h6, _, _, rfl, h7, _, _, rfl, h8, _, _, rfl, h9, _, _, rfl, h10, _, _, rfl, h11, _, _, rfl, h12, _, _, rfl, h13, rfl⟩ := h
 obtain ⟨a1, rfl⟩ := conf_string h1
 obtain ⟨a2, rfl, _⟩ := conf_int h2
 obtain ⟨a3, rfl, _⟩ := conf_int h3
 obtain ⟨a4, rfl, _⟩ := conf_int h4
 obtain ⟨a5, rfl, _⟩ := conf_int h5
 obtain ⟨a6, rfl, b6, _⟩ := conf_ints h6
 obtain ⟨a7, rfl, _⟩ := conf_int h7
 obtain ⟨a8, rfl, _⟩ := conf_int h8
 obtain ⟨a9, rfl, _⟩ := conf_int h9
 obtain ⟨a10, rfl, _⟩ := conf_int h10
 obtain ⟨a11, rfl, _⟩ := conf_int h11
 obtain ⟨a12, rfl, b12, _⟩ := conf_rows Tryz.underlying23 (fun r => conf_item) h12
 obtain ⟨a13, rfl, b13, _⟩ := conf_rows Tryz.underlying24 (fun r => conf_brick) h13
 exact ⟨⟨a1, a2, a3, a4, a5, a6, a7, a8, a9, a10, a11, a12, a13⟩, rfl, b6, b12, b13⟩
end Go.Proofs.YtlncmkafjjomgaaGreat
set_option linter.unusedSimpArgs false
namespace Go.Proofs.YtlncmkafjjomgaaGreat
set_option linter.unusedVariables false
open Go.ChangeShapes Go.WideShapes Go.ChangeAt Go.RowKit Go.Joins
theorem own : ownKnob Tryz.prog.godebug = none := by kernel_rfl
theorem laidOut : laidOutB Tryz.prog = true := by kernel_rfl
abbrev noL : Nat → Prop := fun _ => False
section
variable {H : Type} {enc : TypeId × Value → H}
theorem trod_blocks {W : World} {t : TypeId} {v : Value} {d : DataW H} {p : List MemPlace} (h : DataW.Trod enc Tryz.prog W 0 (fun _ => true) true t v d p) : ∀ x ∈ p, x.block < W.heap.size := by
 obtain ⟨m, hm⟩ := h;exact DataW.trod_lt m _ _ _ hm
theorem rel_row {W : World} {row : List Lf} {cs : Array Value} (hl : row.length = cs.toList.length) (h : RowRel W row cs.toList 0) : RelV W noL noPl (rowA row) (.agg cs) := by
 have key := RelV.agg (w := W) (L := noL) (ρ := noPl) (row.map .lf) cs.toList (by simpa using hl) fun i x v hx hv => by
  rw [List.getElem?_map] at hx
  cases e : row[i]? with
  | none => rw [e] at hx;cases hx
  | some y =>
   rw [e] at hx
   simp only [Option.map_some, Option.some.injEq] at hx
   subst hx
   exact .lf _ _ ((h i y v e (by rw [Nat.zero_add];exact hv)).iff fun k => ⟨False.elim, fun hf => (fb_no noL k).1 hf⟩)
 simpa using key
end
noncomputable def plainWorld (os : Os) : World := World.holding Tryz.prog os ⟨#[], #[], []⟩
end Go.Proofs.YtlncmkafjjomgaaGreat
