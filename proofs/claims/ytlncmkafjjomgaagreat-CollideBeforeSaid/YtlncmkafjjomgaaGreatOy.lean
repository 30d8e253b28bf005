/- Arguments that came in: sets, small integers. No conditions but those of each statement. -/
import Derived.Test.YtlncmkafjjomgaaGreatNp
set_option linter.unusedSimpArgs false
namespace Go.Proofs.YtlncmkafjjomgaaGreat
set_option linter.unusedVariables false
open Go.ChangeShapes Go.WideShapes Go.ChangeAt Go.RowKit Go.Joins
set_option maxRecDepth 100000 in
theorem okSet : okT Tryz.prog 8 26 = true := by kernel_rfl
section
variable {H : Type} {enc : TypeId × Value → H}
set_option maxRecDepth 100000 in
theorem open_set {W : World} {base : Nat} {v : Value} {d : DataW H} {p : List MemPlace} (hv : Value.okWide Tryz.prog W .any base 26 v) (h : DataW.Trod enc Tryz.prog W 0 (fun _ => true) true 26 v d p) (hw : ((d.weights Tryz.prog 26).all (· ≤ reachBytes)) = true) : ∃ x : SetR, x.fits ∧ RelV W noL noPl (rowA x.row) v := by
 obtain ⟨fuel, hf⟩ := h
 unfold Value.okWide at hv
 rw [Tryz.underlying26] at hv
 obtain ⟨cs, rfl, _, _⟩ := hv
 obtain ⟨row, c1, c2, c3⟩ := trod_conf 8 fuel _ _ _ okSet hf hw
 obtain ⟨x, rfl, hx⟩ := conf_set (n := 4) c1
 exact ⟨x, hx, rel_row c2 c3⟩
set_option maxRecDepth 100000 in
theorem open_u16 {W : World} {base : Nat} {v : Value} (hv : Value.okWide Tryz.prog W .any base 31 v) : ∃ p : Int, (0 ≤ p ∧ p ≤ 65535) ∧ v = .int .u16 p := by
 unfold Value.okWide at hv
 rw [Tryz.underlying31] at hv
 unfold Cell.okWide at hv
 rw [Tryz.underlying31] at hv
 unfold Cell.ok at hv
 rw [Tryz.underlying31] at hv
 cases v with
 | int k n =>
  obtain ⟨rfl, h⟩ := hv
  have h1 : IntKind.u16.min = 0 := rfl
  have h2 : IntKind.u16.max = 65535 := rfl
  unfold IntKind.has at h
  exact ⟨n, by rw [h1, h2] at h;simpa using h, rfl⟩
 | _ => exact hv.elim
end
end Go.Proofs.YtlncmkafjjomgaaGreat
