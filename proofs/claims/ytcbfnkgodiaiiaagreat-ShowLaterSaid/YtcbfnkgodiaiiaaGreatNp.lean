/- Arguments that came in: curves and fractions. No conditions but those of each statement. -/
import Derived.Test.YtcbfnkgodiaiiaaGreatMu
import Derived.Test.YtcbfnkgodiaiiaaGreatNh
set_option linter.unusedSimpArgs false
set_option linter.unusedVariables false
namespace Go.Proofs.YtcbfnkgodiaiiaaGreat
open Go.ChangeShapes Go.WideShapes Go.ChangeAt Go.RowKit Go.Joins
section
variable {H : Type} {enc : TypeId × Value -> H}
end
section
variable {H : Type} {enc : TypeId × Value -> H}
set_option maxRecDepth 100000 in
theorem A94 {W : World} {base : Nat} {v : Value} (hv : Value.okWide Tryz.prog W .any base 31 v) : ∃ p : Int, (0 <= p /\ p <= 65535) /\ v = .int .u16 p := by
 unfold Value.okWide at hv
 rw [Tryz.underlying31] at hv
 unfold Cell.okWide at hv
 rw [Tryz.underlying31] at hv
 unfold Cell.ok at hv
 rw [Tryz.underlying31] at hv
 cases v with
 | int k n =>
  obtain ⟨rfl, h⟩ := hv
  have h1 : IntKind.u16.min = 0 := rfl
  have h2 : IntKind.u16.max = 65535 := rfl
  unfold IntKind.has at h
  exact ⟨n, by rw [h1, h2] at h;simpa using h, rfl⟩
 | _ => exact hv.elim
end
end Go.Proofs.YtcbfnkgodiaiiaaGreat
