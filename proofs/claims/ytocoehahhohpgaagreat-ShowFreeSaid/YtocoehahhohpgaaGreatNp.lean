/- Arguments that came in: curves and fractions. No conditions but those of each statement. -/
import Derived.Test.YtocoehahhohpgaaGreatMu
import Derived.Test.YtocoehahhohpgaaGreatNh
set_option linter.unusedSimpArgs false
set_option linter.unusedVariables false
namespace Go.Proofs.YtocoehahhohpgaaGreat
open Go.ChangeShapes Go.WideShapes Go.ChangeAt Go.RowKit Go.Joins
section
variable {H : Type} {enc : TypeId × Value -> H}
end
section
variable {H : Type} {enc : TypeId × Value -> H}
set_option maxRecDepth 100000 in
theorem A7y {W : World} {base : Nat} {v : Value} (hv : Value.okWide Tryz.prog W .any base 46 v) : ∃ p : Int, (0 <= p /\ p <= 4294967295) /\ v = .int .u32 p := by
 unfold Value.okWide at hv
 rw [Tryz.underlying46] at hv
 unfold Cell.okWide at hv
 rw [Tryz.underlying46] at hv
 unfold Cell.ok at hv
 rw [Tryz.underlying46] at hv
 cases v with
 | int k n =>
  obtain ⟨rfl, h⟩ := hv
  have h1 : IntKind.u32.min = 0 := rfl
  have h2 : IntKind.u32.max = 4294967295 := rfl
  unfold IntKind.has at h
  exact ⟨n, by rw [h1, h2] at h;simpa using h, rfl⟩
 | _ => exact hv.elim
end
end Go.Proofs.YtocoehahhohpgaaGreat
