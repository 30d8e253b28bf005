/- Contracts: the references of layers 2 and 8 on fractions and curves: Valid, All, the operations, Piece, Value, Rate. No conditions but those of each statement. | Contracts: the reference's At, Slope, Smooth of layer 8. No conditions but those of each statement. | Plain facts: the sticky error of the program's sums, and the reference's early exits;contract: the reference's Smooth. No conditions but those of each statement. -/
import Derived.Test.YtlncmkafjjomgaaGreatNh
import Derived.Test.YtlncmkafjjomgaaGreatNi
set_option linter.unusedSimpArgs false
namespace Go.Proofs.YtlncmkafjjomgaaGreat
set_option linter.unusedVariables false
open Go.RowKit
/-! ### Pieces, values -/
def okV (p : PcQ) (u : Rat) : Prop := Fits (p.c * u) ∧ Fits (p.b + p.c * u) ∧ Fits ((p.b + p.c * u) * u) ∧ Fits (p.a + (p.b + p.c * u) * u)
instance (p : PcQ) (u : Rat) : Decidable (okV p u) := by unfold okV;exact inferInstance
def valR (p : PcQ) (u : Rat) : Rat := p.a + (p.b + p.c * u) * u
def okS (p : PcQ) (u : Rat) : Prop := Fits (p.c * u) ∧ Fits (2 * (p.c * u)) ∧ Fits (p.b + 2 * (p.c * u))
instance (p : PcQ) (u : Rat) : Decidable (okS p u) := by unfold okS;exact inferInstance
def sloR (p : PcQ) (u : Rat) : Rat := p.b + 2 * (p.c * u)
end Go.Proofs.YtlncmkafjjomgaaGreat
set_option linter.unusedSimpArgs false
namespace Go.Proofs.YtlncmkafjjomgaaGreat
set_option linter.unusedVariables false
open Go.RowKit
end Go.Proofs.YtlncmkafjjomgaaGreat
set_option linter.unusedSimpArgs false
namespace Go.Proofs.YtlncmkafjjomgaaGreat
set_option linter.unusedVariables false
open Go.RowKit
theorem kQ_ok {r : Rat} (h : Fits r) : kQ r = r := if_pos h
theorem kE_ok {r : Rat} {e : Int} (h : Fits r) : kE r e = e := if_pos h
theorem kE_bad {r : Rat} (h : ¬ Fits r) : kE r 0 = 5 := by unfold kE;rw [if_neg h, if_pos rfl]
theorem kE_five (r : Rat) : kE r 5 = 5 := by
 unfold kE
 split
 ·rfl
 ·rw [if_neg (by decide)]
theorem valE_five (p : PcQ) (u : Rat) : valE p u 5 = 5 := by simp only [valE, kE_five]
theorem sloE_five (p : PcQ) (u : Rat) : sloE p u 5 = 5 := by simp only [sloE, kE_five]
theorem val_okV {p : PcQ} {u : Rat} (h : okV p u) (e : Int) : valQ p u = valR p u ∧ valE p u e = e := by
 obtain ⟨h1, h2, h3, h4⟩ := h
 unfold valQ valE val4 val3 val2 val1 valR
 rw [kQ_ok h1, kQ_ok h2, kQ_ok h3, kQ_ok h4, kE_ok h4, kE_ok h3, kE_ok h2, kE_ok h1]
 exact ⟨rfl, rfl⟩
theorem val_bad {p : PcQ} {u : Rat} (h : ¬ okV p u) : valE p u 0 = 5 := by
 unfold valE val4 val3 val2 val1
 by_cases h1 : Fits (p.c * u)
 ·rw [kE_ok h1, kQ_ok h1]
  by_cases h2 : Fits (p.b + p.c * u)
  ·rw [kE_ok h2, kQ_ok h2]
   by_cases h3 : Fits ((p.b + p.c * u) * u)
   ·rw [kE_ok h3, kQ_ok h3]
    exact kE_bad fun h4 => h ⟨h1, h2, h3, h4⟩
   ·rw [kE_bad h3, kE_five]
  ·rw [kE_bad h2, kE_five, kE_five]
 ·rw [kE_bad h1, kE_five, kE_five, kE_five]
theorem slo_okS {p : PcQ} {u : Rat} (h : okS p u) (e : Int) : sloQ p u = sloR p u ∧ sloE p u e = e := by
 obtain ⟨h1, h2, h3⟩ := h
 unfold sloQ sloE slo3 slo2 val1 sloR
 rw [kQ_ok h1, kQ_ok h2, kQ_ok h3, kE_ok h3, kE_ok h2, kE_ok h1]
 exact ⟨rfl, rfl⟩
theorem slo_bad {p : PcQ} {u : Rat} (h : ¬ okS p u) : sloE p u 0 = 5 := by
 unfold sloE slo3 slo2 val1
 by_cases h1 : Fits (p.c * u)
 ·rw [kE_ok h1, kQ_ok h1]
  by_cases h2 : Fits (2 * (p.c * u))
  ·rw [kE_ok h2, kQ_ok h2]
   exact kE_bad fun h3 => h ⟨h1, h2, h3⟩
  ·rw [kE_bad h2, kE_five]
 ·rw [kE_bad h1, kE_five, kE_five]
end Go.Proofs.YtlncmkafjjomgaaGreat
