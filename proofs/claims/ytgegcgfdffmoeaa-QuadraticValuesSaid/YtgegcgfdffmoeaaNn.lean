/- Two fractions, or two spans, are compared by their numbers. No conditions but those of each statement. -/
import Derived.Test.YtgegcgfdffmoeaaMt
import Derived.Test.YtgegcgfdffmoeaaMc
import Derived.Laws.StructEq
set_option linter.unusedSimpArgs false
namespace Go.Proofs.Ytgegcgfdffmoeaa
set_option linter.unusedVariables false
open Go Go.RowKit
set_option maxRecDepth 100000 in
theorem fracFields : Try.prog.fieldsOf 25 = #[⟨"Num", 3, 0, false, "", "", 0⟩, ⟨"Den", 3, 1, false, "", "", 8⟩] := by
  unfold Program.fieldsOf
  rw [Try.underlying25]
theorem fracStood : Try.prog.stoodInHeld 25 = false := by kernel_rfl
theorem fracGuard : Try.prog.eqGuardType Try.prog.depth 25 = false := by kernel_rfl
theorem fracIs : Try.prog.underlying 25 = some (.struct (Try.prog.fieldsOf 25)) := by
  rw [fracFields]; exact Try.underlying25
set_option maxRecDepth 100000 in
instance : HasEq2 Try.prog 25 := ⟨fun o η w x y u a b c d ho hx hy => by
  have h1 := fun d' (k : IntKind) (a b : Int) => run_equalIn_int (P := Try.prog) w d' 3 k .i64 a b Try.underlying3
  have h2 := run_equalIn_agg (P := Try.prog) w 9999 25 #[.int .i64 a, .int .i64 b] #[.int .i64 c, .int .i64 d] fracIs fracStood
  have h3 := run_eqGuard_agg (P := Try.prog) w .eql 25 x y #[.int .i64 a, .int .i64 b] #[.int .i64 c, .int .i64 d] fracGuard
  have h4 := run_eql_struct (P := Try.prog) w 25 #[.int .i64 a, .int .i64 b] #[.int .i64 c, .int .i64 d]
  rw [fracFields] at h2
  simp only [execOp, ho, hx, hy, Sem.run_bind, h3, Result.andThen_ok, h4]
  rw [h2]
  simp [Op.eqFields, go_sem, h1]
  by_cases e1 : a = c <;> by_cases e2 : b = d <;> simp [*]⟩
set_option maxRecDepth 100000 in
theorem spanFields : Try.prog.fieldsOf 44 = #[⟨"Lo", 3, 0, false, "", "", 0⟩, ⟨"Hi", 3, 1, false, "", "", 8⟩] := by
  unfold Program.fieldsOf
  rw [Try.underlying44]
theorem spanStood : Try.prog.stoodInHeld 44 = false := by kernel_rfl
theorem spanGuard : Try.prog.eqGuardType Try.prog.depth 44 = false := by kernel_rfl
theorem spanIs : Try.prog.underlying 44 = some (.struct (Try.prog.fieldsOf 44)) := by
  rw [spanFields]; exact Try.underlying44
set_option maxRecDepth 100000 in
instance : HasEq2 Try.prog 44 := ⟨fun o η w x y u a b c d ho hx hy => by
  have h1 := fun d' (k : IntKind) (a b : Int) => run_equalIn_int (P := Try.prog) w d' 3 k .i64 a b Try.underlying3
  have h2 := run_equalIn_agg (P := Try.prog) w 9999 44 #[.int .i64 a, .int .i64 b] #[.int .i64 c, .int .i64 d] spanIs spanStood
  have h3 := run_eqGuard_agg (P := Try.prog) w .eql 44 x y #[.int .i64 a, .int .i64 b] #[.int .i64 c, .int .i64 d] spanGuard
  have h4 := run_eql_struct (P := Try.prog) w 44 #[.int .i64 a, .int .i64 b] #[.int .i64 c, .int .i64 d]
  rw [spanFields] at h2
  simp only [execOp, ho, hx, hy, Sem.run_bind, h3, Result.andThen_ok, h4]
  rw [h2]
  simp [Op.eqFields, go_sem, h1]
  by_cases e1 : a = c <;> by_cases e2 : b = d <;> simp [*]⟩
end Go.Proofs.Ytgegcgfdffmoeaa
