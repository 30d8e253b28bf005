/- Contracts: loftblockref08's put, From, Same. No conditions but those of each statement. | Two equal pieces are not told apart;contract: loftblockref08's Same of equal curves. No conditions but those of each statement. -/
import Derived.Test.YtgegcgfdffmoeaaGreatOb
import Derived.Test.YtgegcgfdffmoeaaGreatNx
import Derived.Test.YtgegcgfdffmoeaaGreatNs
import Derived.Test.YtgegcgfdffmoeaaGreatNm
set_option linter.unusedSimpArgs false
namespace Go.Proofs.YtgegcgfdffmoeaaGreat
set_option linter.unusedVariables false
open Go Go.RowKit
def posQ : List Rat → Rat → Nat
  | [], _ => 0
  | x :: l, t => if x < t then posQ l t + 1 else 0
end Go.Proofs.YtgegcgfdffmoeaaGreat
set_option linter.unusedSimpArgs false
namespace Go.Proofs.YtgegcgfdffmoeaaGreat
set_option linter.unusedVariables false
open Go Go.RowKit
set_option maxRecDepth 100000 in
theorem pieceFields : Tryz.prog.fieldsOf 59 = #[⟨"From", 25, 0, false, "", "", 0⟩, ⟨"A", 25, 2, false, "", "", 16⟩, ⟨"B", 25, 4, false, "", "", 32⟩, ⟨"C", 25, 6, false, "", "", 48⟩] := by
  unfold Program.fieldsOf
  rw [Tryz.underlying59]
theorem pieceStood : Tryz.prog.stoodInHeld 59 = false := by kernel_rfl
theorem pieceGuard : Tryz.prog.eqGuardType Tryz.prog.depth 59 = false := by kernel_rfl
theorem pieceIs : Tryz.prog.underlying 59 = some (.struct (Tryz.prog.fieldsOf 59)) := by
  rw [pieceFields];exact Tryz.underlying59
class HasNe8 (P : Program) (t : TypeId) : Prop where
  out : ∀ (o : Oper) (η : Operand → Value) (w : World) (x y : Operand) (u : TypeId) (a b c d e f g h : Int), o.op = .binOp .neq t x y u → η x = .agg #[.int .i64 a, .int .i64 b, .int .i64 c, .int .i64 d, .int .i64 e, .int .i64 f, .int .i64 g, .int .i64 h] → η y = .agg #[.int .i64 a, .int .i64 b, .int .i64 c, .int .i64 d, .int .i64 e, .int .i64 f, .int .i64 g, .int .i64 h] → (execOp η o).run P w = .ok (.value (.bool false)) w
section
variable {P : Program} {N : Nat} {ops : Array Oper} {m : Option Nat} {K : Tm → AH → Prop} {tm : Tm} {H : AH} {rest : List Oper} {ty : TypeId} {pos : String} {af : Array Edge} {d : Nat} {t : TypeId} {x y : Operand}
end
set_option maxRecDepth 100000 in
instance : HasNe8 Tryz.prog 59 := ⟨fun o η w x y u a b c d e f g i ho hx hy => by
  have h1 := fun w d' (k : IntKind) (a b : Int) => run_equalIn_int (P := Tryz.prog) w d' 3 k .i64 a b Tryz.underlying3
  have hF := fun w d' (a b : Int) => run_equalIn_agg (P := Tryz.prog) w d' 25 #[.int .i64 a, .int .i64 b] #[.int .i64 a, .int .i64 b] fracIs fracStood
  rw [fracFields] at hF
  have h2 := run_equalIn_agg (P := Tryz.prog) w 9999 59 #[.int .i64 a, .int .i64 b, .int .i64 c, .int .i64 d, .int .i64 e, .int .i64 f, .int .i64 g, .int .i64 i] #[.int .i64 a, .int .i64 b, .int .i64 c, .int .i64 d, .int .i64 e, .int .i64 f, .int .i64 g, .int .i64 i] pieceIs pieceStood
  have h3 := run_eqGuard_agg (P := Tryz.prog) w .neq 59 x y #[.int .i64 a, .int .i64 b, .int .i64 c, .int .i64 d, .int .i64 e, .int .i64 f, .int .i64 g, .int .i64 i] #[.int .i64 a, .int .i64 b, .int .i64 c, .int .i64 d, .int .i64 e, .int .i64 f, .int .i64 g, .int .i64 i] pieceGuard
  have h4 := run_neq_struct (P := Tryz.prog) w 59 #[.int .i64 a, .int .i64 b, .int .i64 c, .int .i64 d, .int .i64 e, .int .i64 f, .int .i64 g, .int .i64 i] #[.int .i64 a, .int .i64 b, .int .i64 c, .int .i64 d, .int .i64 e, .int .i64 f, .int .i64 g, .int .i64 i]
  rw [pieceFields] at h2
  simp only [execOp, ho, hx, hy, Sem.run_bind, h3, Result.andThen_ok, h4]
  rw [h2]
  simp [Op.eqFields, go_sem, h1, hF]⟩
end Go.Proofs.YtgegcgfdffmoeaaGreat
