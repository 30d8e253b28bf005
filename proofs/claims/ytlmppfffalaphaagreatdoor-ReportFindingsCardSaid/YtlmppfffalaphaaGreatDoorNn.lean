/- Two fractions, or two spans, are compared by their numbers. No conditions but those of each statement. -/
import Derived.Test.YtlmppfffalaphaaGreatDoorMt
import Derived.Test.YtlmppfffalaphaaGreatDoorMc
import Derived.Laws.StructEq
set_option linter.unusedSimpArgs false
set_option linter.unusedVariables false
namespace Go.Proofs.YtlmppfffalaphaaGreatDoor
open Go Go.RowKit
set_option maxRecDepth 100000 in
theorem Ef : Tryz.prog.fieldsOf 113 = #[⟨"Num", 3, 0, false, "", "", 0⟩, ⟨"Den", 3, 1, false, "", "", 8⟩] := by
 unfold Program.fieldsOf
 rw [Tryz.underlying113]
theorem Hx : Tryz.prog.stoodInHeld 113 = false := by kernel_rfl
theorem Hw : Tryz.prog.eqGuardType Tryz.prog.depth 113 = false := by kernel_rfl
theorem Lw : Tryz.prog.underlying 113 = some (.struct (Tryz.prog.fieldsOf 113)) := by
 rw [Ef];exact Tryz.underlying113
set_option maxRecDepth 100000 in
instance : HasEq2 Tryz.prog 113 := ⟨fun o η w x y u a b c d ho hx hy => by
 have h1 := fun d' (k : IntKind) (a b : Int) => run_equalIn_int (P := Tryz.prog) w d' 3 k .i64 a b Tryz.underlying3
 have h2 := run_equalIn_agg (P := Tryz.prog) w 9999 113 #[.int .i64 a, .int .i64 b] #[.int .i64 c, .int .i64 d] Lw Hx
 have h3 := run_eqGuard_agg (P := Tryz.prog) w .eql 113 x y #[.int .i64 a, .int .i64 b] #[.int .i64 c, .int .i64 d] Hw
 have h4 := run_eql_struct (P := Tryz.prog) w 113 #[.int .i64 a, .int .i64 b] #[.int .i64 c, .int .i64 d]
 rw [Ef] at h2
 simp only [execOp, ho, hx, hy, Sem.run_bind, h3, Result.andThen_ok, h4]
 rw [h2]
 simp [Op.eqFields, go_sem, h1]
 by_cases e1 : a = c <;> by_cases e2 : b = d <;> simp [*]⟩
class HasNe2 (P : Program) (t : TypeId) : Prop where
 out : ∀ (o : Oper) (η : Operand -> Value) (w : World) (x y : Operand) (u : TypeId) (a b c d : Int), o.op = .binOp .neq t x y u -> η x = .agg #[.int .i64 a, .int .i64 b] -> η y = .agg #[.int .i64 c, .int .i64 d] -> (execOp η o).run P w = .ok (.value (.bool (decide (¬ (a = c /\ b = d))))) w
section
variable {P : Program} {N : Nat} {ops : Array Oper} {m : Option Nat} {K : Tm -> AH -> Prop} {tm : Tm} {H : AH} {rest : List Oper} {ty : TypeId} {pos : String} {af : Array Edge} {d : Nat} {t : TypeId} {x y : Operand}
theorem S.ne2 {u : TypeId} {a b c e' : Int} [he : HasNe2 P t] (hx : evT tm x = some (.agg [.val (.int .i64 a), .val (.int .i64 b)])) (hy : evT tm y = some (.agg [.val (.int .i64 c), .val (.int .i64 e')])) (hN : Nat.ble (d + 1) N = true) (h : Reg m P N ops rest ((d, .val (.bool (decide (¬ (a = c /\ b = e'))))) :: tm) H K) : Reg m P N ops (⟨some d, .binOp .neq t x y u, ty, pos, af, none⟩ :: rest) tm H K := by
 refine S.val (OpV.mk fun L w ρ η hη hH => ?_) hN h
 have h1 := (hη x (by simp [Op.operands]) _ hx).flat (u := .agg #[.int .i64 a, .int .i64 b]) rfl
 have h2 := (hη y (by simp [Op.operands]) _ hy).flat (u := .agg #[.int .i64 c, .int .i64 e']) rfl
 exact ⟨_, he.out _ η w x y u a b c e' rfl h1 h2, A3 _⟩
end
set_option maxRecDepth 100000 in
instance : HasNe2 Tryz.prog 113 := ⟨fun o η w x y u a b c d ho hx hy => by
 have h1 := fun d' (k : IntKind) (a b : Int) => run_equalIn_int (P := Tryz.prog) w d' 3 k .i64 a b Tryz.underlying3
 have h2 := run_equalIn_agg (P := Tryz.prog) w 9999 113 #[.int .i64 a, .int .i64 b] #[.int .i64 c, .int .i64 d] Lw Hx
 have h3 := run_eqGuard_agg (P := Tryz.prog) w .neq 113 x y #[.int .i64 a, .int .i64 b] #[.int .i64 c, .int .i64 d] Hw
 have h4 := run_neq_struct (P := Tryz.prog) w 113 #[.int .i64 a, .int .i64 b] #[.int .i64 c, .int .i64 d]
 rw [Ef] at h2
 simp only [execOp, ho, hx, hy, Sem.run_bind, h3, Result.andThen_ok, h4]
 rw [h2]
 simp [Op.eqFields, go_sem, h1]
 by_cases e1 : a = c <;> by_cases e2 : b = d <;> simp [*]⟩
end Go.Proofs.YtlmppfffalaphaaGreatDoor
