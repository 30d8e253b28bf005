/- Two fractions, or two spans, are compared by their numbers. No conditions but those of each statement. -/
import Derived.Test.YtcbfnkgodiaiiaaGreatMt
import Derived.Test.YtcbfnkgodiaiiaaGreatMc
import Derived.Laws.StructEq
set_option linter.unusedSimpArgs false
set_option linter.unusedVariables false
namespace Go.Proofs.YtcbfnkgodiaiiaaGreat
open Go Go.RowKit
set_option maxRecDepth 100000 in
theorem Me : Tryz.prog.fieldsOf 58 = #[⟨"Num", 3, 0, false, "", "", 0⟩, ⟨"Den", 3, 1, false, "", "", 8⟩] := by
 unfold Program.fieldsOf
 rw [Tryz.underlying58]
theorem Uw : Tryz.prog.stoodInHeld 58 = false := by kernel_rfl
theorem Vx : Tryz.prog.eqGuardType Tryz.prog.depth 58 = false := by kernel_rfl
theorem A4w : Tryz.prog.underlying 58 = some (.struct (Tryz.prog.fieldsOf 58)) := by
 rw [Me];exact Tryz.underlying58
set_option maxRecDepth 100000 in
instance : HasEq2 Tryz.prog 58 := ⟨fun o η w x y u a b c d ho hx hy => by
 have h1 := fun d' (k : IntKind) (a b : Int) => run_equalIn_int (P := Tryz.prog) w d' 3 k .i64 a b Tryz.underlying3
 have h2 := run_equalIn_agg (P := Tryz.prog) w 9999 58 #[.int .i64 a, .int .i64 b] #[.int .i64 c, .int .i64 d] A4w Uw
 have h3 := run_eqGuard_agg (P := Tryz.prog) w .eql 58 x y #[.int .i64 a, .int .i64 b] #[.int .i64 c, .int .i64 d] Vx
 have h4 := run_eql_struct (P := Tryz.prog) w 58 #[.int .i64 a, .int .i64 b] #[.int .i64 c, .int .i64 d]
 rw [Me] at h2
 simp only [execOp, ho, hx, hy, Sem.run_bind, h3, Result.andThen_ok, h4]
 rw [h2]
 simp [Op.eqFields, go_sem, h1]
 by_cases e1 : a = c <;> by_cases e2 : b = d <;> simp [*]⟩
set_option maxRecDepth 100000 in
theorem Mi : Tryz.prog.fieldsOf 42 = #[⟨"Lo", 3, 0, false, "", "", 0⟩, ⟨"Hi", 3, 1, false, "", "", 8⟩] := by
 unfold Program.fieldsOf
 rw [Tryz.underlying42]
theorem Vk : Tryz.prog.stoodInHeld 42 = false := by kernel_rfl
theorem A45 : Tryz.prog.eqGuardType Tryz.prog.depth 42 = false := by kernel_rfl
theorem Wq : Tryz.prog.underlying 42 = some (.struct (Tryz.prog.fieldsOf 42)) := by
 rw [Mi];exact Tryz.underlying42
class HasNe2 (P : Program) (t : TypeId) : Prop where
 out : ∀ (o : Oper) (η : Operand -> Value) (w : World) (x y : Operand) (u : TypeId) (a b c d : Int), o.op = .binOp .neq t x y u -> η x = .agg #[.int .i64 a, .int .i64 b] -> η y = .agg #[.int .i64 c, .int .i64 d] -> (execOp η o).run P w = .ok (.value (.bool (decide (¬ (a = c /\ b = d))))) w
section
variable {P : Program} {N : Nat} {ops : Array Oper} {m : Option Nat} {K : Tm -> AH -> Prop} {tm : Tm} {H : AH} {rest : List Oper} {ty : TypeId} {pos : String} {af : Array Edge} {d : Nat} {t : TypeId} {x y : Operand}
theorem S.ne2 {u : TypeId} {a b c e' : Int} [he : HasNe2 P t] (hx : evT tm x = some (.agg [.val (.int .i64 a), .val (.int .i64 b)])) (hy : evT tm y = some (.agg [.val (.int .i64 c), .val (.int .i64 e')])) (hN : Nat.ble (d + 1) N = true) (h : Reg m P N ops rest ((d, .val (.bool (decide (¬ (a = c /\ b = e'))))) :: tm) H K) : Reg m P N ops (⟨some d, .binOp .neq t x y u, ty, pos, af, none⟩ :: rest) tm H K := by
 refine S.val (OpV.mk fun L w ρ η hη hH => ?_) hN h
 have h1 := (hη x (by simp [Op.operands]) _ hx).flat (u := .agg #[.int .i64 a, .int .i64 b]) rfl
 have h2 := (hη y (by simp [Op.operands]) _ hy).flat (u := .agg #[.int .i64 c, .int .i64 e']) rfl
 exact ⟨_, he.out _ η w x y u a b c e' rfl h1 h2, Ab _⟩
end
set_option maxRecDepth 100000 in
instance : HasNe2 Tryz.prog 58 := ⟨fun o η w x y u a b c d ho hx hy => by
 have h1 := fun d' (k : IntKind) (a b : Int) => run_equalIn_int (P := Tryz.prog) w d' 3 k .i64 a b Tryz.underlying3
 have h2 := run_equalIn_agg (P := Tryz.prog) w 9999 58 #[.int .i64 a, .int .i64 b] #[.int .i64 c, .int .i64 d] A4w Uw
 have h3 := run_eqGuard_agg (P := Tryz.prog) w .neq 58 x y #[.int .i64 a, .int .i64 b] #[.int .i64 c, .int .i64 d] Vx
 have h4 := run_neq_struct (P := Tryz.prog) w 58 #[.int .i64 a, .int .i64 b] #[.int .i64 c, .int .i64 d]
 rw [Me] at h2
 simp only [execOp, ho, hx, hy, Sem.run_bind, h3, Result.andThen_ok, h4]
 rw [h2]
 simp [Op.eqFields, go_sem, h1]
 by_cases e1 : a = c <;> by_cases e2 : b = d <;> simp [*]⟩
set_option maxRecDepth 100000 in
instance : HasNe2 Tryz.prog 42 := ⟨fun o η w x y u a b c d ho hx hy => by
 have h1 := fun d' (k : IntKind) (a b : Int) => run_equalIn_int (P := Tryz.prog) w d' 3 k .i64 a b Tryz.underlying3
 have h2 := run_equalIn_agg (P := Tryz.prog) w 9999 42 #[.int .i64 a, .int .i64 b] #[.int .i64 c, .int .i64 d] Wq Vk
 have h3 := run_eqGuard_agg (P := Tryz.prog) w .neq 42 x y #[.int .i64 a, .int .i64 b] #[.int .i64 c, .int .i64 d] A45
 have h4 := run_neq_struct (P := Tryz.prog) w 42 #[.int .i64 a, .int .i64 b] #[.int .i64 c, .int .i64 d]
 rw [Mi] at h2
 simp only [execOp, ho, hx, hy, Sem.run_bind, h3, Result.andThen_ok, h4]
 rw [h2]
 simp [Op.eqFields, go_sem, h1]
 by_cases e1 : a = c <;> by_cases e2 : b = d <;> simp [*]⟩
end Go.Proofs.YtcbfnkgodiaiiaaGreat
