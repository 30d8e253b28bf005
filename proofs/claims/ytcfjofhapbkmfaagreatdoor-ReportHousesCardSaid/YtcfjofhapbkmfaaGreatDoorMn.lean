/- Contracts: sheets of cues that are valid (both sides). No conditions but those of each statement. -/
import Derived.Test.YtcfjofhapbkmfaaGreatDoorMm
import Derived.Test.YtcfjofhapbkmfaaGreatDoorMb
import Derived.Test.YtcfjofhapbkmfaaGreatDoorMi
import Derived.Test.YtcfjofhapbkmfaaGreatDoorMc
import Derived.Test.YtcfjofhapbkmfaaGreatDoorMt
import Derived.Laws.StructEq
import Derived.Test.YtcfjofhapbkmfaaGreatDoorOl
import Derived.Test.YtcfjofhapbkmfaaGreatDoorPa
import Derived.Test.YtcfjofhapbkmfaaGreatDoorMk
import Derived.Test.YtcfjofhapbkmfaaGreatDoorNe
set_option linter.unusedSimpArgs false
set_option linter.unusedVariables false
namespace Go.Proofs.YtcfjofhapbkmfaaGreatDoor
open Go.RowKit
theorem B7 {H : AH} (l : List Lf) : OutL H (l.map .lf) (l.map .lf) := by
 induction l with
 | nil => exact .nil
 | cons x l ih => exact .cons (.lf x) ih
theorem Res.row {P : Program} {st : St} {t b n : Nat} {ty : TypeId} {cells : List AV} {ds : TypeDesc} (cs : List Lf) [hu : HasU P ty ds] [hi : HasS P ty n] (h : st.tm.get t = some (.ptr b 0)) (hb : st.H.at b = .live cells) (hd : ds.isRow = true) (hc : cells = cs.map .lf) (hn : Nat.beq cs.length n = true) : Res P st (.cell t ty) (A6 cs) := by
 subst hc
 have hn' := Nat.eq_of_beq_eq_true hn
 have := Res.cells h hb hu.out hd hi.out (Nat.ble_eq_true_of_le (by simp;omega))
 rw [List.drop_zero, List.take_of_length_le (by simp;omega)] at this
 exact this
end Go.Proofs.YtcfjofhapbkmfaaGreatDoor
namespace Go.Proofs.YtcfjofhapbkmfaaGreatDoor
open Go Go.RowKit
set_option maxRecDepth 100000 in
theorem Hd : Tryz.prog.fieldsOf 40 = #[⟨"Num", 3, 0, false, "", "", 0⟩, ⟨"Den", 3, 1, false, "", "", 8⟩] := by
 unfold Program.fieldsOf
 rw [Tryz.underlying40]
theorem Nj : Tryz.prog.stoodInHeld 40 = false := by kernel_rfl
theorem Ni : Tryz.prog.eqGuardType Tryz.prog.depth 40 = false := by kernel_rfl
theorem Up : Tryz.prog.underlying 40 = some (.struct (Tryz.prog.fieldsOf 40)) := by
 rw [Hd];exact Tryz.underlying40
set_option maxRecDepth 100000 in
instance : HasEq2 Tryz.prog 40 := ⟨fun o η w x y u a b c d ho hx hy => by
 have h1 := fun d' (k : IntKind) (a b : Int) => run_equalIn_int (P := Tryz.prog) w d' 3 k .i64 a b Tryz.underlying3
 have h2 := run_equalIn_agg (P := Tryz.prog) w 9999 40 #[.int .i64 a, .int .i64 b] #[.int .i64 c, .int .i64 d] Up Nj
 have h3 := run_eqGuard_agg (P := Tryz.prog) w .eql 40 x y #[.int .i64 a, .int .i64 b] #[.int .i64 c, .int .i64 d] Ni
 have h4 := run_eql_struct (P := Tryz.prog) w 40 #[.int .i64 a, .int .i64 b] #[.int .i64 c, .int .i64 d]
 rw [Hd] at h2
 simp only [execOp, ho, hx, hy, Sem.run_bind, h3, Result.andThen_ok, h4]
 rw [h2]
 simp [Op.eqFields, go_sem, h1]
 by_cases e1 : a = c <;> by_cases e2 : b = d <;> simp [*]⟩
class HasNe2 (P : Program) (t : TypeId) : Prop where
 out : ∀ (o : Oper) (η : Operand -> Value) (w : World) (x y : Operand) (u : TypeId) (a b c d : Int), o.op = .binOp .neq t x y u -> η x = .agg #[.int .i64 a, .int .i64 b] -> η y = .agg #[.int .i64 c, .int .i64 d] -> (execOp η o).run P w = .ok (.value (.bool (decide (¬ (a = c /\ b = d))))) w
section
variable {P : Program} {N : Nat} {ops : Array Oper} {m : Option Nat} {K : Tm -> AH -> Prop} {tm : Tm} {H : AH} {rest : List Oper} {ty : TypeId} {pos : String} {af : Array Edge} {d : Nat} {t : TypeId} {x y : Operand}
theorem S.ne2 {u : TypeId} {a b c e' : Int} [he : HasNe2 P t] (hx : evT tm x = some (.agg [.val (.int .i64 a), .val (.int .i64 b)])) (hy : evT tm y = some (.agg [.val (.int .i64 c), .val (.int .i64 e')])) (hN : Nat.ble (d + 1) N = true) (h : Reg m P N ops rest ((d, .val (.bool (decide (¬ (a = c /\ b = e'))))) :: tm) H K) : Reg m P N ops (⟨some d, .binOp .neq t x y u, ty, pos, af, none⟩ :: rest) tm H K := by
 refine S.val (OpV.mk fun L w ρ η hη hH => ?_) hN h
 have h1 := (hη x (by simp [Op.operands]) _ hx).flat (u := .agg #[.int .i64 a, .int .i64 b]) rfl
 have h2 := (hη y (by simp [Op.operands]) _ hy).flat (u := .agg #[.int .i64 c, .int .i64 e']) rfl
 exact ⟨_, he.out _ η w x y u a b c e' rfl h1 h2, A9 _⟩
end
set_option maxRecDepth 100000 in
instance : HasNe2 Tryz.prog 40 := ⟨fun o η w x y u a b c d ho hx hy => by
 have h1 := fun d' (k : IntKind) (a b : Int) => run_equalIn_int (P := Tryz.prog) w d' 3 k .i64 a b Tryz.underlying3
 have h2 := run_equalIn_agg (P := Tryz.prog) w 9999 40 #[.int .i64 a, .int .i64 b] #[.int .i64 c, .int .i64 d] Up Nj
 have h3 := run_eqGuard_agg (P := Tryz.prog) w .neq 40 x y #[.int .i64 a, .int .i64 b] #[.int .i64 c, .int .i64 d] Ni
 have h4 := run_neq_struct (P := Tryz.prog) w 40 #[.int .i64 a, .int .i64 b] #[.int .i64 c, .int .i64 d]
 rw [Hd] at h2
 simp only [execOp, ho, hx, hy, Sem.run_bind, h3, Result.andThen_ok, h4]
 rw [h2]
 simp [Op.eqFields, go_sem, h1]
 by_cases e1 : a = c <;> by_cases e2 : b = d <;> simp [*]⟩
section
variable {N : Nat} {ops : Array Oper} {m : Option Nat} {K : Tm -> AH -> Prop} {tm : Tm} {H : AH} {rest : List Oper} {ty : TypeId} {pos : String} {af : Array Edge} {d : Nat} {x y : Operand}
end
section
variable {P : Program} {N : Nat} {ops : Array Oper} {K : Tm -> AH -> Prop} {tm : Tm} {H : AH} {rest : List Oper}
theorem Reg.freeze (q : Nat) {b off len n : Nat} {cells : List AV} {rows : List (List Lf)} (ht : tm.get q = some (.own b off len n)) (hb : H.at b = .live cells) (hr : OwnRows cells off len n rows) (h : Reg none P N ops rest ((q, .sl rows) :: tm) (H.put b .dead) K) : Reg none P N ops rest tm H K :=
 ⟨fun E a w ρ hE hR => h.out E a w _ hE (hR.freeze ht hb hr)⟩
end
end Go.Proofs.YtcfjofhapbkmfaaGreatDoor
