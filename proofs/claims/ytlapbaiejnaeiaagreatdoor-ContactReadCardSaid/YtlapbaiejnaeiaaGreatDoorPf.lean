/- Contacts as rows of cells. -/
import Derived.Test.YtlapbaiejnaeiaaGreatDoorMi
import Derived.Test.YtlapbaiejnaeiaaGreatDoorMc
import Derived.Test.YtlapbaiejnaeiaaGreatDoorNn
import Derived.Test.YtlapbaiejnaeiaaGreatDoorOl
set_option linter.unusedSimpArgs false
set_option linter.unusedVariables false
namespace Go.Proofs.YtlapbaiejnaeiaaGreatDoor
open Go Go.RowKit
structure ConR where
 a : ByteArray
 b : ByteArray
 lo : Int
 hi : Int
def ConR.row (x : ConR) : List Lf := [.s x.a, .s x.b, .i x.lo, .i x.hi]
abbrev De (l : List ConR) : List AV := (l.map ConR.row).flatten.map .lf
theorem Lw (l : List ConR) : ∀ r ∈ l.map ConR.row, r.length = 4 := by
 intro r hr
 obtain ⟨n, _, rfl⟩ := List.mem_map.1 hr
 rfl
theorem Kl (l : List ConR) : (De l).length = l.length * 4 := by
 rw [List.length_map, Av _ (Lw l), List.length_map]
theorem J7 (l : List ConR) (x : ConR) : De (l ++ [x]) = De l ++ ([x.row].flatten).map AV.lf := by simp [De]
set_option maxRecDepth 100000 in
theorem Tk : ∃ n1 n2 n3 : Nat, Tryz.prog.fieldsOf 36 = #[⟨"First", 9, 0, false, "", "", n1⟩, ⟨"Second", 9, 1, false, "", "", n2⟩, ⟨"At", 34, 2, false, "", "", n3⟩] := by
 unfold Program.fieldsOf
 rw [Tryz.underlying36]
 exact ⟨_, _, _, rfl⟩
theorem Vx : Tryz.prog.stoodInHeld 36 = false := by kernel_rfl
theorem O1 : Tryz.prog.eqGuardType Tryz.prog.depth 36 = false := by kernel_rfl
theorem Yu : Tryz.prog.underlying 36 = some (.struct (Tryz.prog.fieldsOf 36)) := by
 unfold Program.fieldsOf
 rw [Tryz.underlying36]
def H3 (a b : ByteArray) (u v : Int) : Value := .agg #[.string a, .string b, .int .i64 u, .int .i64 v]
def eqC (a b : ByteArray) (u v : Int) (a' b' : ByteArray) (u' v' : Int) : Prop := a = a' /\ b = b' /\ u = u' /\ v = v'
instance (a b : ByteArray) (u v : Int) (a' b' : ByteArray) (u' v' : Int) : Decidable (eqC a b u v a' b' u' v') := by unfold eqC;exact inferInstance
set_option maxRecDepth 100000 in
theorem Mi (w : World) (d : Nat) (a b : ByteArray) (u v : Int) (a' b' : ByteArray) (u' v' : Int) : (Op.equalIn (d + 3) 36 (H3 a b u v) (H3 a' b' u' v')).run Tryz.prog w = .ok (decide (eqC a b u v a' b' u' v')) w := by
 obtain ⟨n1, n2, n3, hcf⟩ := Tk
 have h1 := fun d' (k : IntKind) (a b : Int) => run_equalIn_int (P := Tryz.prog) w d' 3 k .i64 a b Tryz.underlying3
 have h2 := run_equalIn_struct (P := Tryz.prog) w (d + 2) 36 #[.string a, .string b, .int .i64 u, .int .i64 v] #[.string a', .string b', .int .i64 u', .int .i64 v'] Yu Vx
 have h5 := fun d' (x y : ByteArray) => run_equalIn_string (P := Tryz.prog) w d' 9 x y Tryz.underlying9
 have h6 := fun d' => run_equalIn_struct (P := Tryz.prog) w d' 34 #[.int .i64 u, .int .i64 v] #[.int .i64 u', .int .i64 v'] V2 V3
 rw [hcf] at h2
 rw [Lg] at h6
 unfold H3
 rw [h2]
 simp [Op.eqFields, go_sem, h1, h5, h6, Gs, V2]
 unfold eqC
 by_cases e1 : a = a' <;> by_cases e2 : b = b' <;> by_cases e3 : u = u' <;> by_cases e4 : v = v' <;> simp [*]
section
variable {N : Nat} {ops : Array Oper} {m : Option Nat} {K : Tm -> AH -> Prop} {tm : Tm} {H : AH} {rest : List Oper} {ty : TypeId} {pos : String} {af : Array Edge} {d : Nat} {x y : Operand}
theorem S.eqCon {t u' : TypeId} {a b a' b' : ByteArray} {u v w z : Int} (ht : t = 36) (hx : evT tm x = some (.agg [.val (.string a), .val (.string b), .val (.int .i64 u), .val (.int .i64 v)])) (hy : evT tm y = some (.agg [.val (.string a'), .val (.string b'), .val (.int .i64 w), .val (.int .i64 z)])) (hN : Nat.ble (d + 1) N = true) (h : Reg m Tryz.prog N ops rest ((d, .val (.bool (decide (eqC a b u v a' b' w z)))) :: tm) H K) : Reg m Tryz.prog N ops (⟨some d, .binOp .eql t x y u', ty, pos, af, none⟩ :: rest) tm H K := by
 subst ht
 refine S.val (OpV.mk fun L w' ρ η hη hH => ?_) hN h
 have h1 := (hη x (by simp [Op.operands]) _ hx).flat (u := H3 a b u v) rfl
 have h2 := (hη y (by simp [Op.operands]) _ hy).flat (u := H3 a' b' w z) rfl
 refine ⟨_, ?_, A5 _⟩
 have h3 := run_eqGuard_agg (P := Tryz.prog) w' .eql 36 x y #[.string a, .string b, .int .i64 u, .int .i64 v] #[.string a', .string b', .int .i64 w, .int .i64 z] O1
 have h4 := run_eql_struct (P := Tryz.prog) w' 36 #[.string a, .string b, .int .i64 u, .int .i64 v] #[.string a', .string b', .int .i64 w, .int .i64 z]
 have h5 := Mi w' 9997 a b u v a' b' w z
 unfold H3 at h1 h2 h5
 simp only [execOp, h1, h2, Sem.run_bind, h3, Result.andThen_ok, h4]
 rw [h5]
 rfl
theorem S.neCon {t u' : TypeId} {a b a' b' : ByteArray} {u v w z : Int} (ht : t = 36) (hx : evT tm x = some (.agg [.val (.string a), .val (.string b), .val (.int .i64 u), .val (.int .i64 v)])) (hy : evT tm y = some (.agg [.val (.string a'), .val (.string b'), .val (.int .i64 w), .val (.int .i64 z)])) (hN : Nat.ble (d + 1) N = true) (h : Reg m Tryz.prog N ops rest ((d, .val (.bool (decide (¬ eqC a b u v a' b' w z)))) :: tm) H K) : Reg m Tryz.prog N ops (⟨some d, .binOp .neq t x y u', ty, pos, af, none⟩ :: rest) tm H K := by
 subst ht
 refine S.val (OpV.mk fun L w' ρ η hη hH => ?_) hN h
 have h1 := (hη x (by simp [Op.operands]) _ hx).flat (u := H3 a b u v) rfl
 have h2 := (hη y (by simp [Op.operands]) _ hy).flat (u := H3 a' b' w z) rfl
 refine ⟨_, ?_, A5 _⟩
 have h3 := run_eqGuard_agg (P := Tryz.prog) w' .neq 36 x y #[.string a, .string b, .int .i64 u, .int .i64 v] #[.string a', .string b', .int .i64 w, .int .i64 z] O1
 have h4 := run_neq_struct (P := Tryz.prog) w' 36 #[.string a, .string b, .int .i64 u, .int .i64 v] #[.string a', .string b', .int .i64 w, .int .i64 z]
 have h5 := Mi w' 9997 a b u v a' b' w z
 unfold H3 at h1 h2 h5
 simp only [execOp, h1, h2, Sem.run_bind, h3, Result.andThen_ok, h4]
 rw [h5]
 simp [go_sem]
end
end Go.Proofs.YtlapbaiejnaeiaaGreatDoor
