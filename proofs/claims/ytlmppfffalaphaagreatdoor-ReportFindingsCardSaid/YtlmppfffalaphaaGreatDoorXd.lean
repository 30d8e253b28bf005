/- Contracts: the reference's numbers and texts of claims. Conditions: those of each statement (bounds on lengths). -/
import Derived.Test.YtlmppfffalaphaaGreatDoorXc
set_option linter.unusedSimpArgs false
set_option linter.unusedVariables false
namespace Go.Proofs.YtlmppfffalaphaaGreatDoor
open Go Go.RowKit
section
variable {P : Program} {N : Nat} {ops : Array Oper} {m : Option Nat} {K : Tm -> AH -> Prop} {tm tm' : Tm} {H : AH} {rest : List Oper} {ty : TypeId} {pos : String} {af : Array Edge} {d : Nat} {t e u : TypeId} {x y z : Operand}
theorem S.arith8 {bo : BinOp} {a b c : Int} (hx : evT tm x = some (.val (.int .u8 a))) (hy : evT tm y = some (.val (.int .u8 b))) (hc : Eu bo a b = some c) (hN : Nat.ble (d + 1) N = true) (h0 : 0 <= c /\ c <= 255) (h : Reg m P N ops rest ((d, .val (.int .u8 c)) :: tm) H K) : Reg m P N ops (⟨some d, .binOp bo t x y u, ty, pos, af, none⟩ :: rest) tm H K := by
 have hw : IntKind.u8.wrap c = c := by
  simp [IntKind.wrap, IntKind.signed, IntKind.bits]
  omega
 refine S.val (r := .val (.int .u8 c)) ?_ hN h
 cases bo <;> simp only [Eu, reduceCtorEq, Option.some.injEq] at hc <;> subst hc <;> exact OpV.bin rfl hx hy (by simp only [Gs];rw [hw])
theorem S.subB {s : ByteArray} {k k' : IntKind} {i j : Int} [hu : HasU P t .string] (hx : evT tm x = some (.val (.string s))) (hy : evT tm y = some (.val (.int k i))) (hz : evT tm z = some (.val (.int k' j))) (hN : Nat.ble (d + 1) N = true) (h0 : 0 <= i /\ i <= j /\ j <= s.size) (h : Reg m P N ops rest ((d, .val (.string (s.extract i.toNat j.toNat))) :: tm) H K) : Reg m P N ops (⟨some d, .slice t x (some y) (some z) none, ty, pos, af, none⟩ :: rest) tm H K := by
 obtain ⟨i, rfl⟩ : ∃ a : Nat, i = a := ⟨i.toNat, by omega⟩
 obtain ⟨j, rfl⟩ : ∃ a : Nat, j = a := ⟨j.toNat, by omega⟩
 refine S.val (OpV.mk fun L w ρ η hη hH => ?_) hN h
 have h1 := (hη x (by simp [Op.operands]) _ hx).val_eq
 have h2 := (hη y (by simp [Op.operands]) _ hy).val_eq
 have h3 := (hη z (by simp [Op.operands]) _ hz).val_eq
 have g1 : j <= s.size := by omega
 have g2 : i <= j := by omega
 refine ⟨_, ?_, A3 _⟩
 simp [execOp, h1, h2, h3, Instr.sliceAt, run_underlying hu.out, Instr.slice, Instr.sliceBounds, Instr.sliceBound, asIntOf, g1, g2]
end
theorem I9 {n : Int} (h : -9223372036854775808 <= n /\ n <= 9223372036854775807) : IntKind.i64.wrap n = n := by
 simp [IntKind.wrap, IntKind.signed, IntKind.bits]
 omega
theorem Jd : ∀ {k : Nat}, k <= 15 -> (10 : Int) ^ k <= 1000000000000000 := fun {k} h => by
 have h1 : (10 : Nat) ^ k <= 10 ^ 15 := Nat.pow_le_pow_right (by decide) h
 have h2 : ((10 ^ k : Nat) : Int) <= ((10 ^ 15 : Nat) : Int) := Int.ofNat_le.2 h1
 simpa using h2
end Go.Proofs.YtlmppfffalaphaaGreatDoor
