/- Contracts: contact.Text, contact.Parse. Conditions: those of each statement (bounds on lengths). -/
import Derived.Test.YtlmppfffalaphaaGreatDoorXb
import Derived.Test.YtlmppfffalaphaaGreatDoorPa
set_option linter.unusedSimpArgs false
set_option linter.unusedVariables false
namespace Go.Proofs.YtlmppfffalaphaaGreatDoor
open Go Go.RowKit
theorem Pq (t : List UInt8) (h : t.length < 4294967281) : Fn0 Tryz.prog 28 [.s (ofL t), .s ⟨#[10]⟩] (.tup [.s (ofL (Lib.cut t [10]).1), .s (ofL (Lib.cut t [10]).2.1), .b (Lib.cut t [10]).2.2]) := by
 have := Km (ofL t) ⟨#[10]⟩ (by rw [Ae];exact h)
 rw [Ac] at this
 exact this
theorem Pd {a b : List UInt8} (h : ofL a = ofL b) : a = b := by
 have := congrArg (fun x : ByteArray => x.data.toList) h
 simpa [Ac] using this
theorem Im (s : ByteArray) (h : s.size <= 262144) : (∃ v : Int, Lib.atoiAll s.data.toList = .ok v /\ (-9223372036854775808 <= v /\ v <= 9223372036854775807) /\ Fn0 Tryz.prog 52 [.s s] (.tup [.i v, .val .nilIface])) \/ ((∀ v, Lib.atoiAll s.data.toList ≠ .ok v) /\ ∃ n : Int, Fn0 Tryz.prog 52 [.s s] (.tup [.i n, .err])) := by
 by_cases hv : ∃ v, Lib.atoiAll s.data.toList = .ok v
 ·obtain ⟨v, hv⟩ := hv
  exact .inl ⟨v, hv, Js hv, Fx s (by omega) hv⟩
 ·have hn : ∀ v, Lib.atoiAll s.data.toList ≠ .ok v := fun v e => hv ⟨v, e⟩
  obtain ⟨n, _, hc⟩ := Jm s (by omega) hn
  exact .inr ⟨hn, n, hc⟩
end Go.Proofs.YtlmppfffalaphaaGreatDoor
