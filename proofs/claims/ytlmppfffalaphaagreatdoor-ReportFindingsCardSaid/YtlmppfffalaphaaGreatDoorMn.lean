/- Contracts: sheets of cues that are valid (both sides). No conditions but those of each statement. -/
import Derived.Test.YtlmppfffalaphaaGreatDoorMm
import Derived.Test.YtlmppfffalaphaaGreatDoorMb
set_option linter.unusedSimpArgs false
set_option linter.unusedVariables false
namespace Go.Proofs.YtlmppfffalaphaaGreatDoor
open Go.RowKit
theorem A5 {H : AH} (l : List Lf) : OutL H (l.map .lf) (l.map .lf) := by
 induction l with
 | nil => exact .nil
 | cons x l ih => exact .cons (.lf x) ih
theorem Res.row {P : Program} {st : St} {t b n : Nat} {ty : TypeId} {cells : List AV} {ds : TypeDesc} (cs : List Lf) [hu : HasU P ty ds] [hi : HasS P ty n] (h : st.tm.get t = some (.ptr b 0)) (hb : st.H.at b = .live cells) (hd : ds.isRow = true) (hc : cells = cs.map .lf) (hn : Nat.beq cs.length n = true) : Res P st (.cell t ty) (A1 cs) := by
 subst hc
 have hn' := Nat.eq_of_beq_eq_true hn
 have := Res.cells h hb hu.out hd hi.out (Nat.ble_eq_true_of_le (by simp;omega))
 rw [List.drop_zero, List.take_of_length_le (by simp;omega)] at this
 exact this
end Go.Proofs.YtlmppfffalaphaaGreatDoor
