/- Steps in the calculus over abstract states: conversions of integers;a call that takes one element out of a slice of the caller's own. No dump. No conditions but those of each statement. -/
import Derived.Test.YtgegcgfdffmoeaaGreatMc
import Derived.ArgAppend
set_option linter.unusedSimpArgs false
namespace Go.Proofs.YtgegcgfdffmoeaaGreat
set_option linter.unusedVariables false
open Go Go.RowKit
structure FnDel (P : Program) (f : FuncId) (n : Nat) : Prop where
  ent : Enters P f
  run : ∀ (k o len cap i : Nat) (c : Array Value) (el : TypeId) (lo hi : Nat) (w : World), w.heap[k]? = some (.cells c el (lo, hi)) → hi ≤ lo → i < len → len ≤ cap → len ≤ 1000 → o + cap * n ≤ c.size → (∀ j v, j < len * n → c[o + j]? = some v → v.oneCell' = true) →
    Calls P f #[.slice (some ⟨k, o, none⟩) len cap, .int .i64 i, .int .i64 ((i : Int) + 1)] w fun e w' => e = .returned (.slice (some ⟨k, o, none⟩) (len - 1) cap) ∧
      ∃ c', w'.heap[k]? = some (.cells c' el (lo, hi)) ∧ c'.size = c.size ∧ (∀ j, j < (len - 1) * n → c'[o + j]? = if j < i * n then c[o + j]? else c[o + (j + n)]?) ∧
        (∀ k', k' ≠ k → w'.heap[k']? = w.heap[k']?) ∧ (∀ k' x, w.shape? k' = some x → w'.shape? k' = some x) ∧ w'.os = w.os ∧ w'.tape = w.tape ∧ w'.output = w.output ∧ w'.heap.size = w.heap.size
section
variable {P : Program} {N : Nat} {ops : Array Oper} {m : Option Nat} {K : Tm → AH → Prop} {tm tm' : Tm} {H : AH} {rest : List Oper} {ty : TypeId} {pos : String} {af : Array Edge} {d : Nat} {t u e : TypeId} {x y z : Operand}
end
end Go.Proofs.YtgegcgfdffmoeaaGreat
