/- Plain laws: before the first contact no two sets touch. No conditions but those of each statement. -/
import Derived.Test.YtbceahipbdmocaaGreatPa
import Derived.Test.YtbceahipbdmocaaGreatOq
import Derived.Test.YtbceahipbdmocaaGreatOs
set_option linter.unusedSimpArgs false
set_option linter.unusedVariables false
namespace Go.Proofs.YtbceahipbdmocaaGreat
open Go Go.RowKit
theorem mem_innN {l : List SetR} {k : Nat} {a : SetR} {x : ByteArray × ByteArray} : ∀ {m : Nat}, x ∈ Al l k a m ↔ ∃ j, j < m /\ ∃ b, l[k + 1 + j]? = some b /\ Dv a b /\ x = (a.name, b.name)
 | 0 => by simp [Al]
 | m + 1 => by
  rw [Al, List.mem_append, mem_innN]
  constructor
  ·rintro (⟨j, h1, h2⟩ | h)
   ·exact ⟨j, by omega, h2⟩
   ·split at h
    ·rename_i b hb
     split at h
     ·rename_i hn
      exact ⟨m, by omega, b, hb, hn, List.mem_singleton.1 h⟩
     ·cases h
    ·cases h
  ·rintro ⟨j, h1, b, hb, hn, hx⟩
   by_cases e : j = m
   ·subst e
    refine .inr ?_
    rw [hb]
    simp only [hn, if_true]
    exact List.mem_singleton.2 hx
   ·exact .inl ⟨j, by omega, b, hb, hn, hx⟩
theorem mem_prsK {l : List SetR} {x : ByteArray × ByteArray} : ∀ {n : Nat}, x ∈ C6 l n ↔ ∃ k, k < n /\ ∃ a, l[k]? = some a /\ x ∈ Al l k a (l.length - (k + 1))
 | 0 => by simp [C6]
 | n + 1 => by
  rw [C6, List.mem_append, mem_prsK]
  constructor
  ·rintro (⟨k, h1, h2⟩ | h)
   ·exact ⟨k, by omega, h2⟩
   ·split at h
    ·rename_i a ha
     exact ⟨n, by omega, a, ha, h⟩
    ·cases h
  ·rintro ⟨k, h1, a, ha, hx⟩
   by_cases e : k = n
   ·subst e
    refine .inr ?_
    rw [ha]
    exact hx
   ·exact .inl ⟨k, by omega, a, ha, hx⟩
theorem Yl {l : List SetR} (hn : (l.map SetR.name).Nodup) {i j : Nat} {x y : SetR} (hx : l[i]? = some x) (hy : l[j]? = some y) (e : x.name = y.name) : i = j := by
 rcases Nat.lt_trichotomy i j with h | h | h
 ·exact absurd e (Z5 hn hx hy h)
 ·exact h
 ·exact absurd e.symm (Z5 hn hy hx h)
end Go.Proofs.YtbceahipbdmocaaGreat
