/- Plain laws: before the first time below zero no value is negative. No conditions but those of each statement. | Plain laws: the first time below zero lies between the times;curves that are lowered. No conditions but those of each statement. -/
import Derived.Test.YtlncmkafjjomgaaGreatOg
import Derived.Test.YtlncmkafjjomgaaGreatNv
set_option linter.unusedSimpArgs false
namespace Go.Proofs.YtlncmkafjjomgaaGreat
set_option linter.unusedVariables false
theorem scanF_out {A : List PcQ} {fr te : Rat} : ∀ {n : Nat} {r : List Lf}, scanF A fr te n = some r → ∃ j, j < n ∧ stepF A fr te j = some r ∧ ∀ i, i < j → stepF A fr te i = none
 | 0, r, h => by cases h
 | n + 1, r, h => by
  rw [scanF] at h
  cases e : scanF A fr te n with
  | some q =>
   rw [e] at h
   injection h with h
   subst h
   obtain ⟨j, h1, h2, h3⟩ := scanF_out e
   exact ⟨j, by omega, h2, h3⟩
  | none =>
   rw [e] at h
   have hn : ∀ n, scanF A fr te n = none → ∀ i, i < n → stepF A fr te i = none := fun n => by
    induction n with
    | zero => intro _ i hi;omega
    | succ n ih =>
     intro h i hi
     rw [scanF] at h
     cases e : scanF A fr te n with
     | some q => rw [e] at h;cases h
     | none =>
      rw [e] at h
      by_cases e2 : i = n
      ·subst e2;exact h
      ·exact ih e i (by omega)
   exact ⟨n, by omega, h, hn n e⟩
structure Lies (l : List PcQ) (fr te t : Rat) (i : Nat) : Prop where
 lt : i < (allQ l fr).length
 val : vaX l t = vR (pcAt (allQ l fr) i) t
 ge : ptA (allQ l fr) fr i ≤ t
 le : t ≤ ptB (allQ l fr) te i
 inn : ¬ ptOut (allQ l fr) fr te i
 past : ∀ j, j < i → ptB (allQ l fr) te j ≤ t
theorem lies {l : List PcQ} {fr te t : Rat} (hs : sortC l) (h1 : fr ≤ t) (h2 : t ≤ te) : Lies l fr te t (pcI l t + 1).toNat := by
 have hr := (pcK_range l t l.length).1
 have hr' : -1 ≤ pcI l t := hr
 have hlt := pcI_lt l t
 have hlen : (allQ l fr).length = l.length + 1 := rfl
 have hA : ∀ j, pcAt (allQ l fr) (j + 1) = pcAt l j := fun j => pcAt_cons _ _ _
 obtain ⟨i, hi⟩ : ∃ i : Nat, (pcI l t + 1).toNat = i := ⟨_, rfl⟩
 rw [hi]
 have hf : ∀ j, j < i → (pcAt (allQ l fr) (j + 1)).f ≤ t := fun j hj => by
  rw [hA]
  have h3 := pcI_at (l := l) (t := t) (by omega)
  rw [show (pcI l t).toNat = i - 1 by omega] at h3
  by_cases e : j = i - 1
  ·rw [e];exact h3
  ·exact Rat.le_trans (Rat.le_of_lt (sortC_lt hs (show j < i - 1 by omega) (by omega))) h3
 have hn : i + 1 < (allQ l fr).length → t < (pcAt (allQ l fr) (i + 1)).f := fun h => by
  rw [hA]
  exact Rat.not_le.1 (pcI_later (by omega) (by omega))
 have hge : ptA (allQ l fr) fr i ≤ t := by
  unfold ptA
  split
  ·rename_i h
   obtain ⟨j, rfl⟩ : ∃ j, i = j + 1 := ⟨i - 1, by omega⟩
   exact hf j (by omega)
  ·exact h1
 refine ⟨by omega, ?_, hge, ?_, ?_, fun j hj => ?_⟩
 ·unfold vaX
  by_cases hk : pcI l t < 0
  ·obtain rfl : i = 0 := by omega
   rw [if_pos hk]
   show (pcAt l 0).a = vR ⟨fr, (pcAt l 0).a, 0, 0⟩ t
   unfold vR
   grind
  ·obtain ⟨j, rfl⟩ : ∃ j, i = j + 1 := ⟨i - 1, by omega⟩
   rw [if_neg hk, hA, show (pcI l t).toNat = j by omega]
   rfl
 ·unfold ptB
  split
  ·rename_i h;exact Rat.le_of_lt (hn h.1)
  ·exact h2
 ·unfold ptOut
  rintro (h | ⟨h, h3⟩)
  ·have := Rat.le_trans hge h2
   exact Rat.not_lt.2 this h
  ·exact absurd (Rat.le_trans h3 hge) (Rat.not_le.2 (hn h))
 ·unfold ptB
  split
  ·exact hf j hj
  ·rename_i h
   have h3 := hf j hj
   rcases Classical.em (te ≤ (pcAt (allQ l fr) (j + 1)).f) with h4 | h4
   ·exact Rat.le_trans h4 h3
   ·exact absurd ⟨by omega, Rat.not_le.1 h4⟩ h
end Go.Proofs.YtlncmkafjjomgaaGreat
set_option linter.unusedSimpArgs false
namespace Go.Proofs.YtlncmkafjjomgaaGreat
set_option linter.unusedVariables false
def lowC (by_ : Rat) (p : PcQ) : PcQ := ⟨p.f, p.a - by_, p.b, p.c⟩
theorem low_at {by_ : Rat} {l : List PcQ} {k : Nat} (hk : k < l.length) : pcAt (l.map (lowC by_)) k = lowC by_ (pcAt l k) := by
 have hx : l[k]? = some l[k] := List.getElem?_eq_getElem hk
 rw [pcAt_of hx]
 exact pcAt_of (by rw [List.getElem?_map, hx];rfl)
theorem low_idx {by_ : Rat} {l : List PcQ} (t : Rat) : ∀ k : Nat, k ≤ l.length → pcK (l.map (lowC by_)) t k = pcK l t k
 | 0, _ => rfl
 | k + 1, hk => by
  rw [pcK, pcK, low_idx t k (by omega), low_at (by omega)]
  rfl
theorem low_value {by_ : Rat} {l : List PcQ} (h0 : l ≠ []) (t : Rat) : vaX (l.map (lowC by_)) t = vaX l t - by_ := by
 have hpos := List.length_pos_iff.2 h0
 have hi : pcI (l.map (lowC by_)) t = pcI l t := by
  unfold pcI
  rw [List.length_map]
  exact low_idx t _ (Nat.le_refl _)
 have hlt := pcI_lt l t
 unfold vaX
 rw [hi]
 by_cases hk : pcI l t < 0
 ·rw [if_pos hk, if_pos hk, low_at hpos]
  rfl
 ·rw [if_neg hk, if_neg hk, low_at (by omega)]
  unfold valR lowC
  grind
theorem low_sort {by_ : Rat} {l : List PcQ} (hs : sortC l) : sortC (l.map (lowC by_)) := fun i hi => by
 rw [List.length_map] at hi
 rw [low_at (by omega), low_at hi]
 exact hs i hi
end Go.Proofs.YtlncmkafjjomgaaGreat
