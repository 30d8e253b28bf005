/- Plain laws: before the first time below zero no value is negative. No conditions but those of each statement. -/
import Derived.Test.YtbceahipbdmocaaGreatOg
import Derived.Test.YtbceahipbdmocaaGreatNq
set_option linter.unusedSimpArgs false
set_option linter.unusedVariables false
namespace Go.Proofs.YtbceahipbdmocaaGreat
theorem Oh {A : List PcQ} {fr te : Rat} : ∀ {n : Nat} {r : List Lf}, Du A fr te n = some r -> ∃ j, j < n /\ Bw A fr te j = some r /\ ∀ i, i < j -> Bw A fr te i = none
 | 0, r, h => by cases h
 | n + 1, r, h => by
  rw [Du] at h
  cases e : Du A fr te n with
  | some q =>
   rw [e] at h
   injection h with h
   subst h
   obtain ⟨j, h1, h2, h3⟩ := Oh e
   exact ⟨j, by omega, h2, h3⟩
  | none =>
   rw [e] at h
   have hn : ∀ n, Du A fr te n = none -> ∀ i, i < n -> Bw A fr te i = none := fun n => by
    induction n with
    | zero => intro _ i hi;omega
    | succ n ih =>
     intro h i hi
     rw [Du] at h
     cases e : Du A fr te n with
     | some q => rw [e] at h;cases h
     | none =>
      rw [e] at h
      by_cases e2 : i = n
      ·subst e2;exact h
      ·exact ih e i (by omega)
   exact ⟨n, by omega, h, hn n e⟩
structure Lies (l : List PcQ) (fr te t : Rat) (i : Nat) : Prop where
 lt : i < (A7 l fr).length
 val : vaX l t = vR (Af (A7 l fr) i) t
 ge : ptA (A7 l fr) fr i <= t
 le : t <= ptB (A7 l fr) te i
 inn : ¬ Av (A7 l fr) fr te i
 past : ∀ j, j < i -> ptB (A7 l fr) te j <= t
theorem Acj {l : List PcQ} {fr te t : Rat} (hs : Ba l) (h1 : fr <= t) (h2 : t <= te) : Lies l fr te t (pcI l t + 1).toNat := by
 have hr := (Kr l t l.length).1
 have hr' : -1 <= pcI l t := hr
 have hlt := Su l t
 have hlen : (A7 l fr).length = l.length + 1 := rfl
 have hA : ∀ j, Af (A7 l fr) (j + 1) = Af l j := fun j => A5a _ _ _
 obtain ⟨i, hi⟩ : ∃ i : Nat, (pcI l t + 1).toNat = i := ⟨_, rfl⟩
 rw [hi]
 have hf : ∀ j, j < i -> (Af (A7 l fr) (j + 1)).f <= t := fun j hj => by
  rw [hA]
  have h3 := Sj (l := l) (t := t) (by omega)
  rw [show (pcI l t).toNat = i - 1 by omega] at h3
  by_cases e : j = i - 1
  ·rw [e];exact h3
  ·exact Rat.le_trans (Rat.le_of_lt (Wr hs (show j < i - 1 by omega) (by omega))) h3
 have hn : i + 1 < (A7 l fr).length -> t < (Af (A7 l fr) (i + 1)).f := fun h => by
  rw [hA]
  exact Rat.not_le.1 (On (by omega) (by omega))
 have hge : ptA (A7 l fr) fr i <= t := by
  unfold ptA
  split
  ·rename_i h
   obtain ⟨j, rfl⟩ : ∃ j, i = j + 1 := ⟨i - 1, by omega⟩
   exact hf j (by omega)
  ·exact h1
 refine ⟨by omega, ?_, hge, ?_, ?_, fun j hj => ?_⟩
 ·unfold vaX
  by_cases hk : pcI l t < 0
  ·obtain rfl : i = 0 := by omega
   rw [if_pos hk]
   show (Af l 0).a = vR ⟨fr, (Af l 0).a, 0, 0⟩ t
   unfold vR
   grind
  ·obtain ⟨j, rfl⟩ : ∃ j, i = j + 1 := ⟨i - 1, by omega⟩
   rw [if_neg hk, hA, show (pcI l t).toNat = j by omega]
   rfl
 ·unfold ptB
  split
  ·rename_i h;exact Rat.le_of_lt (hn h.1)
  ·exact h2
 ·unfold Av
  rintro (h | ⟨h, h3⟩)
  ·have := Rat.le_trans hge h2
   exact Rat.not_lt.2 this h
  ·exact absurd (Rat.le_trans h3 hge) (Rat.not_le.2 (hn h))
 ·unfold ptB
  split
  ·exact hf j hj
  ·rename_i h
   have h3 := hf j hj
   rcases Classical.em (te <= (Af (A7 l fr) (j + 1)).f) with h4 | h4
   ·exact Rat.le_trans h4 h3
   ·exact absurd ⟨by omega, Rat.not_le.1 h4⟩ h
theorem Xu {A : List PcQ} {fr te : Rat} {i : Nat} (ho : ¬ Av A fr te i) : fr <= ptA A fr i /\ ptA A fr i <= ptB A te i /\ ptB A te i <= te := by
 unfold Av at ho
 refine ⟨?_, ?_, ?_⟩
 ·unfold ptA
  split
  ·rename_i h;exact Rat.le_of_lt h.2
  ·exact Rat.le_refl
 ·unfold ptB
  split
  ·rename_i h
   exact Rat.le_of_lt (Rat.not_le.1 fun k => ho (.inr ⟨h.1, k⟩))
  ·exact Rat.not_lt.1 fun k => ho (.inl k)
 ·unfold ptB
  split
  ·rename_i h;exact Rat.le_of_lt h.2
  ·exact Rat.le_refl
theorem Xt {p : PcQ} {a b fr te : Rat} (hr1 : Cm fr) (hr2 : Cm te) (h : fr <= a /\ a <= b /\ b <= te) (hb : D7 p a b) : ¬ D7 p a (Gi b (mil (Ew p a b))) /\ mil (Ew p a b) < b := by
 have ha : Cm a := ⟨Rat.le_trans hr1.1 h.1, Rat.le_trans h.2.1 (Rat.le_trans h.2.2 hr2.2)⟩
 have hbr : Cm b := ⟨Rat.le_trans hr1.1 (Rat.le_trans h.1 h.2.1), Rat.le_trans h.2.2 hr2.2⟩
 obtain ⟨r1, r2⟩ := Iw ha
 obtain ⟨r3, r4⟩ := Iw hbr
 have hm := Kt h.2.1
 have k1 : ¬ Ff p a b (As a) := fun q => by
  have h1 := q.1
  have h2 : mil (As a) <= a := mil_le.2 (Int.le_refl _)
  unfold Gi at h1
  split at h1
  ·rename_i h3;exact Rat.not_le.2 (Wx h3 h2) h.2.1
  ·exact Rat.not_le.2 h1 h2
 have k2 : Ff p a b (As b + 2) := by
  have h1 : b < mil (As b + 2) := Rat.not_le.1 fun q => by have := mil_le.1 q;omega
  show D7 p a (Gi b (mil (As b + 2)))
  unfold Gi
  rw [if_pos h1]
  exact hb
 obtain ⟨s1, s2⟩ := N9 (B := Ff p a b) (n := 64) k1 k2 (by omega) (by omega)
 refine ⟨s1, ?_⟩
 rcases Classical.em (mil (Ew p a b) < b) with h1 | h1
 ·exact h1
 ·exfalso
  apply s1
  show D7 p a (Gi b (mil (Ew p a b)))
  unfold Gi
  split
  ·exact hb
  ·rename_i h2
   have h3 : mil (Ew p a b) = b := Rat.le_antisymm (Rat.not_lt.1 h2) (Rat.not_lt.1 h1)
   rw [h3];exact hb
theorem Uv {l : List PcQ} {fr te : Rat} {lo hi : Int} (h : Bc l fr te = .tup [A2 [.i lo, .i hi], .i 0]) : ∃ j, Bw (A7 l fr) fr te j = some [.i lo, .i hi] := by
 unfold Bc at h
 cases e : Du (A7 l fr) fr te (A7 l fr).length with
 | none => rw [e] at h;simp [spE] at h
 | some r =>
  rw [e] at h
  have hr : r = [.i lo, .i hi] := by
   simp only [AV.tup.injEq, List.cons.injEq, and_true] at h
   have := h
   unfold A2 at this
   simp only [AV.agg.injEq] at this
   exact (List.map_inj_right (fun x y h => by injection h)).1 this
  subst hr
  obtain ⟨j, _, hst, _⟩ := Oh e
  exact ⟨j, hst⟩
theorem Zn {l : List PcQ} {fr te : Rat} {lo hi : Int} (h : Bc l fr te = .tup [A2 [.i lo, .i hi], .i 0]) (hr1 : Cm fr) (hr2 : Cm te) : As fr <= lo /\ mil lo <= te := by
 obtain ⟨j, hst⟩ := Uv h
 unfold Bw at hst
 split at hst
 ·cases hst
 ·rename_i ho
  obtain ⟨g1, g2, g3⟩ := Xu ho
  split at hst
  ·injection hst with hst
   have hlo : lo = As (ptA (A7 l fr) fr j) := by
    unfold enQ at hst
    split at hst <;> (simp only [List.cons.injEq, Lf.val.injEq, Value.int.injEq, true_and] at hst;exact hst.1.symm)
   exact ⟨by rw [hlo];exact Kt g1, Rat.le_trans (mil_le.2 (Int.le_of_eq hlo)) (Rat.le_trans g2 g3)⟩
  ·split at hst
   ·rename_i hb
    injection hst with hst
    have hlo : lo = Ew (Af (A7 l fr) j) (ptA (A7 l fr) fr j) (ptB (A7 l fr) te j) := by
     unfold Im at hst
     split at hst <;> (simp only [List.cons.injEq, Lf.val.injEq, Value.int.injEq, true_and] at hst;exact hst.1.symm)
    obtain ⟨q1, q2⟩ := Xt hr1 hr2 ⟨g1, g2, g3⟩ hb
    rw [<- hlo] at q1 q2
    refine ⟨?_, Rat.le_trans (Rat.le_of_lt q2) g3⟩
    -- at the beginning it is not below zero yet
    rcases Int.lt_or_le lo (As fr) with h1 | h1
    ·exfalso
     obtain ⟨r1, r2⟩ := Iw (q := ptA (A7 l fr) fr j) ⟨Rat.le_trans hr1.1 g1, Rat.le_trans (Rat.le_trans g2 g3) hr2.2⟩
     obtain ⟨r3, r4⟩ := Iw (q := ptB (A7 l fr) te j) ⟨Rat.le_trans hr1.1 (Rat.le_trans g1 g2), Rat.le_trans g3 hr2.2⟩
     have hm := Kt g2
     have hm2 := Kt g1
     have k1 : ¬ Ff (Af (A7 l fr) j) (ptA (A7 l fr) fr j) (ptB (A7 l fr) te j) (As (ptA (A7 l fr) fr j)) := fun q => by
      have h1 := q.1
      have h2 : mil (As (ptA (A7 l fr) fr j)) <= ptA (A7 l fr) fr j := mil_le.2 (Int.le_refl _)
      unfold Gi at h1
      split at h1
      ·rename_i h3;exact Rat.not_le.2 (Wx h3 h2) g2
      ·exact Rat.not_le.2 h1 h2
     have k2 : Ff (Af (A7 l fr) j) (ptA (A7 l fr) fr j) (ptB (A7 l fr) te j) (As (ptB (A7 l fr) te j) + 2) := by
      have h1 : ptB (A7 l fr) te j < mil (As (ptB (A7 l fr) te j) + 2) := Rat.not_le.1 fun q => by have := mil_le.1 q;omega
      show D7 _ _ (Gi _ _)
      unfold Gi
      rw [if_pos h1]
      exact hb
     obtain ⟨s1, s2⟩ := N9 (B := Ff (Af (A7 l fr) j) (ptA (A7 l fr) fr j) (ptB (A7 l fr) te j)) (n := 64) k1 k2 (by omega) (by omega)
     change Ff _ _ _ (Ew _ _ _ + 1) at s2
     rw [<- hlo] at s2
     have h3 : mil (lo + 1) <= ptA (A7 l fr) fr j := mil_le.2 (by omega)
     have h4 := s2.1
     unfold Gi at h4
     split at h4
     ·rename_i h5;exact Rat.not_le.2 (Wx h5 h3) g2
     ·exact Rat.not_le.2 h4 h3
    ·exact h1
   ·cases hst
def Gf (by_ : Rat) (p : PcQ) : PcQ := ⟨p.f, p.a - by_, p.b, p.c⟩
theorem Ob {by_ : Rat} {l : List PcQ} {k : Nat} (hk : k < l.length) : Af (l.map (Gf by_)) k = Gf by_ (Af l k) := by
 have hx : l[k]? = some l[k] := List.getElem?_eq_getElem hk
 rw [Cf hx]
 exact Cf (by rw [List.getElem?_map, hx];rfl)
theorem A0l {by_ : Rat} {l : List PcQ} (t : Rat) : ∀ k : Nat, k <= l.length -> pcK (l.map (Gf by_)) t k = pcK l t k
 | 0, _ => rfl
 | k + 1, hk => by
  rw [pcK, pcK, A0l t k (by omega), Ob (by omega)]
  rfl
theorem A6a {by_ : Rat} {l : List PcQ} (h0 : l ≠ []) (t : Rat) : vaX (l.map (Gf by_)) t = vaX l t - by_ := by
 have hpos := List.length_pos_iff.2 h0
 have hi : pcI (l.map (Gf by_)) t = pcI l t := by
  unfold pcI
  rw [List.length_map]
  exact A0l t _ (Nat.le_refl _)
 have hlt := Su l t
 unfold vaX
 rw [hi]
 by_cases hk : pcI l t < 0
 ·rw [if_pos hk, if_pos hk, Ob hpos]
  rfl
 ·rw [if_neg hk, if_neg hk, Ob (by omega)]
  unfold Jm Gf
  grind
theorem A75 {by_ : Rat} {l : List PcQ} (hs : Ba l) : Ba (l.map (Gf by_)) := fun i hi => by
 rw [List.length_map] at hi
 rw [Ob (by omega), Ob hi]
 exact hs i hi
end Go.Proofs.YtbceahipbdmocaaGreat
