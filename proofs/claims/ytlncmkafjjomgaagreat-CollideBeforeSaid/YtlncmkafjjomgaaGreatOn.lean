/- Plain laws: before the first time below zero no value is negative. No conditions but those of each statement. | Plain laws: the first time below zero lies between the times;curves that are lowered. No conditions but those of each statement. -/
import Derived.Test.YtlncmkafjjomgaaGreatOg
import Derived.Test.YtlncmkafjjomgaaGreatNr
set_option linter.unusedSimpArgs false
namespace Go.Proofs.YtlncmkafjjomgaaGreat
set_option linter.unusedVariables false
theorem scanF_out {A : List PcQ} {fr te : Rat} : ∀ {n : Nat} {r : List Lf}, scanF A fr te n = some r → ∃ j, j < n ∧ stepF A fr te j = some r ∧ ∀ i, i < j → stepF A fr te i = none
 | 0, r, h => by cases h
 | n + 1, r, h => by
  rw [scanF] at h
  cases e : scanF A fr te n with
  | some q =>
   rw [e] at h
   injection h with h
   subst h
   obtain ⟨j, h1, h2, h3⟩ := scanF_out e
   exact ⟨j, by omega, h2, h3⟩
  | none =>
   rw [e] at h
   have hn : ∀ n, scanF A fr te n = none → ∀ i, i < n → stepF A fr te i = none := fun n => by
    induction n with
    | zero => intro _ i hi;omega
    | succ n ih =>
     intro h i hi
     rw [scanF] at h
     cases e : scanF A fr te n with
     | some q => rw [e] at h;cases h
     | none =>
      rw [e] at h
      by_cases e2 : i = n
      ·subst e2;exact h
      ·exact ih e i (by omega)
   exact ⟨n, by omega, h, hn n e⟩
theorem scanF_none {A : List PcQ} {fr te : Rat} : ∀ {n : Nat}, scanF A fr te n = none → ∀ i, i < n → stepF A fr te i = none
 | 0, _, i, hi => by omega
 | n + 1, h, i, hi => by
  rw [scanF] at h
  cases e : scanF A fr te n with
  | some q => rw [e] at h;cases h
  | none =>
   rw [e] at h
   by_cases e2 : i = n
   ·subst e2;exact h
   ·exact scanF_none e i (by omega)
structure Lies (l : List PcQ) (fr te t : Rat) (i : Nat) : Prop where
 lt : i < (allQ l fr).length
 val : vaX l t = vR (pcAt (allQ l fr) i) t
 ge : ptA (allQ l fr) fr i ≤ t
 le : t ≤ ptB (allQ l fr) te i
 inn : ¬ ptOut (allQ l fr) fr te i
 past : ∀ j, j < i → ptB (allQ l fr) te j ≤ t
theorem lies {l : List PcQ} {fr te t : Rat} (hs : sortC l) (h1 : fr ≤ t) (h2 : t ≤ te) : Lies l fr te t (pcI l t + 1).toNat := by
 have hr := (pcK_range l t l.length).1
 have hr' : -1 ≤ pcI l t := hr
 have hlt := pcI_lt l t
 have hlen : (allQ l fr).length = l.length + 1 := rfl
 have hA : ∀ j, pcAt (allQ l fr) (j + 1) = pcAt l j := fun j => pcAt_cons _ _ _
 obtain ⟨i, hi⟩ : ∃ i : Nat, (pcI l t + 1).toNat = i := ⟨_, rfl⟩
 rw [hi]
 have hf : ∀ j, j < i → (pcAt (allQ l fr) (j + 1)).f ≤ t := fun j hj => by
  rw [hA]
  have h3 := pcI_at (l := l) (t := t) (by omega)
  rw [show (pcI l t).toNat = i - 1 by omega] at h3
  by_cases e : j = i - 1
  ·rw [e];exact h3
  ·exact Rat.le_trans (Rat.le_of_lt (sortC_lt hs (show j < i - 1 by omega) (by omega))) h3
 have hn : i + 1 < (allQ l fr).length → t < (pcAt (allQ l fr) (i + 1)).f := fun h => by
  rw [hA]
  exact Rat.not_le.1 (pcI_later (by omega) (by omega))
 have hge : ptA (allQ l fr) fr i ≤ t := by
  unfold ptA
  split
  ·rename_i h
   obtain ⟨j, rfl⟩ : ∃ j, i = j + 1 := ⟨i - 1, by omega⟩
   exact hf j (by omega)
  ·exact h1
 refine ⟨by omega, ?_, hge, ?_, ?_, fun j hj => ?_⟩
 ·unfold vaX
  by_cases hk : pcI l t < 0
  ·obtain rfl : i = 0 := by omega
   rw [if_pos hk]
   show (pcAt l 0).a = vR ⟨fr, (pcAt l 0).a, 0, 0⟩ t
   unfold vR
   grind
  ·obtain ⟨j, rfl⟩ : ∃ j, i = j + 1 := ⟨i - 1, by omega⟩
   rw [if_neg hk, hA, show (pcI l t).toNat = j by omega]
   rfl
 ·unfold ptB
  split
  ·rename_i h;exact Rat.le_of_lt (hn h.1)
  ·exact h2
 ·unfold ptOut
  rintro (h | ⟨h, h3⟩)
  ·have := Rat.le_trans hge h2
   exact Rat.not_lt.2 this h
  ·exact absurd (Rat.le_trans h3 hge) (Rat.not_le.2 (hn h))
 ·unfold ptB
  split
  ·exact hf j hj
  ·rename_i h
   have h3 := hf j hj
   rcases Classical.em (te ≤ (pcAt (allQ l fr) (j + 1)).f) with h4 | h4
   ·exact Rat.le_trans h4 h3
   ·exact absurd ⟨by omega, Rat.not_le.1 h4⟩ h
theorem step_pos {A : List PcQ} {fr te t : Rat} {i : Nat} (h : stepF A fr te i = none) (ho : ¬ ptOut A fr te i) (h1 : ptA A fr i ≤ t) (h2 : t ≤ ptB A te i) : 0 ≤ vR (pcAt A i) t := by
 unfold stepF at h
 rw [if_neg ho] at h
 split at h
 ·cases h
 ·rename_i hv
  split at h
  ·cases h
  ·rename_i hb
   refine Rat.not_lt.1 fun hneg => ?_
   by_cases e : ptA A fr i = t
   ·rw [e] at hv;exact hv hneg
   ·have hlt : ptA A fr i < t := by
     rcases Rat.le_iff_lt_or_eq.1 h1 with h | h
     ·exact h
     ·exact absurd h e
    exact hb (belR_of (rlt_le hlt h2) h1 h2 hneg)
theorem pt_range {A : List PcQ} {fr te : Rat} {i : Nat} (ho : ¬ ptOut A fr te i) : fr ≤ ptA A fr i ∧ ptA A fr i ≤ ptB A te i ∧ ptB A te i ≤ te := by
 unfold ptOut at ho
 refine ⟨?_, ?_, ?_⟩
 ·unfold ptA
  split
  ·rename_i h;exact Rat.le_of_lt h.2
  ·exact Rat.le_refl
 ·unfold ptB
  split
  ·rename_i h
   exact Rat.le_of_lt (Rat.not_le.1 fun k => ho (.inr ⟨h.1, k⟩))
  ·exact Rat.not_lt.1 fun k => ho (.inl k)
 ·unfold ptB
  split
  ·rename_i h;exact Rat.le_of_lt h.2
  ·exact Rat.le_refl
theorem fir_spec {p : PcQ} {a b fr te : Rat} (hr1 : rangP fr) (hr2 : rangP te) (h : fr ≤ a ∧ a ≤ b ∧ b ≤ te) (hb : belR p a b) : ¬ belR p a (cutR b (mil (firLo p a b))) ∧ mil (firLo p a b) < b := by
 have ha : rangP a := ⟨Rat.le_trans hr1.1 h.1, Rat.le_trans h.2.1 (Rat.le_trans h.2.2 hr2.2)⟩
 have hbr : rangP b := ⟨Rat.le_trans hr1.1 (Rat.le_trans h.1 h.2.1), Rat.le_trans h.2.2 hr2.2⟩
 obtain ⟨r1, r2⟩ := milQ_range ha
 obtain ⟨r3, r4⟩ := milQ_range hbr
 have hm := milQ_mono h.2.1
 have k1 : ¬ firB p a b (milQ a) := fun q => by
  have h1 := q.1
  have h2 : mil (milQ a) ≤ a := mil_le.2 (Int.le_refl _)
  unfold cutR at h1
  split at h1
  ·rename_i h3;exact Rat.not_le.2 (rlt_le h3 h2) h.2.1
  ·exact Rat.not_le.2 h1 h2
 have k2 : firB p a b (milQ b + 2) := by
  have h1 : b < mil (milQ b + 2) := Rat.not_le.1 fun q => by have := mil_le.1 q;omega
  show belR p a (cutR b (mil (milQ b + 2)))
  unfold cutR
  rw [if_pos h1]
  exact hb
 obtain ⟨s1, s2⟩ := bis_spec (B := firB p a b) (n := 64) k1 k2 (by omega) (by omega)
 refine ⟨s1, ?_⟩
 rcases Classical.em (mil (firLo p a b) < b) with h1 | h1
 ·exact h1
 ·exfalso
  apply s1
  show belR p a (cutR b (mil (firLo p a b)))
  unfold cutR
  split
  ·exact hb
  ·rename_i h2
   have h3 : mil (firLo p a b) = b := Rat.le_antisymm (Rat.not_lt.1 h2) (Rat.not_lt.1 h1)
   rw [h3];exact hb
theorem first_none {l : List PcQ} {fr te t : Rat} (hs : sortC l) (h : firstA l fr te = spE 12) (h1 : fr ≤ t) (h2 : t ≤ te) : 0 ≤ vaX l t := by
 have hL := lies hs h1 h2
 unfold firstA at h
 cases e : scanF (allQ l fr) fr te (allQ l fr).length with
 | some r => rw [e] at h;simp [spE] at h
 | none =>
  rw [hL.val]
  exact step_pos (scanF_none e _ hL.lt) hL.inn hL.ge hL.le
theorem first_before {l : List PcQ} {fr te t : Rat} {lo hi : Int} (hs : sortC l) (h : firstA l fr te = .tup [rowA [.i lo, .i hi], .i 0]) (hr1 : rangP fr) (hr2 : rangP te) (h1 : fr ≤ t) (h2 : t ≤ te) (h3 : t ≤ mil (lo - 1)) : 0 ≤ vaX l t := by
 have hL := lies hs h1 h2
 obtain ⟨i, hi'⟩ : ∃ i : Nat, (pcI l t + 1).toNat = i := ⟨_, rfl⟩
 rw [hi'] at hL
 have hlt : mil (lo - 1) < mil lo := by
  rcases Rat.le_iff_lt_or_eq.1 (mil_mono (show lo - 1 ≤ lo by omega)) with h | h
  ·exact h
  ·have a1 := mil_mul (lo - 1)
   have a2 := mil_mul lo
   rw [h, a2] at a1
   have : (lo : Rat) = ((lo - 1 : Int) : Rat) := a1
   have := Rat.intCast_inj.1 this
   omega
 have htl : t < mil lo := rle_lt h3 hlt
 unfold firstA at h
 cases e : scanF (allQ l fr) fr te (allQ l fr).length with
 | none => rw [e] at h;simp [spE] at h
 | some r =>
  rw [e] at h
  have hr : r = [.i lo, .i hi] := by
   simp only [AV.tup.injEq, List.cons.injEq, and_true] at h
   have := h
   unfold rowA at this
   simp only [AV.agg.injEq] at this
   exact (List.map_inj_right (fun x y h => by injection h)).1 this
  obtain ⟨j, hj, hst, hbef⟩ := scanF_out e
  rw [hL.val]
  rcases Nat.lt_trichotomy i j with hij | hij | hij
  ·exact step_pos (hbef i hij) hL.inn hL.ge hL.le
  ·subst hij
   unfold stepF at hst
   rw [if_neg hL.inn] at hst
   split at hst
   ·rename_i hv
    injection hst with hst
    rw [hr] at hst
    have hlo : lo = milQ (ptA (allQ l fr) fr i) := by
     unfold enQ at hst
     split at hst <;> (simp only [List.cons.injEq, Lf.val.injEq, Value.int.injEq, true_and] at hst;exact hst.1.symm)
    have := mil_le.2 (Int.le_of_eq hlo)
    exact absurd (Rat.le_trans hL.ge (Rat.le_of_lt htl)) (Rat.not_le.2 (by
     have h8 := rle_lt hL.ge htl
     exact absurd this (Rat.not_le.2 h8)))
   ·rename_i hv
    split at hst
    ·rename_i hb
     injection hst with hst
     rw [hr] at hst
     have hlo : lo = firLo (pcAt (allQ l fr) i) (ptA (allQ l fr) fr i) (ptB (allQ l fr) te i) := by
      unfold firR at hst
      split at hst <;> (simp only [List.cons.injEq, Lf.val.injEq, Value.int.injEq, true_and] at hst;exact hst.1.symm)
     obtain ⟨g1, _⟩ := fir_spec hr1 hr2 (pt_range hL.inn) hb
     rw [← hlo] at g1
     refine Rat.not_lt.1 fun hneg => ?_
     have hcut : t ≤ cutR (ptB (allQ l fr) te i) (mil lo) := by
      unfold cutR
      split
      ·exact hL.le
      ·exact Rat.le_of_lt htl
     by_cases e : ptA (allQ l fr) fr i = t
     ·rw [e] at hv;exact hv hneg
     ·have hlt2 : ptA (allQ l fr) fr i < t := by
       rcases Rat.le_iff_lt_or_eq.1 hL.ge with h | h
       ·exact h
       ·exact absurd h e
      exact g1 (belR_of (rlt_le hlt2 hcut) hL.ge hcut hneg)
    ·cases hst
  ·exfalso
   have hp := hL.past j hij
   unfold stepF at hst
   split at hst
   ·cases hst
   ·rename_i ho
    have hab := (pt_range ho).2.1
    split at hst
    ·injection hst with hst
     rw [hr] at hst
     have hlo : lo = milQ (ptA (allQ l fr) fr j) := by
      unfold enQ at hst
      split at hst <;> (simp only [List.cons.injEq, Lf.val.injEq, Value.int.injEq, true_and] at hst;exact hst.1.symm)
     have h7 := mil_le.2 (Int.le_of_eq hlo)
     exact Rat.not_le.2 htl (Rat.le_trans h7 (Rat.le_trans hab hp))
    ·split at hst
     ·rename_i hb
      injection hst with hst
      rw [hr] at hst
      have hlo : lo = firLo (pcAt (allQ l fr) j) (ptA (allQ l fr) fr j) (ptB (allQ l fr) te j) := by
       unfold firR at hst
       split at hst <;> (simp only [List.cons.injEq, Lf.val.injEq, Value.int.injEq, true_and] at hst;exact hst.1.symm)
      obtain ⟨g1, g2⟩ := fir_spec hr1 hr2 (pt_range ho) hb
      rw [← hlo] at g2
      exact Rat.not_le.2 htl (Rat.le_trans (Rat.le_of_lt g2) hp)
     ·cases hst
end Go.Proofs.YtlncmkafjjomgaaGreat
set_option linter.unusedSimpArgs false
namespace Go.Proofs.YtlncmkafjjomgaaGreat
set_option linter.unusedVariables false
theorem first_row {l : List PcQ} {fr te : Rat} {lo hi : Int} (h : firstA l fr te = .tup [rowA [.i lo, .i hi], .i 0]) : ∃ j, stepF (allQ l fr) fr te j = some [.i lo, .i hi] := by
 unfold firstA at h
 cases e : scanF (allQ l fr) fr te (allQ l fr).length with
 | none => rw [e] at h;simp [spE] at h
 | some r =>
  rw [e] at h
  have hr : r = [.i lo, .i hi] := by
   simp only [AV.tup.injEq, List.cons.injEq, and_true] at h
   have := h
   unfold rowA at this
   simp only [AV.agg.injEq] at this
   exact (List.map_inj_right (fun x y h => by injection h)).1 this
  subst hr
  obtain ⟨j, _, hst, _⟩ := scanF_out e
  exact ⟨j, hst⟩
theorem first_range {l : List PcQ} {fr te : Rat} {lo hi : Int} (h : firstA l fr te = .tup [rowA [.i lo, .i hi], .i 0]) (hr1 : rangP fr) (hr2 : rangP te) : milQ fr ≤ lo ∧ mil lo ≤ te := by
 obtain ⟨j, hst⟩ := first_row h
 unfold stepF at hst
 split at hst
 ·cases hst
 ·rename_i ho
  obtain ⟨g1, g2, g3⟩ := pt_range ho
  split at hst
  ·injection hst with hst
   have hlo : lo = milQ (ptA (allQ l fr) fr j) := by
    unfold enQ at hst
    split at hst <;> (simp only [List.cons.injEq, Lf.val.injEq, Value.int.injEq, true_and] at hst;exact hst.1.symm)
   exact ⟨by rw [hlo];exact milQ_mono g1, Rat.le_trans (mil_le.2 (Int.le_of_eq hlo)) (Rat.le_trans g2 g3)⟩
  ·split at hst
   ·rename_i hb
    injection hst with hst
    have hlo : lo = firLo (pcAt (allQ l fr) j) (ptA (allQ l fr) fr j) (ptB (allQ l fr) te j) := by
     unfold firR at hst
     split at hst <;> (simp only [List.cons.injEq, Lf.val.injEq, Value.int.injEq, true_and] at hst;exact hst.1.symm)
    obtain ⟨q1, q2⟩ := fir_spec hr1 hr2 ⟨g1, g2, g3⟩ hb
    rw [← hlo] at q1 q2
    refine ⟨?_, Rat.le_trans (Rat.le_of_lt q2) g3⟩
    -- at the beginning it is not below zero yet
    rcases Int.lt_or_le lo (milQ fr) with h1 | h1
    ·exfalso
     obtain ⟨r1, r2⟩ := milQ_range (q := ptA (allQ l fr) fr j) ⟨Rat.le_trans hr1.1 g1, Rat.le_trans (Rat.le_trans g2 g3) hr2.2⟩
     obtain ⟨r3, r4⟩ := milQ_range (q := ptB (allQ l fr) te j) ⟨Rat.le_trans hr1.1 (Rat.le_trans g1 g2), Rat.le_trans g3 hr2.2⟩
     have hm := milQ_mono g2
     have hm2 := milQ_mono g1
     have k1 : ¬ firB (pcAt (allQ l fr) j) (ptA (allQ l fr) fr j) (ptB (allQ l fr) te j) (milQ (ptA (allQ l fr) fr j)) := fun q => by
      have h1 := q.1
      have h2 : mil (milQ (ptA (allQ l fr) fr j)) ≤ ptA (allQ l fr) fr j := mil_le.2 (Int.le_refl _)
      unfold cutR at h1
      split at h1
      ·rename_i h3;exact Rat.not_le.2 (rlt_le h3 h2) g2
      ·exact Rat.not_le.2 h1 h2
     have k2 : firB (pcAt (allQ l fr) j) (ptA (allQ l fr) fr j) (ptB (allQ l fr) te j) (milQ (ptB (allQ l fr) te j) + 2) := by
      have h1 : ptB (allQ l fr) te j < mil (milQ (ptB (allQ l fr) te j) + 2) := Rat.not_le.1 fun q => by have := mil_le.1 q;omega
      show belR _ _ (cutR _ _)
      unfold cutR
      rw [if_pos h1]
      exact hb
     obtain ⟨s1, s2⟩ := bis_spec (B := firB (pcAt (allQ l fr) j) (ptA (allQ l fr) fr j) (ptB (allQ l fr) te j)) (n := 64) k1 k2 (by omega) (by omega)
     change firB _ _ _ (firLo _ _ _ + 1) at s2
     rw [← hlo] at s2
     have h3 : mil (lo + 1) ≤ ptA (allQ l fr) fr j := mil_le.2 (by omega)
     have h4 := s2.1
     unfold cutR at h4
     split at h4
     ·rename_i h5;exact Rat.not_le.2 (rlt_le h5 h3) g2
     ·exact Rat.not_le.2 h4 h3
    ·exact h1
   ·cases hst
def lowC (by_ : Rat) (p : PcQ) : PcQ := ⟨p.f, p.a - by_, p.b, p.c⟩
theorem low_at {by_ : Rat} {l : List PcQ} {k : Nat} (hk : k < l.length) : pcAt (l.map (lowC by_)) k = lowC by_ (pcAt l k) := by
 have hx : l[k]? = some l[k] := List.getElem?_eq_getElem hk
 rw [pcAt_of hx]
 exact pcAt_of (by rw [List.getElem?_map, hx];rfl)
theorem low_idx {by_ : Rat} {l : List PcQ} (t : Rat) : ∀ k : Nat, k ≤ l.length → pcK (l.map (lowC by_)) t k = pcK l t k
 | 0, _ => rfl
 | k + 1, hk => by
  rw [pcK, pcK, low_idx t k (by omega), low_at (by omega)]
  rfl
theorem low_value {by_ : Rat} {l : List PcQ} (h0 : l ≠ []) (t : Rat) : vaX (l.map (lowC by_)) t = vaX l t - by_ := by
 have hpos := List.length_pos_iff.2 h0
 have hi : pcI (l.map (lowC by_)) t = pcI l t := by
  unfold pcI
  rw [List.length_map]
  exact low_idx t _ (Nat.le_refl _)
 have hlt := pcI_lt l t
 unfold vaX
 rw [hi]
 by_cases hk : pcI l t < 0
 ·rw [if_pos hk, if_pos hk, low_at hpos]
  rfl
 ·rw [if_neg hk, if_neg hk, low_at (by omega)]
  unfold valR lowC
  grind
theorem low_sort {by_ : Rat} {l : List PcQ} (hs : sortC l) : sortC (l.map (lowC by_)) := fun i hi => by
 rw [List.length_map] at hi
 rw [low_at (by omega), low_at hi]
 exact hs i hi
end Go.Proofs.YtlncmkafjjomgaaGreat
