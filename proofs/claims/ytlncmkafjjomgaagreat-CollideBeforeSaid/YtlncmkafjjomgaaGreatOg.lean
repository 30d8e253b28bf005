/- Plain laws: exact values of curves, of sums of curves, of moved curves. No conditions but those of each statement. | Plain laws: the value of a sum is the sum of the values. No conditions but those of each statement. | Plain laws: curves that are moved;curves of fractions are valid;sums are curves. Contracts: additions of any numbers. No conditions but those of each statement. -/
import Derived.Test.YtlncmkafjjomgaaGreatOe
import Derived.Test.YtlncmkafjjomgaaGreatMe
set_option linter.unusedSimpArgs false
namespace Go.Proofs.YtlncmkafjjomgaaGreat
set_option linter.unusedVariables false
def vaX (l : List PcQ) (t : Rat) : Rat := if pcI l t < 0 then (pcAt l 0).a else valR (pcAt l (pcI l t).toNat) (t - (pcAt l (pcI l t).toNat).f)
def slX (l : List PcQ) (t : Rat) : Rat := if pcI l t < 0 then 0 else sloR (pcAt l (pcI l t).toNat) (t - (pcAt l (pcI l t).toNat).f)
theorem atQ_ex {l : List PcQ} {t : Rat} (h : atE l t 0 = 0) : atQ l t = vaX l t := by
 unfold atQ vaX
 unfold atE at h
 by_cases hk : pcI l t < 0
 ·rw [if_pos hk, if_pos hk]
 ·rw [if_neg hk] at h ⊢
  rw [if_neg hk]
  generalize pcAt l (pcI l t).toNat = p at *
  by_cases h1 : Fits (t - p.f)
  ·rw [kQ_ok h1] at h ⊢
   rw [kE_ok h1] at h
   by_cases h2 : okV p (t - p.f)
   ·exact (val_okV h2 0).1
   ·rw [val_bad h2] at h;cases h
  ·rw [kE_bad h1, valE_five] at h;cases h
theorem atS_ex {l : List PcQ} {t : Rat} (h : atSE l t 0 = 0) : atS l t = slX l t := by
 unfold atS slX
 unfold atSE at h
 by_cases hk : pcI l t < 0
 ·rw [if_pos hk, if_pos hk]
 ·rw [if_neg hk] at h ⊢
  rw [if_neg hk]
  generalize pcAt l (pcI l t).toNat = p at *
  by_cases h1 : Fits (t - p.f)
  ·rw [kQ_ok h1] at h ⊢
   rw [kE_ok h1] at h
   by_cases h2 : okS p (t - p.f)
   ·exact (slo_okS h2 0).1
   ·rw [slo_bad h2] at h;cases h
  ·rw [kE_bad h1, sloE_five] at h;cases h
theorem pcK_congr (l : List PcQ) (s t : Rat) : ∀ k : Nat, (∀ i, i < k → ((pcAt l i).f ≤ s ↔ (pcAt l i).f ≤ t)) → pcK l s k = pcK l t k
 | 0, _ => rfl
 | k + 1, h => by
  rw [pcK, pcK, pcK_congr l s t k fun i hi => h i (by omega)]
  have := h k (by omega)
  by_cases e : (pcAt l k).f ≤ s
  ·rw [if_pos e, if_pos (this.1 e)]
  ·rw [if_neg e, if_neg fun k => e (this.2 k)]
theorem pcI_congr {l : List PcQ} {s t : Rat} (h : ∀ p ∈ l, (p.f ≤ s ↔ p.f ≤ t)) : pcI l s = pcI l t := pcK_congr l s t _ fun i hi => h _ (by
 rw [pcAt_of (List.getElem?_eq_getElem hi)];exact List.getElem_mem hi)
theorem pcK_spec (l : List PcQ) (t : Rat) : ∀ k : Nat, (∀ i : Nat, pcK l t k = i → (pcAt l i).f ≤ t) ∧ ∀ j : Nat, pcK l t k < j → j < k → ¬ (pcAt l j).f ≤ t
 | 0 => ⟨fun i h => (by simp [pcK] at h), fun j _ h => (by omega)⟩
 | k + 1 => by
  obtain ⟨h1, h2⟩ := pcK_spec l t k
  rw [pcK]
  by_cases e : (pcAt l k).f ≤ t
  ·rw [if_pos e]
   refine ⟨fun i hi => ?_, fun j h3 h4 => (by omega)⟩
   obtain rfl : k = i := by omega
   exact e
  ·rw [if_neg e]
   refine ⟨h1, fun j h3 h4 => ?_⟩
   by_cases e2 : j = k
   ·subst e2;exact e
   ·exact h2 j h3 (by omega)
theorem pcI_at {l : List PcQ} {t : Rat} (h : ¬ pcI l t < 0) : (pcAt l (pcI l t).toNat).f ≤ t := (pcK_spec l t l.length).1 _ (by show pcI l t = _;omega)
theorem pcI_later {l : List PcQ} {t : Rat} {j : Nat} (h : pcI l t < j) (hj : j < l.length) : ¬ (pcAt l j).f ≤ t := (pcK_spec l t l.length).2 j h hj
theorem pcI_lt (l : List PcQ) (t : Rat) : pcI l t < l.length := (pcK_range l t l.length).2
theorem sortC_lt {l : List PcQ} (hs : sortC l) {i j : Nat} (hij : i < j) (hj : j < l.length) : (pcAt l i).f < (pcAt l j).f := by
 induction j with
 | zero => omega
 | succ j ih =>
  have h1 := hs j hj
  by_cases e : i = j
  ·subst e;exact h1
  ·have h2 := ih (by omega) (by omega)
   grind
theorem taylorV (p : PcQ) (s t : Rat) : valR p (t - p.f) = valR p (s - p.f) + (sloR p (s - p.f) + p.c * (t - s)) * (t - s) := by
 unfold valR sloR
 grind
theorem vaX_step {l : List PcQ} {s t : Rat} (h : pcI l s = pcI l t) : vaX l t = vaX l s + (slX l s + atC l s * (t - s)) * (t - s) := by
 unfold vaX slX atC
 rw [← h]
 by_cases hk : pcI l s < 0
 ·rw [if_pos hk, if_pos hk, if_pos hk, if_pos hk];grind
 ·rw [if_neg hk, if_neg hk, if_neg hk, if_neg hk]
  exact taylorV _ s t
end Go.Proofs.YtlncmkafjjomgaaGreat
set_option linter.unusedSimpArgs false
namespace Go.Proofs.YtlncmkafjjomgaaGreat
set_option linter.unusedVariables false
theorem jE_zero {op : Rat → Rat → Rat} {a b : List PcQ} {t : Rat} (h : jE op a b t 0 = 0) : atPE a t 0 = 0 ∧ atPE b t 0 = 0 ∧ Fits (op (atP a t).a (atP b t).a) ∧ Fits (op (atP a t).b (atP b t).b) ∧ Fits (op (atP a t).c (atP b t).c) := by
 unfold jE at h
 rcases atPE_or a t with e1 | e1 <;> rw [e1] at h
 ·rcases atPE_or b t with e2 | e2 <;> rw [e2] at h
  ·by_cases h1 : Fits (op (atP a t).a (atP b t).a)
   ·rw [kE_ok h1] at h
    by_cases h2 : Fits (op (atP a t).b (atP b t).b)
    ·rw [kE_ok h2] at h
     by_cases h3 : Fits (op (atP a t).c (atP b t).c)
     ·exact ⟨e1, e2, h1, h2, h3⟩
     ·rw [kE_bad h3] at h;cases h
    ·rw [kE_bad h2, kE_five] at h;cases h
   ·rw [kE_bad h1, kE_five, kE_five] at h;cases h
  ·rw [kE_five, kE_five, kE_five] at h;cases h
 ·rw [atPE_five, kE_five, kE_five, kE_five] at h;cases h
theorem jE_or (op : Rat → Rat → Rat) (a b : List PcQ) (t : Rat) : jE op a b t 0 = 0 ∨ jE op a b t 0 = 5 := by
 unfold jE
 rcases atPE_or a t with e1 | e1 <;> rw [e1]
 ·exact kE_or _ (kE_or _ (kE_or _ (atPE_or b t)))
 ·rw [atPE_five, kE_five, kE_five, kE_five];exact .inr rfl
theorem jEs_all {op : Rat → Rat → Rat} {a b : List PcQ} : ∀ {l : List Rat}, jEs op a b l = 0 → ∀ t ∈ l, jE op a b t 0 = 0
 | [], _, t, ht => by simp at ht
 | s :: l, h, t, ht => by
  unfold jEs at h
  rw [List.foldl_cons] at h
  rcases jE_or op a b s with e | e
  ·rw [e] at h
   rcases List.mem_cons.1 ht with rfl | ht
   ·exact e
   ·exact jEs_all h t ht
  ·rw [e, jEs_five] at h;cases h
theorem jEs_or (op : Rat → Rat → Rat) (a b : List PcQ) (l : List Rat) : jEs op a b l = 0 ∨ jEs op a b l = 5 := by
 unfold jEs
 induction l with
 | nil => exact .inl rfl
 | cons t l ih =>
  rw [List.foldl_cons]
  rcases jE_or op a b t with e | e <;> rw [e]
  ·exact ih
  ·exact .inr (jEs_five op a b l)
theorem atPE_zero {l : List PcQ} {t : Rat} (h : atPE l t 0 = 0) : atE l t 0 = 0 ∧ atSE l t 0 = 0 := by
 rw [atPE_eq] at h
 split at h
 ·exact ⟨by assumption, h⟩
 ·cases h
theorem atP_ex {l : List PcQ} {t : Rat} (h : atPE l t 0 = 0) : atP l t = ⟨t, vaX l t, slX l t, atC l t⟩ := by
 obtain ⟨h1, h2⟩ := atPE_zero h
 rw [atP_eq, atQ_ex h1, atS_ex h2]
theorem jP_ex {op : Rat → Rat → Rat} {a b : List PcQ} {t : Rat} (h : jE op a b t 0 = 0) : jP op a b t = ⟨t, op (vaX a t) (vaX b t), op (slX a t) (slX b t), op (atC a t) (atC b t)⟩ := by
 obtain ⟨h1, h2, h3, h4, h5⟩ := jE_zero h
 unfold jP
 rw [kQ_ok h3, kQ_ok h4, kQ_ok h5, atP_ex h1, atP_ex h2]
theorem pcI_neg {l : List PcQ} {t : Rat} (h : ∀ p ∈ l, ¬ p.f ≤ t) : pcI l t < 0 := by
 rcases Int.lt_or_le (pcI l t) 0 with e | e
 ·exact e
 ·have h1 : ¬ pcI l t < 0 := by omega
  exact absurd (pcI_at h1) (h _ (List.mem_of_getElem? (pc_get h1)))
structure Sum (op : Rat → Rat → Rat) (a b : List PcQ) (tms : List Rat) (s : List PcQ) : Prop where
 ht : tms = timesQ a b
 hs : s = tms.map (jP op a b)
 h0 : jEs op a b tms = 0
section
variable {op : Rat → Rat → Rat} {a b s : List PcQ} {tms : List Rat}
theorem Sum.len (h : Sum op a b tms s) : s.length = tms.length := by rw [h.hs, List.length_map]
theorem Sum.at (h : Sum op a b tms s) {k : Nat} (hk : k < tms.length) : pcAt s k = ⟨tms[k], op (vaX a tms[k]) (vaX b tms[k]), op (slX a tms[k]) (slX b tms[k]), op (atC a tms[k]) (atC b tms[k])⟩ := by
 have := jEs_all h.h0 tms[k] (List.getElem_mem hk)
 rw [← jP_ex this]
 refine pcAt_of ?_
 rw [h.hs, List.getElem?_map, List.getElem?_eq_getElem hk]
 rfl
theorem Sum.asc (h : Sum op a b tms s) {i j : Nat} (hij : i ≤ j) (hj : j < tms.length) : tms[i]'(by omega) ≤ tms[j] := by
 by_cases e : i = j
 ·subst e;exact Rat.le_refl
 ·have hp : tms.Pairwise (· < ·) := by rw [h.ht];exact asc_putAll _
  exact Rat.le_of_lt (List.pairwise_iff_getElem.1 hp i j (by omega) hj (by omega))
theorem Sum.has (h : Sum op a b tms s) {p : PcQ} (hp : p ∈ a ∨ p ∈ b) : ∃ j, ∃ hj : j < tms.length, tms[j] = p.f := by
 have : p.f ∈ tms := by
  rw [h.ht, timesQ, mem_putAll]
  exact List.mem_map.2 ⟨p, List.mem_append.2 hp, rfl⟩
 obtain ⟨j, hj, e⟩ := List.getElem_of_mem this
 exact ⟨j, hj, e⟩
theorem Sum.idx (h : Sum op a b tms s) {t : Rat} {k : Nat} (hk : pcI s t = k) {l : List PcQ} (hl : ∀ p ∈ l, p ∈ a ∨ p ∈ b) (hkl : k < tms.length) : pcI l tms[k] = pcI l t := by
 have h1 : tms[k] ≤ t := by
  have := pcI_at (l := s) (t := t) (by omega)
  rw [show (pcI s t).toNat = k by omega, h.at hkl] at this
  exact this
 refine pcI_congr fun p hp => ⟨fun e => Rat.le_trans e h1, fun e => ?_⟩
 obtain ⟨j, hj, hpj⟩ := h.has (hl p hp)
 rw [← hpj]
 rcases Nat.lt_or_ge k j with hkj | hkj
 ·have := pcI_later (l := s) (t := t) (j := j) (by omega) (by rw [h.len];exact hj)
  rw [h.at hj] at this
  exact absurd (by rw [← hpj] at e;exact e) this
 ·exact h.asc hkj hkl
theorem vaX_first {l : List PcQ} {t : Rat} (hs : sortC l) (hl : ∀ p ∈ l, t ≤ p.f) (h0 : l ≠ []) : vaX l t = (pcAt l 0).a ∧ (pcI l t < 0 ∨ pcI l t = 0 ∧ t = (pcAt l 0).f) := by
 unfold vaX
 by_cases hk : pcI l t < 0
 ·rw [if_pos hk];exact ⟨rfl, .inl hk⟩
 ·rw [if_neg hk]
  have h1 := pcI_at hk
  have hpos := List.length_pos_iff.2 h0
  have h2 := hl _ (List.getElem_mem hpos)
  rw [← pcAt_of (List.getElem?_eq_getElem hpos)] at h2
  have hlt := pcI_lt l t
  have hz : pcI l t = 0 := by
   rcases Nat.eq_zero_or_pos (pcI l t).toNat with e | e
   ·omega
   ·have := sortC_lt hs e (by omega)
    exfalso
    grind
  rw [hz] at h1 ⊢
  have ht : t = (pcAt l 0).f := Rat.le_antisymm h2 h1
  refine ⟨?_, .inr ⟨rfl, ht⟩⟩
  show valR (pcAt l 0) (t - (pcAt l 0).f) = _
  unfold valR
  rw [ht]
  grind
theorem Sum.first (h : Sum op a b tms s) {l : List PcQ} (hl : ∀ p ∈ l, p ∈ a ∨ p ∈ b) (hpos : 0 < tms.length) : ∀ p ∈ l, tms[0] ≤ p.f := fun p hp => by
 obtain ⟨j, hj, hpj⟩ := h.has (hl p hp)
 rw [← hpj]
 exact h.asc (Nat.zero_le _) hj
theorem Sum.before (h : Sum op a b tms s) {t : Rat} (hk : pcI s t < 0) {l : List PcQ} (hl : ∀ p ∈ l, p ∈ a ∨ p ∈ b) : pcI l t < 0 := pcI_neg fun p hp e => by
 obtain ⟨j, hj, hpj⟩ := h.has (hl p hp)
 have := pcI_later (l := s) (t := t) (j := j) (by omega) (by rw [h.len];exact hj)
 rw [h.at hj] at this
 rw [← hpj] at e
 exact this e
theorem Sum.value (h : Sum op a b tms s) {c : Rat} (hop : ∀ p q, op p q = p + c * q) (ha : sortC a) (hb : sortC b) (ha0 : a ≠ []) (hb0 : b ≠ []) (t : Rat) : vaX s t = op (vaX a t) (vaX b t) := by
 by_cases hk : pcI s t < 0
 ·have hpos : 0 < tms.length := by
   obtain ⟨p, hp⟩ : ∃ p, p ∈ a := ⟨_, List.getElem_mem (List.length_pos_iff.2 ha0)⟩
   obtain ⟨j, hj, _⟩ := h.has (.inl hp)
   omega
  have h1 := h.before hk (l := a) fun p hp => .inl hp
  have h2 := h.before hk (l := b) fun p hp => .inr hp
  have h3 := (vaX_first ha (h.first (fun p hp => .inl hp) hpos) ha0).1
  have h4 := (vaX_first hb (h.first (fun p hp => .inr hp) hpos) hb0).1
  have h5 : vaX s t = (pcAt s 0).a := if_pos hk
  have h6 : vaX a t = (pcAt a 0).a := if_pos h1
  have h7 : vaX b t = (pcAt b 0).a := if_pos h2
  rw [h5, h6, h7, h.at hpos, ← h3, ← h4]
 ·have hlt := pcI_lt s t
  rw [h.len] at hlt
  obtain ⟨k, hkk⟩ : ∃ k : Nat, pcI s t = k := ⟨(pcI s t).toNat, by omega⟩
  have hkl : k < tms.length := by omega
  have h1 := vaX_step (h.idx hkk (l := a) (fun p hp => .inl hp) hkl)
  have h2 := vaX_step (h.idx hkk (l := b) (fun p hp => .inr hp) hkl)
  have h3 : vaX s t = valR (pcAt s k) (t - (pcAt s k).f) := by
   unfold vaX
   rw [if_neg hk, show (pcI s t).toNat = k by omega]
  rw [h3, h.at hkl, h1, h2]
  unfold valR
  simp only [hop]
  grind
end
end Go.Proofs.YtlncmkafjjomgaaGreat
set_option linter.unusedSimpArgs false
namespace Go.Proofs.YtlncmkafjjomgaaGreat
set_option linter.unusedVariables false
open Go Go.RowKit
def toR (p : PcQ) : PieceR := ⟨p.f.num, p.f.den, p.a.num, p.a.den, p.b.num, p.b.den, p.c.num, p.c.den⟩
theorem toR_row (l : List PcQ) : (l.map toR).map PieceR.row = l.map PcQ.row := by
 rw [List.map_map]
 exact List.map_congr_left fun p _ => rfl
theorem curveP_of {l : List PcQ} (hl : okC l) (hs : sortC l) (h1 : 1 ≤ l.length) (h2 : l.length ≤ 200) : curveP (l.map toR) := by
 have hat : ∀ i, i < l.length → fromK (l.map toR) i = (pcAt l i).f := fun i hi => by
  have hx : l[i]? = some l[i] := List.getElem?_eq_getElem hi
  rw [pcAt_of hx, fromK_of (x := toR l[i]) (by rw [List.getElem?_map, hx];rfl)]
  exact ratV_self _
 refine ⟨by rw [List.length_map];exact ⟨h1, h2⟩, fun p hp => ?_, fun i hi => ?_⟩
 ·obtain ⟨x, hx, rfl⟩ := List.mem_map.1 hp
  have := hl x hx
  exact ⟨this.f.valid, this.a.valid, this.b.valid, this.c.valid⟩
 ·rw [List.length_map] at hi
  rw [hat i (by omega), hat (i + 1) (by omega)]
  exact hs i (by omega)
theorem qua_validQ (l : List PcQ) (hl : okC l) (hs : sortC l) (h1 : 1 ≤ l.length) (h2 : l.length ≤ 200) : Fn0 Tryz.prog 38 [.sl (l.map PcQ.row)] (.b true) := by
 have := qua_valid (l.map toR) (by rw [List.length_map];omega)
 rw [toR_row, decide_eq_true (curveP_of hl hs h1 h2)] at this
 exact this
theorem Sum.ok {op : Rat → Rat → Rat} {a b s : List PcQ} {tms : List Rat} (h : Sum op a b tms s) (ha : okC a) (hb : okC b) : okC s := fun p hp => by
 rw [h.hs] at hp
 obtain ⟨t, ht, rfl⟩ := List.mem_map.1 hp
 exact ⟨timesQ_fits a b ha hb t (h.ht ▸ ht), kQ_fits _, kQ_fits _, kQ_fits _⟩
theorem Sum.sort {op : Rat → Rat → Rat} {a b s : List PcQ} {tms : List Rat} (h : Sum op a b tms s) : sortC s := fun i hi => by
 rw [h.len] at hi
 rw [h.at (by omega), h.at hi]
 have hp : tms.Pairwise (· < ·) := by rw [h.ht];exact asc_putAll _
 exact List.pairwise_iff_getElem.1 hp i (i + 1) (by omega) hi (by omega)
theorem Sum.pos {op : Rat → Rat → Rat} {a b s : List PcQ} {tms : List Rat} (h : Sum op a b tms s) (ha0 : a ≠ []) : 0 < tms.length := by
 obtain ⟨p, hp⟩ : ∃ p, p ∈ a := ⟨_, List.getElem_mem (List.length_pos_iff.2 ha0)⟩
 obtain ⟨j, hj, _⟩ := h.has (.inl hp)
 omega
end Go.Proofs.YtlncmkafjjomgaaGreat
