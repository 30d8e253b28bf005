/- Plain laws: exact values of curves, of sums of curves, of moved curves. No conditions but those of each statement. -/
import Derived.Test.YtbceahipbdmocaaGreatOc
import Derived.Test.YtbceahipbdmocaaGreatMe
set_option linter.unusedSimpArgs false
set_option linter.unusedVariables false
namespace Go.Proofs.YtbceahipbdmocaaGreat
def vaX (l : List PcQ) (t : Rat) : Rat := if pcI l t < 0 then (Af l 0).a else Jm (Af l (pcI l t).toNat) (t - (Af l (pcI l t).toNat).f)
def slX (l : List PcQ) (t : Rat) : Rat := if pcI l t < 0 then 0 else Wy (Af l (pcI l t).toNat) (t - (Af l (pcI l t).toNat).f)
theorem Abq {l : List PcQ} {t : Rat} (h : atE l t 0 = 0) : atQ l t = vaX l t := by
 unfold atQ vaX
 unfold atE at h
 by_cases hk : pcI l t < 0
 ·rw [if_pos hk, if_pos hk]
 ·rw [if_neg hk] at h ⊢
  rw [if_neg hk]
  generalize Af l (pcI l t).toNat = p at *
  by_cases h1 : Fits (t - p.f)
  ·rw [Dp h1] at h ⊢
   rw [Dk h1] at h
   by_cases h2 : okV p (t - p.f)
   ·exact (Aa6 h2 0).1
   ·rw [A9s h2] at h;cases h
  ·rw [Dx h1, O1] at h;cases h
theorem Abw {l : List PcQ} {t : Rat} (h : Nv l t 0 = 0) : atS l t = slX l t := by
 unfold atS slX
 unfold Nv at h
 by_cases hk : pcI l t < 0
 ·rw [if_pos hk, if_pos hk]
 ·rw [if_neg hk] at h ⊢
  rw [if_neg hk]
  generalize Af l (pcI l t).toNat = p at *
  by_cases h1 : Fits (t - p.f)
  ·rw [Dp h1] at h ⊢
   rw [Dk h1] at h
   by_cases h2 : okS p (t - p.f)
   ·exact (Ab1 h2 0).1
   ·rw [Aa0 h2] at h;cases h
  ·rw [Dx h1, Kh] at h;cases h
theorem Uz (l : List PcQ) (s t : Rat) : ∀ k : Nat, (∀ i, i < k -> ((Af l i).f <= s ↔ (Af l i).f <= t)) -> pcK l s k = pcK l t k
 | 0, _ => rfl
 | k + 1, h => by
  rw [pcK, pcK, Uz l s t k fun i hi => h i (by omega)]
  have := h k (by omega)
  by_cases e : (Af l k).f <= s
  ·rw [if_pos e, if_pos (this.1 e)]
  ·rw [if_neg e, if_neg fun k => e (this.2 k)]
theorem A40 {l : List PcQ} {s t : Rat} (h : ∀ p ∈ l, (p.f <= s ↔ p.f <= t)) : pcI l s = pcI l t := Uz l s t _ fun i hi => h _ (by
 rw [Cf (List.getElem?_eq_getElem hi)];exact List.getElem_mem hi)
theorem Re (l : List PcQ) (t : Rat) : ∀ k : Nat, (∀ i : Nat, pcK l t k = i -> (Af l i).f <= t) /\ ∀ j : Nat, pcK l t k < j -> j < k -> ¬ (Af l j).f <= t
 | 0 => ⟨fun i h => (by simp [pcK] at h), fun j _ h => (by omega)⟩
 | k + 1 => by
  obtain ⟨h1, h2⟩ := Re l t k
  rw [pcK]
  by_cases e : (Af l k).f <= t
  ·rw [if_pos e]
   refine ⟨fun i hi => ?_, fun j h3 h4 => (by omega)⟩
   obtain rfl : k = i := by omega
   exact e
  ·rw [if_neg e]
   refine ⟨h1, fun j h3 h4 => ?_⟩
   by_cases e2 : j = k
   ·subst e2;exact e
   ·exact h2 j h3 (by omega)
theorem Sj {l : List PcQ} {t : Rat} (h : ¬ pcI l t < 0) : (Af l (pcI l t).toNat).f <= t := (Re l t l.length).1 _ (by show pcI l t = _;omega)
theorem On {l : List PcQ} {t : Rat} {j : Nat} (h : pcI l t < j) (hj : j < l.length) : ¬ (Af l j).f <= t := (Re l t l.length).2 j h hj
theorem Su (l : List PcQ) (t : Rat) : pcI l t < l.length := (Kr l t l.length).2
theorem Wr {l : List PcQ} (hs : Ba l) {i j : Nat} (hij : i < j) (hj : j < l.length) : (Af l i).f < (Af l j).f := by
 induction j with
 | zero => omega
 | succ j ih =>
  have h1 := hs j hj
  by_cases e : i = j
  ·subst e;exact h1
  ·have h2 := ih (by omega) (by omega)
   grind
theorem A9r (p : PcQ) (s t : Rat) : Jm p (t - p.f) = Jm p (s - p.f) + (Wy p (s - p.f) + p.c * (t - s)) * (t - s) := by
 unfold Jm Wy
 grind
theorem Z0 {l : List PcQ} {s t : Rat} (h : pcI l s = pcI l t) : vaX l t = vaX l s + (slX l s + atC l s * (t - s)) * (t - s) := by
 unfold vaX slX atC
 rw [<- h]
 by_cases hk : pcI l s < 0
 ·rw [if_pos hk, if_pos hk, if_pos hk, if_pos hk];grind
 ·rw [if_neg hk, if_neg hk, if_neg hk, if_neg hk]
  exact A9r _ s t
theorem Abb {op : Rat -> Rat -> Rat} {a b : List PcQ} {t : Rat} (h : jE op a b t 0 = 0) : Eu a t 0 = 0 /\ Eu b t 0 = 0 /\ Fits (op (atP a t).a (atP b t).a) /\ Fits (op (atP a t).b (atP b t).b) /\ Fits (op (atP a t).c (atP b t).c) := by
 unfold jE at h
 rcases Pn a t with e1 | e1 <;> rw [e1] at h
 ·rcases Pn b t with e2 | e2 <;> rw [e2] at h
  ·by_cases h1 : Fits (op (atP a t).a (atP b t).a)
   ·rw [Dk h1] at h
    by_cases h2 : Fits (op (atP a t).b (atP b t).b)
    ·rw [Dk h2] at h
     by_cases h3 : Fits (op (atP a t).c (atP b t).c)
     ·exact ⟨e1, e2, h1, h2, h3⟩
     ·rw [Dx h3] at h;cases h
    ·rw [Dx h2, Ay] at h;cases h
   ·rw [Dx h1, Ay, Ay] at h;cases h
  ·rw [Ay, Ay, Ay] at h;cases h
 ·rw [Nq, Ay, Ay, Ay] at h;cases h
theorem Ac7 (op : Rat -> Rat -> Rat) (a b : List PcQ) (t : Rat) : jE op a b t 0 = 0 \/ jE op a b t 0 = 5 := by
 unfold jE
 rcases Pn a t with e1 | e1 <;> rw [e1]
 ·exact G2 _ (G2 _ (G2 _ (Pn b t)))
 ·rw [Nq, Ay, Ay, Ay];exact .inr rfl
theorem A1h {op : Rat -> Rat -> Rat} {a b : List PcQ} : ∀ {l : List Rat}, jEs op a b l = 0 -> ∀ t ∈ l, jE op a b t 0 = 0
 | [], _, t, ht => by simp at ht
 | s :: l, h, t, ht => by
  unfold jEs at h
  rw [List.foldl_cons] at h
  rcases Ac7 op a b s with e | e
  ·rw [e] at h
   rcases List.mem_cons.1 ht with rfl | ht
   ·exact e
   ·exact A1h h t ht
  ·rw [e, A70] at h;cases h
theorem A4t {l : List PcQ} {t : Rat} (h : Eu l t 0 = 0) : atE l t 0 = 0 /\ Nv l t 0 = 0 := by
 rw [A1l] at h
 split at h
 ·exact ⟨by assumption, h⟩
 ·cases h
theorem A5s {l : List PcQ} {t : Rat} (h : Eu l t 0 = 0) : atP l t = ⟨t, vaX l t, slX l t, atC l t⟩ := by
 obtain ⟨h1, h2⟩ := A4t h
 rw [Abi, Abq h1, Abw h2]
theorem Ac5 {op : Rat -> Rat -> Rat} {a b : List PcQ} {t : Rat} (h : jE op a b t 0 = 0) : jP op a b t = ⟨t, op (vaX a t) (vaX b t), op (slX a t) (slX b t), op (atC a t) (atC b t)⟩ := by
 obtain ⟨h1, h2, h3, h4, h5⟩ := Abb h
 unfold jP
 rw [Dp h3, Dp h4, Dp h5, A5s h1, A5s h2]
theorem Ab4 {l : List PcQ} {t : Rat} (h : ∀ p ∈ l, ¬ p.f <= t) : pcI l t < 0 := by
 rcases Int.lt_or_le (pcI l t) 0 with e | e
 ·exact e
 ·have h1 : ¬ pcI l t < 0 := by omega
  exact absurd (Sj h1) (h _ (List.mem_of_getElem? (Yx h1)))
structure Sum (op : Rat -> Rat -> Rat) (a b : List PcQ) (tms : List Rat) (s : List PcQ) : Prop where
 ht : tms = Aq a b
 hs : s = tms.map (jP op a b)
 h0 : jEs op a b tms = 0
section
variable {op : Rat -> Rat -> Rat} {a b s : List PcQ} {tms : List Rat}
theorem Sum.len (h : Sum op a b tms s) : s.length = tms.length := by rw [h.hs, List.length_map]
theorem Sum.at (h : Sum op a b tms s) {k : Nat} (hk : k < tms.length) : Af s k = ⟨tms[k], op (vaX a tms[k]) (vaX b tms[k]), op (slX a tms[k]) (slX b tms[k]), op (atC a tms[k]) (atC b tms[k])⟩ := by
 have := A1h h.h0 tms[k] (List.getElem_mem hk)
 rw [<- Ac5 this]
 refine Cf ?_
 rw [h.hs, List.getElem?_map, List.getElem?_eq_getElem hk]
 rfl
theorem Sum.asc (h : Sum op a b tms s) {i j : Nat} (hij : i <= j) (hj : j < tms.length) : tms[i]'(by omega) <= tms[j] := by
 by_cases e : i = j
 ·subst e;exact Rat.le_refl
 ·have hp : tms.Pairwise (· < ·) := by rw [h.ht];exact M0 _
  exact Rat.le_of_lt (List.pairwise_iff_getElem.1 hp i j (by omega) hj (by omega))
theorem Sum.has (h : Sum op a b tms s) {p : PcQ} (hp : p ∈ a \/ p ∈ b) : ∃ j, ∃ hj : j < tms.length, tms[j] = p.f := by
 have : p.f ∈ tms := by
  rw [h.ht, Aq, Eg]
  exact List.mem_map.2 ⟨p, List.mem_append.2 hp, rfl⟩
 obtain ⟨j, hj, e⟩ := List.getElem_of_mem this
 exact ⟨j, hj, e⟩
theorem Sum.idx (h : Sum op a b tms s) {t : Rat} {k : Nat} (hk : pcI s t = k) {l : List PcQ} (hl : ∀ p ∈ l, p ∈ a \/ p ∈ b) (hkl : k < tms.length) : pcI l tms[k] = pcI l t := by
 have h1 : tms[k] <= t := by
  have := Sj (l := s) (t := t) (by omega)
  rw [show (pcI s t).toNat = k by omega, h.at hkl] at this
  exact this
 refine A40 fun p hp => ⟨fun e => Rat.le_trans e h1, fun e => ?_⟩
 obtain ⟨j, hj, hpj⟩ := h.has (hl p hp)
 rw [<- hpj]
 rcases Nat.lt_or_ge k j with hkj | hkj
 ·have := On (l := s) (t := t) (j := j) (by omega) (by rw [h.len];exact hj)
  rw [h.at hj] at this
  exact absurd (by rw [<- hpj] at e;exact e) this
 ·exact h.asc hkj hkl
theorem Va {l : List PcQ} {t : Rat} (hs : Ba l) (hl : ∀ p ∈ l, t <= p.f) (h0 : l ≠ []) : vaX l t = (Af l 0).a /\ (pcI l t < 0 \/ pcI l t = 0 /\ t = (Af l 0).f) := by
 unfold vaX
 by_cases hk : pcI l t < 0
 ·rw [if_pos hk];exact ⟨rfl, .inl hk⟩
 ·rw [if_neg hk]
  have h1 := Sj hk
  have hpos := List.length_pos_iff.2 h0
  have h2 := hl _ (List.getElem_mem hpos)
  rw [<- Cf (List.getElem?_eq_getElem hpos)] at h2
  have hlt := Su l t
  have hz : pcI l t = 0 := by
   rcases Nat.eq_zero_or_pos (pcI l t).toNat with e | e
   ·omega
   ·have := Wr hs e (by omega)
    exfalso
    grind
  rw [hz] at h1 ⊢
  have ht : t = (Af l 0).f := Rat.le_antisymm h2 h1
  refine ⟨?_, .inr ⟨rfl, ht⟩⟩
  show Jm (Af l 0) (t - (Af l 0).f) = _
  unfold Jm
  rw [ht]
  grind
theorem Sum.first (h : Sum op a b tms s) {l : List PcQ} (hl : ∀ p ∈ l, p ∈ a \/ p ∈ b) (hpos : 0 < tms.length) : ∀ p ∈ l, tms[0] <= p.f := fun p hp => by
 obtain ⟨j, hj, hpj⟩ := h.has (hl p hp)
 rw [<- hpj]
 exact h.asc (Nat.zero_le _) hj
theorem Sum.before (h : Sum op a b tms s) {t : Rat} (hk : pcI s t < 0) {l : List PcQ} (hl : ∀ p ∈ l, p ∈ a \/ p ∈ b) : pcI l t < 0 := Ab4 fun p hp e => by
 obtain ⟨j, hj, hpj⟩ := h.has (hl p hp)
 have := On (l := s) (t := t) (j := j) (by omega) (by rw [h.len];exact hj)
 rw [h.at hj] at this
 rw [<- hpj] at e
 exact this e
theorem Sum.value (h : Sum op a b tms s) {c : Rat} (hop : ∀ p q, op p q = p + c * q) (ha : Ba a) (hb : Ba b) (ha0 : a ≠ []) (hb0 : b ≠ []) (t : Rat) : vaX s t = op (vaX a t) (vaX b t) := by
 by_cases hk : pcI s t < 0
 ·have hpos : 0 < tms.length := by
   obtain ⟨p, hp⟩ : ∃ p, p ∈ a := ⟨_, List.getElem_mem (List.length_pos_iff.2 ha0)⟩
   obtain ⟨j, hj, _⟩ := h.has (.inl hp)
   omega
  have h1 := h.before hk (l := a) fun p hp => .inl hp
  have h2 := h.before hk (l := b) fun p hp => .inr hp
  have h3 := (Va ha (h.first (fun p hp => .inl hp) hpos) ha0).1
  have h4 := (Va hb (h.first (fun p hp => .inr hp) hpos) hb0).1
  have h5 : vaX s t = (Af s 0).a := if_pos hk
  have h6 : vaX a t = (Af a 0).a := if_pos h1
  have h7 : vaX b t = (Af b 0).a := if_pos h2
  rw [h5, h6, h7, h.at hpos, <- h3, <- h4]
 ·have hlt := Su s t
  rw [h.len] at hlt
  obtain ⟨k, hkk⟩ : ∃ k : Nat, pcI s t = k := ⟨(pcI s t).toNat, by omega⟩
  have hkl : k < tms.length := by omega
  have h1 := Z0 (h.idx hkk (l := a) (fun p hp => .inl hp) hkl)
  have h2 := Z0 (h.idx hkk (l := b) (fun p hp => .inr hp) hkl)
  have h3 : vaX s t = Jm (Af s k) (t - (Af s k).f) := by
   unfold vaX
   rw [if_neg hk, show (pcI s t).toNat = k by omega]
  rw [h3, h.at hkl, h1, h2]
  unfold Jm
  simp only [hop]
  grind
end
end Go.Proofs.YtbceahipbdmocaaGreat
namespace Go.Proofs.YtbceahipbdmocaaGreat
open Go Go.RowKit
def toR (p : PcQ) : PieceR := ⟨p.f.num, p.f.den, p.a.num, p.a.den, p.b.num, p.b.den, p.c.num, p.c.den⟩
theorem Ab6 (l : List PcQ) : (l.map toR).map PieceR.row = l.map PcQ.row := by
 rw [List.map_map]
 exact List.map_congr_left fun p _ => rfl
theorem A4n {l : List PcQ} (hl : okC l) (hs : Ba l) (h1 : 1 <= l.length) (h2 : l.length <= 200) : Nu (l.map toR) := by
 have hat : ∀ i, i < l.length -> Ma (l.map toR) i = (Af l i).f := fun i hi => by
  have hx : l[i]? = some l[i] := List.getElem?_eq_getElem hi
  rw [Cf hx, Gb (x := toR l[i]) (by rw [List.getElem?_map, hx];rfl)]
  exact Bk _
 refine ⟨by rw [List.length_map];exact ⟨h1, h2⟩, fun p hp => ?_, fun i hi => ?_⟩
 ·obtain ⟨x, hx, rfl⟩ := List.mem_map.1 hp
  have := hl x hx
  exact ⟨this.f.valid, this.a.valid, this.b.valid, this.c.valid⟩
 ·rw [List.length_map] at hi
  rw [hat i (by omega), hat (i + 1) (by omega)]
  exact hs i (by omega)
theorem Iv (l : List PcQ) (hl : okC l) (hs : Ba l) (h1 : 1 <= l.length) (h2 : l.length <= 200) : Fn0 Tryz.prog 99 [.sl (l.map PcQ.row)] (.b true) := by
 have := V4 (l.map toR) (by rw [List.length_map];omega)
 rw [Ab6, decide_eq_true (A4n hl hs h1 h2)] at this
 exact this
theorem Sum.ok {op : Rat -> Rat -> Rat} {a b s : List PcQ} {tms : List Rat} (h : Sum op a b tms s) (ha : okC a) (hb : okC b) : okC s := fun p hp => by
 rw [h.hs] at hp
 obtain ⟨t, ht, rfl⟩ := List.mem_map.1 hp
 exact ⟨L5 a b ha hb t (h.ht ▸ ht), Cg _, Cg _, Cg _⟩
theorem Sum.sort {op : Rat -> Rat -> Rat} {a b s : List PcQ} {tms : List Rat} (h : Sum op a b tms s) : Ba s := fun i hi => by
 rw [h.len] at hi
 rw [h.at (by omega), h.at hi]
 have hp : tms.Pairwise (· < ·) := by rw [h.ht];exact M0 _
 exact List.pairwise_iff_getElem.1 hp i (i + 1) (by omega) hi (by omega)
theorem Sum.pos {op : Rat -> Rat -> Rat} {a b s : List PcQ} {tms : List Rat} (h : Sum op a b tms s) (ha0 : a ≠ []) : 0 < tms.length := by
 obtain ⟨p, hp⟩ : ∃ p, p ∈ a := ⟨_, List.getElem_mem (List.length_pos_iff.2 ha0)⟩
 obtain ⟨j, hj, _⟩ := h.has (.inl hp)
 omega
end Go.Proofs.YtbceahipbdmocaaGreat
