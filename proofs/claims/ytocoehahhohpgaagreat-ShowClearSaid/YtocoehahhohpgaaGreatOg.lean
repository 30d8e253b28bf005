/- Plain laws: exact values of curves, of sums of curves, of moved curves. No conditions but those of each statement. -/
import Derived.Test.YtocoehahhohpgaaGreatOc
import Derived.Test.YtocoehahhohpgaaGreatMd
import Derived.Test.YtocoehahhohpgaaGreatNq
set_option linter.unusedSimpArgs false
set_option linter.unusedVariables false
namespace Go.Proofs.YtocoehahhohpgaaGreat
def vaX (l : List PcQ) (t : Rat) : Rat := if pcI l t < 0 then (A5 l 0).a else Gg (A5 l (pcI l t).toNat) (t - (A5 l (pcI l t).toNat).f)
def slX (l : List PcQ) (t : Rat) : Rat := if pcI l t < 0 then 0 else Xa (A5 l (pcI l t).toNat) (t - (A5 l (pcI l t).toNat).f)
theorem Ab2 {l : List PcQ} {t : Rat} (h : atE l t 0 = 0) : atQ l t = vaX l t := by
 unfold atQ vaX
 unfold atE at h
 by_cases hk : pcI l t < 0
 ·rw [if_pos hk, if_pos hk]
 ·rw [if_neg hk] at h ⊢
  rw [if_neg hk]
  generalize A5 l (pcI l t).toNat = p at *
  by_cases h1 : Fits (t - p.f)
  ·rw [C5 h1] at h ⊢
   rw [C7 h1] at h
   by_cases h2 : okV p (t - p.f)
   ·exact (I5 h2 0).1
   ·rw [P5 h2] at h;cases h
  ·rw [Cp h1, Dx] at h;cases h
theorem Ab3 {l : List PcQ} {t : Rat} (h : Np l t 0 = 0) : atS l t = slX l t := by
 unfold atS slX
 unfold Np at h
 by_cases hk : pcI l t < 0
 ·rw [if_pos hk, if_pos hk]
 ·rw [if_neg hk] at h ⊢
  rw [if_neg hk]
  generalize A5 l (pcI l t).toNat = p at *
  by_cases h1 : Fits (t - p.f)
  ·rw [C5 h1] at h ⊢
   rw [C7 h1] at h
   by_cases h2 : okS p (t - p.f)
   ·exact (A9s h2 0).1
   ·rw [Aag h2] at h;cases h
  ·rw [Cp h1, Kf] at h;cases h
theorem Un (l : List PcQ) (s t : Rat) : ∀ k : Nat, (∀ i, i < k -> ((A5 l i).f <= s ↔ (A5 l i).f <= t)) -> pcK l s k = pcK l t k
 | 0, _ => rfl
 | k + 1, h => by
  rw [pcK, pcK, Un l s t k fun i hi => h i (by omega)]
  have := h k (by omega)
  by_cases e : (A5 l k).f <= s
  ·rw [if_pos e, if_pos (this.1 e)]
  ·rw [if_neg e, if_neg fun k => e (this.2 k)]
theorem A3a {l : List PcQ} {s t : Rat} (h : ∀ p ∈ l, (p.f <= s ↔ p.f <= t)) : pcI l s = pcI l t := Un l s t _ fun i hi => h _ (by
 rw [Bf (List.getElem?_eq_getElem hi)];exact List.getElem_mem hi)
theorem Qt (l : List PcQ) (t : Rat) : ∀ k : Nat, (∀ i : Nat, pcK l t k = i -> (A5 l i).f <= t) /\ ∀ j : Nat, pcK l t k < j -> j < k -> ¬ (A5 l j).f <= t
 | 0 => ⟨fun i h => (by simp [pcK] at h), fun j _ h => (by omega)⟩
 | k + 1 => by
  obtain ⟨h1, h2⟩ := Qt l t k
  rw [pcK]
  by_cases e : (A5 l k).f <= t
  ·rw [if_pos e]
   refine ⟨fun i hi => ?_, fun j h3 h4 => (by omega)⟩
   obtain rfl : k = i := by omega
   exact e
  ·rw [if_neg e]
   refine ⟨h1, fun j h3 h4 => ?_⟩
   by_cases e2 : j = k
   ·subst e2;exact e
   ·exact h2 j h3 (by omega)
theorem Rl {l : List PcQ} {t : Rat} (h : ¬ pcI l t < 0) : (A5 l (pcI l t).toNat).f <= t := (Qt l t l.length).1 _ (by show pcI l t = _;omega)
theorem Nn {l : List PcQ} {t : Rat} {j : Nat} (h : pcI l t < j) (hj : j < l.length) : ¬ (A5 l j).f <= t := (Qt l t l.length).2 j h hj
theorem Rk (l : List PcQ) (t : Rat) : pcI l t < l.length := (Kc l t l.length).2
theorem Wi {l : List PcQ} (hs : As l) {i j : Nat} (hij : i < j) (hj : j < l.length) : (A5 l i).f < (A5 l j).f := by
 induction j with
 | zero => omega
 | succ j ih =>
  have h1 := hs j hj
  by_cases e : i = j
  ·subst e;exact h1
  ·have h2 := ih (by omega) (by omega)
   grind
theorem Aab (p : PcQ) (s t : Rat) : Gg p (t - p.f) = Gg p (s - p.f) + (Xa p (s - p.f) + p.c * (t - s)) * (t - s) := by
 unfold Gg Xa
 grind
theorem Xt {l : List PcQ} {s t : Rat} (h : pcI l s = pcI l t) : vaX l t = vaX l s + (slX l s + atC l s * (t - s)) * (t - s) := by
 unfold vaX slX atC
 rw [<- h]
 by_cases hk : pcI l s < 0
 ·rw [if_pos hk, if_pos hk, if_pos hk, if_pos hk];grind
 ·rw [if_neg hk, if_neg hk, if_neg hk, if_neg hk]
  exact Aab _ s t
theorem A9m {op : Rat -> Rat -> Rat} {a b : List PcQ} {t : Rat} (h : jE op a b t 0 = 0) : F1 a t 0 = 0 /\ F1 b t 0 = 0 /\ Fits (op (atP a t).a (atP b t).a) /\ Fits (op (atP a t).b (atP b t).b) /\ Fits (op (atP a t).c (atP b t).c) := by
 unfold jE at h
 rcases P6 a t with e1 | e1 <;> rw [e1] at h
 ·rcases P6 b t with e2 | e2 <;> rw [e2] at h
  ·by_cases h1 : Fits (op (atP a t).a (atP b t).a)
   ·rw [C7 h1] at h
    by_cases h2 : Fits (op (atP a t).b (atP b t).b)
    ·rw [C7 h2] at h
     by_cases h3 : Fits (op (atP a t).c (atP b t).c)
     ·exact ⟨e1, e2, h1, h2, h3⟩
     ·rw [Cp h3] at h;cases h
    ·rw [Cp h2, Ap] at h;cases h
   ·rw [Cp h1, Ap, Ap] at h;cases h
  ·rw [Ap, Ap, Ap] at h;cases h
 ·rw [Nq, Ap, Ap, Ap] at h;cases h
theorem Abu (op : Rat -> Rat -> Rat) (a b : List PcQ) (t : Rat) : jE op a b t 0 = 0 \/ jE op a b t 0 = 5 := by
 unfold jE
 rcases P6 a t with e1 | e1 <;> rw [e1]
 ·exact Gb _ (Gb _ (Gb _ (P6 b t)))
 ·rw [Nq, Ap, Ap, Ap];exact .inr rfl
theorem A0l {op : Rat -> Rat -> Rat} {a b : List PcQ} : ∀ {l : List Rat}, jEs op a b l = 0 -> ∀ t ∈ l, jE op a b t 0 = 0
 | [], _, t, ht => by simp at ht
 | s :: l, h, t, ht => by
  unfold jEs at h
  rw [List.foldl_cons] at h
  rcases Abu op a b s with e | e
  ·rw [e] at h
   rcases List.mem_cons.1 ht with rfl | ht
   ·exact e
   ·exact A0l h t ht
  ·rw [e, A6m] at h;cases h
theorem A33 {l : List PcQ} {t : Rat} (h : F1 l t 0 = 0) : atE l t 0 = 0 /\ Np l t 0 = 0 := by
 rw [A0q] at h
 split at h
 ·exact ⟨by assumption, h⟩
 ·cases h
theorem A4b {l : List PcQ} {t : Rat} (h : F1 l t 0 = 0) : atP l t = ⟨t, vaX l t, slX l t, atC l t⟩ := by
 obtain ⟨h1, h2⟩ := A33 h
 rw [Abh, Ab2 h1, Ab3 h2]
theorem Abq {op : Rat -> Rat -> Rat} {a b : List PcQ} {t : Rat} (h : jE op a b t 0 = 0) : jP op a b t = ⟨t, op (vaX a t) (vaX b t), op (slX a t) (slX b t), op (atC a t) (atC b t)⟩ := by
 obtain ⟨h1, h2, h3, h4, h5⟩ := A9m h
 unfold jP
 rw [C5 h3, C5 h4, C5 h5, A4b h1, A4b h2]
theorem A9y {l : List PcQ} {t : Rat} (h : ∀ p ∈ l, ¬ p.f <= t) : pcI l t < 0 := by
 rcases Int.lt_or_le (pcI l t) 0 with e | e
 ·exact e
 ·have h1 : ¬ pcI l t < 0 := by omega
  exact absurd (Rl h1) (h _ (List.mem_of_getElem? (Sc h1)))
structure Sum (op : Rat -> Rat -> Rat) (a b : List PcQ) (tms : List Rat) (s : List PcQ) : Prop where
 ht : tms = Au a b
 hs : s = tms.map (jP op a b)
 h0 : jEs op a b tms = 0
section
variable {op : Rat -> Rat -> Rat} {a b s : List PcQ} {tms : List Rat}
theorem Sum.len (h : Sum op a b tms s) : s.length = tms.length := by rw [h.hs, List.length_map]
theorem Sum.at (h : Sum op a b tms s) {k : Nat} (hk : k < tms.length) : A5 s k = ⟨tms[k], op (vaX a tms[k]) (vaX b tms[k]), op (slX a tms[k]) (slX b tms[k]), op (atC a tms[k]) (atC b tms[k])⟩ := by
 have := A0l h.h0 tms[k] (List.getElem_mem hk)
 rw [<- Abq this]
 refine Bf ?_
 rw [h.hs, List.getElem?_map, List.getElem?_eq_getElem hk]
 rfl
theorem Sum.asc (h : Sum op a b tms s) {i j : Nat} (hij : i <= j) (hj : j < tms.length) : tms[i]'(by omega) <= tms[j] := by
 by_cases e : i = j
 ·subst e;exact Rat.le_refl
 ·have hp : tms.Pairwise (· < ·) := by rw [h.ht];exact Mr _
  exact Rat.le_of_lt (List.pairwise_iff_getElem.1 hp i j (by omega) hj (by omega))
theorem Sum.has (h : Sum op a b tms s) {p : PcQ} (hp : p ∈ a \/ p ∈ b) : ∃ j, ∃ hj : j < tms.length, tms[j] = p.f := by
 have : p.f ∈ tms := by
  rw [h.ht, Au, En]
  exact List.mem_map.2 ⟨p, List.mem_append.2 hp, rfl⟩
 obtain ⟨j, hj, e⟩ := List.getElem_of_mem this
 exact ⟨j, hj, e⟩
theorem Sum.idx (h : Sum op a b tms s) {t : Rat} {k : Nat} (hk : pcI s t = k) {l : List PcQ} (hl : ∀ p ∈ l, p ∈ a \/ p ∈ b) (hkl : k < tms.length) : pcI l tms[k] = pcI l t := by
 have h1 : tms[k] <= t := by
  have := Rl (l := s) (t := t) (by omega)
  rw [show (pcI s t).toNat = k by omega, h.at hkl] at this
  exact this
 refine A3a fun p hp => ⟨fun e => Rat.le_trans e h1, fun e => ?_⟩
 obtain ⟨j, hj, hpj⟩ := h.has (hl p hp)
 rw [<- hpj]
 rcases Nat.lt_or_ge k j with hkj | hkj
 ·have := Nn (l := s) (t := t) (j := j) (by omega) (by rw [h.len];exact hj)
  rw [h.at hj] at this
  exact absurd (by rw [<- hpj] at e;exact e) this
 ·exact h.asc hkj hkl
theorem Ur {l : List PcQ} {t : Rat} (hs : As l) (hl : ∀ p ∈ l, t <= p.f) (h0 : l ≠ []) : vaX l t = (A5 l 0).a /\ (pcI l t < 0 \/ pcI l t = 0 /\ t = (A5 l 0).f) := by
 unfold vaX
 by_cases hk : pcI l t < 0
 ·rw [if_pos hk];exact ⟨rfl, .inl hk⟩
 ·rw [if_neg hk]
  have h1 := Rl hk
  have hpos := List.length_pos_iff.2 h0
  have h2 := hl _ (List.getElem_mem hpos)
  rw [<- Bf (List.getElem?_eq_getElem hpos)] at h2
  have hlt := Rk l t
  have hz : pcI l t = 0 := by
   rcases Nat.eq_zero_or_pos (pcI l t).toNat with e | e
   ·omega
   ·have := Wi hs e (by omega)
    exfalso
    grind
  rw [hz] at h1 ⊢
  have ht : t = (A5 l 0).f := Rat.le_antisymm h2 h1
  refine ⟨?_, .inr ⟨rfl, ht⟩⟩
  show Gg (A5 l 0) (t - (A5 l 0).f) = _
  unfold Gg
  rw [ht]
  grind
theorem Sum.first (h : Sum op a b tms s) {l : List PcQ} (hl : ∀ p ∈ l, p ∈ a \/ p ∈ b) (hpos : 0 < tms.length) : ∀ p ∈ l, tms[0] <= p.f := fun p hp => by
 obtain ⟨j, hj, hpj⟩ := h.has (hl p hp)
 rw [<- hpj]
 exact h.asc (Nat.zero_le _) hj
theorem Sum.before (h : Sum op a b tms s) {t : Rat} (hk : pcI s t < 0) {l : List PcQ} (hl : ∀ p ∈ l, p ∈ a \/ p ∈ b) : pcI l t < 0 := A9y fun p hp e => by
 obtain ⟨j, hj, hpj⟩ := h.has (hl p hp)
 have := Nn (l := s) (t := t) (j := j) (by omega) (by rw [h.len];exact hj)
 rw [h.at hj] at this
 rw [<- hpj] at e
 exact this e
theorem Sum.value (h : Sum op a b tms s) {c : Rat} (hop : ∀ p q, op p q = p + c * q) (ha : As a) (hb : As b) (ha0 : a ≠ []) (hb0 : b ≠ []) (t : Rat) : vaX s t = op (vaX a t) (vaX b t) := by
 by_cases hk : pcI s t < 0
 ·have hpos : 0 < tms.length := by
   obtain ⟨p, hp⟩ : ∃ p, p ∈ a := ⟨_, List.getElem_mem (List.length_pos_iff.2 ha0)⟩
   obtain ⟨j, hj, _⟩ := h.has (.inl hp)
   omega
  have h1 := h.before hk (l := a) fun p hp => .inl hp
  have h2 := h.before hk (l := b) fun p hp => .inr hp
  have h3 := (Ur ha (h.first (fun p hp => .inl hp) hpos) ha0).1
  have h4 := (Ur hb (h.first (fun p hp => .inr hp) hpos) hb0).1
  have h5 : vaX s t = (A5 s 0).a := if_pos hk
  have h6 : vaX a t = (A5 a 0).a := if_pos h1
  have h7 : vaX b t = (A5 b 0).a := if_pos h2
  rw [h5, h6, h7, h.at hpos, <- h3, <- h4]
 ·have hlt := Rk s t
  rw [h.len] at hlt
  obtain ⟨k, hkk⟩ : ∃ k : Nat, pcI s t = k := ⟨(pcI s t).toNat, by omega⟩
  have hkl : k < tms.length := by omega
  have h1 := Xt (h.idx hkk (l := a) (fun p hp => .inl hp) hkl)
  have h2 := Xt (h.idx hkk (l := b) (fun p hp => .inr hp) hkl)
  have h3 : vaX s t = Gg (A5 s k) (t - (A5 s k).f) := by
   unfold vaX
   rw [if_neg hk, show (pcI s t).toNat = k by omega]
  rw [h3, h.at hkl, h1, h2]
  unfold Gg
  simp only [hop]
  grind
end
end Go.Proofs.YtocoehahhohpgaaGreat
namespace Go.Proofs.YtocoehahhohpgaaGreat
open Go Go.RowKit
def toR (p : PcQ) : PieceR := ⟨p.f.num, p.f.den, p.a.num, p.a.den, p.b.num, p.b.den, p.c.num, p.c.den⟩
theorem Aa2 (l : List PcQ) : (l.map toR).map PieceR.row = l.map PcQ.row := by
 rw [List.map_map]
 exact List.map_congr_left fun p _ => rfl
theorem A66 {l : List PcQ} (hl : okC l) (hs : As l) (h1 : 1 <= l.length) (h2 : l.length <= 200) : O9 (l.map toR) := by
 have hat : ∀ i, i < l.length -> Mc (l.map toR) i = (A5 l i).f := fun i hi => by
  have hx : l[i]? = some l[i] := List.getElem?_eq_getElem hi
  rw [Bf hx, Gd (x := toR l[i]) (by rw [List.getElem?_map, hx];rfl)]
  exact Uw _
 refine ⟨by rw [List.length_map];exact ⟨h1, h2⟩, fun p hp => ?_, fun i hi => ?_⟩
 ·obtain ⟨x, hx, rfl⟩ := List.mem_map.1 hp
  have := hl x hx
  exact ⟨this.f.valid, this.a.valid, this.b.valid, this.c.valid⟩
 ·rw [List.length_map] at hi
  rw [hat i (by omega), hat (i + 1) (by omega)]
  exact hs i (by omega)
theorem Ha (l : List PcQ) (hl : okC l) (hs : As l) (h1 : 1 <= l.length) (h2 : l.length <= 200) : Fn0 Tryz.prog 95 [.sl (l.map PcQ.row)] (.b true) := by
 have := Vm (l.map toR) (by rw [List.length_map];omega)
 rw [Aa2, decide_eq_true (A66 hl hs h1 h2)] at this
 exact this
theorem Sum.ok {op : Rat -> Rat -> Rat} {a b s : List PcQ} {tms : List Rat} (h : Sum op a b tms s) (ha : okC a) (hb : okC b) : okC s := fun p hp => by
 rw [h.hs] at hp
 obtain ⟨t, ht, rfl⟩ := List.mem_map.1 hp
 exact ⟨Ks a b ha hb t (h.ht ▸ ht), Az _, Az _, Az _⟩
theorem Sum.sort {op : Rat -> Rat -> Rat} {a b s : List PcQ} {tms : List Rat} (h : Sum op a b tms s) : As s := fun i hi => by
 rw [h.len] at hi
 rw [h.at (by omega), h.at hi]
 have hp : tms.Pairwise (· < ·) := by rw [h.ht];exact Mr _
 exact List.pairwise_iff_getElem.1 hp i (i + 1) (by omega) hi (by omega)
theorem Sum.pos {op : Rat -> Rat -> Rat} {a b s : List PcQ} {tms : List Rat} (h : Sum op a b tms s) (ha0 : a ≠ []) : 0 < tms.length := by
 obtain ⟨p, hp⟩ : ∃ p, p ∈ a := ⟨_, List.getElem_mem (List.length_pos_iff.2 ha0)⟩
 obtain ⟨j, hj, _⟩ := h.has (.inl hp)
 omega
end Go.Proofs.YtocoehahhohpgaaGreat
namespace Go.Proofs.YtocoehahhohpgaaGreat
theorem Nm {A : List PcQ} {fr te : Rat} : ∀ {n : Nat} {r : List Lf}, E6 A fr te n = some r -> ∃ j, j < n /\ Cb A fr te j = some r /\ ∀ i, i < j -> Cb A fr te i = none
 | 0, r, h => by cases h
 | n + 1, r, h => by
  rw [E6] at h
  cases e : E6 A fr te n with
  | some q =>
   rw [e] at h
   injection h with h
   subst h
   obtain ⟨j, h1, h2, h3⟩ := Nm e
   exact ⟨j, by omega, h2, h3⟩
  | none =>
   rw [e] at h
   have hn : ∀ n, E6 A fr te n = none -> ∀ i, i < n -> Cb A fr te i = none := fun n => by
    induction n with
    | zero => intro _ i hi;omega
    | succ n ih =>
     intro h i hi
     rw [E6] at h
     cases e : E6 A fr te n with
     | some q => rw [e] at h;cases h
     | none =>
      rw [e] at h
      by_cases e2 : i = n
      ·subst e2;exact h
      ·exact ih e i (by omega)
   exact ⟨n, by omega, h, hn n e⟩
structure Lies (l : List PcQ) (fr te t : Rat) (i : Nat) : Prop where
 lt : i < (A4 l fr).length
 val : vaX l t = vR (A5 (A4 l fr) i) t
 ge : ptA (A4 l fr) fr i <= t
 le : t <= ptB (A4 l fr) te i
 inn : ¬ Ax (A4 l fr) fr te i
 past : ∀ j, j < i -> ptB (A4 l fr) te j <= t
theorem Ac6 {l : List PcQ} {fr te t : Rat} (hs : As l) (h1 : fr <= t) (h2 : t <= te) : Lies l fr te t (pcI l t + 1).toNat := by
 have hr := (Kc l t l.length).1
 have hr' : -1 <= pcI l t := hr
 have hlt := Rk l t
 have hlen : (A4 l fr).length = l.length + 1 := rfl
 have hA : ∀ j, A5 (A4 l fr) (j + 1) = A5 l j := fun j => V7 _ _ _
 obtain ⟨i, hi⟩ : ∃ i : Nat, (pcI l t + 1).toNat = i := ⟨_, rfl⟩
 rw [hi]
 have hf : ∀ j, j < i -> (A5 (A4 l fr) (j + 1)).f <= t := fun j hj => by
  rw [hA]
  have h3 := Rl (l := l) (t := t) (by omega)
  rw [show (pcI l t).toNat = i - 1 by omega] at h3
  by_cases e : j = i - 1
  ·rw [e];exact h3
  ·exact Rat.le_trans (Rat.le_of_lt (Wi hs (show j < i - 1 by omega) (by omega))) h3
 have hn : i + 1 < (A4 l fr).length -> t < (A5 (A4 l fr) (i + 1)).f := fun h => by
  rw [hA]
  exact Rat.not_le.1 (Nn (by omega) (by omega))
 have hge : ptA (A4 l fr) fr i <= t := by
  unfold ptA
  split
  ·rename_i h
   obtain ⟨j, rfl⟩ : ∃ j, i = j + 1 := ⟨i - 1, by omega⟩
   exact hf j (by omega)
  ·exact h1
 refine ⟨by omega, ?_, hge, ?_, ?_, fun j hj => ?_⟩
 ·unfold vaX
  by_cases hk : pcI l t < 0
  ·obtain rfl : i = 0 := by omega
   rw [if_pos hk]
   show (A5 l 0).a = vR ⟨fr, (A5 l 0).a, 0, 0⟩ t
   unfold vR
   grind
  ·obtain ⟨j, rfl⟩ : ∃ j, i = j + 1 := ⟨i - 1, by omega⟩
   rw [if_neg hk, hA, show (pcI l t).toNat = j by omega]
   rfl
 ·unfold ptB
  split
  ·rename_i h;exact Rat.le_of_lt (hn h.1)
  ·exact h2
 ·unfold Ax
  rintro (h | ⟨h, h3⟩)
  ·have := Rat.le_trans hge h2
   exact Rat.not_lt.2 this h
  ·exact absurd (Rat.le_trans h3 hge) (Rat.not_le.2 (hn h))
 ·unfold ptB
  split
  ·exact hf j hj
  ·rename_i h
   have h3 := hf j hj
   rcases Classical.em (te <= (A5 (A4 l fr) (j + 1)).f) with h4 | h4
   ·exact Rat.le_trans h4 h3
   ·exact absurd ⟨by omega, Rat.not_le.1 h4⟩ h
theorem A6r {A : List PcQ} {fr te : Rat} {i : Nat} (ho : ¬ Ax A fr te i) : fr <= ptA A fr i /\ ptA A fr i <= ptB A te i /\ ptB A te i <= te := by
 unfold Ax at ho
 refine ⟨?_, ?_, ?_⟩
 ·unfold ptA
  split
  ·rename_i h;exact Rat.le_of_lt h.2
  ·exact Rat.le_refl
 ·unfold ptB
  split
  ·rename_i h
   exact Rat.le_of_lt (Rat.not_le.1 fun k => ho (.inr ⟨h.1, k⟩))
  ·exact Rat.not_lt.1 fun k => ho (.inl k)
 ·unfold ptB
  split
  ·rename_i h;exact Rat.le_of_lt h.2
  ·exact Rat.le_refl
def Gj (by_ : Rat) (p : PcQ) : PcQ := ⟨p.f, p.a - by_, p.b, p.c⟩
theorem O7 {by_ : Rat} {l : List PcQ} {k : Nat} (hk : k < l.length) : A5 (l.map (Gj by_)) k = Gj by_ (A5 l k) := by
 have hx : l[k]? = some l[k] := List.getElem?_eq_getElem hk
 rw [Bf hx]
 exact Bf (by rw [List.getElem?_map, hx];rfl)
theorem A0y {by_ : Rat} {l : List PcQ} (t : Rat) : ∀ k : Nat, k <= l.length -> pcK (l.map (Gj by_)) t k = pcK l t k
 | 0, _ => rfl
 | k + 1, hk => by
  rw [pcK, pcK, A0y t k (by omega), O7 (by omega)]
  rfl
theorem A4j {by_ : Rat} {l : List PcQ} (h0 : l ≠ []) (t : Rat) : vaX (l.map (Gj by_)) t = vaX l t - by_ := by
 have hpos := List.length_pos_iff.2 h0
 have hi : pcI (l.map (Gj by_)) t = pcI l t := by
  unfold pcI
  rw [List.length_map]
  exact A0y t _ (Nat.le_refl _)
 have hlt := Rk l t
 unfold vaX
 rw [hi]
 by_cases hk : pcI l t < 0
 ·rw [if_pos hk, if_pos hk, O7 hpos]
  rfl
 ·rw [if_neg hk, if_neg hk, O7 (by omega)]
  unfold Gg Gj
  grind
theorem A88 {by_ : Rat} {l : List PcQ} (hs : As l) : As (l.map (Gj by_)) := fun i hi => by
 rw [List.length_map] at hi
 rw [O7 (by omega), O7 hi]
 exact hs i hi
end Go.Proofs.YtocoehahhohpgaaGreat
