/- Plain laws: exact values of curves, of sums of curves, of moved curves. No conditions but those of each statement. -/
import Derived.Test.YtocoehahhohpgaaGreatOc
import Derived.Test.YtocoehahhohpgaaGreatMd
import Derived.Test.YtocoehahhohpgaaGreatNq
set_option linter.unusedSimpArgs false
set_option linter.unusedVariables false
namespace Go.Proofs.YtocoehahhohpgaaGreat
def vaX (l : List PcQ) (t : Rat) : Rat := if pcI l t < 0 then (A8 l 0).a else I0 (A8 l (pcI l t).toNat) (t - (A8 l (pcI l t).toNat).f)
def slX (l : List PcQ) (t : Rat) : Rat := if pcI l t < 0 then 0 else Tu (A8 l (pcI l t).toNat) (t - (A8 l (pcI l t).toNat).f)
theorem Y6 {l : List PcQ} {t : Rat} (h : atE l t 0 = 0) : atQ l t = vaX l t := by
 unfold atQ vaX
 unfold atE at h
 by_cases hk : pcI l t < 0
 ·rw [if_pos hk, if_pos hk]
 ·rw [if_neg hk] at h ⊢
  rw [if_neg hk]
  generalize A8 l (pcI l t).toNat = p at *
  by_cases h1 : Fits (t - p.f)
  ·rw [E2 h1] at h ⊢
   rw [Dz h1] at h
   by_cases h2 : okV p (t - p.f)
   ·exact (Aam h2 0).1
   ·rw [A9v h2] at h;cases h
  ·rw [Eg h1, Ot] at h;cases h
theorem Abe {l : List PcQ} {t : Rat} (h : Np l t 0 = 0) : atS l t = slX l t := by
 unfold atS slX
 unfold Np at h
 by_cases hk : pcI l t < 0
 ·rw [if_pos hk, if_pos hk]
 ·rw [if_neg hk] at h ⊢
  rw [if_neg hk]
  generalize A8 l (pcI l t).toNat = p at *
  by_cases h1 : Fits (t - p.f)
  ·rw [E2 h1] at h ⊢
   rw [Dz h1] at h
   by_cases h2 : okS p (t - p.f)
   ·exact (A9z h2 0).1
   ·rw [Aau h2] at h;cases h
  ·rw [Eg h1, Ko] at h;cases h
theorem Uk (l : List PcQ) (s t : Rat) : ∀ k : Nat, (∀ i, i < k -> ((A8 l i).f <= s ↔ (A8 l i).f <= t)) -> pcK l s k = pcK l t k
 | 0, _ => rfl
 | k + 1, h => by
  rw [pcK, pcK, Uk l s t k fun i hi => h i (by omega)]
  have := h k (by omega)
  by_cases e : (A8 l k).f <= s
  ·rw [if_pos e, if_pos (this.1 e)]
  ·rw [if_neg e, if_neg fun k => e (this.2 k)]
theorem A37 {l : List PcQ} {s t : Rat} (h : ∀ p ∈ l, (p.f <= s ↔ p.f <= t)) : pcI l s = pcI l t := Uk l s t _ fun i hi => h _ (by
 rw [Bs (List.getElem?_eq_getElem hi)];exact List.getElem_mem hi)
theorem R4 (l : List PcQ) (t : Rat) : ∀ k : Nat, (∀ i : Nat, pcK l t k = i -> (A8 l i).f <= t) /\ ∀ j : Nat, pcK l t k < j -> j < k -> ¬ (A8 l j).f <= t
 | 0 => ⟨fun i h => (by simp [pcK] at h), fun j _ h => (by omega)⟩
 | k + 1 => by
  obtain ⟨h1, h2⟩ := R4 l t k
  rw [pcK]
  by_cases e : (A8 l k).f <= t
  ·rw [if_pos e]
   refine ⟨fun i hi => ?_, fun j h3 h4 => (by omega)⟩
   obtain rfl : k = i := by omega
   exact e
  ·rw [if_neg e]
   refine ⟨h1, fun j h3 h4 => ?_⟩
   by_cases e2 : j = k
   ·subst e2;exact e
   ·exact h2 j h3 (by omega)
theorem Si {l : List PcQ} {t : Rat} (h : ¬ pcI l t < 0) : (A8 l (pcI l t).toNat).f <= t := (R4 l t l.length).1 _ (by show pcI l t = _;omega)
theorem Ni {l : List PcQ} {t : Rat} {j : Nat} (h : pcI l t < j) (hj : j < l.length) : ¬ (A8 l j).f <= t := (R4 l t l.length).2 j h hj
theorem S7 (l : List PcQ) (t : Rat) : pcI l t < l.length := (Kk l t l.length).2
theorem Qv {l : List PcQ} (hs : Ah l) {i j : Nat} (hij : i < j) (hj : j < l.length) : (A8 l i).f < (A8 l j).f := by
 induction j with
 | zero => omega
 | succ j ih =>
  have h1 := hs j hj
  by_cases e : i = j
  ·subst e;exact h1
  ·have h2 := ih (by omega) (by omega)
   grind
theorem A9p (p : PcQ) (s t : Rat) : I0 p (t - p.f) = I0 p (s - p.f) + (Tu p (s - p.f) + p.c * (t - s)) * (t - s) := by
 unfold I0 Tu
 grind
theorem Qs {l : List PcQ} {s t : Rat} (h : pcI l s = pcI l t) : vaX l t = vaX l s + (slX l s + atC l s * (t - s)) * (t - s) := by
 unfold vaX slX atC
 rw [<- h]
 by_cases hk : pcI l s < 0
 ·rw [if_pos hk, if_pos hk, if_pos hk, if_pos hk];grind
 ·rw [if_neg hk, if_neg hk, if_neg hk, if_neg hk]
  exact A9p _ s t
theorem Ab9 {op : Rat -> Rat -> Rat} {a b : List PcQ} {t : Rat} (h : jE op a b t 0 = 0) : Fa a t 0 = 0 /\ Fa b t 0 = 0 /\ Fits (op (atP a t).a (atP b t).a) /\ Fits (op (atP a t).b (atP b t).b) /\ Fits (op (atP a t).c (atP b t).c) := by
 unfold jE at h
 rcases Ow a t with e1 | e1 <;> rw [e1] at h
 ·rcases Ow b t with e2 | e2 <;> rw [e2] at h
  ·by_cases h1 : Fits (op (atP a t).a (atP b t).a)
   ·rw [Dz h1] at h
    by_cases h2 : Fits (op (atP a t).b (atP b t).b)
    ·rw [Dz h2] at h
     by_cases h3 : Fits (op (atP a t).c (atP b t).c)
     ·exact ⟨e1, e2, h1, h2, h3⟩
     ·rw [Eg h3] at h;cases h
    ·rw [Eg h2, B7] at h;cases h
   ·rw [Eg h1, B7, B7] at h;cases h
  ·rw [B7, B7, B7] at h;cases h
 ·rw [O5, B7, B7, B7] at h;cases h
theorem A9c (op : Rat -> Rat -> Rat) (a b : List PcQ) (t : Rat) : jE op a b t 0 = 0 \/ jE op a b t 0 = 5 := by
 unfold jE
 rcases Ow a t with e1 | e1 <;> rw [e1]
 ·exact G7 _ (G7 _ (G7 _ (Ow b t)))
 ·rw [O5, B7, B7, B7];exact .inr rfl
theorem Zr {op : Rat -> Rat -> Rat} {a b : List PcQ} : ∀ {l : List Rat}, jEs op a b l = 0 -> ∀ t ∈ l, jE op a b t 0 = 0
 | [], _, t, ht => by simp at ht
 | s :: l, h, t, ht => by
  unfold jEs at h
  rw [List.foldl_cons] at h
  rcases A9c op a b s with e | e
  ·rw [e] at h
   rcases List.mem_cons.1 ht with rfl | ht
   ·exact e
   ·exact Zr h t ht
  ·rw [e, Yn] at h;cases h
theorem Ac4 (op : Rat -> Rat -> Rat) (a b : List PcQ) (l : List Rat) : jEs op a b l = 0 \/ jEs op a b l = 5 := by
 unfold jEs
 induction l with
 | nil => exact .inl rfl
 | cons t l ih =>
  rw [List.foldl_cons]
  rcases A9c op a b t with e | e <;> rw [e]
  ·exact ih
  ·exact .inr (Yn op a b l)
theorem A5c {l : List PcQ} {t : Rat} (h : Fa l t 0 = 0) : atE l t 0 = 0 /\ Np l t 0 = 0 := by
 rw [A0i] at h
 split at h
 ·exact ⟨by assumption, h⟩
 ·cases h
theorem A56 {l : List PcQ} {t : Rat} (h : Fa l t 0 = 0) : atP l t = ⟨t, vaX l t, slX l t, atC l t⟩ := by
 obtain ⟨h1, h2⟩ := A5c h
 rw [Abv, Y6 h1, Abe h2]
theorem Acf {op : Rat -> Rat -> Rat} {a b : List PcQ} {t : Rat} (h : jE op a b t 0 = 0) : jP op a b t = ⟨t, op (vaX a t) (vaX b t), op (slX a t) (slX b t), op (atC a t) (atC b t)⟩ := by
 obtain ⟨h1, h2, h3, h4, h5⟩ := Ab9 h
 unfold jP
 rw [E2 h3, E2 h4, E2 h5, A56 h1, A56 h2]
theorem Aag {l : List PcQ} {t : Rat} (h : ∀ p ∈ l, ¬ p.f <= t) : pcI l t < 0 := by
 rcases Int.lt_or_le (pcI l t) 0 with e | e
 ·exact e
 ·have h1 : ¬ pcI l t < 0 := by omega
  exact absurd (Si h1) (h _ (List.mem_of_getElem? (Y0 h1)))
structure Sum (op : Rat -> Rat -> Rat) (a b : List PcQ) (tms : List Rat) (s : List PcQ) : Prop where
 ht : tms = Ar a b
 hs : s = tms.map (jP op a b)
 h0 : jEs op a b tms = 0
section
variable {op : Rat -> Rat -> Rat} {a b s : List PcQ} {tms : List Rat}
theorem Sum.len (h : Sum op a b tms s) : s.length = tms.length := by rw [h.hs, List.length_map]
theorem Sum.at (h : Sum op a b tms s) {k : Nat} (hk : k < tms.length) : A8 s k = ⟨tms[k], op (vaX a tms[k]) (vaX b tms[k]), op (slX a tms[k]) (slX b tms[k]), op (atC a tms[k]) (atC b tms[k])⟩ := by
 have := Zr h.h0 tms[k] (List.getElem_mem hk)
 rw [<- Acf this]
 refine Bs ?_
 rw [h.hs, List.getElem?_map, List.getElem?_eq_getElem hk]
 rfl
theorem Sum.asc (h : Sum op a b tms s) {i j : Nat} (hij : i <= j) (hj : j < tms.length) : tms[i]'(by omega) <= tms[j] := by
 by_cases e : i = j
 ·subst e;exact Rat.le_refl
 ·have hp : tms.Pairwise (· < ·) := by rw [h.ht];exact J4 _
  exact Rat.le_of_lt (List.pairwise_iff_getElem.1 hp i j (by omega) hj (by omega))
theorem Sum.has (h : Sum op a b tms s) {p : PcQ} (hp : p ∈ a \/ p ∈ b) : ∃ j, ∃ hj : j < tms.length, tms[j] = p.f := by
 have : p.f ∈ tms := by
  rw [h.ht, Ar, Ew]
  exact List.mem_map.2 ⟨p, List.mem_append.2 hp, rfl⟩
 obtain ⟨j, hj, e⟩ := List.getElem_of_mem this
 exact ⟨j, hj, e⟩
theorem Sum.idx (h : Sum op a b tms s) {t : Rat} {k : Nat} (hk : pcI s t = k) {l : List PcQ} (hl : ∀ p ∈ l, p ∈ a \/ p ∈ b) (hkl : k < tms.length) : pcI l tms[k] = pcI l t := by
 have h1 : tms[k] <= t := by
  have := Si (l := s) (t := t) (by omega)
  rw [show (pcI s t).toNat = k by omega, h.at hkl] at this
  exact this
 refine A37 fun p hp => ⟨fun e => Rat.le_trans e h1, fun e => ?_⟩
 obtain ⟨j, hj, hpj⟩ := h.has (hl p hp)
 rw [<- hpj]
 rcases Nat.lt_or_ge k j with hkj | hkj
 ·have := Ni (l := s) (t := t) (j := j) (by omega) (by rw [h.len];exact hj)
  rw [h.at hj] at this
  exact absurd (by rw [<- hpj] at e;exact e) this
 ·exact h.asc hkj hkl
theorem Un {l : List PcQ} {t : Rat} (hs : Ah l) (hl : ∀ p ∈ l, t <= p.f) (h0 : l ≠ []) : vaX l t = (A8 l 0).a /\ (pcI l t < 0 \/ pcI l t = 0 /\ t = (A8 l 0).f) := by
 unfold vaX
 by_cases hk : pcI l t < 0
 ·rw [if_pos hk];exact ⟨rfl, .inl hk⟩
 ·rw [if_neg hk]
  have h1 := Si hk
  have hpos := List.length_pos_iff.2 h0
  have h2 := hl _ (List.getElem_mem hpos)
  rw [<- Bs (List.getElem?_eq_getElem hpos)] at h2
  have hlt := S7 l t
  have hz : pcI l t = 0 := by
   rcases Nat.eq_zero_or_pos (pcI l t).toNat with e | e
   ·omega
   ·have := Qv hs e (by omega)
    exfalso
    grind
  rw [hz] at h1 ⊢
  have ht : t = (A8 l 0).f := Rat.le_antisymm h2 h1
  refine ⟨?_, .inr ⟨rfl, ht⟩⟩
  show I0 (A8 l 0) (t - (A8 l 0).f) = _
  unfold I0
  rw [ht]
  grind
theorem Sum.first (h : Sum op a b tms s) {l : List PcQ} (hl : ∀ p ∈ l, p ∈ a \/ p ∈ b) (hpos : 0 < tms.length) : ∀ p ∈ l, tms[0] <= p.f := fun p hp => by
 obtain ⟨j, hj, hpj⟩ := h.has (hl p hp)
 rw [<- hpj]
 exact h.asc (Nat.zero_le _) hj
theorem Sum.before (h : Sum op a b tms s) {t : Rat} (hk : pcI s t < 0) {l : List PcQ} (hl : ∀ p ∈ l, p ∈ a \/ p ∈ b) : pcI l t < 0 := Aag fun p hp e => by
 obtain ⟨j, hj, hpj⟩ := h.has (hl p hp)
 have := Ni (l := s) (t := t) (j := j) (by omega) (by rw [h.len];exact hj)
 rw [h.at hj] at this
 rw [<- hpj] at e
 exact this e
theorem Sum.value (h : Sum op a b tms s) {c : Rat} (hop : ∀ p q, op p q = p + c * q) (ha : Ah a) (hb : Ah b) (ha0 : a ≠ []) (hb0 : b ≠ []) (t : Rat) : vaX s t = op (vaX a t) (vaX b t) := by
 by_cases hk : pcI s t < 0
 ·have hpos : 0 < tms.length := by
   obtain ⟨p, hp⟩ : ∃ p, p ∈ a := ⟨_, List.getElem_mem (List.length_pos_iff.2 ha0)⟩
   obtain ⟨j, hj, _⟩ := h.has (.inl hp)
   omega
  have h1 := h.before hk (l := a) fun p hp => .inl hp
  have h2 := h.before hk (l := b) fun p hp => .inr hp
  have h3 := (Un ha (h.first (fun p hp => .inl hp) hpos) ha0).1
  have h4 := (Un hb (h.first (fun p hp => .inr hp) hpos) hb0).1
  have h5 : vaX s t = (A8 s 0).a := if_pos hk
  have h6 : vaX a t = (A8 a 0).a := if_pos h1
  have h7 : vaX b t = (A8 b 0).a := if_pos h2
  rw [h5, h6, h7, h.at hpos, <- h3, <- h4]
 ·have hlt := S7 s t
  rw [h.len] at hlt
  obtain ⟨k, hkk⟩ : ∃ k : Nat, pcI s t = k := ⟨(pcI s t).toNat, by omega⟩
  have hkl : k < tms.length := by omega
  have h1 := Qs (h.idx hkk (l := a) (fun p hp => .inl hp) hkl)
  have h2 := Qs (h.idx hkk (l := b) (fun p hp => .inr hp) hkl)
  have h3 : vaX s t = I0 (A8 s k) (t - (A8 s k).f) := by
   unfold vaX
   rw [if_neg hk, show (pcI s t).toNat = k by omega]
  rw [h3, h.at hkl, h1, h2]
  unfold I0
  simp only [hop]
  grind
end
end Go.Proofs.YtocoehahhohpgaaGreat
namespace Go.Proofs.YtocoehahhohpgaaGreat
open Go Go.RowKit
def toR (p : PcQ) : PieceR := ⟨p.f.num, p.f.den, p.a.num, p.a.den, p.b.num, p.b.den, p.c.num, p.c.den⟩
theorem A9s (l : List PcQ) : (l.map toR).map PieceR.row = l.map PcQ.row := by
 rw [List.map_map]
 exact List.map_congr_left fun p _ => rfl
theorem A58 {l : List PcQ} (hl : okC l) (hs : Ah l) (h1 : 1 <= l.length) (h2 : l.length <= 200) : Oi (l.map toR) := by
 have hat : ∀ i, i < l.length -> N0 (l.map toR) i = (A8 l i).f := fun i hi => by
  have hx : l[i]? = some l[i] := List.getElem?_eq_getElem hi
  rw [Bs hx, Gp (x := toR l[i]) (by rw [List.getElem?_map, hx];rfl)]
  exact Vf _
 refine ⟨by rw [List.length_map];exact ⟨h1, h2⟩, fun p hp => ?_, fun i hi => ?_⟩
 ·obtain ⟨x, hx, rfl⟩ := List.mem_map.1 hp
  have := hl x hx
  exact ⟨this.f.valid, this.a.valid, this.b.valid, this.c.valid⟩
 ·rw [List.length_map] at hi
  rw [hat i (by omega), hat (i + 1) (by omega)]
  exact hs i (by omega)
theorem Hl (l : List PcQ) (hl : okC l) (hs : Ah l) (h1 : 1 <= l.length) (h2 : l.length <= 200) : Fn0 Tryz.prog 95 [.sl (l.map PcQ.row)] (.b true) := by
 have := Ui (l.map toR) (by rw [List.length_map];omega)
 rw [A9s, decide_eq_true (A58 hl hs h1 h2)] at this
 exact this
theorem Sum.ok {op : Rat -> Rat -> Rat} {a b s : List PcQ} {tms : List Rat} (h : Sum op a b tms s) (ha : okC a) (hb : okC b) : okC s := fun p hp => by
 rw [h.hs] at hp
 obtain ⟨t, ht, rfl⟩ := List.mem_map.1 hp
 exact ⟨Kw a b ha hb t (h.ht ▸ ht), Cp _, Cp _, Cp _⟩
theorem Sum.sort {op : Rat -> Rat -> Rat} {a b s : List PcQ} {tms : List Rat} (h : Sum op a b tms s) : Ah s := fun i hi => by
 rw [h.len] at hi
 rw [h.at (by omega), h.at hi]
 have hp : tms.Pairwise (· < ·) := by rw [h.ht];exact J4 _
 exact List.pairwise_iff_getElem.1 hp i (i + 1) (by omega) hi (by omega)
theorem Sum.pos {op : Rat -> Rat -> Rat} {a b s : List PcQ} {tms : List Rat} (h : Sum op a b tms s) (ha0 : a ≠ []) : 0 < tms.length := by
 obtain ⟨p, hp⟩ : ∃ p, p ∈ a := ⟨_, List.getElem_mem (List.length_pos_iff.2 ha0)⟩
 obtain ⟨j, hj, _⟩ := h.has (.inl hp)
 omega
end Go.Proofs.YtocoehahhohpgaaGreat
namespace Go.Proofs.YtocoehahhohpgaaGreat
theorem Gz {A : List PcQ} {fr te : Rat} : ∀ {n : Nat} {r : List Lf}, Cm A fr te n = some r -> ∃ j, j < n /\ Bf A fr te j = some r /\ ∀ i, i < j -> Bf A fr te i = none
 | 0, r, h => by cases h
 | n + 1, r, h => by
  rw [Cm] at h
  cases e : Cm A fr te n with
  | some q =>
   rw [e] at h
   injection h with h
   subst h
   obtain ⟨j, h1, h2, h3⟩ := Gz e
   exact ⟨j, by omega, h2, h3⟩
  | none =>
   rw [e] at h
   have hn : ∀ n, Cm A fr te n = none -> ∀ i, i < n -> Bf A fr te i = none := fun n => by
    induction n with
    | zero => intro _ i hi;omega
    | succ n ih =>
     intro h i hi
     rw [Cm] at h
     cases e : Cm A fr te n with
     | some q => rw [e] at h;cases h
     | none =>
      rw [e] at h
      by_cases e2 : i = n
      ·subst e2;exact h
      ·exact ih e i (by omega)
   exact ⟨n, by omega, h, hn n e⟩
theorem S6 {A : List PcQ} {fr te : Rat} : ∀ {n : Nat}, Cm A fr te n = none -> ∀ i, i < n -> Bf A fr te i = none
 | 0, _, i, hi => by omega
 | n + 1, h, i, hi => by
  rw [Cm] at h
  cases e : Cm A fr te n with
  | some q => rw [e] at h;cases h
  | none =>
   rw [e] at h
   by_cases e2 : i = n
   ·subst e2;exact h
   ·exact S6 e i (by omega)
structure Lies (l : List PcQ) (fr te t : Rat) (i : Nat) : Prop where
 lt : i < (A4 l fr).length
 val : vaX l t = vR (A8 (A4 l fr) i) t
 ge : ptA (A4 l fr) fr i <= t
 le : t <= ptB (A4 l fr) te i
 inn : ¬ Av (A4 l fr) fr te i
 past : ∀ j, j < i -> ptB (A4 l fr) te j <= t
theorem A7q {l : List PcQ} {fr te t : Rat} (hs : Ah l) (h1 : fr <= t) (h2 : t <= te) : Lies l fr te t (pcI l t + 1).toNat := by
 have hr := (Kk l t l.length).1
 have hr' : -1 <= pcI l t := hr
 have hlt := S7 l t
 have hlen : (A4 l fr).length = l.length + 1 := rfl
 have hA : ∀ j, A8 (A4 l fr) (j + 1) = A8 l j := fun j => Eh _ _ _
 obtain ⟨i, hi⟩ : ∃ i : Nat, (pcI l t + 1).toNat = i := ⟨_, rfl⟩
 rw [hi]
 have hf : ∀ j, j < i -> (A8 (A4 l fr) (j + 1)).f <= t := fun j hj => by
  rw [hA]
  have h3 := Si (l := l) (t := t) (by omega)
  rw [show (pcI l t).toNat = i - 1 by omega] at h3
  by_cases e : j = i - 1
  ·rw [e];exact h3
  ·exact Rat.le_trans (Rat.le_of_lt (Qv hs (show j < i - 1 by omega) (by omega))) h3
 have hn : i + 1 < (A4 l fr).length -> t < (A8 (A4 l fr) (i + 1)).f := fun h => by
  rw [hA]
  exact Rat.not_le.1 (Ni (by omega) (by omega))
 have hge : ptA (A4 l fr) fr i <= t := by
  unfold ptA
  split
  ·rename_i h
   obtain ⟨j, rfl⟩ : ∃ j, i = j + 1 := ⟨i - 1, by omega⟩
   exact hf j (by omega)
  ·exact h1
 refine ⟨by omega, ?_, hge, ?_, ?_, fun j hj => ?_⟩
 ·unfold vaX
  by_cases hk : pcI l t < 0
  ·obtain rfl : i = 0 := by omega
   rw [if_pos hk]
   show (A8 l 0).a = vR ⟨fr, (A8 l 0).a, 0, 0⟩ t
   unfold vR
   grind
  ·obtain ⟨j, rfl⟩ : ∃ j, i = j + 1 := ⟨i - 1, by omega⟩
   rw [if_neg hk, hA, show (pcI l t).toNat = j by omega]
   rfl
 ·unfold ptB
  split
  ·rename_i h;exact Rat.le_of_lt (hn h.1)
  ·exact h2
 ·unfold Av
  rintro (h | ⟨h, h3⟩)
  ·have := Rat.le_trans hge h2
   exact Rat.not_lt.2 this h
  ·exact absurd (Rat.le_trans h3 hge) (Rat.not_le.2 (hn h))
 ·unfold ptB
  split
  ·exact hf j hj
  ·rename_i h
   have h3 := hf j hj
   rcases Classical.em (te <= (A8 (A4 l fr) (j + 1)).f) with h4 | h4
   ·exact Rat.le_trans h4 h3
   ·exact absurd ⟨by omega, Rat.not_le.1 h4⟩ h
theorem Mo {A : List PcQ} {fr te t : Rat} {i : Nat} (h : Bf A fr te i = none) (ho : ¬ Av A fr te i) (h1 : ptA A fr i <= t) (h2 : t <= ptB A te i) : 0 <= vR (A8 A i) t := by
 unfold Bf at h
 rw [if_neg ho] at h
 split at h
 ·cases h
 ·rename_i hv
  split at h
  ·cases h
  ·rename_i hb
   refine Rat.not_lt.1 fun hneg => ?_
   by_cases e : ptA A fr i = t
   ·rw [e] at hv;exact hv hneg
   ·have hlt : ptA A fr i < t := by
     rcases Rat.le_iff_lt_or_eq.1 h1 with h | h
     ·exact h
     ·exact absurd h e
    exact hb (Tf (O8 hlt h2) h1 h2 hneg)
theorem Gy {A : List PcQ} {fr te : Rat} {i : Nat} (ho : ¬ Av A fr te i) : fr <= ptA A fr i /\ ptA A fr i <= ptB A te i /\ ptB A te i <= te := by
 unfold Av at ho
 refine ⟨?_, ?_, ?_⟩
 ·unfold ptA
  split
  ·rename_i h;exact Rat.le_of_lt h.2
  ·exact Rat.le_refl
 ·unfold ptB
  split
  ·rename_i h
   exact Rat.le_of_lt (Rat.not_le.1 fun k => ho (.inr ⟨h.1, k⟩))
  ·exact Rat.not_lt.1 fun k => ho (.inl k)
 ·unfold ptB
  split
  ·rename_i h;exact Rat.le_of_lt h.2
  ·exact Rat.le_refl
theorem Hu {p : PcQ} {a b fr te : Rat} (hr1 : C3 fr) (hr2 : C3 te) (h : fr <= a /\ a <= b /\ b <= te) (hb : Da p a b) : ¬ Da p a (Ev b (mil (Dn p a b))) /\ mil (Dn p a b) < b := by
 have ha : C3 a := ⟨Rat.le_trans hr1.1 h.1, Rat.le_trans h.2.1 (Rat.le_trans h.2.2 hr2.2)⟩
 have hbr : C3 b := ⟨Rat.le_trans hr1.1 (Rat.le_trans h.1 h.2.1), Rat.le_trans h.2.2 hr2.2⟩
 obtain ⟨r1, r2⟩ := Jc ha
 obtain ⟨r3, r4⟩ := Jc hbr
 have hm := Kp h.2.1
 have k1 : ¬ Ft p a b (An a) := fun q => by
  have h1 := q.1
  have h2 : mil (An a) <= a := mil_le.2 (Int.le_refl _)
  unfold Ev at h1
  split at h1
  ·rename_i h3;exact Rat.not_le.2 (O8 h3 h2) h.2.1
  ·exact Rat.not_le.2 h1 h2
 have k2 : Ft p a b (An b + 2) := by
  have h1 : b < mil (An b + 2) := Rat.not_le.1 fun q => by have := mil_le.1 q;omega
  show Da p a (Ev b (mil (An b + 2)))
  unfold Ev
  rw [if_pos h1]
  exact hb
 obtain ⟨s1, s2⟩ := M1 (B := Ft p a b) (n := 64) k1 k2 (by omega) (by omega)
 refine ⟨s1, ?_⟩
 rcases Classical.em (mil (Dn p a b) < b) with h1 | h1
 ·exact h1
 ·exfalso
  apply s1
  show Da p a (Ev b (mil (Dn p a b)))
  unfold Ev
  split
  ·exact hb
  ·rename_i h2
   have h3 : mil (Dn p a b) = b := Rat.le_antisymm (Rat.not_lt.1 h2) (Rat.not_lt.1 h1)
   rw [h3];exact hb
theorem A1i {l : List PcQ} {fr te t : Rat} (hs : Ah l) (h : Au l fr te = spE 12) (h1 : fr <= t) (h2 : t <= te) : 0 <= vaX l t := by
 have hL := A7q hs h1 h2
 unfold Au at h
 cases e : Cm (A4 l fr) fr te (A4 l fr).length with
 | some r => rw [e] at h;simp [spE] at h
 | none =>
  rw [hL.val]
  exact Mo (S6 e _ hL.lt) hL.inn hL.ge hL.le
theorem Xk {l : List PcQ} {fr te t : Rat} {lo hi : Int} (hs : Ah l) (h : Au l fr te = .tup [A1 [.i lo, .i hi], .i 0]) (hr1 : C3 fr) (hr2 : C3 te) (h1 : fr <= t) (h2 : t <= te) (h3 : t <= mil (lo - 1)) : 0 <= vaX l t := by
 have hL := A7q hs h1 h2
 obtain ⟨i, hi'⟩ : ∃ i : Nat, (pcI l t + 1).toNat = i := ⟨_, rfl⟩
 rw [hi'] at hL
 have hlt : mil (lo - 1) < mil lo := by
  rcases Rat.le_iff_lt_or_eq.1 (I6 (show lo - 1 <= lo by omega)) with h | h
  ·exact h
  ·have a1 := C8 (lo - 1)
   have a2 := C8 lo
   rw [h, a2] at a1
   have : (lo : Rat) = ((lo - 1 : Int) : Rat) := a1
   have := Rat.intCast_inj.1 this
   omega
 have htl : t < mil lo := A4e h3 hlt
 unfold Au at h
 cases e : Cm (A4 l fr) fr te (A4 l fr).length with
 | none => rw [e] at h;simp [spE] at h
 | some r =>
  rw [e] at h
  have hr : r = [.i lo, .i hi] := by
   simp only [AV.tup.injEq, List.cons.injEq, and_true] at h
   have := h
   unfold A1 at this
   simp only [AV.agg.injEq] at this
   exact (List.map_inj_right (fun x y h => by injection h)).1 this
  obtain ⟨j, hj, hst, hbef⟩ := Gz e
  rw [hL.val]
  rcases Nat.lt_trichotomy i j with hij | hij | hij
  ·exact Mo (hbef i hij) hL.inn hL.ge hL.le
  ·subst hij
   unfold Bf at hst
   rw [if_neg hL.inn] at hst
   split at hst
   ·rename_i hv
    injection hst with hst
    rw [hr] at hst
    have hlo : lo = An (ptA (A4 l fr) fr i) := by
     unfold enQ at hst
     split at hst <;> (simp only [List.cons.injEq, Lf.val.injEq, Value.int.injEq, true_and] at hst;exact hst.1.symm)
    have := mil_le.2 (Int.le_of_eq hlo)
    exact absurd (Rat.le_trans hL.ge (Rat.le_of_lt htl)) (Rat.not_le.2 (by
     have h8 := A4e hL.ge htl
     exact absurd this (Rat.not_le.2 h8)))
   ·rename_i hv
    split at hst
    ·rename_i hb
     injection hst with hst
     rw [hr] at hst
     have hlo : lo = Dn (A8 (A4 l fr) i) (ptA (A4 l fr) fr i) (ptB (A4 l fr) te i) := by
      unfold Fv at hst
      split at hst <;> (simp only [List.cons.injEq, Lf.val.injEq, Value.int.injEq, true_and] at hst;exact hst.1.symm)
     obtain ⟨g1, _⟩ := Hu hr1 hr2 (Gy hL.inn) hb
     rw [<- hlo] at g1
     refine Rat.not_lt.1 fun hneg => ?_
     have hcut : t <= Ev (ptB (A4 l fr) te i) (mil lo) := by
      unfold Ev
      split
      ·exact hL.le
      ·exact Rat.le_of_lt htl
     by_cases e : ptA (A4 l fr) fr i = t
     ·rw [e] at hv;exact hv hneg
     ·have hlt2 : ptA (A4 l fr) fr i < t := by
       rcases Rat.le_iff_lt_or_eq.1 hL.ge with h | h
       ·exact h
       ·exact absurd h e
      exact g1 (Tf (O8 hlt2 hcut) hL.ge hcut hneg)
    ·cases hst
  ·exfalso
   have hp := hL.past j hij
   unfold Bf at hst
   split at hst
   ·cases hst
   ·rename_i ho
    have hab := (Gy ho).2.1
    split at hst
    ·injection hst with hst
     rw [hr] at hst
     have hlo : lo = An (ptA (A4 l fr) fr j) := by
      unfold enQ at hst
      split at hst <;> (simp only [List.cons.injEq, Lf.val.injEq, Value.int.injEq, true_and] at hst;exact hst.1.symm)
     have h7 := mil_le.2 (Int.le_of_eq hlo)
     exact Rat.not_le.2 htl (Rat.le_trans h7 (Rat.le_trans hab hp))
    ·split at hst
     ·rename_i hb
      injection hst with hst
      rw [hr] at hst
      have hlo : lo = Dn (A8 (A4 l fr) j) (ptA (A4 l fr) fr j) (ptB (A4 l fr) te j) := by
       unfold Fv at hst
       split at hst <;> (simp only [List.cons.injEq, Lf.val.injEq, Value.int.injEq, true_and] at hst;exact hst.1.symm)
      obtain ⟨g1, g2⟩ := Hu hr1 hr2 (Gy ho) hb
      rw [<- hlo] at g2
      exact Rat.not_le.2 htl (Rat.le_trans (Rat.le_of_lt g2) hp)
     ·cases hst
theorem Ue {l : List PcQ} {fr te : Rat} {lo hi : Int} (h : Au l fr te = .tup [A1 [.i lo, .i hi], .i 0]) : ∃ j, Bf (A4 l fr) fr te j = some [.i lo, .i hi] := by
 unfold Au at h
 cases e : Cm (A4 l fr) fr te (A4 l fr).length with
 | none => rw [e] at h;simp [spE] at h
 | some r =>
  rw [e] at h
  have hr : r = [.i lo, .i hi] := by
   simp only [AV.tup.injEq, List.cons.injEq, and_true] at h
   have := h
   unfold A1 at this
   simp only [AV.agg.injEq] at this
   exact (List.map_inj_right (fun x y h => by injection h)).1 this
  subst hr
  obtain ⟨j, _, hst, _⟩ := Gz e
  exact ⟨j, hst⟩
theorem Yw {l : List PcQ} {fr te : Rat} {lo hi : Int} (h : Au l fr te = .tup [A1 [.i lo, .i hi], .i 0]) (hr1 : C3 fr) (hr2 : C3 te) : An fr <= lo /\ mil lo <= te := by
 obtain ⟨j, hst⟩ := Ue h
 unfold Bf at hst
 split at hst
 ·cases hst
 ·rename_i ho
  obtain ⟨g1, g2, g3⟩ := Gy ho
  split at hst
  ·injection hst with hst
   have hlo : lo = An (ptA (A4 l fr) fr j) := by
    unfold enQ at hst
    split at hst <;> (simp only [List.cons.injEq, Lf.val.injEq, Value.int.injEq, true_and] at hst;exact hst.1.symm)
   exact ⟨by rw [hlo];exact Kp g1, Rat.le_trans (mil_le.2 (Int.le_of_eq hlo)) (Rat.le_trans g2 g3)⟩
  ·split at hst
   ·rename_i hb
    injection hst with hst
    have hlo : lo = Dn (A8 (A4 l fr) j) (ptA (A4 l fr) fr j) (ptB (A4 l fr) te j) := by
     unfold Fv at hst
     split at hst <;> (simp only [List.cons.injEq, Lf.val.injEq, Value.int.injEq, true_and] at hst;exact hst.1.symm)
    obtain ⟨q1, q2⟩ := Hu hr1 hr2 ⟨g1, g2, g3⟩ hb
    rw [<- hlo] at q1 q2
    refine ⟨?_, Rat.le_trans (Rat.le_of_lt q2) g3⟩
    -- at the beginning it is not below zero yet
    rcases Int.lt_or_le lo (An fr) with h1 | h1
    ·exfalso
     obtain ⟨r1, r2⟩ := Jc (q := ptA (A4 l fr) fr j) ⟨Rat.le_trans hr1.1 g1, Rat.le_trans (Rat.le_trans g2 g3) hr2.2⟩
     obtain ⟨r3, r4⟩ := Jc (q := ptB (A4 l fr) te j) ⟨Rat.le_trans hr1.1 (Rat.le_trans g1 g2), Rat.le_trans g3 hr2.2⟩
     have hm := Kp g2
     have hm2 := Kp g1
     have k1 : ¬ Ft (A8 (A4 l fr) j) (ptA (A4 l fr) fr j) (ptB (A4 l fr) te j) (An (ptA (A4 l fr) fr j)) := fun q => by
      have h1 := q.1
      have h2 : mil (An (ptA (A4 l fr) fr j)) <= ptA (A4 l fr) fr j := mil_le.2 (Int.le_refl _)
      unfold Ev at h1
      split at h1
      ·rename_i h3;exact Rat.not_le.2 (O8 h3 h2) g2
      ·exact Rat.not_le.2 h1 h2
     have k2 : Ft (A8 (A4 l fr) j) (ptA (A4 l fr) fr j) (ptB (A4 l fr) te j) (An (ptB (A4 l fr) te j) + 2) := by
      have h1 : ptB (A4 l fr) te j < mil (An (ptB (A4 l fr) te j) + 2) := Rat.not_le.1 fun q => by have := mil_le.1 q;omega
      show Da _ _ (Ev _ _)
      unfold Ev
      rw [if_pos h1]
      exact hb
     obtain ⟨s1, s2⟩ := M1 (B := Ft (A8 (A4 l fr) j) (ptA (A4 l fr) fr j) (ptB (A4 l fr) te j)) (n := 64) k1 k2 (by omega) (by omega)
     change Ft _ _ _ (Dn _ _ _ + 1) at s2
     rw [<- hlo] at s2
     have h3 : mil (lo + 1) <= ptA (A4 l fr) fr j := mil_le.2 (by omega)
     have h4 := s2.1
     unfold Ev at h4
     split at h4
     ·rename_i h5;exact Rat.not_le.2 (O8 h5 h3) g2
     ·exact Rat.not_le.2 h4 h3
    ·exact h1
   ·cases hst
def Fz (by_ : Rat) (p : PcQ) : PcQ := ⟨p.f, p.a - by_, p.b, p.c⟩
theorem Jy {by_ : Rat} {l : List PcQ} {k : Nat} (hk : k < l.length) : A8 (l.map (Fz by_)) k = Fz by_ (A8 l k) := by
 have hx : l[k]? = some l[k] := List.getElem?_eq_getElem hk
 rw [Bs hx]
 exact Bs (by rw [List.getElem?_map, hx];rfl)
theorem A0f {by_ : Rat} {l : List PcQ} (t : Rat) : ∀ k : Nat, k <= l.length -> pcK (l.map (Fz by_)) t k = pcK l t k
 | 0, _ => rfl
 | k + 1, hk => by
  rw [pcK, pcK, A0f t k (by omega), Jy (by omega)]
  rfl
theorem A5k {by_ : Rat} {l : List PcQ} (h0 : l ≠ []) (t : Rat) : vaX (l.map (Fz by_)) t = vaX l t - by_ := by
 have hpos := List.length_pos_iff.2 h0
 have hi : pcI (l.map (Fz by_)) t = pcI l t := by
  unfold pcI
  rw [List.length_map]
  exact A0f t _ (Nat.le_refl _)
 have hlt := S7 l t
 unfold vaX
 rw [hi]
 by_cases hk : pcI l t < 0
 ·rw [if_pos hk, if_pos hk, Jy hpos]
  rfl
 ·rw [if_neg hk, if_neg hk, Jy (by omega)]
  unfold I0 Fz
  grind
theorem A8o {by_ : Rat} {l : List PcQ} (hs : Ah l) : Ah (l.map (Fz by_)) := fun i hi => by
 rw [List.length_map] at hi
 rw [Jy (by omega), Jy hi]
 exact hs i hi
end Go.Proofs.YtocoehahhohpgaaGreat
