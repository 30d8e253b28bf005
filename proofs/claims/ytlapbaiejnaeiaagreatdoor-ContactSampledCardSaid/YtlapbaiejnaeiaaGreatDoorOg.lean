/- Lemmas of the proof. -/
import Derived.Test.YtlapbaiejnaeiaaGreatDoorMu
import Derived.Test.YtlapbaiejnaeiaaGreatDoorMd
import Derived.Test.YtlapbaiejnaeiaaGreatDoorNq
set_option linter.all false
namespace Go.Proofs.YtlapbaiejnaeiaaGreatDoor
def a9c := @Rat.le_iff_lt_or_eq
def b1i := @Int.le_of_eq
def b3h := @List.map_inj_right
def vaX (l : List PcQ) (t : Rat) : Rat := if pcI l t < 0 then (Ad l 0).a else Kf (Ad l (pcI l t).toNat) (t - (Ad l (pcI l t).toNat).f)
def slX (l : List PcQ) (t : Rat) : Rat := if pcI l t < 0 then 0 else Z1 (Ad l (pcI l t).toNat) (t - (Ad l (pcI l t).toNat).f)
theorem Wy {l : List PcQ} {t : Rat} (h : atE l t 0 = 0) : atQ l t = vaX l t := by
 unfold atQ vaX
 unfold atE at h
 by_cases hk : pcI l t < 0
 ·rw [if_pos hk, if_pos hk]
 ·rw [if_neg hk] at h ⊢
  rw [if_neg hk]
  generalize Ad l (pcI l t).toNat = p at *
  by_cases h1 : Fits (t - p.f)
  ·rw [E0 h1] at h ⊢
   rw [Dz h1] at h
   by_cases h2 : okV p (t - p.f)
   ·exact (Ae1 h2 0).1
   ·rw [Ae0 h2] at h;cases h
  ·rw [Ef h1, P7] at h;cases h
theorem Ae9 {l : List PcQ} {t : Rat} (h : Nu l t 0 = 0) : atS l t = slX l t := by
 unfold atS slX
 unfold Nu at h
 by_cases hk : pcI l t < 0
 ·rw [if_pos hk, if_pos hk]
 ·rw [if_neg hk] at h ⊢
  rw [if_neg hk]
  generalize Ad l (pcI l t).toNat = p at *
  by_cases h1 : Fits (t - p.f)
  ·rw [E0 h1] at h ⊢
   rw [Dz h1] at h
   by_cases h2 : okS p (t - p.f)
   ·exact (Adf h2 0).1
   ·rw [Ade h2] at h;cases h
  ·rw [Ef h1, Kv] at h;cases h
theorem Vq (l : List PcQ) (s t : Rat) : ∀ k : Nat, (∀ i, i < k -> ((Ad l i).f <= s ↔ (Ad l i).f <= t)) -> pcK l s k = pcK l t k
 | 0, _ => rfl
 | k + 1, h => by
  rw [pcK, pcK, Vq l s t k fun i hi => h i (by omega)]
  have := h k (by omega)
  by_cases e : (Ad l k).f <= s
  ·rw [if_pos e, if_pos (this.1 e)]
  ·rw [if_neg e, if_neg fun k => e (this.2 k)]
theorem A76 {l : List PcQ} {s t : Rat} (h : ∀ p ∈ l, (p.f <= s ↔ p.f <= t)) : pcI l s = pcI l t := Vq l s t _ fun i hi => h _ (by
 rw [C9 (a0c hi)];exact a4a hi)
theorem Rq (l : List PcQ) (t : Rat) : ∀ k : Nat, (∀ i : Nat, pcK l t k = i -> (Ad l i).f <= t) /\ ∀ j : Nat, pcK l t k < j -> j < k -> ¬ (Ad l j).f <= t
 | 0 => ⟨fun i h => (by simp [pcK] at h), fun j _ h => (by omega)⟩
 | k + 1 => by
  obtain ⟨h1, h2⟩ := Rq l t k
  rw [pcK]
  by_cases e : (Ad l k).f <= t
  ·rw [if_pos e]
   refine ⟨fun i hi => ?_, fun j h3 h4 => (by omega)⟩
   obtain rfl : k = i := by omega
   exact e
  ·rw [if_neg e]
   refine ⟨h1, fun j h3 h4 => ?_⟩
   by_cases e2 : j = k
   ·subst e2;exact e
   ·exact h2 j h3 (by omega)
theorem T5 {l : List PcQ} {t : Rat} (h : ¬ pcI l t < 0) : (Ad l (pcI l t).toNat).f <= t := (Rq l t l.length).1 _ (by show pcI l t = _;omega)
theorem Oj {l : List PcQ} {t : Rat} {j : Nat} (h : pcI l t < j) (hj : j < l.length) : ¬ (Ad l j).f <= t := (Rq l t l.length).2 j h hj
theorem T6 (l : List PcQ) (t : Rat) : pcI l t < l.length := (Ks l t l.length).2
theorem Z2 {l : List PcQ} (hs : Aj l) {i j : Nat} (hij : i < j) (hj : j < l.length) : (Ad l i).f < (Ad l j).f := by
 induction j with
 | zero => omega
 | succ j ih =>
  have h1 := hs j hj
  by_cases e : i = j
  ·subst e;exact h1
  ·have h2 := ih (by omega) (by omega)
   grind
theorem Ado (p : PcQ) (s t : Rat) : Kf p (t - p.f) = Kf p (s - p.f) + (Z1 p (s - p.f) + p.c * (t - s)) * (t - s) := by
 unfold Kf Z1
 grind
theorem Zn {l : List PcQ} {s t : Rat} (h : pcI l s = pcI l t) : vaX l t = vaX l s + (slX l s + atC l s * (t - s)) * (t - s) := by
 unfold vaX slX atC
 rw [<- h]
 by_cases hk : pcI l s < 0
 ·rw [if_pos hk, if_pos hk, if_pos hk, if_pos hk];grind
 ·rw [if_neg hk, if_neg hk, if_neg hk, if_neg hk]
  exact Ado _ s t
theorem Ach {op : Rat -> Rat -> Rat} {a b : List PcQ} {t : Rat} (h : jE op a b t 0 = 0) : Fe a t 0 = 0 /\ Fe b t 0 = 0 /\ Fits (op (atP a t).a (atP b t).a) /\ Fits (op (atP a t).b (atP b t).b) /\ Fits (op (atP a t).c (atP b t).c) := by
 unfold jE at h
 rcases P9 a t with e1 | e1 <;> rw [e1] at h
 ·rcases P9 b t with e2 | e2 <;> rw [e2] at h
  ·by_cases h1 : Fits (op (atP a t).a (atP b t).a)
   ·rw [Dz h1] at h
    by_cases h2 : Fits (op (atP a t).b (atP b t).b)
    ·rw [Dz h2] at h
     by_cases h3 : Fits (op (atP a t).c (atP b t).c)
     ·exact ⟨e1, e2, h1, h2, h3⟩
     ·rw [Ef h3] at h;cases h
    ·rw [Ef h2, B8] at h;cases h
   ·rw [Ef h1, B8, B8] at h;cases h
  ·rw [B8, B8, B8] at h;cases h
 ·rw [Nt, B8, B8, B8] at h;cases h
theorem Abz (op : Rat -> Rat -> Rat) (a b : List PcQ) (t : Rat) : jE op a b t 0 = 0 \/ jE op a b t 0 = 5 := by
 unfold jE
 rcases P9 a t with e1 | e1 <;> rw [e1]
 ·exact G7 _ (G7 _ (G7 _ (P9 b t)))
 ·rw [Nt, B8, B8, B8];exact .inr rfl
theorem A1o {op : Rat -> Rat -> Rat} {a b : List PcQ} : ∀ {l : List Rat}, jEs op a b l = 0 -> ∀ t ∈ l, jE op a b t 0 = 0
 | [], _, t, ht => by simp at ht
 | s :: l, h, t, ht => by
  unfold jEs at h
  rw [a3g] at h
  rcases Abz op a b s with e | e
  ·rw [e] at h
   rcases a1i.1 ht with rfl | ht
   ·exact e
   ·exact A1o h t ht
  ·rw [e, Y2] at h;cases h
theorem Aen (op : Rat -> Rat -> Rat) (a b : List PcQ) (l : List Rat) : jEs op a b l = 0 \/ jEs op a b l = 5 := by
 unfold jEs
 induction l with
 | nil => exact .inl rfl
 | cons t l ih =>
  rw [a3g]
  rcases Abz op a b t with e | e <;> rw [e]
  ·exact ih
  ·exact .inr (Y2 op a b l)
theorem A4t {l : List PcQ} {t : Rat} (h : Fe l t 0 = 0) : atE l t 0 = 0 /\ Nu l t 0 = 0 := by
 rw [A0z] at h
 split at h
 ·exact ⟨by assumption, h⟩
 ·cases h
theorem A4u {l : List PcQ} {t : Rat} (h : Fe l t 0 = 0) : atP l t = ⟨t, vaX l t, slX l t, atC l t⟩ := by
 obtain ⟨h1, h2⟩ := A4t h
 rw [Ae8, Wy h1, Ae9 h2]
theorem Afd {op : Rat -> Rat -> Rat} {a b : List PcQ} {t : Rat} (h : jE op a b t 0 = 0) : jP op a b t = ⟨t, op (vaX a t) (vaX b t), op (slX a t) (slX b t), op (atC a t) (atC b t)⟩ := by
 obtain ⟨h1, h2, h3, h4, h5⟩ := Ach h
 unfold jP
 rw [E0 h3, E0 h4, E0 h5, A4u h1, A4u h2]
theorem Ad4 {l : List PcQ} {t : Rat} (h : ∀ p ∈ l, ¬ p.f <= t) : pcI l t < 0 := by
 rcases a9p (pcI l t) 0 with e | e
 ·exact e
 ·have h1 : ¬ pcI l t < 0 := by omega
  exact absurd (T5 h1) (h _ (a0b (Ym h1)))
structure Sum (op : Rat -> Rat -> Rat) (a b : List PcQ) (tms : List Rat) (s : List PcQ) : Prop where
 ht : tms = Ap a b
 hs : s = tms.map (jP op a b)
 h0 : jEs op a b tms = 0
section
variable {op : Rat -> Rat -> Rat} {a b s : List PcQ} {tms : List Rat}
theorem Sum.len (h : Sum op a b tms s) : s.length = tms.length := by rw [h.hs, a0a]
theorem Sum.at (h : Sum op a b tms s) {k : Nat} (hk : k < tms.length) : Ad s k = ⟨tms[k], op (vaX a tms[k]) (vaX b tms[k]), op (slX a tms[k]) (slX b tms[k]), op (atC a tms[k]) (atC b tms[k])⟩ := by
 have := A1o h.h0 tms[k] (a4a hk)
 rw [<- Afd this]
 refine C9 ?_
 rw [h.hs, a0e, a0c hk]
 rfl
theorem Sum.asc (h : Sum op a b tms s) {i j : Nat} (hij : i <= j) (hj : j < tms.length) : tms[i]'(by omega) <= tms[j] := by
 by_cases e : i = j
 ·subst e;exact a4j
 ·have hp : tms.Pairwise (· < ·) := by rw [h.ht];exact M2 _
  exact a2p (a3l.1 hp i j (by omega) hj (by omega))
theorem Sum.has (h : Sum op a b tms s) {p : PcQ} (hp : p ∈ a \/ p ∈ b) : ∃ j, ∃ hj : j < tms.length, tms[j] = p.f := by
 have : p.f ∈ tms := by
  rw [h.ht, Ap, Es]
  exact a1a.2 ⟨p, a0t.2 hp, rfl⟩
 obtain ⟨j, hj, e⟩ := b2m this
 exact ⟨j, hj, e⟩
theorem Sum.idx (h : Sum op a b tms s) {t : Rat} {k : Nat} (hk : pcI s t = k) {l : List PcQ} (hl : ∀ p ∈ l, p ∈ a \/ p ∈ b) (hkl : k < tms.length) : pcI l tms[k] = pcI l t := by
 have h1 : tms[k] <= t := by
  have := T5 (l := s) (t := t) (by omega)
  rw [show (pcI s t).toNat = k by omega, h.at hkl] at this
  exact this
 refine A76 fun p hp => ⟨fun e => a0v e h1, fun e => ?_⟩
 obtain ⟨j, hj, hpj⟩ := h.has (hl p hp)
 rw [<- hpj]
 rcases a1d k j with hkj | hkj
 ·have := Oj (l := s) (t := t) (j := j) (by omega) (by rw [h.len];exact hj)
  rw [h.at hj] at this
  exact absurd (by rw [<- hpj] at e;exact e) this
 ·exact h.asc hkj hkl
theorem Wb {l : List PcQ} {t : Rat} (hs : Aj l) (hl : ∀ p ∈ l, t <= p.f) (h0 : l ≠ []) : vaX l t = (Ad l 0).a /\ (pcI l t < 0 \/ pcI l t = 0 /\ t = (Ad l 0).f) := by
 unfold vaX
 by_cases hk : pcI l t < 0
 ·rw [if_pos hk];exact ⟨rfl, .inl hk⟩
 ·rw [if_neg hk]
  have h1 := T5 hk
  have hpos := a1j.2 h0
  have h2 := hl _ (a4a hpos)
  rw [<- C9 (a0c hpos)] at h2
  have hlt := T6 l t
  have hz : pcI l t = 0 := by
   rcases a4e (pcI l t).toNat with e | e
   ·omega
   ·have := Z2 hs e (by omega)
    exfalso
    grind
  rw [hz] at h1 ⊢
  have ht : t = (Ad l 0).f := Rat.le_antisymm h2 h1
  refine ⟨?_, .inr ⟨rfl, ht⟩⟩
  show Kf (Ad l 0) (t - (Ad l 0).f) = _
  unfold Kf
  rw [ht]
  grind
theorem Sum.first (h : Sum op a b tms s) {l : List PcQ} (hl : ∀ p ∈ l, p ∈ a \/ p ∈ b) (hpos : 0 < tms.length) : ∀ p ∈ l, tms[0] <= p.f := fun p hp => by
 obtain ⟨j, hj, hpj⟩ := h.has (hl p hp)
 rw [<- hpj]
 exact h.asc (a0n _) hj
theorem Sum.before (h : Sum op a b tms s) {t : Rat} (hk : pcI s t < 0) {l : List PcQ} (hl : ∀ p ∈ l, p ∈ a \/ p ∈ b) : pcI l t < 0 := Ad4 fun p hp e => by
 obtain ⟨j, hj, hpj⟩ := h.has (hl p hp)
 have := Oj (l := s) (t := t) (j := j) (by omega) (by rw [h.len];exact hj)
 rw [h.at hj] at this
 rw [<- hpj] at e
 exact this e
theorem Sum.value (h : Sum op a b tms s) {c : Rat} (hop : ∀ p q, op p q = p + c * q) (ha : Aj a) (hb : Aj b) (ha0 : a ≠ []) (hb0 : b ≠ []) (t : Rat) : vaX s t = op (vaX a t) (vaX b t) := by
 by_cases hk : pcI s t < 0
 ·have hpos : 0 < tms.length := by
   obtain ⟨p, hp⟩ : ∃ p, p ∈ a := ⟨_, a4a (a1j.2 ha0)⟩
   obtain ⟨j, hj, _⟩ := h.has (.inl hp)
   omega
  have h1 := h.before hk (l := a) fun p hp => .inl hp
  have h2 := h.before hk (l := b) fun p hp => .inr hp
  have h3 := (Wb ha (h.first (fun p hp => .inl hp) hpos) ha0).1
  have h4 := (Wb hb (h.first (fun p hp => .inr hp) hpos) hb0).1
  have h5 : vaX s t = (Ad s 0).a := if_pos hk
  have h6 : vaX a t = (Ad a 0).a := if_pos h1
  have h7 : vaX b t = (Ad b 0).a := if_pos h2
  rw [h5, h6, h7, h.at hpos, <- h3, <- h4]
 ·have hlt := T6 s t
  rw [h.len] at hlt
  obtain ⟨k, hkk⟩ : ∃ k : Nat, pcI s t = k := ⟨(pcI s t).toNat, by omega⟩
  have hkl : k < tms.length := by omega
  have h1 := Zn (h.idx hkk (l := a) (fun p hp => .inl hp) hkl)
  have h2 := Zn (h.idx hkk (l := b) (fun p hp => .inr hp) hkl)
  have h3 : vaX s t = Kf (Ad s k) (t - (Ad s k).f) := by
   unfold vaX
   rw [if_neg hk, show (pcI s t).toNat = k by omega]
  rw [h3, h.at hkl, h1, h2]
  unfold Kf
  simp only [hop]
  grind
end
end Go.Proofs.YtlapbaiejnaeiaaGreatDoor
namespace Go.Proofs.YtlapbaiejnaeiaaGreatDoor
open Go Go.RowKit
def toR (p : PcQ) : PieceR := ⟨p.f.num, p.f.den, p.a.num, p.a.den, p.b.num, p.b.den, p.c.num, p.c.den⟩
theorem Adr (l : List PcQ) : (l.map toR).map PieceR.row = l.map PcQ.row := by
 rw [a8l]
 exact b2n fun p _ => rfl
theorem A5q {l : List PcQ} (hl : okC l) (hs : Aj l) (h1 : 1 <= l.length) (h2 : l.length <= 200) : O1 (l.map toR) := by
 have hat : ∀ i, i < l.length -> Ml (l.map toR) i = (Ad l i).f := fun i hi => by
  have hx : l[i]? = some l[i] := a0c hi
  rw [C9 hx, H2 (x := toR l[i]) (by rw [a0e, hx];rfl)]
  exact Vu _
 refine ⟨by rw [a0a];exact ⟨h1, h2⟩, fun p hp => ?_, fun i hi => ?_⟩
 ·obtain ⟨x, hx, rfl⟩ := a1a.1 hp
  have := hl x hx
  exact ⟨this.f.valid, this.a.valid, this.b.valid, this.c.valid⟩
 ·rw [a0a] at hi
  rw [hat i (by omega), hat (i + 1) (by omega)]
  exact hs i (by omega)
theorem Hz (l : List PcQ) (hl : okC l) (hs : Aj l) (h1 : 1 <= l.length) (h2 : l.length <= 200) : Fn0 Tryz.prog 124 [.sl (l.map PcQ.row)] (.b true) := by
 have := Vt (l.map toR) (by rw [a0a];omega)
 rw [Adr, decide_eq_true (A5q hl hs h1 h2)] at this
 exact this
theorem Sum.ok {op : Rat -> Rat -> Rat} {a b s : List PcQ} {tms : List Rat} (h : Sum op a b tms s) (ha : okC a) (hb : okC b) : okC s := fun p hp => by
 rw [h.hs] at hp
 obtain ⟨t, ht, rfl⟩ := a1a.1 hp
 exact ⟨L8 a b ha hb t (h.ht ▸ ht), Cp _, Cp _, Cp _⟩
theorem Sum.sort {op : Rat -> Rat -> Rat} {a b s : List PcQ} {tms : List Rat} (h : Sum op a b tms s) : Aj s := fun i hi => by
 rw [h.len] at hi
 rw [h.at (by omega), h.at hi]
 have hp : tms.Pairwise (· < ·) := by rw [h.ht];exact M2 _
 exact a3l.1 hp i (i + 1) (by omega) hi (by omega)
theorem Sum.pos {op : Rat -> Rat -> Rat} {a b s : List PcQ} {tms : List Rat} (h : Sum op a b tms s) (ha0 : a ≠ []) : 0 < tms.length := by
 obtain ⟨p, hp⟩ : ∃ p, p ∈ a := ⟨_, a4a (a1j.2 ha0)⟩
 obtain ⟨j, hj, _⟩ := h.has (.inl hp)
 omega
end Go.Proofs.YtlapbaiejnaeiaaGreatDoor
namespace Go.Proofs.YtlapbaiejnaeiaaGreatDoor
theorem J1 {A : List PcQ} {fr te : Rat} : ∀ {n : Nat} {r : List Lf}, Cs A fr te n = some r -> ∃ j, j < n /\ Bo A fr te j = some r /\ ∀ i, i < j -> Bo A fr te i = none
 | 0, r, h => by cases h
 | n + 1, r, h => by
  rw [Cs] at h
  cases e : Cs A fr te n with
  | some q =>
   rw [e] at h
   injection h with h
   subst h
   obtain ⟨j, h1, h2, h3⟩ := J1 e
   exact ⟨j, by omega, h2, h3⟩
  | none =>
   rw [e] at h
   have hn : ∀ n, Cs A fr te n = none -> ∀ i, i < n -> Bo A fr te i = none := fun n => by
    induction n with
    | zero => intro _ i hi;omega
    | succ n ih =>
     intro h i hi
     rw [Cs] at h
     cases e : Cs A fr te n with
     | some q => rw [e] at h;cases h
     | none =>
      rw [e] at h
      by_cases e2 : i = n
      ·subst e2;exact h
      ·exact ih e i (by omega)
   exact ⟨n, by omega, h, hn n e⟩
theorem Tj {A : List PcQ} {fr te : Rat} : ∀ {n : Nat}, Cs A fr te n = none -> ∀ i, i < n -> Bo A fr te i = none
 | 0, _, i, hi => by omega
 | n + 1, h, i, hi => by
  rw [Cs] at h
  cases e : Cs A fr te n with
  | some q => rw [e] at h;cases h
  | none =>
   rw [e] at h
   by_cases e2 : i = n
   ·subst e2;exact h
   ·exact Tj e i (by omega)
structure Lies (l : List PcQ) (fr te t : Rat) (i : Nat) : Prop where
 lt : i < (A5 l fr).length
 val : vaX l t = vR (Ad (A5 l fr) i) t
 ge : ptA (A5 l fr) fr i <= t
 le : t <= ptB (A5 l fr) te i
 inn : ¬ Ax (A5 l fr) fr te i
 past : ∀ j, j < i -> ptB (A5 l fr) te j <= t
theorem Aeo {l : List PcQ} {fr te t : Rat} (hs : Aj l) (h1 : fr <= t) (h2 : t <= te) : Lies l fr te t (pcI l t + 1).toNat := by
 have hr := (Ks l t l.length).1
 have hr' : -1 <= pcI l t := hr
 have hlt := T6 l t
 have hlen : (A5 l fr).length = l.length + 1 := rfl
 have hA : ∀ j, Ad (A5 l fr) (j + 1) = Ad l j := fun j => Oh _ _ _
 obtain ⟨i, hi⟩ : ∃ i : Nat, (pcI l t + 1).toNat = i := ⟨_, rfl⟩
 rw [hi]
 have hf : ∀ j, j < i -> (Ad (A5 l fr) (j + 1)).f <= t := fun j hj => by
  rw [hA]
  have h3 := T5 (l := l) (t := t) (by omega)
  rw [show (pcI l t).toNat = i - 1 by omega] at h3
  by_cases e : j = i - 1
  ·rw [e];exact h3
  ·exact a0v (a2p (Z2 hs (show j < i - 1 by omega) (by omega))) h3
 have hn : i + 1 < (A5 l fr).length -> t < (Ad (A5 l fr) (i + 1)).f := fun h => by
  rw [hA]
  exact a2m.1 (Oj (by omega) (by omega))
 have hge : ptA (A5 l fr) fr i <= t := by
  unfold ptA
  split
  ·rename_i h
   obtain ⟨j, rfl⟩ : ∃ j, i = j + 1 := ⟨i - 1, by omega⟩
   exact hf j (by omega)
  ·exact h1
 refine ⟨by omega, ?_, hge, ?_, ?_, fun j hj => ?_⟩
 ·unfold vaX
  by_cases hk : pcI l t < 0
  ·obtain rfl : i = 0 := by omega
   rw [if_pos hk]
   show (Ad l 0).a = vR ⟨fr, (Ad l 0).a, 0, 0⟩ t
   unfold vR
   grind
  ·obtain ⟨j, rfl⟩ : ∃ j, i = j + 1 := ⟨i - 1, by omega⟩
   rw [if_neg hk, hA, show (pcI l t).toNat = j by omega]
   rfl
 ·unfold ptB
  split
  ·rename_i h;exact a2p (hn h.1)
  ·exact h2
 ·unfold Ax
  rintro (h | ⟨h, h3⟩)
  ·have := a0v hge h2
   exact a2l.2 this h
  ·exact absurd (a0v h3 hge) (a2m.2 (hn h))
 ·unfold ptB
  split
  ·exact hf j hj
  ·rename_i h
   have h3 := hf j hj
   rcases Classical.em (te <= (Ad (A5 l fr) (j + 1)).f) with h4 | h4
   ·exact a0v h4 h3
   ·exact absurd ⟨by omega, a2m.1 h4⟩ h
theorem Z3 {A : List PcQ} {fr te t : Rat} {i : Nat} (h : Bo A fr te i = none) (ho : ¬ Ax A fr te i) (h1 : ptA A fr i <= t) (h2 : t <= ptB A te i) : 0 <= vR (Ad A i) t := by
 unfold Bo at h
 rw [if_neg ho] at h
 split at h
 ·cases h
 ·rename_i hv
  split at h
  ·cases h
  ·rename_i hb
   refine a2l.1 fun hneg => ?_
   by_cases e : ptA A fr i = t
   ·rw [e] at hv;exact hv hneg
   ·have hlt : ptA A fr i < t := by
     rcases a9c.1 h1 with h | h
     ·exact h
     ·exact absurd h e
    exact hb (A12 (Ov hlt h2) h1 h2 hneg)
theorem K7 {A : List PcQ} {fr te : Rat} {i : Nat} (ho : ¬ Ax A fr te i) : fr <= ptA A fr i /\ ptA A fr i <= ptB A te i /\ ptB A te i <= te := by
 unfold Ax at ho
 refine ⟨?_, ?_, ?_⟩
 ·unfold ptA
  split
  ·rename_i h;exact a2p h.2
  ·exact a4j
 ·unfold ptB
  split
  ·rename_i h
   exact a2p (a2m.1 fun k => ho (.inr ⟨h.1, k⟩))
  ·exact a2l.1 fun k => ho (.inl k)
 ·unfold ptB
  split
  ·rename_i h;exact a2p h.2
  ·exact a4j
theorem Mi {p : PcQ} {a b fr te : Rat} (hr1 : Cc fr) (hr2 : Cc te) (h : fr <= a /\ a <= b /\ b <= te) (hb : Ca p a b) : ¬ Ca p a (Fm b (mil (Ec p a b))) /\ mil (Ec p a b) < b := by
 have ha : Cc a := ⟨a0v hr1.1 h.1, a0v h.2.1 (a0v h.2.2 hr2.2)⟩
 have hbr : Cc b := ⟨a0v hr1.1 (a0v h.1 h.2.1), a0v h.2.2 hr2.2⟩
 obtain ⟨r1, r2⟩ := Je ha
 obtain ⟨r3, r4⟩ := Je hbr
 have hm := Ko h.2.1
 have k1 : ¬ Fo p a b (Aq a) := fun q => by
  have h1 := q.1
  have h2 : mil (Aq a) <= a := mil_le.2 (a5p _)
  unfold Fm at h1
  split at h1
  ·rename_i h3;exact a2m.2 (Ov h3 h2) h.2.1
  ·exact a2m.2 h1 h2
 have k2 : Fo p a b (Aq b + 2) := by
  have h1 : b < mil (Aq b + 2) := a2m.1 fun q => by have := mil_le.1 q;omega
  show Ca p a (Fm b (mil (Aq b + 2)))
  unfold Fm
  rw [if_pos h1]
  exact hb
 obtain ⟨s1, s2⟩ := M5 (B := Fo p a b) (n := 64) k1 k2 (by omega) (by omega)
 refine ⟨s1, ?_⟩
 rcases Classical.em (mil (Ec p a b) < b) with h1 | h1
 ·exact h1
 ·exfalso
  apply s1
  show Ca p a (Fm b (mil (Ec p a b)))
  unfold Fm
  split
  ·exact hb
  ·rename_i h2
   have h3 : mil (Ec p a b) = b := Rat.le_antisymm (a2l.1 h2) (a2l.1 h1)
   rw [h3];exact hb
theorem A3i {l : List PcQ} {fr te t : Rat} (hs : Aj l) (h : Ay l fr te = spE 12) (h1 : fr <= t) (h2 : t <= te) : 0 <= vaX l t := by
 have hL := Aeo hs h1 h2
 unfold Ay at h
 cases e : Cs (A5 l fr) fr te (A5 l fr).length with
 | some r => rw [e] at h;simp [spE] at h
 | none =>
  rw [hL.val]
  exact Z3 (Tj e _ hL.lt) hL.inn hL.ge hL.le
theorem Xm {l : List PcQ} {fr te t : Rat} {lo hi : Int} (hs : Aj l) (h : Ay l fr te = .tup [A2 [.i lo, .i hi], .i 0]) (hr1 : Cc fr) (hr2 : Cc te) (h1 : fr <= t) (h2 : t <= te) (h3 : t <= mil (lo - 1)) : 0 <= vaX l t := by
 have hL := Aeo hs h1 h2
 obtain ⟨i, hi'⟩ : ∃ i : Nat, (pcI l t + 1).toNat = i := ⟨_, rfl⟩
 rw [hi'] at hL
 have hlt : mil (lo - 1) < mil lo := by
  rcases a9c.1 (Fq (show lo - 1 <= lo by omega)) with h | h
  ·exact h
  ·have a1 := Cg (lo - 1)
   have a2 := Cg lo
   rw [h, a2] at a1
   have : (lo : Rat) = ((lo - 1 : Int) : Rat) := a1
   have := b0d.1 this
   omega
 have htl : t < mil lo := A7n h3 hlt
 unfold Ay at h
 cases e : Cs (A5 l fr) fr te (A5 l fr).length with
 | none => rw [e] at h;simp [spE] at h
 | some r =>
  rw [e] at h
  have hr : r = [.i lo, .i hi] := by
   simp only [AV.tup.injEq, a1o, and_true] at h
   have := h
   unfold A2 at this
   simp only [AV.agg.injEq] at this
   exact (b3h (fun x y h => by injection h)).1 this
  obtain ⟨j, hj, hst, hbef⟩ := J1 e
  rw [hL.val]
  rcases Nat.lt_trichotomy i j with hij | hij | hij
  ·exact Z3 (hbef i hij) hL.inn hL.ge hL.le
  ·subst hij
   unfold Bo at hst
   rw [if_neg hL.inn] at hst
   split at hst
   ·rename_i hv
    injection hst with hst
    rw [hr] at hst
    have hlo : lo = Aq (ptA (A5 l fr) fr i) := by
     unfold enQ at hst
     split at hst <;> (simp only [a1o, Lf.val.injEq, a2j, true_and] at hst;exact hst.1.symm)
    have := mil_le.2 (b1i hlo)
    exact absurd (a0v hL.ge (a2p htl)) (a2m.2 (by
     have h8 := A7n hL.ge htl
     exact absurd this (a2m.2 h8)))
   ·rename_i hv
    split at hst
    ·rename_i hb
     injection hst with hst
     rw [hr] at hst
     have hlo : lo = Ec (Ad (A5 l fr) i) (ptA (A5 l fr) fr i) (ptB (A5 l fr) te i) := by
      unfold H1 at hst
      split at hst <;> (simp only [a1o, Lf.val.injEq, a2j, true_and] at hst;exact hst.1.symm)
     obtain ⟨g1, _⟩ := Mi hr1 hr2 (K7 hL.inn) hb
     rw [<- hlo] at g1
     refine a2l.1 fun hneg => ?_
     have hcut : t <= Fm (ptB (A5 l fr) te i) (mil lo) := by
      unfold Fm
      split
      ·exact hL.le
      ·exact a2p htl
     by_cases e : ptA (A5 l fr) fr i = t
     ·rw [e] at hv;exact hv hneg
     ·have hlt2 : ptA (A5 l fr) fr i < t := by
       rcases a9c.1 hL.ge with h | h
       ·exact h
       ·exact absurd h e
      exact g1 (A12 (Ov hlt2 hcut) hL.ge hcut hneg)
    ·cases hst
  ·exfalso
   have hp := hL.past j hij
   unfold Bo at hst
   split at hst
   ·cases hst
   ·rename_i ho
    have hab := (K7 ho).2.1
    split at hst
    ·injection hst with hst
     rw [hr] at hst
     have hlo : lo = Aq (ptA (A5 l fr) fr j) := by
      unfold enQ at hst
      split at hst <;> (simp only [a1o, Lf.val.injEq, a2j, true_and] at hst;exact hst.1.symm)
     have h7 := mil_le.2 (b1i hlo)
     exact a2m.2 htl (a0v h7 (a0v hab hp))
    ·split at hst
     ·rename_i hb
      injection hst with hst
      rw [hr] at hst
      have hlo : lo = Ec (Ad (A5 l fr) j) (ptA (A5 l fr) fr j) (ptB (A5 l fr) te j) := by
       unfold H1 at hst
       split at hst <;> (simp only [a1o, Lf.val.injEq, a2j, true_and] at hst;exact hst.1.symm)
      obtain ⟨g1, g2⟩ := Mi hr1 hr2 (K7 ho) hb
      rw [<- hlo] at g2
      exact a2m.2 htl (a0v (a2p g2) hp)
     ·cases hst
theorem V6 {l : List PcQ} {fr te : Rat} {lo hi : Int} (h : Ay l fr te = .tup [A2 [.i lo, .i hi], .i 0]) : ∃ j, Bo (A5 l fr) fr te j = some [.i lo, .i hi] := by
 unfold Ay at h
 cases e : Cs (A5 l fr) fr te (A5 l fr).length with
 | none => rw [e] at h;simp [spE] at h
 | some r =>
  rw [e] at h
  have hr : r = [.i lo, .i hi] := by
   simp only [AV.tup.injEq, a1o, and_true] at h
   have := h
   unfold A2 at this
   simp only [AV.agg.injEq] at this
   exact (b3h (fun x y h => by injection h)).1 this
  subst hr
  obtain ⟨j, _, hst, _⟩ := J1 e
  exact ⟨j, hst⟩
theorem Qr {l : List PcQ} {fr te : Rat} {lo hi : Int} (h : Ay l fr te = .tup [A2 [.i lo, .i hi], .i 0]) (hr1 : Cc fr) (hr2 : Cc te) : Aq fr <= lo /\ mil lo <= te := by
 obtain ⟨j, hst⟩ := V6 h
 unfold Bo at hst
 split at hst
 ·cases hst
 ·rename_i ho
  obtain ⟨g1, g2, g3⟩ := K7 ho
  split at hst
  ·injection hst with hst
   have hlo : lo = Aq (ptA (A5 l fr) fr j) := by
    unfold enQ at hst
    split at hst <;> (simp only [a1o, Lf.val.injEq, a2j, true_and] at hst;exact hst.1.symm)
   exact ⟨by rw [hlo];exact Ko g1, a0v (mil_le.2 (b1i hlo)) (a0v g2 g3)⟩
  ·split at hst
   ·rename_i hb
    injection hst with hst
    have hlo : lo = Ec (Ad (A5 l fr) j) (ptA (A5 l fr) fr j) (ptB (A5 l fr) te j) := by
     unfold H1 at hst
     split at hst <;> (simp only [a1o, Lf.val.injEq, a2j, true_and] at hst;exact hst.1.symm)
    obtain ⟨q1, q2⟩ := Mi hr1 hr2 ⟨g1, g2, g3⟩ hb
    rw [<- hlo] at q1 q2
    refine ⟨?_, a0v (a2p q2) g3⟩
    -- at the beginning it is not below zero yet
    rcases a9p lo (Aq fr) with h1 | h1
    ·exfalso
     obtain ⟨r1, r2⟩ := Je (q := ptA (A5 l fr) fr j) ⟨a0v hr1.1 g1, a0v (a0v g2 g3) hr2.2⟩
     obtain ⟨r3, r4⟩ := Je (q := ptB (A5 l fr) te j) ⟨a0v hr1.1 (a0v g1 g2), a0v g3 hr2.2⟩
     have hm := Ko g2
     have hm2 := Ko g1
     have k1 : ¬ Fo (Ad (A5 l fr) j) (ptA (A5 l fr) fr j) (ptB (A5 l fr) te j) (Aq (ptA (A5 l fr) fr j)) := fun q => by
      have h1 := q.1
      have h2 : mil (Aq (ptA (A5 l fr) fr j)) <= ptA (A5 l fr) fr j := mil_le.2 (a5p _)
      unfold Fm at h1
      split at h1
      ·rename_i h3;exact a2m.2 (Ov h3 h2) g2
      ·exact a2m.2 h1 h2
     have k2 : Fo (Ad (A5 l fr) j) (ptA (A5 l fr) fr j) (ptB (A5 l fr) te j) (Aq (ptB (A5 l fr) te j) + 2) := by
      have h1 : ptB (A5 l fr) te j < mil (Aq (ptB (A5 l fr) te j) + 2) := a2m.1 fun q => by have := mil_le.1 q;omega
      show Ca _ _ (Fm _ _)
      unfold Fm
      rw [if_pos h1]
      exact hb
     obtain ⟨s1, s2⟩ := M5 (B := Fo (Ad (A5 l fr) j) (ptA (A5 l fr) fr j) (ptB (A5 l fr) te j)) (n := 64) k1 k2 (by omega) (by omega)
     change Fo _ _ _ (Ec _ _ _ + 1) at s2
     rw [<- hlo] at s2
     have h3 : mil (lo + 1) <= ptA (A5 l fr) fr j := mil_le.2 (by omega)
     have h4 := s2.1
     unfold Fm at h4
     split at h4
     ·rename_i h5;exact a2m.2 (Ov h5 h3) g2
     ·exact a2m.2 h4 h3
    ·exact h1
   ·cases hst
def H6 (by_ : Rat) (p : PcQ) : PcQ := ⟨p.f, p.a - by_, p.b, p.c⟩
theorem Oa {by_ : Rat} {l : List PcQ} {k : Nat} (hk : k < l.length) : Ad (l.map (H6 by_)) k = H6 by_ (Ad l k) := by
 have hx : l[k]? = some l[k] := a0c hk
 rw [C9 hx]
 exact C9 (by rw [a0e, hx];rfl)
theorem A1v {by_ : Rat} {l : List PcQ} (t : Rat) : ∀ k : Nat, k <= l.length -> pcK (l.map (H6 by_)) t k = pcK l t k
 | 0, _ => rfl
 | k + 1, hk => by
  rw [pcK, pcK, A1v t k (by omega), Oa (by omega)]
  rfl
theorem A6i {by_ : Rat} {l : List PcQ} (h0 : l ≠ []) (t : Rat) : vaX (l.map (H6 by_)) t = vaX l t - by_ := by
 have hpos := a1j.2 h0
 have hi : pcI (l.map (H6 by_)) t = pcI l t := by
  unfold pcI
  rw [a0a]
  exact A1v t _ (a0m _)
 have hlt := T6 l t
 unfold vaX
 rw [hi]
 by_cases hk : pcI l t < 0
 ·rw [if_pos hk, if_pos hk, Oa hpos]
  rfl
 ·rw [if_neg hk, if_neg hk, Oa (by omega)]
  unfold Kf H6
  grind
theorem Aa7 {by_ : Rat} {l : List PcQ} (hs : Aj l) : Aj (l.map (H6 by_)) := fun i hi => by
 rw [a0a] at hi
 rw [Oa (by omega), Oa hi]
 exact hs i hi
end Go.Proofs.YtlapbaiejnaeiaaGreatDoor
