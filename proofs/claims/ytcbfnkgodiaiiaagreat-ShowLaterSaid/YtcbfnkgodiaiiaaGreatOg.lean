/- Plain laws: exact values of curves, of sums of curves, of moved curves. No conditions but those of each statement. -/
import Derived.Test.YtcbfnkgodiaiiaaGreatOc
import Derived.Test.YtcbfnkgodiaiiaaGreatMd
import Derived.Test.YtcbfnkgodiaiiaaGreatNq
set_option linter.unusedSimpArgs false
set_option linter.unusedVariables false
namespace Go.Proofs.YtcbfnkgodiaiiaaGreat
def vaX (l : List PcQ) (t : Rat) : Rat := if pcI l t < 0 then (A6 l 0).a else Kh (A6 l (pcI l t).toNat) (t - (A6 l (pcI l t).toNat).f)
def slX (l : List PcQ) (t : Rat) : Rat := if pcI l t < 0 then 0 else Wz (A6 l (pcI l t).toNat) (t - (A6 l (pcI l t).toNat).f)
theorem Acu {l : List PcQ} {t : Rat} (h : atE l t 0 = 0) : atQ l t = vaX l t := by
 unfold atQ vaX
 unfold atE at h
 by_cases hk : pcI l t < 0
 ·rw [if_pos hk, if_pos hk]
 ·rw [if_neg hk] at h ⊢
  rw [if_neg hk]
  generalize A6 l (pcI l t).toNat = p at *
  by_cases h1 : Fits (t - p.f)
  ·rw [E0 h1] at h ⊢
   rw [E1 h1] at h
   by_cases h2 : okV p (t - p.f)
   ·exact (Ac8 h2 0).1
   ·rw [Acd h2] at h;cases h
  ·rw [Eo h1, Oe] at h;cases h
theorem Acv {l : List PcQ} {t : Rat} (h : P6 l t 0 = 0) : atS l t = slX l t := by
 unfold atS slX
 unfold P6 at h
 by_cases hk : pcI l t < 0
 ·rw [if_pos hk, if_pos hk]
 ·rw [if_neg hk] at h ⊢
  rw [if_neg hk]
  generalize A6 l (pcI l t).toNat = p at *
  by_cases h1 : Fits (t - p.f)
  ·rw [E0 h1] at h ⊢
   rw [E1 h1] at h
   by_cases h2 : okS p (t - p.f)
   ·exact (Abu h2 0).1
   ·rw [Aar h2] at h;cases h
  ·rw [Eo h1, L2] at h;cases h
theorem V7 (l : List PcQ) (s t : Rat) : ∀ k : Nat, (∀ i, i < k -> ((A6 l i).f <= s ↔ (A6 l i).f <= t)) -> pcK l s k = pcK l t k
 | 0, _ => rfl
 | k + 1, h => by
  rw [pcK, pcK, V7 l s t k fun i hi => h i (by omega)]
  have := h k (by omega)
  by_cases e : (A6 l k).f <= s
  ·rw [if_pos e, if_pos (this.1 e)]
  ·rw [if_neg e, if_neg fun k => e (this.2 k)]
theorem A6x {l : List PcQ} {s t : Rat} (h : ∀ p ∈ l, (p.f <= s ↔ p.f <= t)) : pcI l s = pcI l t := V7 l s t _ fun i hi => h _ (by
 rw [Bb (List.getElem?_eq_getElem hi)];exact List.getElem_mem hi)
theorem Rl (l : List PcQ) (t : Rat) : ∀ k : Nat, (∀ i : Nat, pcK l t k = i -> (A6 l i).f <= t) /\ ∀ j : Nat, pcK l t k < j -> j < k -> ¬ (A6 l j).f <= t
 | 0 => ⟨fun i h => (by simp [pcK] at h), fun j _ h => (by omega)⟩
 | k + 1 => by
  obtain ⟨h1, h2⟩ := Rl l t k
  rw [pcK]
  by_cases e : (A6 l k).f <= t
  ·rw [if_pos e]
   refine ⟨fun i hi => ?_, fun j h3 h4 => (by omega)⟩
   obtain rfl : k = i := by omega
   exact e
  ·rw [if_neg e]
   refine ⟨h1, fun j h3 h4 => ?_⟩
   by_cases e2 : j = k
   ·subst e2;exact e
   ·exact h2 j h3 (by omega)
theorem Rz {l : List PcQ} {t : Rat} (h : ¬ pcI l t < 0) : (A6 l (pcI l t).toNat).f <= t := (Rl l t l.length).1 _ (by show pcI l t = _;omega)
theorem O4 {l : List PcQ} {t : Rat} {j : Nat} (h : pcI l t < j) (hj : j < l.length) : ¬ (A6 l j).f <= t := (Rl l t l.length).2 j h hj
theorem Tl (l : List PcQ) (t : Rat) : pcI l t < l.length := (Hc l t l.length).2
theorem Xt {l : List PcQ} (hs : Ah l) {i j : Nat} (hij : i < j) (hj : j < l.length) : (A6 l i).f < (A6 l j).f := by
 induction j with
 | zero => omega
 | succ j ih =>
  have h1 := hs j hj
  by_cases e : i = j
  ·subst e;exact h1
  ·have h2 := ih (by omega) (by omega)
   grind
theorem Ab2 (p : PcQ) (s t : Rat) : Kh p (t - p.f) = Kh p (s - p.f) + (Wz p (s - p.f) + p.c * (t - s)) * (t - s) := by
 unfold Kh Wz
 grind
theorem X4 {l : List PcQ} {s t : Rat} (h : pcI l s = pcI l t) : vaX l t = vaX l s + (slX l s + atC l s * (t - s)) * (t - s) := by
 unfold vaX slX atC
 rw [<- h]
 by_cases hk : pcI l s < 0
 ·rw [if_pos hk, if_pos hk, if_pos hk, if_pos hk];grind
 ·rw [if_neg hk, if_neg hk, if_neg hk, if_neg hk]
  exact Ab2 _ s t
theorem Abd {op : Rat -> Rat -> Rat} {a b : List PcQ} {t : Rat} (h : jE op a b t 0 = 0) : Fj a t 0 = 0 /\ Fj b t 0 = 0 /\ Fits (op (atP a t).a (atP b t).a) /\ Fits (op (atP a t).b (atP b t).b) /\ Fits (op (atP a t).c (atP b t).c) := by
 unfold jE at h
 rcases Q6 a t with e1 | e1 <;> rw [e1] at h
 ·rcases Q6 b t with e2 | e2 <;> rw [e2] at h
  ·by_cases h1 : Fits (op (atP a t).a (atP b t).a)
   ·rw [E1 h1] at h
    by_cases h2 : Fits (op (atP a t).b (atP b t).b)
    ·rw [E1 h2] at h
     by_cases h3 : Fits (op (atP a t).c (atP b t).c)
     ·exact ⟨e1, e2, h1, h2, h3⟩
     ·rw [Eo h3] at h;cases h
    ·rw [Eo h2, B6] at h;cases h
   ·rw [Eo h1, B6, B6] at h;cases h
  ·rw [B6, B6, B6] at h;cases h
 ·rw [O1, B6, B6, B6] at h;cases h
theorem Aah (op : Rat -> Rat -> Rat) (a b : List PcQ) (t : Rat) : jE op a b t 0 = 0 \/ jE op a b t 0 = 5 := by
 unfold jE
 rcases Q6 a t with e1 | e1 <;> rw [e1]
 ·exact G9 _ (G9 _ (G9 _ (Q6 b t)))
 ·rw [O1, B6, B6, B6];exact .inr rfl
theorem A0w {op : Rat -> Rat -> Rat} {a b : List PcQ} : ∀ {l : List Rat}, jEs op a b l = 0 -> ∀ t ∈ l, jE op a b t 0 = 0
 | [], _, t, ht => by simp at ht
 | s :: l, h, t, ht => by
  unfold jEs at h
  rw [List.foldl_cons] at h
  rcases Aah op a b s with e | e
  ·rw [e] at h
   rcases List.mem_cons.1 ht with rfl | ht
   ·exact e
   ·exact A0w h t ht
  ·rw [e, Xb] at h;cases h
theorem A5j (op : Rat -> Rat -> Rat) (a b : List PcQ) (l : List Rat) : jEs op a b l = 0 \/ jEs op a b l = 5 := by
 unfold jEs
 induction l with
 | nil => exact .inl rfl
 | cons t l ih =>
  rw [List.foldl_cons]
  rcases Aah op a b t with e | e <;> rw [e]
  ·exact ih
  ·exact .inr (Xb op a b l)
theorem A4x {l : List PcQ} {t : Rat} (h : Fj l t 0 = 0) : atE l t 0 = 0 /\ P6 l t 0 = 0 := by
 rw [A1v] at h
 split at h
 ·exact ⟨by assumption, h⟩
 ·cases h
theorem A55 {l : List PcQ} {t : Rat} (h : Fj l t 0 = 0) : atP l t = ⟨t, vaX l t, slX l t, atC l t⟩ := by
 obtain ⟨h1, h2⟩ := A4x h
 rw [Acr, Acu h1, Acv h2]
theorem Adq {op : Rat -> Rat -> Rat} {a b : List PcQ} {t : Rat} (h : jE op a b t 0 = 0) : jP op a b t = ⟨t, op (vaX a t) (vaX b t), op (slX a t) (slX b t), op (atC a t) (atC b t)⟩ := by
 obtain ⟨h1, h2, h3, h4, h5⟩ := Abd h
 unfold jP
 rw [E0 h3, E0 h4, E0 h5, A55 h1, A55 h2]
theorem Ac0 {l : List PcQ} {t : Rat} (h : ∀ p ∈ l, ¬ p.f <= t) : pcI l t < 0 := by
 rcases Int.lt_or_le (pcI l t) 0 with e | e
 ·exact e
 ·have h1 : ¬ pcI l t < 0 := by omega
  exact absurd (Rz h1) (h _ (List.mem_of_getElem? (Xg h1)))
structure Sum (op : Rat -> Rat -> Rat) (a b : List PcQ) (tms : List Rat) (s : List PcQ) : Prop where
 ht : tms = Af a b
 hs : s = tms.map (jP op a b)
 h0 : jEs op a b tms = 0
section
variable {op : Rat -> Rat -> Rat} {a b s : List PcQ} {tms : List Rat}
theorem Sum.len (h : Sum op a b tms s) : s.length = tms.length := by rw [h.hs, List.length_map]
theorem Sum.at (h : Sum op a b tms s) {k : Nat} (hk : k < tms.length) : A6 s k = ⟨tms[k], op (vaX a tms[k]) (vaX b tms[k]), op (slX a tms[k]) (slX b tms[k]), op (atC a tms[k]) (atC b tms[k])⟩ := by
 have := A0w h.h0 tms[k] (List.getElem_mem hk)
 rw [<- Adq this]
 refine Bb ?_
 rw [h.hs, List.getElem?_map, List.getElem?_eq_getElem hk]
 rfl
theorem Sum.asc (h : Sum op a b tms s) {i j : Nat} (hij : i <= j) (hj : j < tms.length) : tms[i]'(by omega) <= tms[j] := by
 by_cases e : i = j
 ·subst e;exact Rat.le_refl
 ·have hp : tms.Pairwise (· < ·) := by rw [h.ht];exact Ji _
  exact Rat.le_of_lt (List.pairwise_iff_getElem.1 hp i j (by omega) hj (by omega))
theorem Sum.has (h : Sum op a b tms s) {p : PcQ} (hp : p ∈ a \/ p ∈ b) : ∃ j, ∃ hj : j < tms.length, tms[j] = p.f := by
 have : p.f ∈ tms := by
  rw [h.ht, Af, E6]
  exact List.mem_map.2 ⟨p, List.mem_append.2 hp, rfl⟩
 obtain ⟨j, hj, e⟩ := List.getElem_of_mem this
 exact ⟨j, hj, e⟩
theorem Sum.idx (h : Sum op a b tms s) {t : Rat} {k : Nat} (hk : pcI s t = k) {l : List PcQ} (hl : ∀ p ∈ l, p ∈ a \/ p ∈ b) (hkl : k < tms.length) : pcI l tms[k] = pcI l t := by
 have h1 : tms[k] <= t := by
  have := Rz (l := s) (t := t) (by omega)
  rw [show (pcI s t).toNat = k by omega, h.at hkl] at this
  exact this
 refine A6x fun p hp => ⟨fun e => Rat.le_trans e h1, fun e => ?_⟩
 obtain ⟨j, hj, hpj⟩ := h.has (hl p hp)
 rw [<- hpj]
 rcases Nat.lt_or_ge k j with hkj | hkj
 ·have := O4 (l := s) (t := t) (j := j) (by omega) (by rw [h.len];exact hj)
  rw [h.at hj] at this
  exact absurd (by rw [<- hpj] at e;exact e) this
 ·exact h.asc hkj hkl
theorem V4 {l : List PcQ} {t : Rat} (hs : Ah l) (hl : ∀ p ∈ l, t <= p.f) (h0 : l ≠ []) : vaX l t = (A6 l 0).a /\ (pcI l t < 0 \/ pcI l t = 0 /\ t = (A6 l 0).f) := by
 unfold vaX
 by_cases hk : pcI l t < 0
 ·rw [if_pos hk];exact ⟨rfl, .inl hk⟩
 ·rw [if_neg hk]
  have h1 := Rz hk
  have hpos := List.length_pos_iff.2 h0
  have h2 := hl _ (List.getElem_mem hpos)
  rw [<- Bb (List.getElem?_eq_getElem hpos)] at h2
  have hlt := Tl l t
  have hz : pcI l t = 0 := by
   rcases Nat.eq_zero_or_pos (pcI l t).toNat with e | e
   ·omega
   ·have := Xt hs e (by omega)
    exfalso
    grind
  rw [hz] at h1 ⊢
  have ht : t = (A6 l 0).f := Rat.le_antisymm h2 h1
  refine ⟨?_, .inr ⟨rfl, ht⟩⟩
  show Kh (A6 l 0) (t - (A6 l 0).f) = _
  unfold Kh
  rw [ht]
  grind
theorem Sum.first (h : Sum op a b tms s) {l : List PcQ} (hl : ∀ p ∈ l, p ∈ a \/ p ∈ b) (hpos : 0 < tms.length) : ∀ p ∈ l, tms[0] <= p.f := fun p hp => by
 obtain ⟨j, hj, hpj⟩ := h.has (hl p hp)
 rw [<- hpj]
 exact h.asc (Nat.zero_le _) hj
theorem Sum.before (h : Sum op a b tms s) {t : Rat} (hk : pcI s t < 0) {l : List PcQ} (hl : ∀ p ∈ l, p ∈ a \/ p ∈ b) : pcI l t < 0 := Ac0 fun p hp e => by
 obtain ⟨j, hj, hpj⟩ := h.has (hl p hp)
 have := O4 (l := s) (t := t) (j := j) (by omega) (by rw [h.len];exact hj)
 rw [h.at hj] at this
 rw [<- hpj] at e
 exact this e
theorem Sum.value (h : Sum op a b tms s) {c : Rat} (hop : ∀ p q, op p q = p + c * q) (ha : Ah a) (hb : Ah b) (ha0 : a ≠ []) (hb0 : b ≠ []) (t : Rat) : vaX s t = op (vaX a t) (vaX b t) := by
 by_cases hk : pcI s t < 0
 ·have hpos : 0 < tms.length := by
   obtain ⟨p, hp⟩ : ∃ p, p ∈ a := ⟨_, List.getElem_mem (List.length_pos_iff.2 ha0)⟩
   obtain ⟨j, hj, _⟩ := h.has (.inl hp)
   omega
  have h1 := h.before hk (l := a) fun p hp => .inl hp
  have h2 := h.before hk (l := b) fun p hp => .inr hp
  have h3 := (V4 ha (h.first (fun p hp => .inl hp) hpos) ha0).1
  have h4 := (V4 hb (h.first (fun p hp => .inr hp) hpos) hb0).1
  have h5 : vaX s t = (A6 s 0).a := if_pos hk
  have h6 : vaX a t = (A6 a 0).a := if_pos h1
  have h7 : vaX b t = (A6 b 0).a := if_pos h2
  rw [h5, h6, h7, h.at hpos, <- h3, <- h4]
 ·have hlt := Tl s t
  rw [h.len] at hlt
  obtain ⟨k, hkk⟩ : ∃ k : Nat, pcI s t = k := ⟨(pcI s t).toNat, by omega⟩
  have hkl : k < tms.length := by omega
  have h1 := X4 (h.idx hkk (l := a) (fun p hp => .inl hp) hkl)
  have h2 := X4 (h.idx hkk (l := b) (fun p hp => .inr hp) hkl)
  have h3 : vaX s t = Kh (A6 s k) (t - (A6 s k).f) := by
   unfold vaX
   rw [if_neg hk, show (pcI s t).toNat = k by omega]
  rw [h3, h.at hkl, h1, h2]
  unfold Kh
  simp only [hop]
  grind
end
end Go.Proofs.YtcbfnkgodiaiiaaGreat
namespace Go.Proofs.YtcbfnkgodiaiiaaGreat
open Go Go.RowKit
def toR (p : PcQ) : PieceR := ⟨p.f.num, p.f.den, p.a.num, p.a.den, p.b.num, p.b.den, p.c.num, p.c.den⟩
theorem Abx (l : List PcQ) : (l.map toR).map PieceR.row = l.map PcQ.row := by
 rw [List.map_map]
 exact List.map_congr_left fun p _ => rfl
theorem A6n {l : List PcQ} (hl : okC l) (hs : Ah l) (h1 : 1 <= l.length) (h2 : l.length <= 200) : P7 (l.map toR) := by
 have hat : ∀ i, i < l.length -> Mk (l.map toR) i = (A6 l i).f := fun i hi => by
  have hx : l[i]? = some l[i] := List.getElem?_eq_getElem hi
  rw [Bb hx, H3 (x := toR l[i]) (by rw [List.getElem?_map, hx];rfl)]
  exact Vq _
 refine ⟨by rw [List.length_map];exact ⟨h1, h2⟩, fun p hp => ?_, fun i hi => ?_⟩
 ·obtain ⟨x, hx, rfl⟩ := List.mem_map.1 hp
  have := hl x hx
  exact ⟨this.f.valid, this.a.valid, this.b.valid, this.c.valid⟩
 ·rw [List.length_map] at hi
  rw [hat i (by omega), hat (i + 1) (by omega)]
  exact hs i (by omega)
theorem Jj (l : List PcQ) (hl : okC l) (hs : Ah l) (h1 : 1 <= l.length) (h2 : l.length <= 200) : Fn0 Tryz.prog 95 [.sl (l.map PcQ.row)] (.b true) := by
 have := Vn (l.map toR) (by rw [List.length_map];omega)
 rw [Abx, decide_eq_true (A6n hl hs h1 h2)] at this
 exact this
theorem Sum.ok {op : Rat -> Rat -> Rat} {a b s : List PcQ} {tms : List Rat} (h : Sum op a b tms s) (ha : okC a) (hb : okC b) : okC s := fun p hp => by
 rw [h.hs] at hp
 obtain ⟨t, ht, rfl⟩ := List.mem_map.1 hp
 exact ⟨Lh a b ha hb t (h.ht ▸ ht), Cp _, Cp _, Cp _⟩
theorem Sum.sort {op : Rat -> Rat -> Rat} {a b s : List PcQ} {tms : List Rat} (h : Sum op a b tms s) : Ah s := fun i hi => by
 rw [h.len] at hi
 rw [h.at (by omega), h.at hi]
 have hp : tms.Pairwise (· < ·) := by rw [h.ht];exact Ji _
 exact List.pairwise_iff_getElem.1 hp i (i + 1) (by omega) hi (by omega)
theorem Sum.pos {op : Rat -> Rat -> Rat} {a b s : List PcQ} {tms : List Rat} (h : Sum op a b tms s) (ha0 : a ≠ []) : 0 < tms.length := by
 obtain ⟨p, hp⟩ : ∃ p, p ∈ a := ⟨_, List.getElem_mem (List.length_pos_iff.2 ha0)⟩
 obtain ⟨j, hj, _⟩ := h.has (.inl hp)
 omega
end Go.Proofs.YtcbfnkgodiaiiaaGreat
namespace Go.Proofs.YtcbfnkgodiaiiaaGreat
theorem Pd {A : List PcQ} {fr te : Rat} : ∀ {n : Nat} {r : List Lf}, Bc A fr te n = some r -> ∃ j, j < n /\ B5 A fr te j = some r /\ ∀ i, i < j -> B5 A fr te i = none
 | 0, r, h => by cases h
 | n + 1, r, h => by
  rw [Bc] at h
  cases e : Bc A fr te n with
  | some q =>
   rw [e] at h
   injection h with h
   subst h
   obtain ⟨j, h1, h2, h3⟩ := Pd e
   exact ⟨j, by omega, h2, h3⟩
  | none =>
   rw [e] at h
   have hn : ∀ n, Bc A fr te n = none -> ∀ i, i < n -> B5 A fr te i = none := fun n => by
    induction n with
    | zero => intro _ i hi;omega
    | succ n ih =>
     intro h i hi
     rw [Bc] at h
     cases e : Bc A fr te n with
     | some q => rw [e] at h;cases h
     | none =>
      rw [e] at h
      by_cases e2 : i = n
      ·subst e2;exact h
      ·exact ih e i (by omega)
   exact ⟨n, by omega, h, hn n e⟩
structure Lies (l : List PcQ) (fr te t : Rat) (i : Nat) : Prop where
 lt : i < (A4 l fr).length
 val : vaX l t = vR (A6 (A4 l fr) i) t
 ge : ptA (A4 l fr) fr i <= t
 le : t <= ptB (A4 l fr) te i
 inn : ¬ Av (A4 l fr) fr te i
 past : ∀ j, j < i -> ptB (A4 l fr) te j <= t
theorem Adv {l : List PcQ} {fr te t : Rat} (hs : Ah l) (h1 : fr <= t) (h2 : t <= te) : Lies l fr te t (pcI l t + 1).toNat := by
 have hr := (Hc l t l.length).1
 have hr' : -1 <= pcI l t := hr
 have hlt := Tl l t
 have hlen : (A4 l fr).length = l.length + 1 := rfl
 have hA : ∀ j, A6 (A4 l fr) (j + 1) = A6 l j := fun j => Fx _ _ _
 obtain ⟨i, hi⟩ : ∃ i : Nat, (pcI l t + 1).toNat = i := ⟨_, rfl⟩
 rw [hi]
 have hf : ∀ j, j < i -> (A6 (A4 l fr) (j + 1)).f <= t := fun j hj => by
  rw [hA]
  have h3 := Rz (l := l) (t := t) (by omega)
  rw [show (pcI l t).toNat = i - 1 by omega] at h3
  by_cases e : j = i - 1
  ·rw [e];exact h3
  ·exact Rat.le_trans (Rat.le_of_lt (Xt hs (show j < i - 1 by omega) (by omega))) h3
 have hn : i + 1 < (A4 l fr).length -> t < (A6 (A4 l fr) (i + 1)).f := fun h => by
  rw [hA]
  exact Rat.not_le.1 (O4 (by omega) (by omega))
 have hge : ptA (A4 l fr) fr i <= t := by
  unfold ptA
  split
  ·rename_i h
   obtain ⟨j, rfl⟩ : ∃ j, i = j + 1 := ⟨i - 1, by omega⟩
   exact hf j (by omega)
  ·exact h1
 refine ⟨by omega, ?_, hge, ?_, ?_, fun j hj => ?_⟩
 ·unfold vaX
  by_cases hk : pcI l t < 0
  ·obtain rfl : i = 0 := by omega
   rw [if_pos hk]
   show (A6 l 0).a = vR ⟨fr, (A6 l 0).a, 0, 0⟩ t
   unfold vR
   grind
  ·obtain ⟨j, rfl⟩ : ∃ j, i = j + 1 := ⟨i - 1, by omega⟩
   rw [if_neg hk, hA, show (pcI l t).toNat = j by omega]
   rfl
 ·unfold ptB
  split
  ·rename_i h;exact Rat.le_of_lt (hn h.1)
  ·exact h2
 ·unfold Av
  rintro (h | ⟨h, h3⟩)
  ·have := Rat.le_trans hge h2
   exact Rat.not_lt.2 this h
  ·exact absurd (Rat.le_trans h3 hge) (Rat.not_le.2 (hn h))
 ·unfold ptB
  split
  ·exact hf j hj
  ·rename_i h
   have h3 := hf j hj
   rcases Classical.em (te <= (A6 (A4 l fr) (j + 1)).f) with h4 | h4
   ·exact Rat.le_trans h4 h3
   ·exact absurd ⟨by omega, Rat.not_le.1 h4⟩ h
theorem Zj {A : List PcQ} {fr te : Rat} {i : Nat} (ho : ¬ Av A fr te i) : fr <= ptA A fr i /\ ptA A fr i <= ptB A te i /\ ptB A te i <= te := by
 unfold Av at ho
 refine ⟨?_, ?_, ?_⟩
 ·unfold ptA
  split
  ·rename_i h;exact Rat.le_of_lt h.2
  ·exact Rat.le_refl
 ·unfold ptB
  split
  ·rename_i h
   exact Rat.le_of_lt (Rat.not_le.1 fun k => ho (.inr ⟨h.1, k⟩))
  ·exact Rat.not_lt.1 fun k => ho (.inl k)
 ·unfold ptB
  split
  ·rename_i h;exact Rat.le_of_lt h.2
  ·exact Rat.le_refl
theorem Z4 {p : PcQ} {a b fr te : Rat} (hr1 : Cx fr) (hr2 : Cx te) (h : fr <= a /\ a <= b /\ b <= te) (hb : Cd p a b) : ¬ Cd p a (Em b (mil (Cs p a b))) /\ mil (Cs p a b) < b := by
 have ha : Cx a := ⟨Rat.le_trans hr1.1 h.1, Rat.le_trans h.2.1 (Rat.le_trans h.2.2 hr2.2)⟩
 have hbr : Cx b := ⟨Rat.le_trans hr1.1 (Rat.le_trans h.1 h.2.1), Rat.le_trans h.2.2 hr2.2⟩
 obtain ⟨r1, r2⟩ := Jo ha
 obtain ⟨r3, r4⟩ := Jo hbr
 have hm := L6 h.2.1
 have k1 : ¬ G0 p a b (Aj a) := fun q => by
  have h1 := q.1
  have h2 : mil (Aj a) <= a := mil_le.2 (Int.le_refl _)
  unfold Em at h1
  split at h1
  ·rename_i h3;exact Rat.not_le.2 (Xy h3 h2) h.2.1
  ·exact Rat.not_le.2 h1 h2
 have k2 : G0 p a b (Aj b + 2) := by
  have h1 : b < mil (Aj b + 2) := Rat.not_le.1 fun q => by have := mil_le.1 q;omega
  show Cd p a (Em b (mil (Aj b + 2)))
  unfold Em
  rw [if_pos h1]
  exact hb
 obtain ⟨s1, s2⟩ := Mc (B := G0 p a b) (n := 64) k1 k2 (by omega) (by omega)
 refine ⟨s1, ?_⟩
 rcases Classical.em (mil (Cs p a b) < b) with h1 | h1
 ·exact h1
 ·exfalso
  apply s1
  show Cd p a (Em b (mil (Cs p a b)))
  unfold Em
  split
  ·exact hb
  ·rename_i h2
   have h3 : mil (Cs p a b) = b := Rat.le_antisymm (Rat.not_lt.1 h2) (Rat.not_lt.1 h1)
   rw [h3];exact hb
theorem Vd {l : List PcQ} {fr te : Rat} {lo hi : Int} (h : B9 l fr te = .tup [A1 [.i lo, .i hi], .i 0]) : ∃ j, B5 (A4 l fr) fr te j = some [.i lo, .i hi] := by
 unfold B9 at h
 cases e : Bc (A4 l fr) fr te (A4 l fr).length with
 | none => rw [e] at h;simp [spE] at h
 | some r =>
  rw [e] at h
  have hr : r = [.i lo, .i hi] := by
   simp only [AV.tup.injEq, List.cons.injEq, and_true] at h
   have := h
   unfold A1 at this
   simp only [AV.agg.injEq] at this
   exact (List.map_inj_right (fun x y h => by injection h)).1 this
  subst hr
  obtain ⟨j, _, hst, _⟩ := Pd e
  exact ⟨j, hst⟩
theorem Zn {l : List PcQ} {fr te : Rat} {lo hi : Int} (h : B9 l fr te = .tup [A1 [.i lo, .i hi], .i 0]) (hr1 : Cx fr) (hr2 : Cx te) : Aj fr <= lo /\ mil lo <= te := by
 obtain ⟨j, hst⟩ := Vd h
 unfold B5 at hst
 split at hst
 ·cases hst
 ·rename_i ho
  obtain ⟨g1, g2, g3⟩ := Zj ho
  split at hst
  ·injection hst with hst
   have hlo : lo = Aj (ptA (A4 l fr) fr j) := by
    unfold enQ at hst
    split at hst <;> (simp only [List.cons.injEq, Lf.val.injEq, Value.int.injEq, true_and] at hst;exact hst.1.symm)
   exact ⟨by rw [hlo];exact L6 g1, Rat.le_trans (mil_le.2 (Int.le_of_eq hlo)) (Rat.le_trans g2 g3)⟩
  ·split at hst
   ·rename_i hb
    injection hst with hst
    have hlo : lo = Cs (A6 (A4 l fr) j) (ptA (A4 l fr) fr j) (ptB (A4 l fr) te j) := by
     unfold H6 at hst
     split at hst <;> (simp only [List.cons.injEq, Lf.val.injEq, Value.int.injEq, true_and] at hst;exact hst.1.symm)
    obtain ⟨q1, q2⟩ := Z4 hr1 hr2 ⟨g1, g2, g3⟩ hb
    rw [<- hlo] at q1 q2
    refine ⟨?_, Rat.le_trans (Rat.le_of_lt q2) g3⟩
    -- at the beginning it is not below zero yet
    rcases Int.lt_or_le lo (Aj fr) with h1 | h1
    ·exfalso
     obtain ⟨r1, r2⟩ := Jo (q := ptA (A4 l fr) fr j) ⟨Rat.le_trans hr1.1 g1, Rat.le_trans (Rat.le_trans g2 g3) hr2.2⟩
     obtain ⟨r3, r4⟩ := Jo (q := ptB (A4 l fr) te j) ⟨Rat.le_trans hr1.1 (Rat.le_trans g1 g2), Rat.le_trans g3 hr2.2⟩
     have hm := L6 g2
     have hm2 := L6 g1
     have k1 : ¬ G0 (A6 (A4 l fr) j) (ptA (A4 l fr) fr j) (ptB (A4 l fr) te j) (Aj (ptA (A4 l fr) fr j)) := fun q => by
      have h1 := q.1
      have h2 : mil (Aj (ptA (A4 l fr) fr j)) <= ptA (A4 l fr) fr j := mil_le.2 (Int.le_refl _)
      unfold Em at h1
      split at h1
      ·rename_i h3;exact Rat.not_le.2 (Xy h3 h2) g2
      ·exact Rat.not_le.2 h1 h2
     have k2 : G0 (A6 (A4 l fr) j) (ptA (A4 l fr) fr j) (ptB (A4 l fr) te j) (Aj (ptB (A4 l fr) te j) + 2) := by
      have h1 : ptB (A4 l fr) te j < mil (Aj (ptB (A4 l fr) te j) + 2) := Rat.not_le.1 fun q => by have := mil_le.1 q;omega
      show Cd _ _ (Em _ _)
      unfold Em
      rw [if_pos h1]
      exact hb
     obtain ⟨s1, s2⟩ := Mc (B := G0 (A6 (A4 l fr) j) (ptA (A4 l fr) fr j) (ptB (A4 l fr) te j)) (n := 64) k1 k2 (by omega) (by omega)
     change G0 _ _ _ (Cs _ _ _ + 1) at s2
     rw [<- hlo] at s2
     have h3 : mil (lo + 1) <= ptA (A4 l fr) fr j := mil_le.2 (by omega)
     have h4 := s2.1
     unfold Em at h4
     split at h4
     ·rename_i h5;exact Rat.not_le.2 (Xy h5 h3) g2
     ·exact Rat.not_le.2 h4 h3
    ·exact h1
   ·cases hst
def Cr (by_ : Rat) (p : PcQ) : PcQ := ⟨p.f, p.a - by_, p.b, p.c⟩
theorem P0 {by_ : Rat} {l : List PcQ} {k : Nat} (hk : k < l.length) : A6 (l.map (Cr by_)) k = Cr by_ (A6 l k) := by
 have hx : l[k]? = some l[k] := List.getElem?_eq_getElem hk
 rw [Bb hx]
 exact Bb (by rw [List.getElem?_map, hx];rfl)
theorem A0j {by_ : Rat} {l : List PcQ} (t : Rat) : ∀ k : Nat, k <= l.length -> pcK (l.map (Cr by_)) t k = pcK l t k
 | 0, _ => rfl
 | k + 1, hk => by
  rw [pcK, pcK, A0j t k (by omega), P0 (by omega)]
  rfl
theorem A7e {by_ : Rat} {l : List PcQ} (h0 : l ≠ []) (t : Rat) : vaX (l.map (Cr by_)) t = vaX l t - by_ := by
 have hpos := List.length_pos_iff.2 h0
 have hi : pcI (l.map (Cr by_)) t = pcI l t := by
  unfold pcI
  rw [List.length_map]
  exact A0j t _ (Nat.le_refl _)
 have hlt := Tl l t
 unfold vaX
 rw [hi]
 by_cases hk : pcI l t < 0
 ·rw [if_pos hk, if_pos hk, P0 hpos]
  rfl
 ·rw [if_neg hk, if_neg hk, P0 (by omega)]
  unfold Kh Cr
  grind
theorem A8a {by_ : Rat} {l : List PcQ} (hs : Ah l) : Ah (l.map (Cr by_)) := fun i hi => by
 rw [List.length_map] at hi
 rw [P0 (by omega), P0 hi]
 exact hs i hi
end Go.Proofs.YtcbfnkgodiaiiaaGreat
