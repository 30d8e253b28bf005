/- Lemmas of the proof. -/
import Derived.Test.YtlapbaiejnaeiaaGreatDoorMu
import Derived.Test.YtlapbaiejnaeiaaGreatDoorMd
import Derived.Test.YtlapbaiejnaeiaaGreatDoorNq
set_option linter.all false
namespace Go.Proofs.YtlapbaiejnaeiaaGreatDoor
def b3h := @List.map_inj_right
def vaX (l : List PcQ) (t : Rat) : Rat := if pcI l t < 0 then (A8 l 0).a else I7 (A8 l (pcI l t).toNat) (t - (A8 l (pcI l t).toNat).f)
def slX (l : List PcQ) (t : Rat) : Rat := if pcI l t < 0 then 0 else Yx (A8 l (pcI l t).toNat) (t - (A8 l (pcI l t).toNat).f)
theorem Ad0 {l : List PcQ} {t : Rat} (h : atE l t 0 = 0) : atQ l t = vaX l t := by
 unfold atQ vaX
 unfold atE at h
 by_cases hk : pcI l t < 0
 ·rw [if_pos hk, if_pos hk]
 ·rw [if_neg hk] at h ⊢
  rw [if_neg hk]
  generalize A8 l (pcI l t).toNat = p at *
  by_cases h1 : Fits (t - p.f)
  ·rw [Du h1] at h ⊢
   rw [Dt h1] at h
   by_cases h2 : okV p (t - p.f)
   ·exact (Acq h2 0).1
   ·rw [Acp h2] at h;cases h
  ·rw [E6 h1, Oi] at h;cases h
theorem Ad1 {l : List PcQ} {t : Rat} (h : Nb l t 0 = 0) : atS l t = slX l t := by
 unfold atS slX
 unfold Nb at h
 by_cases hk : pcI l t < 0
 ·rw [if_pos hk, if_pos hk]
 ·rw [if_neg hk] at h ⊢
  rw [if_neg hk]
  generalize A8 l (pcI l t).toNat = p at *
  by_cases h1 : Fits (t - p.f)
  ·rw [Du h1] at h ⊢
   rw [Dt h1] at h
   by_cases h2 : okS p (t - p.f)
   ·exact (Aca h2 0).1
   ·rw [Ac9 h2] at h;cases h
  ·rw [E6 h1, Kh] at h;cases h
theorem Vk (l : List PcQ) (s t : Rat) : ∀ k : Nat, (∀ i, i < k -> ((A8 l i).f <= s ↔ (A8 l i).f <= t)) -> pcK l s k = pcK l t k
 | 0, _ => rfl
 | k + 1, h => by
  rw [pcK, pcK, Vk l s t k fun i hi => h i (by omega)]
  have := h k (by omega)
  by_cases e : (A8 l k).f <= s
  ·rw [if_pos e, if_pos (this.1 e)]
  ·rw [if_neg e, if_neg fun k => e (this.2 k)]
theorem A6b {l : List PcQ} {s t : Rat} (h : ∀ p ∈ l, (p.f <= s ↔ p.f <= t)) : pcI l s = pcI l t := Vk l s t _ fun i hi => h _ (by
 rw [Ck (a0b hi)];exact a3t hi)
theorem R8 (l : List PcQ) (t : Rat) : ∀ k : Nat, (∀ i : Nat, pcK l t k = i -> (A8 l i).f <= t) /\ ∀ j : Nat, pcK l t k < j -> j < k -> ¬ (A8 l j).f <= t
 | 0 => ⟨fun i h => (by simp [pcK] at h), fun j _ h => (by omega)⟩
 | k + 1 => by
  obtain ⟨h1, h2⟩ := R8 l t k
  rw [pcK]
  by_cases e : (A8 l k).f <= t
  ·rw [if_pos e]
   refine ⟨fun i hi => ?_, fun j h3 h4 => (by omega)⟩
   obtain rfl : k = i := by omega
   exact e
  ·rw [if_neg e]
   refine ⟨h1, fun j h3 h4 => ?_⟩
   by_cases e2 : j = k
   ·subst e2;exact e
   ·exact h2 j h3 (by omega)
theorem Sq {l : List PcQ} {t : Rat} (h : ¬ pcI l t < 0) : (A8 l (pcI l t).toNat).f <= t := (R8 l t l.length).1 _ (by show pcI l t = _;omega)
theorem O0 {l : List PcQ} {t : Rat} {j : Nat} (h : pcI l t < j) (hj : j < l.length) : ¬ (A8 l j).f <= t := (R8 l t l.length).2 j h hj
theorem Sr (l : List PcQ) (t : Rat) : pcI l t < l.length := (Kd l t l.length).2
theorem Yy {l : List PcQ} (hs : Be l) {i j : Nat} (hij : i < j) (hj : j < l.length) : (A8 l i).f < (A8 l j).f := by
 induction j with
 | zero => omega
 | succ j ih =>
  have h1 := hs j hj
  by_cases e : i = j
  ·subst e;exact h1
  ·have h2 := ih (by omega) (by omega)
   grind
theorem Acf (p : PcQ) (s t : Rat) : I7 p (t - p.f) = I7 p (s - p.f) + (Yx p (s - p.f) + p.c * (t - s)) * (t - s) := by
 unfold I7 Yx
 grind
theorem Zg {l : List PcQ} {s t : Rat} (h : pcI l s = pcI l t) : vaX l t = vaX l s + (slX l s + atC l s * (t - s)) * (t - s) := by
 unfold vaX slX atC
 rw [<- h]
 by_cases hk : pcI l s < 0
 ·rw [if_pos hk, if_pos hk, if_pos hk, if_pos hk];grind
 ·rw [if_neg hk, if_neg hk, if_neg hk, if_neg hk]
  exact Acf _ s t
theorem Abb {op : Rat -> Rat -> Rat} {a b : List PcQ} {t : Rat} (h : jE op a b t 0 = 0) : F2 a t 0 = 0 /\ F2 b t 0 = 0 /\ Fits (op (atP a t).a (atP b t).a) /\ Fits (op (atP a t).b (atP b t).b) /\ Fits (op (atP a t).c (atP b t).c) := by
 unfold jE at h
 rcases Ok a t with e1 | e1 <;> rw [e1] at h
 ·rcases Ok b t with e2 | e2 <;> rw [e2] at h
  ·by_cases h1 : Fits (op (atP a t).a (atP b t).a)
   ·rw [Dt h1] at h
    by_cases h2 : Fits (op (atP a t).b (atP b t).b)
    ·rw [Dt h2] at h
     by_cases h3 : Fits (op (atP a t).c (atP b t).c)
     ·exact ⟨e1, e2, h1, h2, h3⟩
     ·rw [E6 h3] at h;cases h
    ·rw [E6 h2, Az] at h;cases h
   ·rw [E6 h1, Az, Az] at h;cases h
  ·rw [Az, Az, Az] at h;cases h
 ·rw [Na, Az, Az, Az] at h;cases h
theorem Ae0 (op : Rat -> Rat -> Rat) (a b : List PcQ) (t : Rat) : jE op a b t 0 = 0 \/ jE op a b t 0 = 5 := by
 unfold jE
 rcases Ok a t with e1 | e1 <;> rw [e1]
 ·exact Ge _ (Ge _ (Ge _ (Ok b t)))
 ·rw [Na, Az, Az, Az];exact .inr rfl
theorem A1a {op : Rat -> Rat -> Rat} {a b : List PcQ} : ∀ {l : List Rat}, jEs op a b l = 0 -> ∀ t ∈ l, jE op a b t 0 = 0
 | [], _, t, ht => by simp at ht
 | s :: l, h, t, ht => by
  unfold jEs at h
  rw [a4t] at h
  rcases Ae0 op a b s with e | e
  ·rw [e] at h
   rcases a1j.1 ht with rfl | ht
   ·exact e
   ·exact A1a h t ht
  ·rw [e, A8z] at h;cases h
theorem A49 {l : List PcQ} {t : Rat} (h : F2 l t 0 = 0) : atE l t 0 = 0 /\ Nb l t 0 = 0 := by
 rw [A0p] at h
 split at h
 ·exact ⟨by assumption, h⟩
 ·cases h
theorem A4a {l : List PcQ} {t : Rat} (h : F2 l t 0 = 0) : atP l t = ⟨t, vaX l t, slX l t, atC l t⟩ := by
 obtain ⟨h1, h2⟩ := A49 h
 rw [Acz, Ad0 h1, Ad1 h2]
theorem Ae1 {op : Rat -> Rat -> Rat} {a b : List PcQ} {t : Rat} (h : jE op a b t 0 = 0) : jP op a b t = ⟨t, op (vaX a t) (vaX b t), op (slX a t) (slX b t), op (atC a t) (atC b t)⟩ := by
 obtain ⟨h1, h2, h3, h4, h5⟩ := Abb h
 unfold jP
 rw [Du h3, Du h4, Du h5, A4a h1, A4a h2]
theorem Abz {l : List PcQ} {t : Rat} (h : ∀ p ∈ l, ¬ p.f <= t) : pcI l t < 0 := by
 rcases a9r (pcI l t) 0 with e | e
 ·exact e
 ·have h1 : ¬ pcI l t < 0 := by omega
  exact absurd (Sq h1) (h _ (a0c (Yi h1)))
structure Sum (op : Rat -> Rat -> Rat) (a b : List PcQ) (tms : List Rat) (s : List PcQ) : Prop where
 ht : tms = Ao a b
 hs : s = tms.map (jP op a b)
 h0 : jEs op a b tms = 0
section
variable {op : Rat -> Rat -> Rat} {a b s : List PcQ} {tms : List Rat}
theorem Sum.len (h : Sum op a b tms s) : s.length = tms.length := by rw [h.hs, a0a]
theorem Sum.at (h : Sum op a b tms s) {k : Nat} (hk : k < tms.length) : A8 s k = ⟨tms[k], op (vaX a tms[k]) (vaX b tms[k]), op (slX a tms[k]) (slX b tms[k]), op (atC a tms[k]) (atC b tms[k])⟩ := by
 have := A1a h.h0 tms[k] (a3t hk)
 rw [<- Ae1 this]
 refine Ck ?_
 rw [h.hs, a0e, a0b hk]
 rfl
theorem Sum.asc (h : Sum op a b tms s) {i j : Nat} (hij : i <= j) (hj : j < tms.length) : tms[i]'(by omega) <= tms[j] := by
 by_cases e : i = j
 ·subst e;exact a3j
 ·have hp : tms.Pairwise (· < ·) := by rw [h.ht];exact Ll _
  exact a2c (a4n.1 hp i j (by omega) hj (by omega))
theorem Sum.has (h : Sum op a b tms s) {p : PcQ} (hp : p ∈ a \/ p ∈ b) : ∃ j, ∃ hj : j < tms.length, tms[j] = p.f := by
 have : p.f ∈ tms := by
  rw [h.ht, Ao, Ei]
  exact a1b.2 ⟨p, a0u.2 hp, rfl⟩
 obtain ⟨j, hj, e⟩ := b2l this
 exact ⟨j, hj, e⟩
theorem Sum.idx (h : Sum op a b tms s) {t : Rat} {k : Nat} (hk : pcI s t = k) {l : List PcQ} (hl : ∀ p ∈ l, p ∈ a \/ p ∈ b) (hkl : k < tms.length) : pcI l tms[k] = pcI l t := by
 have h1 : tms[k] <= t := by
  have := Sq (l := s) (t := t) (by omega)
  rw [show (pcI s t).toNat = k by omega, h.at hkl] at this
  exact this
 refine A6b fun p hp => ⟨fun e => a0r e h1, fun e => ?_⟩
 obtain ⟨j, hj, hpj⟩ := h.has (hl p hp)
 rw [<- hpj]
 rcases a1a k j with hkj | hkj
 ·have := O0 (l := s) (t := t) (j := j) (by omega) (by rw [h.len];exact hj)
  rw [h.at hj] at this
  exact absurd (by rw [<- hpj] at e;exact e) this
 ·exact h.asc hkj hkl
theorem Vz {l : List PcQ} {t : Rat} (hs : Be l) (hl : ∀ p ∈ l, t <= p.f) (h0 : l ≠ []) : vaX l t = (A8 l 0).a /\ (pcI l t < 0 \/ pcI l t = 0 /\ t = (A8 l 0).f) := by
 unfold vaX
 by_cases hk : pcI l t < 0
 ·rw [if_pos hk];exact ⟨rfl, .inl hk⟩
 ·rw [if_neg hk]
  have h1 := Sq hk
  have hpos := a1n.2 h0
  have h2 := hl _ (a3t hpos)
  rw [<- Ck (a0b hpos)] at h2
  have hlt := Sr l t
  have hz : pcI l t = 0 := by
   rcases a4j (pcI l t).toNat with e | e
   ·omega
   ·have := Yy hs e (by omega)
    exfalso
    grind
  rw [hz] at h1 ⊢
  have ht : t = (A8 l 0).f := Rat.le_antisymm h2 h1
  refine ⟨?_, .inr ⟨rfl, ht⟩⟩
  show I7 (A8 l 0) (t - (A8 l 0).f) = _
  unfold I7
  rw [ht]
  grind
theorem Sum.first (h : Sum op a b tms s) {l : List PcQ} (hl : ∀ p ∈ l, p ∈ a \/ p ∈ b) (hpos : 0 < tms.length) : ∀ p ∈ l, tms[0] <= p.f := fun p hp => by
 obtain ⟨j, hj, hpj⟩ := h.has (hl p hp)
 rw [<- hpj]
 exact h.asc (a0o _) hj
theorem Sum.before (h : Sum op a b tms s) {t : Rat} (hk : pcI s t < 0) {l : List PcQ} (hl : ∀ p ∈ l, p ∈ a \/ p ∈ b) : pcI l t < 0 := Abz fun p hp e => by
 obtain ⟨j, hj, hpj⟩ := h.has (hl p hp)
 have := O0 (l := s) (t := t) (j := j) (by omega) (by rw [h.len];exact hj)
 rw [h.at hj] at this
 rw [<- hpj] at e
 exact this e
theorem Sum.value (h : Sum op a b tms s) {c : Rat} (hop : ∀ p q, op p q = p + c * q) (ha : Be a) (hb : Be b) (ha0 : a ≠ []) (hb0 : b ≠ []) (t : Rat) : vaX s t = op (vaX a t) (vaX b t) := by
 by_cases hk : pcI s t < 0
 ·have hpos : 0 < tms.length := by
   obtain ⟨p, hp⟩ : ∃ p, p ∈ a := ⟨_, a3t (a1n.2 ha0)⟩
   obtain ⟨j, hj, _⟩ := h.has (.inl hp)
   omega
  have h1 := h.before hk (l := a) fun p hp => .inl hp
  have h2 := h.before hk (l := b) fun p hp => .inr hp
  have h3 := (Vz ha (h.first (fun p hp => .inl hp) hpos) ha0).1
  have h4 := (Vz hb (h.first (fun p hp => .inr hp) hpos) hb0).1
  have h5 : vaX s t = (A8 s 0).a := if_pos hk
  have h6 : vaX a t = (A8 a 0).a := if_pos h1
  have h7 : vaX b t = (A8 b 0).a := if_pos h2
  rw [h5, h6, h7, h.at hpos, <- h3, <- h4]
 ·have hlt := Sr s t
  rw [h.len] at hlt
  obtain ⟨k, hkk⟩ : ∃ k : Nat, pcI s t = k := ⟨(pcI s t).toNat, by omega⟩
  have hkl : k < tms.length := by omega
  have h1 := Zg (h.idx hkk (l := a) (fun p hp => .inl hp) hkl)
  have h2 := Zg (h.idx hkk (l := b) (fun p hp => .inr hp) hkl)
  have h3 : vaX s t = I7 (A8 s k) (t - (A8 s k).f) := by
   unfold vaX
   rw [if_neg hk, show (pcI s t).toNat = k by omega]
  rw [h3, h.at hkl, h1, h2]
  unfold I7
  simp only [hop]
  grind
end
end Go.Proofs.YtlapbaiejnaeiaaGreatDoor
namespace Go.Proofs.YtlapbaiejnaeiaaGreatDoor
open Go Go.RowKit
def toR (p : PcQ) : PieceR := ⟨p.f.num, p.f.den, p.a.num, p.a.den, p.b.num, p.b.den, p.c.num, p.c.den⟩
theorem Ach (l : List PcQ) : (l.map toR).map PieceR.row = l.map PcQ.row := by
 rw [a8j]
 exact b2m fun p _ => rfl
theorem A52 {l : List PcQ} (hl : okC l) (hs : Be l) (h1 : 1 <= l.length) (h2 : l.length <= 200) : Nj (l.map toR) := by
 have hat : ∀ i, i < l.length -> M2 (l.map toR) i = (A8 l i).f := fun i hi => by
  have hx : l[i]? = some l[i] := a0b hi
  rw [Ck hx, Gm (x := toR l[i]) (by rw [a0e, hx];rfl)]
  exact Vn _
 refine ⟨by rw [a0a];exact ⟨h1, h2⟩, fun p hp => ?_, fun i hi => ?_⟩
 ·obtain ⟨x, hx, rfl⟩ := a1b.1 hp
  have := hl x hx
  exact ⟨this.f.valid, this.a.valid, this.b.valid, this.c.valid⟩
 ·rw [a0a] at hi
  rw [hat i (by omega), hat (i + 1) (by omega)]
  exact hs i (by omega)
theorem J0 (l : List PcQ) (hl : okC l) (hs : Be l) (h1 : 1 <= l.length) (h2 : l.length <= 200) : Fn0 Tryz.prog 124 [.sl (l.map PcQ.row)] (.b true) := by
 have := Vm (l.map toR) (by rw [a0a];omega)
 rw [Ach, decide_eq_true (A52 hl hs h1 h2)] at this
 exact this
theorem Sum.ok {op : Rat -> Rat -> Rat} {a b s : List PcQ} {tms : List Rat} (h : Sum op a b tms s) (ha : okC a) (hb : okC b) : okC s := fun p hp => by
 rw [h.hs] at hp
 obtain ⟨t, ht, rfl⟩ := a1b.1 hp
 exact ⟨Kt a b ha hb t (h.ht ▸ ht), Cj _, Cj _, Cj _⟩
theorem Sum.sort {op : Rat -> Rat -> Rat} {a b s : List PcQ} {tms : List Rat} (h : Sum op a b tms s) : Be s := fun i hi => by
 rw [h.len] at hi
 rw [h.at (by omega), h.at hi]
 have hp : tms.Pairwise (· < ·) := by rw [h.ht];exact Ll _
 exact a4n.1 hp i (i + 1) (by omega) hi (by omega)
theorem Sum.pos {op : Rat -> Rat -> Rat} {a b s : List PcQ} {tms : List Rat} (h : Sum op a b tms s) (ha0 : a ≠ []) : 0 < tms.length := by
 obtain ⟨p, hp⟩ : ∃ p, p ∈ a := ⟨_, a3t (a1n.2 ha0)⟩
 obtain ⟨j, hj, _⟩ := h.has (.inl hp)
 omega
end Go.Proofs.YtlapbaiejnaeiaaGreatDoor
namespace Go.Proofs.YtlapbaiejnaeiaaGreatDoor
theorem Kg {A : List PcQ} {fr te : Rat} : ∀ {n : Nat} {r : List Lf}, Cu A fr te n = some r -> ∃ j, j < n /\ Ax A fr te j = some r /\ ∀ i, i < j -> Ax A fr te i = none
 | 0, r, h => by cases h
 | n + 1, r, h => by
  rw [Cu] at h
  cases e : Cu A fr te n with
  | some q =>
   rw [e] at h
   injection h with h
   subst h
   obtain ⟨j, h1, h2, h3⟩ := Kg e
   exact ⟨j, by omega, h2, h3⟩
  | none =>
   rw [e] at h
   have hn : ∀ n, Cu A fr te n = none -> ∀ i, i < n -> Ax A fr te i = none := fun n => by
    induction n with
    | zero => intro _ i hi;omega
    | succ n ih =>
     intro h i hi
     rw [Cu] at h
     cases e : Cu A fr te n with
     | some q => rw [e] at h;cases h
     | none =>
      rw [e] at h
      by_cases e2 : i = n
      ·subst e2;exact h
      ·exact ih e i (by omega)
   exact ⟨n, by omega, h, hn n e⟩
structure Lies (l : List PcQ) (fr te t : Rat) (i : Nat) : Prop where
 lt : i < (A5 l fr).length
 val : vaX l t = vR (A8 (A5 l fr) i) t
 ge : ptA (A5 l fr) fr i <= t
 le : t <= ptB (A5 l fr) te i
 inn : ¬ Ar (A5 l fr) fr te i
 past : ∀ j, j < i -> ptB (A5 l fr) te j <= t
theorem Aeh {l : List PcQ} {fr te t : Rat} (hs : Be l) (h1 : fr <= t) (h2 : t <= te) : Lies l fr te t (pcI l t + 1).toNat := by
 have hr := (Kd l t l.length).1
 have hr' : -1 <= pcI l t := hr
 have hlt := Sr l t
 have hlen : (A5 l fr).length = l.length + 1 := rfl
 have hA : ∀ j, A8 (A5 l fr) (j + 1) = A8 l j := fun j => A6a _ _ _
 obtain ⟨i, hi⟩ : ∃ i : Nat, (pcI l t + 1).toNat = i := ⟨_, rfl⟩
 rw [hi]
 have hf : ∀ j, j < i -> (A8 (A5 l fr) (j + 1)).f <= t := fun j hj => by
  rw [hA]
  have h3 := Sq (l := l) (t := t) (by omega)
  rw [show (pcI l t).toNat = i - 1 by omega] at h3
  by_cases e : j = i - 1
  ·rw [e];exact h3
  ·exact a0r (a2c (Yy hs (show j < i - 1 by omega) (by omega))) h3
 have hn : i + 1 < (A5 l fr).length -> t < (A8 (A5 l fr) (i + 1)).f := fun h => by
  rw [hA]
  exact a2f.1 (O0 (by omega) (by omega))
 have hge : ptA (A5 l fr) fr i <= t := by
  unfold ptA
  split
  ·rename_i h
   obtain ⟨j, rfl⟩ : ∃ j, i = j + 1 := ⟨i - 1, by omega⟩
   exact hf j (by omega)
  ·exact h1
 refine ⟨by omega, ?_, hge, ?_, ?_, fun j hj => ?_⟩
 ·unfold vaX
  by_cases hk : pcI l t < 0
  ·obtain rfl : i = 0 := by omega
   rw [if_pos hk]
   show (A8 l 0).a = vR ⟨fr, (A8 l 0).a, 0, 0⟩ t
   unfold vR
   grind
  ·obtain ⟨j, rfl⟩ : ∃ j, i = j + 1 := ⟨i - 1, by omega⟩
   rw [if_neg hk, hA, show (pcI l t).toNat = j by omega]
   rfl
 ·unfold ptB
  split
  ·rename_i h;exact a2c (hn h.1)
  ·exact h2
 ·unfold Ar
  rintro (h | ⟨h, h3⟩)
  ·have := a0r hge h2
   exact a2m.2 this h
  ·exact absurd (a0r h3 hge) (a2f.2 (hn h))
 ·unfold ptB
  split
  ·exact hf j hj
  ·rename_i h
   have h3 := hf j hj
   rcases Classical.em (te <= (A8 (A5 l fr) (j + 1)).f) with h4 | h4
   ·exact a0r h4 h3
   ·exact absurd ⟨by omega, a2f.1 h4⟩ h
theorem R9 {A : List PcQ} {fr te : Rat} {i : Nat} (ho : ¬ Ar A fr te i) : fr <= ptA A fr i /\ ptA A fr i <= ptB A te i /\ ptB A te i <= te := by
 unfold Ar at ho
 refine ⟨?_, ?_, ?_⟩
 ·unfold ptA
  split
  ·rename_i h;exact a2c h.2
  ·exact a3j
 ·unfold ptB
  split
  ·rename_i h
   exact a2c (a2f.1 fun k => ho (.inr ⟨h.1, k⟩))
  ·exact a2m.1 fun k => ho (.inl k)
 ·unfold ptB
  split
  ·rename_i h;exact a2c h.2
  ·exact a3j
theorem Xk {p : PcQ} {a b fr te : Rat} (hr1 : Ba fr) (hr2 : Ba te) (h : fr <= a /\ a <= b /\ b <= te) (hb : B5 p a b) : ¬ B5 p a (C5 b (mil (C7 p a b))) /\ mil (C7 p a b) < b := by
 have ha : Ba a := ⟨a0r hr1.1 h.1, a0r h.2.1 (a0r h.2.2 hr2.2)⟩
 have hbr : Ba b := ⟨a0r hr1.1 (a0r h.1 h.2.1), a0r h.2.2 hr2.2⟩
 obtain ⟨r1, r2⟩ := Dv ha
 obtain ⟨r3, r4⟩ := Dv hbr
 have hm := Gy h.2.1
 have k1 : ¬ C0 p a b (Ah a) := fun q => by
  have h1 := q.1
  have h2 : mil (Ah a) <= a := mil_le.2 (a4m _)
  unfold C5 at h1
  split at h1
  ·rename_i h3;exact a2f.2 (Hm h3 h2) h.2.1
  ·exact a2f.2 h1 h2
 have k2 : C0 p a b (Ah b + 2) := by
  have h1 : b < mil (Ah b + 2) := a2f.1 fun q => by have := mil_le.1 q;omega
  show B5 p a (C5 b (mil (Ah b + 2)))
  unfold C5
  rw [if_pos h1]
  exact hb
 obtain ⟨s1, s2⟩ := Hr (B := C0 p a b) (n := 64) k1 k2 (by omega) (by omega)
 refine ⟨s1, ?_⟩
 rcases Classical.em (mil (C7 p a b) < b) with h1 | h1
 ·exact h1
 ·exfalso
  apply s1
  show B5 p a (C5 b (mil (C7 p a b)))
  unfold C5
  split
  ·exact hb
  ·rename_i h2
   have h3 : mil (C7 p a b) = b := Rat.le_antisymm (a2m.1 h2) (a2m.1 h1)
   rw [h3];exact hb
theorem V1 {l : List PcQ} {fr te : Rat} {lo hi : Int} (h : B9 l fr te = .tup [A1 [.i lo, .i hi], .i 0]) : ∃ j, Ax (A5 l fr) fr te j = some [.i lo, .i hi] := by
 unfold B9 at h
 cases e : Cu (A5 l fr) fr te (A5 l fr).length with
 | none => rw [e] at h;simp [spE] at h
 | some r =>
  rw [e] at h
  have hr : r = [.i lo, .i hi] := by
   simp only [AV.tup.injEq, a2a, and_true] at h
   have := h
   unfold A1 at this
   simp only [AV.agg.injEq] at this
   exact (b3h (fun x y h => by injection h)).1 this
  subst hr
  obtain ⟨j, _, hst, _⟩ := Kg e
  exact ⟨j, hst⟩
theorem Zv {l : List PcQ} {fr te : Rat} {lo hi : Int} (h : B9 l fr te = .tup [A1 [.i lo, .i hi], .i 0]) (hr1 : Ba fr) (hr2 : Ba te) : Ah fr <= lo /\ mil lo <= te := by
 obtain ⟨j, hst⟩ := V1 h
 unfold Ax at hst
 split at hst
 ·cases hst
 ·rename_i ho
  obtain ⟨g1, g2, g3⟩ := R9 ho
  split at hst
  ·injection hst with hst
   have hlo : lo = Ah (ptA (A5 l fr) fr j) := by
    unfold enQ at hst
    split at hst <;> (simp only [a2a, Lf.val.injEq, a3a, true_and] at hst;exact hst.1.symm)
   exact ⟨by rw [hlo];exact Gy g1, a0r (mil_le.2 (Int.le_of_eq hlo)) (a0r g2 g3)⟩
  ·split at hst
   ·rename_i hb
    injection hst with hst
    have hlo : lo = C7 (A8 (A5 l fr) j) (ptA (A5 l fr) fr j) (ptB (A5 l fr) te j) := by
     unfold H9 at hst
     split at hst <;> (simp only [a2a, Lf.val.injEq, a3a, true_and] at hst;exact hst.1.symm)
    obtain ⟨q1, q2⟩ := Xk hr1 hr2 ⟨g1, g2, g3⟩ hb
    rw [<- hlo] at q1 q2
    refine ⟨?_, a0r (a2c q2) g3⟩
    -- at the beginning it is not below zero yet
    rcases a9r lo (Ah fr) with h1 | h1
    ·exfalso
     obtain ⟨r1, r2⟩ := Dv (q := ptA (A5 l fr) fr j) ⟨a0r hr1.1 g1, a0r (a0r g2 g3) hr2.2⟩
     obtain ⟨r3, r4⟩ := Dv (q := ptB (A5 l fr) te j) ⟨a0r hr1.1 (a0r g1 g2), a0r g3 hr2.2⟩
     have hm := Gy g2
     have hm2 := Gy g1
     have k1 : ¬ C0 (A8 (A5 l fr) j) (ptA (A5 l fr) fr j) (ptB (A5 l fr) te j) (Ah (ptA (A5 l fr) fr j)) := fun q => by
      have h1 := q.1
      have h2 : mil (Ah (ptA (A5 l fr) fr j)) <= ptA (A5 l fr) fr j := mil_le.2 (a4m _)
      unfold C5 at h1
      split at h1
      ·rename_i h3;exact a2f.2 (Hm h3 h2) g2
      ·exact a2f.2 h1 h2
     have k2 : C0 (A8 (A5 l fr) j) (ptA (A5 l fr) fr j) (ptB (A5 l fr) te j) (Ah (ptB (A5 l fr) te j) + 2) := by
      have h1 : ptB (A5 l fr) te j < mil (Ah (ptB (A5 l fr) te j) + 2) := a2f.1 fun q => by have := mil_le.1 q;omega
      show B5 _ _ (C5 _ _)
      unfold C5
      rw [if_pos h1]
      exact hb
     obtain ⟨s1, s2⟩ := Hr (B := C0 (A8 (A5 l fr) j) (ptA (A5 l fr) fr j) (ptB (A5 l fr) te j)) (n := 64) k1 k2 (by omega) (by omega)
     change C0 _ _ _ (C7 _ _ _ + 1) at s2
     rw [<- hlo] at s2
     have h3 : mil (lo + 1) <= ptA (A5 l fr) fr j := mil_le.2 (by omega)
     have h4 := s2.1
     unfold C5 at h4
     split at h4
     ·rename_i h5;exact a2f.2 (Hm h5 h3) g2
     ·exact a2f.2 h4 h3
    ·exact h1
   ·cases hst
def Gq (by_ : Rat) (p : PcQ) : PcQ := ⟨p.f, p.a - by_, p.b, p.c⟩
theorem Nr {by_ : Rat} {l : List PcQ} {k : Nat} (hk : k < l.length) : A8 (l.map (Gq by_)) k = Gq by_ (A8 l k) := by
 have hx : l[k]? = some l[k] := a0b hk
 rw [Ck hx]
 exact Ck (by rw [a0e, hx];rfl)
theorem A1f {by_ : Rat} {l : List PcQ} (t : Rat) : ∀ k : Nat, k <= l.length -> pcK (l.map (Gq by_)) t k = pcK l t k
 | 0, _ => rfl
 | k + 1, hk => by
  rw [pcK, pcK, A1f t k (by omega), Nr (by omega)]
  rfl
theorem A5s {by_ : Rat} {l : List PcQ} (h0 : l ≠ []) (t : Rat) : vaX (l.map (Gq by_)) t = vaX l t - by_ := by
 have hpos := a1n.2 h0
 have hi : pcI (l.map (Gq by_)) t = pcI l t := by
  unfold pcI
  rw [a0a]
  exact A1f t _ (a0l _)
 have hlt := Sr l t
 unfold vaX
 rw [hi]
 by_cases hk : pcI l t < 0
 ·rw [if_pos hk, if_pos hk, Nr hpos]
  rfl
 ·rw [if_neg hk, if_neg hk, Nr (by omega)]
  unfold I7 Gq
  grind
theorem A96 {by_ : Rat} {l : List PcQ} (hs : Be l) : Be (l.map (Gq by_)) := fun i hi => by
 rw [a0a] at hi
 rw [Nr (by omega), Nr hi]
 exact hs i hi
end Go.Proofs.YtlapbaiejnaeiaaGreatDoor
