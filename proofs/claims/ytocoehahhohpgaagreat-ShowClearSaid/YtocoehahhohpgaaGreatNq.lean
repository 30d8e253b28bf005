/- Plain facts on numbers by their digits to the base 2^24, the Rx one first, as the reference reckons with them: no program. -/
import Derived.Test.YtocoehahhohpgaaGreatNf
import Derived.Test.YtocoehahhohpgaaGreatNe
import Derived.Test.YtocoehahhohpgaaGreatMp
import Derived.Test.YtocoehahhohpgaaGreatMf
import Derived.Test.YtocoehahhohpgaaGreatNk
import Derived.Test.YtocoehahhohpgaaGreatNi
import Derived.Test.YtocoehahhohpgaaGreatPa
import Derived.Test.YtocoehahhohpgaaGreatPl
set_option linter.unusedSimpArgs false
set_option linter.unusedVariables false
namespace Go.Proofs.YtocoehahhohpgaaGreat.R24

/-! ### Sums -/
/-! ### Differences -/
/-! ### Products -/
/-! ### Lists that grow -/
/-! ### The reference's product -/
/-! ### Comparison -/
end Go.Proofs.YtocoehahhohpgaaGreat.R24
namespace Go.Proofs.YtocoehahhohpgaaGreat
open Go.RowKit
def bz (k : Nat) (z : Int) : Prop := z.natAbs < 16777216 ^ k
/-! ### Int -/
/-! ### Exact fractions -/
/-! ### enclosed -/
def H4 (p : PcQ) : Rat := p.f + -p.b / (2 * p.c)
theorem A0t {l : List PcQ} (hl : okC l) (k : Nat) : (A5 l k).ok := by
 cases h : l[k]? with
 | some x => rw [Bf h];exact hl x (List.mem_of_getElem? h)
 | none =>
  have : A5 l k = default := by unfold A5;rw [List.getD_eq_getElem?_getD, h];rfl
  rw [this]
  exact ⟨by decide, by decide, by decide, by decide⟩
theorem Vo (l : List PcQ) (t : Rat) : -1 <= rpI l t /\ rpI l t < l.length := by
 have := Yq l t l.length
 unfold rpI
 omega
def D7 (l : List PcQ) (k : Int) (t : Rat) : Option Rat := if k < 0 then some (A5 l 0).a else if okA (A5 l k.toNat) t then some (Gg (A5 l k.toNat) (t - (A5 l k.toNat).f)) else none
theorem Mq {l : List PcQ} (hl : okC l) {k : Int} {t v : Rat} (h : D7 l k t = some v) : Fits v := by
 unfold D7 at h
 split at h
 ·injection h with h;subst h;exact (A0t hl 0).a
 ·split at h
  ·rename_i h2
   injection h with h;subst h;exact h2.2.2.2.2
  ·cases h
def Abx (m : Rat) (o : Option Rat) : Option Rat := o.map (Cd m)
end Go.Proofs.YtocoehahhohpgaaGreat
namespace Go.Proofs.YtocoehahhohpgaaGreat
/-! ### The Rx of a list, none if there is a none -/
def Tl (a o : Option Rat) : Option Rat := a.bind fun m => Abx m o
def Mn : List (Option Rat) -> Option Rat
 | [] => none
 | o :: L => L.foldl Tl o
theorem Xe {L : List (Option Rat)} (h : L ≠ []) (M : List (Option Rat)) : Mn (L ++ M) = M.foldl Tl (Mn L) := by
 cases L with
 | nil => exact absurd rfl h
 | cons o L => simp only [Mn, List.cons_append, List.foldl_append]
theorem A6b {L : List (Option Rat)} (h : L ≠ []) (o : Option Rat) : Mn (L ++ [o]) = Tl (Mn L) o := Xe h [o]
theorem S0 (M : List (Option Rat)) : M.foldl Tl none = none := by
 induction M with
 | nil => rfl
 | cons o M ih => exact ih
theorem My : ∀ (M : List (Option Rat)) (m : Rat), (none ∈ M -> M.foldl Tl (some m) = none) /\ (none ∉ M -> ∃ r, M.foldl Tl (some m) = some r /\ (r = m \/ some r ∈ M) /\ r <= m /\ ∀ q, some q ∈ M -> r <= q)
 | [], m => ⟨fun h => by simp at h, fun _ => ⟨m, rfl, .inl rfl, Rat.le_refl, fun q h => by simp at h⟩⟩
 | none :: M, m => ⟨fun _ => S0 M, fun h => absurd (List.mem_cons_self) h⟩
 | some x :: M, m => by
  have ih := My M (Cd m x)
  constructor
  ·intro h
   rcases List.mem_cons.1 h with h | h
   ·cases h
   ·exact ih.1 h
  ·intro h
   obtain ⟨r, h1, h2, h3, h4⟩ := ih.2 fun h' => h (List.mem_cons_of_mem _ h')
   have hm : Cd m x <= m /\ Cd m x <= x /\ (Cd m x = m \/ Cd m x = x) := by
    unfold Cd
    split
    ·rename_i e;exact ⟨Rat.le_of_lt e, Rat.le_refl, .inr rfl⟩
    ·rename_i e;exact ⟨Rat.le_refl, Rat.not_lt.1 e, .inl rfl⟩
   refine ⟨r, h1, ?_, Rat.le_trans h3 hm.1, fun q hq => ?_⟩
   ·rcases h2 with h2 | h2
    ·rcases hm.2.2 with e | e
     ·exact .inl (h2.trans e)
     ·exact .inr (by rw [h2, e];exact List.mem_cons_self)
    ·exact .inr (List.mem_cons_of_mem _ h2)
   ·rcases List.mem_cons.1 hq with hq | hq
    ·injection hq with hq
     subst hq
     exact Rat.le_trans h3 hm.2.1
    ·exact h4 q hq
theorem Vj {L : List (Option Rat)} (h : none ∈ L) : Mn L = none := by
 cases L with
 | nil => rfl
 | cons o L =>
  cases o with
  | none => exact S0 L
  | some m =>
   rcases List.mem_cons.1 h with h | h
   ·cases h
   ·exact (My L m).1 h
theorem Vb {L : List (Option Rat)} (h0 : L ≠ []) (h : none ∉ L) : ∃ r, Mn L = some r /\ some r ∈ L /\ ∀ q, some q ∈ L -> r <= q := by
 cases L with
 | nil => exact absurd rfl h0
 | cons o L =>
  cases o with
  | none => exact absurd List.mem_cons_self h
  | some m =>
   obtain ⟨r, h1, h2, h3, h4⟩ := (My L m).2 fun h' => h (List.mem_cons_of_mem _ h')
   refine ⟨r, h1, ?_, fun q hq => ?_⟩
   ·rcases h2 with h2 | h2
    ·rw [h2];exact List.mem_cons_self
    ·exact List.mem_cons_of_mem _ h2
   ·rcases List.mem_cons.1 hq with hq | hq
    ·injection hq with hq;subst hq;exact h3
    ·exact h4 q hq
/-! ### What both reckon -/
def Xy (p : PcQ) (u : Rat) : Option Rat := if okV p u then some (Gg p u) else none
def xP (p : PcQ) (a b : Rat) : List (Option Rat) :=
 if ¬ Fits (2 * p.c) then [none] else if ¬ Fits (-p.b / (2 * p.c)) then [none] else if ¬ Fits (a - p.f) then [none]
 else if a - p.f < -p.b / (2 * p.c) then (if ¬ Fits (b - p.f) then [none] else if -p.b / (2 * p.c) < b - p.f then [Xy p (-p.b / (2 * p.c))] else []) else []
def P1 (l : List PcQ) (fr te : Rat) (i : Nat) : List (Option Rat) := if fr < (A5 l i).f /\ (A5 l i).f <= te then [some (A5 l i).a, D7 l ((i : Int) - 1) (A5 l i).f] else []
def P2 (l : List PcQ) (fr te : Rat) (i : Nat) : List (Option Rat) := if G8 l fr te i then [] else xP (A5 l i) (lsA l fr i) (ptB l te i)
def LP (l : List PcQ) (fr te : Rat) : Nat -> List (Option Rat)
 | 0 => [D7 l (rpI l fr) fr, D7 l (rpI l te) te]
 | i + 1 => LP l fr te i ++ P1 l fr te i ++ P2 l fr te i
theorem Wd (l : List PcQ) (fr te : Rat) (i : Nat) : LP l fr te i ≠ [] := by
 induction i with
 | zero => simp [LP]
 | succ i ih => simp [LP, ih]
theorem Ip {l : List PcQ} {fr te : Rat} {o : Option Rat} : ∀ n, (o ∈ LP l fr te n ↔ o = D7 l (rpI l fr) fr \/ o = D7 l (rpI l te) te \/ ∃ i, i < n /\ (o ∈ P1 l fr te i \/ o ∈ P2 l fr te i))
 | 0 => by simp [LP]
 | n + 1 => by
  rw [LP, List.mem_append, List.mem_append, Ip n]
  constructor
  ·rintro (((h | h | ⟨i, hi, h⟩) | h) | h)
   ·exact .inl h
   ·exact .inr (.inl h)
   ·exact .inr (.inr ⟨i, by omega, h⟩)
   ·exact .inr (.inr ⟨n, by omega, .inl h⟩)
   ·exact .inr (.inr ⟨n, by omega, .inr h⟩)
  ·rintro (h | h | ⟨i, hi, h⟩)
   ·exact .inl (.inl (.inl h))
   ·exact .inl (.inl (.inr (.inl h)))
   ·by_cases e : i = n
    ·subst e
     rcases h with h | h
     ·exact .inl (.inr h)
     ·exact .inr h
    ·exact .inl (.inl (.inr (.inr ⟨i, by omega, h⟩)))
theorem Ys (l : List PcQ) (t : Rat) (hs : As l) : (∀ w, D7 l (rpI l t) t = some w -> atQ l t = w /\ ∀ e, atE l t e = e) /\ (D7 l (rpI l t) t = none -> atE l t 0 = 5) := by
 rw [<- Aam hs t]
 unfold D7 atQ atE
 by_cases h : pcI l t < 0
 ·rw [if_pos h, if_pos h]
  refine ⟨fun w hw => ?_, fun h => by cases h⟩
  injection hw with hw
  exact ⟨hw, fun e => if_pos h⟩
 ·rw [if_neg h, if_neg h]
  by_cases h1 : okA (A5 l (pcI l t).toNat) t
  ·rw [if_pos h1]
   refine ⟨fun w hw => ?_, fun h => by cases h⟩
   injection hw with hw
   rw [C5 h1.1]
   refine ⟨by rw [(I5 h1.2 0).1];exact hw, fun e => ?_⟩
   rw [if_neg h, C7 h1.1, (I5 h1.2 e).2]
  ·rw [if_neg h1]
   refine ⟨fun w hw => (by cases hw), fun _ => ?_⟩
   rw [if_neg h]
   by_cases h2 : Fits (t - (A5 l (pcI l t).toNat).f)
   ·rw [C5 h2, C7 h2]
    exact P5 fun h3 => h1 ⟨h2, h3⟩
   ·rw [Cp h2, Dx]
theorem A6o (l : List PcQ) (t : Rat) : atE l t 5 = 5 := by
 unfold atE
 split
 ·rfl
 ·rw [Ap, Dx]
theorem A64 (l : List PcQ) (i : Nat) : (∀ w, D7 l ((i : Int) - 1) (A5 l i).f = some w -> bef l i = w /\ Oh l i 0 = 0) /\ (D7 l ((i : Int) - 1) (A5 l i).f = none -> Oh l i 0 = 5) := by
 unfold D7 bef Oh
 cases i with
 | zero =>
  rw [if_pos (by decide)]
  refine ⟨fun w hw => ?_, fun h => by cases h⟩
  injection hw with hw
  exact ⟨hw, rfl⟩
 | succ i =>
  have e : (((i + 1 : Nat) : Int) - 1).toNat = i := by omega
  rw [if_neg (show ¬ ((i + 1 : Nat) : Int) - 1 < 0 by omega), if_pos (show 0 < i + 1 by omega), if_pos (show 0 < i + 1 by omega), e, Nat.add_sub_cancel]
  by_cases h1 : okA (A5 l i) (A5 l (i + 1)).f
  ·rw [if_pos h1]
   refine ⟨fun w hw => ?_, fun h => by cases h⟩
   injection hw with hw
   rw [C5 h1.1, C7 h1.1, (I5 h1.2 0).1, (I5 h1.2 0).2]
   exact ⟨hw, rfl⟩
  ·rw [if_neg h1]
   refine ⟨fun w hw => (by cases hw), fun _ => ?_⟩
   by_cases h2 : Fits ((A5 l (i + 1)).f - (A5 l i).f)
   ·rw [C5 h2, C7 h2]
    exact P5 fun h3 => h1 ⟨h2, h3⟩
   ·rw [Cp h2, Dx]
theorem A3p (l : List PcQ) (i : Nat) : Oh l i 5 = 5 := by
 unfold Oh
 split
 ·rw [Ap, Dx]
 ·rfl
/-! ### The program's loop -/
def Pp (L : List (Option Rat)) (s : LS) : Prop := s.e = 0 /\ Mn L = some s.m \/ s.e = 5 /\ none ∈ L
theorem A3o (p : PcQ) : C8 p 5 = 5 := by
 unfold C8
 split
 ·exact Ap _
 ·rw [Ap, Ap]
theorem A9e {l : List PcQ} {fr te : Rat} {i : Nat} {L : List (Option Rat)} {s : LS} (hL : L ≠ []) (h : Pp L s) : Pp (L ++ P1 l fr te i) (ls1 l fr te i s) := by
 unfold ls1 P1
 by_cases hc : fr < (A5 l i).f /\ (A5 l i).f <= te
 ·rw [if_pos hc, if_pos hc]
  obtain ⟨b1, b2⟩ := A64 l i
  rcases h with ⟨h1, h2⟩ | ⟨h1, h2⟩
  ·cases hv : D7 l ((i : Int) - 1) (A5 l i).f with
   | none => exact .inr ⟨by dsimp only;rw [h1];exact b2 hv, by simp⟩
   | some w =>
    obtain ⟨b3, b4⟩ := b1 w hv
    refine .inl ⟨by dsimp only;rw [h1];exact b4, ?_⟩
    rw [Xe hL, h2, b3]
    rfl
  ·exact .inr ⟨by dsimp only;rw [h1];exact A3p l i, by simp [h2]⟩
 ·rw [if_neg hc, if_neg hc, List.append_nil]
  exact h
theorem Aa6 {l : List PcQ} {fr te : Rat} {i : Nat} {L : List (Option Rat)} {s : LS} (hL : L ≠ []) (h : Pp L s) :
  Pp (L ++ P2 l fr te i) (ls2 l fr te i s).1 /\ ((ls2 l fr te i s).2 = true -> (ls2 l fr te i s).1.e = 5) := by
 unfold ls2 P2
 by_cases ho : G8 l fr te i
 ·rw [if_pos ho, if_pos ho, List.append_nil]
  exact ⟨h, fun h => by cases h⟩
 rw [if_neg ho, if_neg ho]
 have hc : 0 < (A5 l i).c.num := by
  rcases Int.lt_or_le 0 (A5 l i).c.num with h | h
  ·exact h
  ·exact absurd (.inr (.inr h)) ho
 generalize A5 l i = p at *
 generalize lsA l fr i = a at *
 generalize ptB l te i = b at *
 clear ho
 have hne : 2 * p.c ≠ 0 := fun h => by
  have : p.c = 0 := by grind
  rw [this] at hc
  exact absurd hc (by decide)
 rcases h with ⟨h1, h2⟩ | ⟨h1, h2⟩
 ·rw [h1]
  unfold xP
  by_cases f1 : Fits (2 * p.c)
  ·have e1 : lsV p = kQ (-p.b / (2 * p.c)) := by unfold lsV;rw [C5 f1, if_neg hne]
   have e2 : C8 p 0 = kE (-p.b / (2 * p.c)) 0 := by unfold C8;rw [C5 f1, if_neg hne, C7 f1]
   rw [if_neg (show ¬ ¬ Fits (2 * p.c) from fun h => h f1), e2]
   by_cases f2 : Fits (-p.b / (2 * p.c))
   ·rw [C5 f2] at e1
    rw [if_neg (show ¬ ¬ Fits (-p.b / (2 * p.c)) from fun h => h f2), C7 f2, if_neg (show ¬ (0 : Int) ≠ 0 from fun h => h rfl)]
    refine ⟨?_, fun h => by cases h⟩
    unfold ls3
    rw [e1]
    generalize -p.b / (2 * p.c) = v at *
    by_cases f3 : Fits (a - p.f)
    ·rw [if_neg (show ¬ ¬ Fits (a - p.f) from fun h => h f3), C5 f3, C7 f3]
     by_cases g1 : a - p.f < v
     ·rw [if_pos g1, if_pos g1]
      by_cases f4 : Fits (b - p.f)
      ·rw [if_neg (show ¬ ¬ Fits (b - p.f) from fun h => h f4), C5 f4, C7 f4]
       by_cases g2 : v < b - p.f
       ·rw [if_pos g2, if_pos g2]
        unfold Xy
        by_cases f5 : okV p v
        ·rw [if_pos f5, (I5 f5 0).1, (I5 f5 0).2]
         exact .inl ⟨rfl, by rw [A6b hL, h2];rfl⟩
        ·rw [if_neg f5, P5 f5]
         exact .inr ⟨rfl, by simp⟩
       ·rw [if_neg g2, if_neg g2, List.append_nil]
        exact .inl ⟨rfl, h2⟩
      ·rw [if_pos (show ¬ Fits (b - p.f) from f4), Cp f4]
       refine .inr ⟨?_, by simp⟩
       split
       ·exact Dx _ _
       ·rfl
     ·rw [if_neg g1, if_neg g1, List.append_nil]
      exact .inl ⟨rfl, h2⟩
    ·rw [if_pos (show ¬ Fits (a - p.f) from f3), Cp f3]
     refine .inr ⟨?_, by simp⟩
     split
     ·split
      ·dsimp only
       rw [Ap];exact Dx _ _
      ·exact Ap _
     ·rfl
   ·rw [if_pos (show ¬ Fits (-p.b / (2 * p.c)) from f2), Cp f2, if_pos (show (5 : Int) ≠ 0 by decide)]
    exact ⟨.inr ⟨rfl, by simp⟩, fun _ => rfl⟩
  ·have e2 : C8 p 0 = 5 := by unfold C8;rw [show kQ (2 * p.c) = 0 from if_neg f1, if_pos rfl, Cp f1]
   rw [if_pos (show ¬ Fits (2 * p.c) from f1), e2, if_pos (show (5 : Int) ≠ 0 by decide)]
   exact ⟨.inr ⟨rfl, by simp⟩, fun _ => rfl⟩
 ·rw [h1, A3o, if_pos (show (5 : Int) ≠ 0 by decide)]
  exact ⟨.inr ⟨rfl, by simp [h2]⟩, fun _ => rfl⟩
theorem U3 (l : List PcQ) (fr te : Rat) (hs : As l) : ∀ n, Pp (LP l fr te n) (lsK l fr te n).1 /\ ((lsK l fr te n).2 = true -> (lsK l fr te n).1.e = 5)
 | 0 => by
  refine ⟨?_, fun h => by cases h⟩
  rw [lsK, LP]
  obtain ⟨a1, a2⟩ := Ys l fr hs
  obtain ⟨b1, b2⟩ := Ys l te hs
  unfold Pp ls0
  dsimp only
  cases hv : D7 l (rpI l fr) fr with
  | none => exact .inr ⟨by rw [a2 hv, A6o], by simp⟩
  | some w =>
   cases hx : D7 l (rpI l te) te with
   | none => exact .inr ⟨by rw [(a1 w hv).2, b2 hx], by simp⟩
   | some x => exact .inl ⟨by rw [(a1 w hv).2, (b1 x hx).2], by rw [(a1 w hv).1, (b1 x hx).1];rfl⟩
 | n + 1 => by
  obtain ⟨i1, i2⟩ := U3 l fr te hs n
  rw [LP, lsK]
  cases hk : lsK l fr te n with
  | mk s b =>
   rw [hk] at i1 i2
   cases b with
   | true =>
    refine ⟨.inr ⟨i2 rfl, ?_⟩, i2⟩
    rcases i1 with ⟨h1, _⟩ | ⟨_, h2⟩
    ·have := i2 rfl
     rw [h1] at this
     cases this
    ·simp [h2]
   | false => exact Aa6 (by simp [Wd]) (A9e (Wd _ _ _ _) i1)
/-! ### Where the times lie -/
theorem A7w (l : List PcQ) (t : Rat) {m n : Nat} (h : m <= n) : rpN l t m <= rpN l t n := by
 induction n with
 | zero => obtain rfl : m = 0 := by omega
           exact Nat.le_refl _
 | succ n ih =>
  by_cases e : m = n + 1
  ·subst e;exact Nat.le_refl _
  ·have := ih (by omega)
   have h2 := Yq l t n
   rw [rpN]
   split <;> omega
theorem Tx {l : List PcQ} {t : Rat} : ∀ {n i : Nat}, i < rpN l t n -> (A5 l i).f <= t
 | 0, i, h => by simp [rpN] at h
 | n + 1, i, h => by
  rw [rpN] at h
  split at h
  ·rename_i hc
   by_cases e : i = n
   ·subst e;exact hc.2
   ·exact Tx (n := n) (by rw [hc.1];omega)
  ·exact Tx h
theorem Ns {l : List PcQ} (hs : As l) (t : Rat) {i : Nat} (hi : i < l.length) : (A5 l i).f <= t ↔ (i : Int) <= rpI l t := by
 unfold rpI
 constructor
 ·intro h
  have h1 := R4 hs t i hi h
  have h2 := A7w l t (m := i + 1) (n := l.length) hi
  omega
 ·intro h
  exact Tx (n := l.length) (by omega)
theorem A3h {a b c : Rat} (h : a <= b) (k : b < c) : a < c := Rat.not_le.1 fun h2 => Rat.not_lt.2 (Rat.le_trans h2 h) k
section
variable {l : List PcQ} {fr te : Rat} (hs : As l) (hle : fr <= te)
include hs
end
/-! ### A piece -/
theorem disc (p : PcQ) (t : Rat) : 4 * p.a * p.c - p.b * p.b = 4 * (p.c * vR p t) - sR p t * sR p t := by unfold vR sR;grind
theorem A9v {p : PcQ} (hc : 0 < p.c) : 2 * p.c * (H4 p - p.f) = -p.b := by
 unfold H4
 have h : 2 * p.c ≠ 0 := by grind
 have := Rat.mul_div_cancel (a := -p.b) h
 grind
theorem Ug {p : PcQ} (hc : 0 < p.c) (t : Rat) : sR p t = 2 * p.c * (t - H4 p) := by
 have := A9v hc
 unfold sR
 grind
theorem S8 {p : PcQ} (hc : 0 < p.c) (t : Rat) : sR p t < 0 ↔ t < H4 p := by
 rw [Ug hc, Rat.mul_neg_iff_of_pos_left (by grind)]
 constructor <;> intro h <;> grind
theorem Sd {p : PcQ} (hc : 0 < p.c) (t : Rat) : 0 < sR p t ↔ H4 p < t := by
 rw [Ug hc, Rat.mul_pos_iff_of_pos_left (by grind)]
 constructor <;> intro h <;> grind
theorem Yj {p : PcQ} (hc : 0 < p.c) : 4 * p.a * p.c - p.b * p.b < 0 ↔ vR p (H4 p) < 0 := by
 have h1 : sR p (H4 p) = 0 := by rw [Ug hc];grind
 rw [disc p (H4 p), h1]
 have k := Rat.mul_neg_iff_of_pos_left hc (b := vR p (H4 p))
 constructor
 ·intro h;exact k.1 (by grind)
 ·intro h;have := k.2 h;grind
theorem Aa7 {p : PcQ} {a t : Rat} (h : F0 p a t) : a < t /\ ∃ s, a <= s /\ s <= t /\ vR p s < 0 := by
 obtain ⟨h1, h2⟩ := h
 refine ⟨h1, ?_⟩
 rcases h2 with (h2 | h2) | ⟨hc, h3, h4, h5⟩
 ·exact ⟨a, Rat.le_refl, Rat.le_of_lt h1, h2⟩
 ·exact ⟨t, Rat.le_of_lt h1, Rat.le_refl, h2⟩
 ·exact ⟨H4 p, Rat.le_of_lt ((S8 hc a).1 h3), Rat.le_of_lt ((Sd hc t).1 h4), (Yj hc).1 h5⟩
theorem Qc (q : Rat) : q.num < 0 ↔ q < 0 := by rw [<- Int.not_le, Rat.num_nonneg, Rat.not_le]
/-! ### Milliseconds -/
theorem A9q (m : Int) : 1000 * mil m = (m : Rat) := by
 unfold mil
 rw [Rat.mkRat_eq_div]
 have : ((1000 : Nat) : Rat) = 1000 := rfl
 rw [this]
 have h : (1000 : Rat) ≠ 0 := by decide
 grind
/-! ### Searches -/
/-! ### The pieces one after the other -/
theorem V7 (x : PcQ) (l : List PcQ) (i : Nat) : A5 (x :: l) (i + 1) = A5 l i := by unfold A5;simp
end Go.Proofs.YtocoehahhohpgaaGreat
