/- Contracts: Least. No conditions but those of each statement. -/
import Derived.Test.YtocoehahhohpgaaGreatPa
import Derived.Test.YtocoehahhohpgaaGreatPl
import Derived.Test.YtocoehahhohpgaaGreatNe
import Derived.Test.YtocoehahhohpgaaGreatNh
import Derived.Test.YtocoehahhohpgaaGreatNi
set_option linter.unusedSimpArgs false
set_option linter.unusedVariables false
namespace Go.Proofs.YtocoehahhohpgaaGreat
open Go.RowKit
theorem Mz {l : List PcQ} {t : Rat} (hl : okC l) (h0 : l ≠ []) : Fits (atQ l t) := by
 unfold atQ
 split
 ·have h : l[0]? = some (l[0]'(List.length_pos_iff.2 h0)) := List.getElem?_eq_getElem _
  rw [Bs h]
  exact (hl _ (List.mem_of_getElem? h)).a
 ·exact Cp _
/-! ### Pieces, values -/
def rpN (l : List PcQ) (t : Rat) : Nat -> Nat
 | 0 => 0
 | k + 1 => if rpN l t k = k /\ (A8 l k).f <= t then k + 1 else rpN l t k
def rpI (l : List PcQ) (t : Rat) : Int := (rpN l t l.length : Int) - 1
theorem Y2 (l : List PcQ) (t : Rat) : ∀ k, rpN l t k <= k
 | 0 => Nat.le_refl _
 | k + 1 => by
  have := Y2 l t k
  rw [rpN]
  split <;> omega
def okV (p : PcQ) (u : Rat) : Prop := Fits (p.c * u) /\ Fits (p.b + p.c * u) /\ Fits ((p.b + p.c * u) * u) /\ Fits (p.a + (p.b + p.c * u) * u)
instance (p : PcQ) (u : Rat) : Decidable (okV p u) := by unfold okV;exact inferInstance
def I0 (p : PcQ) (u : Rat) : Rat := p.a + (p.b + p.c * u) * u
def okS (p : PcQ) (u : Rat) : Prop := Fits (p.c * u) /\ Fits (2 * (p.c * u)) /\ Fits (p.b + 2 * (p.c * u))
instance (p : PcQ) (u : Rat) : Decidable (okS p u) := by unfold okS;exact inferInstance
def Tu (p : PcQ) (u : Rat) : Rat := p.b + 2 * (p.c * u)
theorem E2 {r : Rat} (h : Fits r) : kQ r = r := if_pos h
theorem Dz {r : Rat} {e : Int} (h : Fits r) : kE r e = e := if_pos h
theorem Eg {r : Rat} (h : ¬ Fits r) : kE r 0 = 5 := by unfold kE;rw [if_neg h, if_pos rfl]
theorem B7 (r : Rat) : kE r 5 = 5 := by
 unfold kE
 split
 ·rfl
 ·rw [if_neg (by decide)]
theorem Ot (p : PcQ) (u : Rat) : Hn p u 5 = 5 := by simp only [Hn, B7]
theorem Ko (p : PcQ) (u : Rat) : K3 p u 5 = 5 := by simp only [K3, B7]
theorem Aam {p : PcQ} {u : Rat} (h : okV p u) (e : Int) : Kv p u = I0 p u /\ Hn p u e = e := by
 obtain ⟨h1, h2, h3, h4⟩ := h
 unfold Kv Hn A2t Tg Qm Fc I0
 rw [E2 h1, E2 h2, E2 h3, E2 h4, Dz h4, Dz h3, Dz h2, Dz h1]
 exact ⟨rfl, rfl⟩
theorem A9v {p : PcQ} {u : Rat} (h : ¬ okV p u) : Hn p u 0 = 5 := by
 unfold Hn A2t Tg Qm Fc
 by_cases h1 : Fits (p.c * u)
 ·rw [Dz h1, E2 h1]
  by_cases h2 : Fits (p.b + p.c * u)
  ·rw [Dz h2, E2 h2]
   by_cases h3 : Fits ((p.b + p.c * u) * u)
   ·rw [Dz h3, E2 h3]
    exact Eg fun h4 => h ⟨h1, h2, h3, h4⟩
   ·rw [Eg h3, B7]
  ·rw [Eg h2, B7, B7]
 ·rw [Eg h1, B7, B7, B7]
theorem A9z {p : PcQ} {u : Rat} (h : okS p u) (e : Int) : Ok p u = Tu p u /\ K3 p u e = e := by
 obtain ⟨h1, h2, h3⟩ := h
 unfold Ok K3 A1z Od Fc Tu
 rw [E2 h1, E2 h2, E2 h3, Dz h3, Dz h2, Dz h1]
 exact ⟨rfl, rfl⟩
theorem Aau {p : PcQ} {u : Rat} (h : ¬ okS p u) : K3 p u 0 = 5 := by
 unfold K3 A1z Od Fc
 by_cases h1 : Fits (p.c * u)
 ·rw [Dz h1, E2 h1]
  by_cases h2 : Fits (2 * (p.c * u))
  ·rw [Dz h2, E2 h2]
   exact Eg fun h3 => h ⟨h1, h2, h3⟩
  ·rw [Eg h2, B7]
 ·rw [Eg h1, B7, B7]
def Ah (l : List PcQ) : Prop := ∀ i, i + 1 < l.length -> (A8 l i).f < (A8 l (i + 1)).f
theorem A3s {l : List PieceR} (h : Oi l) : okC (l.map toQ) /\ (l.map toQ).map PcQ.row = l.map PieceR.row /\ l.map toQ ≠ [] /\ Ah (l.map toQ) := by
 obtain ⟨h1, h2, h3⟩ := h
 refine ⟨fun p hp => ?_, ?_, fun e => ?_, fun i hi => ?_⟩
 ·obtain ⟨x, hx, rfl⟩ := List.mem_map.1 hp
  exact (h2 x hx).ok.1
 ·rw [List.map_map]
  exact List.map_congr_left fun x hx => (h2 x hx).ok.2
 ·have := congrArg List.length e
  rw [List.length_map, List.length_nil] at this
  omega
 ·rw [List.length_map] at hi
  have a1 : (l.map toQ)[i]? = some (toQ (l[i]'(by omega))) := by rw [List.getElem?_map, List.getElem?_eq_getElem (by omega)];rfl
  have a2 : (l.map toQ)[i + 1]? = some (toQ (l[i + 1]'(by omega))) := by rw [List.getElem?_map, List.getElem?_eq_getElem (by omega)];rfl
  rw [Bs a1, Bs a2, <- Gp (List.getElem?_eq_getElem (by omega)), <- Gp (List.getElem?_eq_getElem (by omega))]
  exact h3 i (by omega)
theorem Qn {l : List PcQ} (hs : Ah l) (t : Rat) : ∀ k : Nat, k < l.length -> (A8 l k).f <= t -> rpN l t (k + 1) = k + 1
 | 0, _, h => by rw [rpN, if_pos ⟨rfl, h⟩]
 | k + 1, hk, h => by
  have h1 : (A8 l k).f <= t := Rat.le_trans (Rat.le_of_lt (hs k hk)) h
  rw [rpN, if_pos ⟨Qn hs t k (by omega) h1, h⟩]
theorem Zs {l : List PcQ} (hs : Ah l) (t : Rat) : ∀ k : Nat, k <= l.length -> pcK l t k = (rpN l t k : Int) - 1
 | 0, _ => rfl
 | k + 1, hk => by
  have ih := Zs hs t k (by omega)
  by_cases h : (A8 l k).f <= t
  ·rw [Qn hs t k hk h, pcK, if_pos h];omega
  ·rw [pcK, if_neg h, ih, rpN, if_neg fun e => h e.2]
theorem Jg {l : List PcQ} (hs : Ah l) (t : Rat) : pcI l t = rpI l t := Zs hs t l.length (Nat.le_refl _)
end Go.Proofs.YtocoehahhohpgaaGreat
