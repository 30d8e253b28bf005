/- Contracts: Least. No conditions but those of each statement. -/
import Derived.Test.YtcbfnkgodiaiiaaGreatPa
import Derived.Test.YtcbfnkgodiaiiaaGreatPl
import Derived.Test.YtcbfnkgodiaiiaaGreatNe
import Derived.Test.YtcbfnkgodiaiiaaGreatNh
import Derived.Test.YtcbfnkgodiaiiaaGreatNi
set_option linter.unusedSimpArgs false
set_option linter.unusedVariables false
namespace Go.Proofs.YtcbfnkgodiaiiaaGreat
open Go.RowKit
theorem X2 {l : List PcQ} {t : Rat} (hl : okC l) (h0 : l ≠ []) : Fits (atQ l t) := by
 unfold atQ
 split
 ·have h : l[0]? = some (l[0]'(List.length_pos_iff.2 h0)) := List.getElem?_eq_getElem _
  rw [Bb h]
  exact (hl _ (List.mem_of_getElem? h)).a
 ·exact Cp _
/-! ### Pieces, values -/
def okV (p : PcQ) (u : Rat) : Prop := Fits (p.c * u) /\ Fits (p.b + p.c * u) /\ Fits ((p.b + p.c * u) * u) /\ Fits (p.a + (p.b + p.c * u) * u)
instance (p : PcQ) (u : Rat) : Decidable (okV p u) := by unfold okV;exact inferInstance
def Kh (p : PcQ) (u : Rat) : Rat := p.a + (p.b + p.c * u) * u
def okS (p : PcQ) (u : Rat) : Prop := Fits (p.c * u) /\ Fits (2 * (p.c * u)) /\ Fits (p.b + 2 * (p.c * u))
instance (p : PcQ) (u : Rat) : Decidable (okS p u) := by unfold okS;exact inferInstance
def Wz (p : PcQ) (u : Rat) : Rat := p.b + 2 * (p.c * u)
theorem E0 {r : Rat} (h : Fits r) : kQ r = r := if_pos h
theorem E1 {r : Rat} {e : Int} (h : Fits r) : kE r e = e := if_pos h
theorem Eo {r : Rat} (h : ¬ Fits r) : kE r 0 = 5 := by unfold kE;rw [if_neg h, if_pos rfl]
theorem B6 (r : Rat) : kE r 5 = 5 := by
 unfold kE
 split
 ·rfl
 ·rw [if_neg (by decide)]
theorem Oe (p : PcQ) (u : Rat) : Hr p u 5 = 5 := by simp only [Hr, B6]
theorem L2 (p : PcQ) (u : Rat) : Km p u 5 = 5 := by simp only [Km, B6]
theorem Ac8 {p : PcQ} {u : Rat} (h : okV p u) (e : Int) : Fk p u = Kh p u /\ Hr p u e = e := by
 obtain ⟨h1, h2, h3, h4⟩ := h
 unfold Fk Hr Ts Oc Mt Ec Kh
 rw [E0 h1, E0 h2, E0 h3, E0 h4, E1 h4, E1 h3, E1 h2, E1 h1]
 exact ⟨rfl, rfl⟩
theorem Acd {p : PcQ} {u : Rat} (h : ¬ okV p u) : Hr p u 0 = 5 := by
 unfold Hr Ts Oc Mt Ec
 by_cases h1 : Fits (p.c * u)
 ·rw [E1 h1, E0 h1]
  by_cases h2 : Fits (p.b + p.c * u)
  ·rw [E1 h2, E0 h2]
   by_cases h3 : Fits ((p.b + p.c * u) * u)
   ·rw [E1 h3, E0 h3]
    exact Eo fun h4 => h ⟨h1, h2, h3, h4⟩
   ·rw [Eo h3, B6]
  ·rw [Eo h2, B6, B6]
 ·rw [Eo h1, B6, B6, B6]
theorem Abu {p : PcQ} {u : Rat} (h : okS p u) (e : Int) : I6 p u = Wz p u /\ Km p u e = e := by
 obtain ⟨h1, h2, h3⟩ := h
 unfold I6 Km Xu Nb Ec Wz
 rw [E0 h1, E0 h2, E0 h3, E1 h3, E1 h2, E1 h1]
 exact ⟨rfl, rfl⟩
theorem Aar {p : PcQ} {u : Rat} (h : ¬ okS p u) : Km p u 0 = 5 := by
 unfold Km Xu Nb Ec
 by_cases h1 : Fits (p.c * u)
 ·rw [E1 h1, E0 h1]
  by_cases h2 : Fits (2 * (p.c * u))
  ·rw [E1 h2, E0 h2]
   exact Eo fun h3 => h ⟨h1, h2, h3⟩
  ·rw [Eo h2, B6]
 ·rw [Eo h1, B6, B6]
def Ah (l : List PcQ) : Prop := ∀ i, i + 1 < l.length -> (A6 l i).f < (A6 l (i + 1)).f
theorem A46 {l : List PieceR} (h : P7 l) : okC (l.map toQ) /\ (l.map toQ).map PcQ.row = l.map PieceR.row /\ l.map toQ ≠ [] /\ Ah (l.map toQ) := by
 obtain ⟨h1, h2, h3⟩ := h
 refine ⟨fun p hp => ?_, ?_, fun e => ?_, fun i hi => ?_⟩
 ·obtain ⟨x, hx, rfl⟩ := List.mem_map.1 hp
  exact (h2 x hx).ok.1
 ·rw [List.map_map]
  exact List.map_congr_left fun x hx => (h2 x hx).ok.2
 ·have := congrArg List.length e
  rw [List.length_map, List.length_nil] at this
  omega
 ·rw [List.length_map] at hi
  have a1 : (l.map toQ)[i]? = some (toQ (l[i]'(by omega))) := by rw [List.getElem?_map, List.getElem?_eq_getElem (by omega)];rfl
  have a2 : (l.map toQ)[i + 1]? = some (toQ (l[i + 1]'(by omega))) := by rw [List.getElem?_map, List.getElem?_eq_getElem (by omega)];rfl
  rw [Bb a1, Bb a2, <- H3 (List.getElem?_eq_getElem (by omega)), <- H3 (List.getElem?_eq_getElem (by omega))]
  exact h3 i (by omega)
end Go.Proofs.YtcbfnkgodiaiiaaGreat
