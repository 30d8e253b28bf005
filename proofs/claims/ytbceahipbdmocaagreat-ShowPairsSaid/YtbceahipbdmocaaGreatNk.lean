/- Contracts: Least. No conditions but those of each statement. -/
import Derived.Test.YtbceahipbdmocaaGreatPa
import Derived.Test.YtbceahipbdmocaaGreatPl
import Derived.Test.YtbceahipbdmocaaGreatNe
import Derived.Test.YtbceahipbdmocaaGreatNh
import Derived.Test.YtbceahipbdmocaaGreatNi
set_option linter.unusedSimpArgs false
set_option linter.unusedVariables false
namespace Go.Proofs.YtbceahipbdmocaaGreat
open Go.RowKit
theorem Yp {l : List PcQ} {t : Rat} (hl : okC l) (h0 : l ≠ []) : Fits (atQ l t) := by
 unfold atQ
 split
 ·have h : l[0]? = some (l[0]'(List.length_pos_iff.2 h0)) := List.getElem?_eq_getElem _
  rw [Cf h]
  exact (hl _ (List.mem_of_getElem? h)).a
 ·exact Cg _
/-! ### Pieces, values -/
def okV (p : PcQ) (u : Rat) : Prop := Fits (p.c * u) /\ Fits (p.b + p.c * u) /\ Fits ((p.b + p.c * u) * u) /\ Fits (p.a + (p.b + p.c * u) * u)
instance (p : PcQ) (u : Rat) : Decidable (okV p u) := by unfold okV;exact inferInstance
def Jm (p : PcQ) (u : Rat) : Rat := p.a + (p.b + p.c * u) * u
def okS (p : PcQ) (u : Rat) : Prop := Fits (p.c * u) /\ Fits (2 * (p.c * u)) /\ Fits (p.b + 2 * (p.c * u))
instance (p : PcQ) (u : Rat) : Decidable (okS p u) := by unfold okS;exact inferInstance
def Wy (p : PcQ) (u : Rat) : Rat := p.b + 2 * (p.c * u)
theorem Dp {r : Rat} (h : Fits r) : kQ r = r := if_pos h
theorem Dk {r : Rat} {e : Int} (h : Fits r) : kE r e = e := if_pos h
theorem Dx {r : Rat} (h : ¬ Fits r) : kE r 0 = 5 := by unfold kE;rw [if_neg h, if_pos rfl]
theorem Ay (r : Rat) : kE r 5 = 5 := by
 unfold kE
 split
 ·rfl
 ·rw [if_neg (by decide)]
theorem O1 (p : PcQ) (u : Rat) : Hc p u 5 = 5 := by simp only [Hc, Ay]
theorem Kh (p : PcQ) (u : Rat) : Kg p u 5 = 5 := by simp only [Kg, Ay]
theorem Aa6 {p : PcQ} {u : Rat} (h : okV p u) (e : Int) : L4 p u = Jm p u /\ Hc p u e = e := by
 obtain ⟨h1, h2, h3, h4⟩ := h
 unfold L4 Hc A1v Ty Rc Et Jm
 rw [Dp h1, Dp h2, Dp h3, Dp h4, Dk h4, Dk h3, Dk h2, Dk h1]
 exact ⟨rfl, rfl⟩
theorem A9s {p : PcQ} {u : Rat} (h : ¬ okV p u) : Hc p u 0 = 5 := by
 unfold Hc A1v Ty Rc Et
 by_cases h1 : Fits (p.c * u)
 ·rw [Dk h1, Dp h1]
  by_cases h2 : Fits (p.b + p.c * u)
  ·rw [Dk h2, Dp h2]
   by_cases h3 : Fits ((p.b + p.c * u) * u)
   ·rw [Dk h3, Dp h3]
    exact Dx fun h4 => h ⟨h1, h2, h3, h4⟩
   ·rw [Dx h3, Ay]
  ·rw [Dx h2, Ay, Ay]
 ·rw [Dx h1, Ay, Ay, Ay]
theorem Ab1 {p : PcQ} {u : Rat} (h : okS p u) (e : Int) : P1 p u = Wy p u /\ Kg p u e = e := by
 obtain ⟨h1, h2, h3⟩ := h
 unfold P1 Kg A29 O8 Et Wy
 rw [Dp h1, Dp h2, Dp h3, Dk h3, Dk h2, Dk h1]
 exact ⟨rfl, rfl⟩
theorem Aa0 {p : PcQ} {u : Rat} (h : ¬ okS p u) : Kg p u 0 = 5 := by
 unfold Kg A29 O8 Et
 by_cases h1 : Fits (p.c * u)
 ·rw [Dk h1, Dp h1]
  by_cases h2 : Fits (2 * (p.c * u))
  ·rw [Dk h2, Dp h2]
   exact Dx fun h3 => h ⟨h1, h2, h3⟩
  ·rw [Dx h2, Ay]
 ·rw [Dx h1, Ay, Ay]
def Ba (l : List PcQ) : Prop := ∀ i, i + 1 < l.length -> (Af l i).f < (Af l (i + 1)).f
theorem A3q {l : List PieceR} (h : Nu l) : okC (l.map toQ) /\ (l.map toQ).map PcQ.row = l.map PieceR.row /\ l.map toQ ≠ [] /\ Ba (l.map toQ) := by
 obtain ⟨h1, h2, h3⟩ := h
 refine ⟨fun p hp => ?_, ?_, fun e => ?_, fun i hi => ?_⟩
 ·obtain ⟨x, hx, rfl⟩ := List.mem_map.1 hp
  exact (h2 x hx).ok.1
 ·rw [List.map_map]
  exact List.map_congr_left fun x hx => (h2 x hx).ok.2
 ·have := congrArg List.length e
  rw [List.length_map, List.length_nil] at this
  omega
 ·rw [List.length_map] at hi
  have a1 : (l.map toQ)[i]? = some (toQ (l[i]'(by omega))) := by rw [List.getElem?_map, List.getElem?_eq_getElem (by omega)];rfl
  have a2 : (l.map toQ)[i + 1]? = some (toQ (l[i + 1]'(by omega))) := by rw [List.getElem?_map, List.getElem?_eq_getElem (by omega)];rfl
  rw [Cf a1, Cf a2, <- Gb (List.getElem?_eq_getElem (by omega)), <- Gb (List.getElem?_eq_getElem (by omega))]
  exact h3 i (by omega)
end Go.Proofs.YtbceahipbdmocaaGreat
