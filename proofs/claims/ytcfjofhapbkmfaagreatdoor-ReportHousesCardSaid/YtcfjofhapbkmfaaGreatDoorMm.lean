/- Contracts: what is small;cues that are found. No conditions but those of each statement. -/
import Derived.Test.YtcfjofhapbkmfaaGreatDoorMk
import Derived.Test.YtcfjofhapbkmfaaGreatDoorMb
set_option linter.unusedSimpArgs false
set_option linter.unusedVariables false
namespace Go.Proofs.YtcfjofhapbkmfaaGreatDoor
open Go.RowKit
/-! ### What is small -/
def M7 (s : SetR) (n : Int) : Prop := (s.name.size : Int) <= 60 /\ (s.lines.length : Int) <= 12 /\ ¬ (n < s.items.length /\ (s.items.length : Int) <= 40) /\ (s.items.length : Int) <= 45 /\ (s.bricks.length : Int) <= 10 /\ (∀ x ∈ s.items, (x.name.size : Int) <= 60) /\ ∀ x ∈ s.bricks, (x.name.size : Int) <= 60
noncomputable instance (s : SetR) (n : Int) : Decidable (M7 s n) := Classical.propDecidable _
set_option maxHeartbeats 8000000 in
theorem Vv (s : SetR) (n : Int) (hf : s.fits) : Fn0 Tryz.prog 42 [A6 s.row, .i n] (.b (decide (M7 s n))) := by
 have hle : (s.lines.map A8).length = s.lines.length := List.length_map _
 have hle2 : (s.items.map ItemR.row).length = s.items.length := List.length_map _
 have hle3 : (s.bricks.map BrickR.row).length = s.bricks.length := List.length_map _
 refine Fn0.of Tryz.func42 Tryz.ntmps42 rfl rfl rfl ?_
 simp only [A0]
 repeat' (first | refine W ?_ | refine V ?_|(refine W2 ?_ ?_ <;> intro hc))
 all_goals first
  | exact A7 (by simp) Tryz.results42 rfl (congrArg Value.bool (decide_eq_false (fun h => by
    obtain ⟨g1, g2, g3, g4, g5, _⟩ := h
    omega)).symm)
  | skip
 all_goals
  refine T.loopS (fun k => k <= s.items.length /\ ∀ x ∈ s.items.take k, (x.name.size : Int) <= 60) (fun k => s.items.length - k) (fun k => [(5, .i k), (2, .ptr 0 0)]) (fun _ => [.live (s.row.map .lf)]) 0 ⟨Nat.zero_le _, by simp⟩ CV (.live rfl .nil) ?_
  rintro k ⟨hk, hok⟩
  by_cases hlt : k < s.items.length
  ·have h1 : (k : Int) < ((s.items.map ItemR.row).length : Nat) := by omega
   obtain ⟨x, hx⟩ := Aa hlt
   have hb := Ab (R := ItemR.row) hx
   have hsn := Ai hx
   have hmem : x ∈ s.items := List.mem_of_getElem? hx
   repeat' (first | refine W ?_|(apply S.indexR;(iterate 3 exact rfl);exact hb;omega;exact rfl)|refine Za ?_ | refine V ?_|(refine W2 ?_ ?_ <;> intro hc))
   all_goals (try change Next _ _ _ _ _ _)
   all_goals first
    | exact Next.go (k + 1) ⟨by omega, by rw [hsn];intro y hy;rcases List.mem_append.1 hy with hy | hy;exact hok y hy;obtain rfl : y = x := (by simpa using hy);omega⟩ (by omega) CV (.live rfl .nil)
    | exact A7 (by simp) Tryz.results42 rfl (congrArg Value.bool (decide_eq_false (fun h => by have := h.2.2.2.2.2.1 x hmem;omega)).symm)
  ·have h1 : ¬ (k : Int) < ((s.items.map ItemR.row).length : Nat) := by omega
   have hk2 : s.items.take k = s.items := List.take_of_length_le (by omega)
   rw [hk2] at hok
   repeat' (first | refine W ?_ | refine V ?_|(refine W2 ?_ ?_ <;> intro hc))
   refine T.loopS (fun k => k <= s.bricks.length /\ ∀ x ∈ s.bricks.take k, (x.name.size : Int) <= 60) (fun k => s.bricks.length - k) (fun k => [(6, .i k), (2, .ptr 0 0)]) (fun _ => [.live (s.row.map .lf)]) 0 ⟨Nat.zero_le _, by simp⟩ CV (.live rfl .nil) ?_
   rintro k ⟨hk, hok2⟩
   by_cases hlt2 : k < s.bricks.length
   ·have h1 : (k : Int) < ((s.bricks.map BrickR.row).length : Nat) := by omega
    obtain ⟨x, hx⟩ := Aa hlt2
    have hb := Ab (R := BrickR.row) hx
    have hsn := Ai hx
    have hmem : x ∈ s.bricks := List.mem_of_getElem? hx
    repeat' (first | refine W ?_|(apply S.indexR;(iterate 3 exact rfl);exact hb;omega;exact rfl)|refine Za ?_ | refine V ?_|(refine W2 ?_ ?_ <;> intro hc))
    all_goals (try change Next _ _ _ _ _ _)
    all_goals first
     | exact Next.go (k + 1) ⟨by omega, by rw [hsn];intro y hy;rcases List.mem_append.1 hy with hy | hy;exact hok2 y hy;obtain rfl : y = x := (by simpa using hy);omega⟩ (by omega) CV (.live rfl .nil)
     | exact A7 (by simp) Tryz.results42 rfl (congrArg Value.bool (decide_eq_false (fun h => by have := h.2.2.2.2.2.2 x hmem;omega)).symm)
   ·have h1 : ¬ (k : Int) < ((s.bricks.map BrickR.row).length : Nat) := by omega
    have hk2 : s.bricks.take k = s.bricks := List.take_of_length_le (by omega)
    rw [hk2] at hok2
    repeat' (first | refine W ?_ | refine V ?_|(refine W2 ?_ ?_ <;> intro hc))
    exact A7 (by simp) Tryz.results42 rfl (congrArg Value.bool (decide_eq_true ⟨by omega, by omega, by omega, by omega, by omega, hok, hok2⟩).symm)
def Q9 (h : HouseR) (n : Int) : Prop := (h.sets.length : Int) <= n /\ (h.roofs.length : Int) <= n + 10 /\ (h.name.size : Int) <= 60 /\ (∀ s ∈ h.sets, M7 s 8) /\ ∀ x ∈ h.roofs, (x.name.size : Int) <= 60
noncomputable instance (h : HouseR) (n : Int) : Decidable (Q9 h n) := Classical.propDecidable _
set_option maxHeartbeats 8000000 in
theorem Vz (h : HouseR) (n : Int) (hn : 0 <= n /\ n <= 100) (hf : h.fits) : Fn0 Tryz.prog 16 [A6 h.row, .i n] (.b (decide (Q9 h n))) := by
 obtain ⟨hf1, hf2, hf3⟩ := hf
 have hle : (h.sets.map SetR.row).length = h.sets.length := List.length_map _
 have hle2 : (h.roofs.map RoofR.row).length = h.roofs.length := List.length_map _
 refine Fn0.of Tryz.func16 Tryz.ntmps16 rfl rfl rfl ?_
 simp only [A0]
 repeat' (first | refine W ?_|refine Za ?_ | refine V ?_|(refine W2 ?_ ?_ <;> intro hc))
 all_goals first
  | exact A7 (by simp) Tryz.results16 rfl (congrArg Value.bool (decide_eq_false (fun h => by
    obtain ⟨g1, g2, g3, _⟩ := h
    omega)).symm)
  | skip
 refine T.loopS (fun k => k <= h.sets.length /\ ∀ x ∈ h.sets.take k, M7 x 8) (fun k => h.sets.length - k) (fun k => [(5, .i k), (2, .ptr 0 0)]) (fun _ => [.live (h.row.map .lf)]) 0 ⟨Nat.zero_le _, by simp⟩ CV (.live rfl .nil) ?_
 rintro k ⟨hk, hok⟩
 by_cases hlt : k < h.sets.length
 ·have h1 : (k : Int) < ((h.sets.map SetR.row).length : Nat) := by omega
  obtain ⟨x, hx⟩ := Aa hlt
  have hb := Ab (R := SetR.row) hx
  have hsn := Ai hx
  have hmem : x ∈ h.sets := List.mem_of_getElem? hx
  repeat' (first | refine W ?_|(apply S.indexR;(iterate 3 exact rfl);exact hb;omega;exact rfl)|(apply S.loadRW;(iterate 4 exact rfl))|(apply S.call;exact rfl;exact rfl;exact Vv x 8 (hf3 x hmem);exact rfl)|refine Za ?_ | refine V ?_|(refine W2 ?_ ?_ <;> intro hc))
  all_goals (try change Next _ _ _ _ _ _)
  all_goals first
   | exact Next.go (k + 1) ⟨by omega, by rw [hsn];intro y hy;rcases List.mem_append.1 hy with hy | hy;exact hok y hy;obtain rfl : y = x := (by simpa using hy);assumption⟩ (by omega) CV (.live rfl .nil)
   | exact A7 (by simp) Tryz.results16 rfl (congrArg Value.bool (decide_eq_false (fun h => absurd (h.2.2.2.1 x hmem) (by assumption))).symm)
 ·have h1 : ¬ (k : Int) < ((h.sets.map SetR.row).length : Nat) := by omega
  have hk2 : h.sets.take k = h.sets := List.take_of_length_le (by omega)
  rw [hk2] at hok
  repeat' (first | refine W ?_ | refine V ?_|(refine W2 ?_ ?_ <;> intro hc))
  refine T.loopS (fun k => k <= h.roofs.length /\ ∀ x ∈ h.roofs.take k, (x.name.size : Int) <= 60) (fun k => h.roofs.length - k) (fun k => [(6, .i k), (2, .ptr 0 0)]) (fun _ => [.live (h.row.map .lf)]) 0 ⟨Nat.zero_le _, by simp⟩ CV (.live rfl .nil) ?_
  rintro k ⟨hk, hok2⟩
  by_cases hlt2 : k < h.roofs.length
  ·have h1 : (k : Int) < ((h.roofs.map RoofR.row).length : Nat) := by omega
   obtain ⟨x, hx⟩ := Aa hlt2
   have hb := Ab (R := RoofR.row) hx
   have hsn := Ai hx
   have hmem : x ∈ h.roofs := List.mem_of_getElem? hx
   repeat' (first | refine W ?_|(apply S.indexR;(iterate 3 exact rfl);exact hb;omega;exact rfl)|refine Za ?_ | refine V ?_|(refine W2 ?_ ?_ <;> intro hc))
   all_goals (try change Next _ _ _ _ _ _)
   all_goals first
    | exact Next.go (k + 1) ⟨by omega, by rw [hsn];intro y hy;rcases List.mem_append.1 hy with hy | hy;exact hok2 y hy;obtain rfl : y = x := (by simpa using hy);omega⟩ (by omega) CV (.live rfl .nil)
    | exact A7 (by simp) Tryz.results16 rfl (congrArg Value.bool (decide_eq_false (fun h => by have := h.2.2.2.2 x hmem;omega)).symm)
  ·have h1 : ¬ (k : Int) < ((h.roofs.map RoofR.row).length : Nat) := by omega
   have hk2 : h.roofs.take k = h.roofs := List.take_of_length_le (by omega)
   rw [hk2] at hok2
   repeat' (first | refine W ?_ | refine V ?_|(refine W2 ?_ ?_ <;> intro hc))
   exact A7 (by simp) Tryz.results16 rfl (congrArg Value.bool (decide_eq_true ⟨by omega, by omega, by omega, hok, hok2⟩).symm)
/-! ### Cues that are found -/
/-! ### Pairs of cues -/
end Go.Proofs.YtcfjofhapbkmfaaGreatDoor
