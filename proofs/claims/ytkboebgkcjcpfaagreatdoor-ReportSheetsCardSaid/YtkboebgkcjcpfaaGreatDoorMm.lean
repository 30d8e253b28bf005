/- Contracts: what is small;cues that are found. No conditions but those of each statement. -/
import Derived.Test.YtkboebgkcjcpfaaGreatDoorMk
import Derived.Test.YtkboebgkcjcpfaaGreatDoorMb
set_option linter.unusedSimpArgs false
set_option linter.unusedVariables false
namespace Go.Proofs.YtkboebgkcjcpfaaGreatDoor
open Go.RowKit
/-! ### What is small -/
def P1 (s : SetR) (n : Int) : Prop := (s.name.size : Int) <= 60 /\ (s.lines.length : Int) <= 12 /\ ¬ (n < s.items.length /\ (s.items.length : Int) <= 40) /\ (s.items.length : Int) <= 45 /\ (s.bricks.length : Int) <= 10 /\ (∀ x ∈ s.items, (x.name.size : Int) <= 60) /\ ∀ x ∈ s.bricks, (x.name.size : Int) <= 60
noncomputable instance (s : SetR) (n : Int) : Decidable (P1 s n) := Classical.propDecidable _
set_option maxHeartbeats 8000000 in
theorem A0b (s : SetR) (n : Int) (hf : s.fits) : Fn0 Tryz.prog 39 [A4 s.row, .i n] (.b (decide (P1 s n))) := by
 have hle : (s.lines.map A1).length = s.lines.length := List.length_map _
 have hle2 : (s.items.map ItemR.row).length = s.items.length := List.length_map _
 have hle3 : (s.bricks.map BrickR.row).length = s.bricks.length := List.length_map _
 refine Fn0.of Tryz.func39 Tryz.ntmps39 rfl rfl rfl ?_
 simp only [A0]
 repeat' (first | refine W ?_ | refine V ?_|(refine W2 ?_ ?_ <;> intro hc))
 all_goals first
  | exact A5 (by simp) Tryz.results39 rfl (congrArg Value.bool (decide_eq_false (fun h => by
    obtain ⟨g1, g2, g3, g4, g5, _⟩ := h
    omega)).symm)
  | skip
 all_goals
  refine T.loopS (fun k => k <= s.items.length /\ ∀ x ∈ s.items.take k, (x.name.size : Int) <= 60) (fun k => s.items.length - k) (fun k => [(5, .i k), (2, .ptr 0 0)]) (fun _ => [.live (s.row.map .lf)]) 0 ⟨Nat.zero_le _, by simp⟩ CV (.live rfl .nil) ?_
  rintro k ⟨hk, hok⟩
  by_cases hlt : k < s.items.length
  ·have h1 : (k : Int) < ((s.items.map ItemR.row).length : Nat) := by omega
   obtain ⟨x, hx⟩ := Ac hlt
   have hb := Ad (R := ItemR.row) hx
   have hsn := Af hx
   have hmem : x ∈ s.items := List.mem_of_getElem? hx
   repeat' (first | refine W ?_|(apply S.indexR;(iterate 3 exact rfl);exact hb;omega;exact rfl)|refine Za ?_ | refine V ?_|(refine W2 ?_ ?_ <;> intro hc))
   all_goals (try change Next _ _ _ _ _ _)
   all_goals first
    | exact Next.go (k + 1) ⟨by omega, by rw [hsn];intro y hy;rcases List.mem_append.1 hy with hy | hy;exact hok y hy;obtain rfl : y = x := (by simpa using hy);omega⟩ (by omega) CV (.live rfl .nil)
    | exact A5 (by simp) Tryz.results39 rfl (congrArg Value.bool (decide_eq_false (fun h => by have := h.2.2.2.2.2.1 x hmem;omega)).symm)
  ·have h1 : ¬ (k : Int) < ((s.items.map ItemR.row).length : Nat) := by omega
   have hk2 : s.items.take k = s.items := List.take_of_length_le (by omega)
   rw [hk2] at hok
   repeat' (first | refine W ?_ | refine V ?_|(refine W2 ?_ ?_ <;> intro hc))
   refine T.loopS (fun k => k <= s.bricks.length /\ ∀ x ∈ s.bricks.take k, (x.name.size : Int) <= 60) (fun k => s.bricks.length - k) (fun k => [(6, .i k), (2, .ptr 0 0)]) (fun _ => [.live (s.row.map .lf)]) 0 ⟨Nat.zero_le _, by simp⟩ CV (.live rfl .nil) ?_
   rintro k ⟨hk, hok2⟩
   by_cases hlt2 : k < s.bricks.length
   ·have h1 : (k : Int) < ((s.bricks.map BrickR.row).length : Nat) := by omega
    obtain ⟨x, hx⟩ := Ac hlt2
    have hb := Ad (R := BrickR.row) hx
    have hsn := Af hx
    have hmem : x ∈ s.bricks := List.mem_of_getElem? hx
    repeat' (first | refine W ?_|(apply S.indexR;(iterate 3 exact rfl);exact hb;omega;exact rfl)|refine Za ?_ | refine V ?_|(refine W2 ?_ ?_ <;> intro hc))
    all_goals (try change Next _ _ _ _ _ _)
    all_goals first
     | exact Next.go (k + 1) ⟨by omega, by rw [hsn];intro y hy;rcases List.mem_append.1 hy with hy | hy;exact hok2 y hy;obtain rfl : y = x := (by simpa using hy);omega⟩ (by omega) CV (.live rfl .nil)
     | exact A5 (by simp) Tryz.results39 rfl (congrArg Value.bool (decide_eq_false (fun h => by have := h.2.2.2.2.2.2 x hmem;omega)).symm)
   ·have h1 : ¬ (k : Int) < ((s.bricks.map BrickR.row).length : Nat) := by omega
    have hk2 : s.bricks.take k = s.bricks := List.take_of_length_le (by omega)
    rw [hk2] at hok2
    repeat' (first | refine W ?_ | refine V ?_|(refine W2 ?_ ?_ <;> intro hc))
    exact A5 (by simp) Tryz.results39 rfl (congrArg Value.bool (decide_eq_true ⟨by omega, by omega, by omega, by omega, by omega, hok, hok2⟩).symm)
def Lg (h : HouseR) (n : Int) : Prop := (h.sets.length : Int) <= n /\ (h.roofs.length : Int) <= n + 10 /\ (h.name.size : Int) <= 60 /\ (∀ s ∈ h.sets, P1 s 8) /\ ∀ x ∈ h.roofs, (x.name.size : Int) <= 60
noncomputable instance (h : HouseR) (n : Int) : Decidable (Lg h n) := Classical.propDecidable _
set_option maxHeartbeats 8000000 in
theorem A0d (h : HouseR) (n : Int) (hn : 0 <= n /\ n <= 100) (hf : h.fits) : Fn0 Tryz.prog 19 [A4 h.row, .i n] (.b (decide (Lg h n))) := by
 obtain ⟨hf1, hf2, hf3⟩ := hf
 have hle : (h.sets.map SetR.row).length = h.sets.length := List.length_map _
 have hle2 : (h.roofs.map RoofR.row).length = h.roofs.length := List.length_map _
 refine Fn0.of Tryz.func19 Tryz.ntmps19 rfl rfl rfl ?_
 simp only [A0]
 repeat' (first | refine W ?_|refine Za ?_ | refine V ?_|(refine W2 ?_ ?_ <;> intro hc))
 all_goals first
  | exact A5 (by simp) Tryz.results19 rfl (congrArg Value.bool (decide_eq_false (fun h => by
    obtain ⟨g1, g2, g3, _⟩ := h
    omega)).symm)
  | skip
 refine T.loopS (fun k => k <= h.sets.length /\ ∀ x ∈ h.sets.take k, P1 x 8) (fun k => h.sets.length - k) (fun k => [(5, .i k), (2, .ptr 0 0)]) (fun _ => [.live (h.row.map .lf)]) 0 ⟨Nat.zero_le _, by simp⟩ CV (.live rfl .nil) ?_
 rintro k ⟨hk, hok⟩
 by_cases hlt : k < h.sets.length
 ·have h1 : (k : Int) < ((h.sets.map SetR.row).length : Nat) := by omega
  obtain ⟨x, hx⟩ := Ac hlt
  have hb := Ad (R := SetR.row) hx
  have hsn := Af hx
  have hmem : x ∈ h.sets := List.mem_of_getElem? hx
  repeat' (first | refine W ?_|(apply S.indexR;(iterate 3 exact rfl);exact hb;omega;exact rfl)|(apply S.loadRW;(iterate 4 exact rfl))|(apply S.call;exact rfl;exact rfl;exact A0b x 8 (hf3 x hmem);exact rfl)|refine Za ?_ | refine V ?_|(refine W2 ?_ ?_ <;> intro hc))
  all_goals (try change Next _ _ _ _ _ _)
  all_goals first
   | exact Next.go (k + 1) ⟨by omega, by rw [hsn];intro y hy;rcases List.mem_append.1 hy with hy | hy;exact hok y hy;obtain rfl : y = x := (by simpa using hy);assumption⟩ (by omega) CV (.live rfl .nil)
   | exact A5 (by simp) Tryz.results19 rfl (congrArg Value.bool (decide_eq_false (fun h => absurd (h.2.2.2.1 x hmem) (by assumption))).symm)
 ·have h1 : ¬ (k : Int) < ((h.sets.map SetR.row).length : Nat) := by omega
  have hk2 : h.sets.take k = h.sets := List.take_of_length_le (by omega)
  rw [hk2] at hok
  repeat' (first | refine W ?_ | refine V ?_|(refine W2 ?_ ?_ <;> intro hc))
  refine T.loopS (fun k => k <= h.roofs.length /\ ∀ x ∈ h.roofs.take k, (x.name.size : Int) <= 60) (fun k => h.roofs.length - k) (fun k => [(6, .i k), (2, .ptr 0 0)]) (fun _ => [.live (h.row.map .lf)]) 0 ⟨Nat.zero_le _, by simp⟩ CV (.live rfl .nil) ?_
  rintro k ⟨hk, hok2⟩
  by_cases hlt2 : k < h.roofs.length
  ·have h1 : (k : Int) < ((h.roofs.map RoofR.row).length : Nat) := by omega
   obtain ⟨x, hx⟩ := Ac hlt2
   have hb := Ad (R := RoofR.row) hx
   have hsn := Af hx
   have hmem : x ∈ h.roofs := List.mem_of_getElem? hx
   repeat' (first | refine W ?_|(apply S.indexR;(iterate 3 exact rfl);exact hb;omega;exact rfl)|refine Za ?_ | refine V ?_|(refine W2 ?_ ?_ <;> intro hc))
   all_goals (try change Next _ _ _ _ _ _)
   all_goals first
    | exact Next.go (k + 1) ⟨by omega, by rw [hsn];intro y hy;rcases List.mem_append.1 hy with hy | hy;exact hok2 y hy;obtain rfl : y = x := (by simpa using hy);omega⟩ (by omega) CV (.live rfl .nil)
    | exact A5 (by simp) Tryz.results19 rfl (congrArg Value.bool (decide_eq_false (fun h => by have := h.2.2.2.2 x hmem;omega)).symm)
  ·have h1 : ¬ (k : Int) < ((h.roofs.map RoofR.row).length : Nat) := by omega
   have hk2 : h.roofs.take k = h.roofs := List.take_of_length_le (by omega)
   rw [hk2] at hok2
   repeat' (first | refine W ?_ | refine V ?_|(refine W2 ?_ ?_ <;> intro hc))
   exact A5 (by simp) Tryz.results19 rfl (congrArg Value.bool (decide_eq_true ⟨by omega, by omega, by omega, hok, hok2⟩).symm)
structure SheetR where
 cues : List CueR
 apart : List (ByteArray × ByteArray)
def Be (p : ByteArray × ByteArray) : List Lf := [.s p.1, .s p.2]
def SheetR.row (c : SheetR) : List Lf := [.sl (c.cues.map CueR.row), .sl (c.apart.map Be)]
def SheetR.fits (c : SheetR) : Prop := c.cues.length <= 9223372036854775807 /\ c.apart.length <= 9223372036854775807 /\ ∀ q ∈ c.cues, q.moves.length <= 140737488355328
def A19 (q : CueR) (n : Int) : Prop := (q.moves.length : Int) <= n /\ (q.name.size : Int) <= 60 /\ (q.after.size : Int) <= 60 /\ ∀ m ∈ q.moves, (m.set.size : Int) <= 60
def Ld (c : SheetR) (n : Int) : Prop := (c.cues.length : Int) <= n /\ (c.apart.length : Int) <= 2 * n /\ (∀ q ∈ c.cues, A19 q n) /\ ∀ p ∈ c.apart, (p.1.size : Int) <= 60 /\ (p.2.size : Int) <= 60
noncomputable instance (c : SheetR) (n : Int) : Decidable (Ld c n) := Classical.propDecidable _
set_option maxHeartbeats 8000000 in
theorem A0i (c : SheetR) (n : Int) (hn : 0 <= n /\ n <= 100) (hf : c.fits) : Fn0 Tryz.prog 20 [A4 c.row, .i n] (.b (decide (Ld c n))) := by
 obtain ⟨hf1, hf2, hf3⟩ := hf
 have hle : (c.cues.map CueR.row).length = c.cues.length := List.length_map _
 have hle2 : (c.apart.map Be).length = c.apart.length := List.length_map _
 refine Fn0.of Tryz.func20 Tryz.ntmps20 rfl rfl rfl ?_
 simp only [A0]
 repeat' (first | refine W ?_|refine Za ?_ | refine V ?_|(refine W2 ?_ ?_ <;> intro hc))
 all_goals first
  | exact A5 (by simp) Tryz.results20 rfl (congrArg Value.bool (decide_eq_false (fun h => by
    obtain ⟨g1, g2, _⟩ := h
    omega)).symm)
  | skip
 refine T.loopS (fun k => k <= c.cues.length /\ ∀ q ∈ c.cues.take k, A19 q n) (fun k => c.cues.length - k) (fun k => [(5, .i k), (2, .ptr 0 0), (1, .i n)]) (fun _ => [.live (c.row.map .lf)]) 0 ⟨Nat.zero_le _, by simp⟩ CV (.live rfl .nil) ?_
 rintro k ⟨hk, hok⟩
 by_cases hlt : k < c.cues.length
 ·have h1 : (k : Int) < ((c.cues.map CueR.row).length : Nat) := by omega
  obtain ⟨q, hq⟩ := Ac hlt
  have hb := Ad (R := CueR.row) hq
  have hsn := Af hq
  have hmem : q ∈ c.cues := List.mem_of_getElem? hq
  have hle3 : (q.moves.map MoveR.row).length = q.moves.length := List.length_map _
  repeat' (first | refine W ?_|(apply S.indexR;(iterate 3 exact rfl);exact hb;omega;exact rfl)|(apply S.loadRW;(iterate 4 exact rfl))|refine Za ?_ | refine V ?_|(refine W2 ?_ ?_ <;> intro hc))
  all_goals first
   | exact A5 (by simp) Tryz.results20 rfl (congrArg Value.bool (decide_eq_false (fun h => by
     obtain ⟨g1, g2, g3, _⟩ := h.2.2.1 q hmem
     omega)).symm)
   | skip
  refine T.loopS (fun j => j <= q.moves.length /\ ∀ m ∈ q.moves.take j, (m.set.size : Int) <= 60) (fun j => q.moves.length - j) (fun j => [(7, .i j), (5, .i k), (2, .ptr 0 0), (6, .ptr 1 0), (1, .i n)]) (fun _ => [.live (c.row.map .lf), .live (q.row.map .lf)]) 0 ⟨Nat.zero_le _, by simp⟩ CV CH ?_
  rintro j ⟨hj, hms⟩
  by_cases hjk : j < q.moves.length
  ·have h2 : (j : Int) < ((q.moves.map MoveR.row).length : Nat) := by omega
   obtain ⟨m, hm⟩ := Ac hjk
   have hbm := Ad (R := MoveR.row) hm
   have hsj := Af hm
   have hmm : m ∈ q.moves := List.mem_of_getElem? hm
   repeat' (first | refine W ?_|(apply S.indexR;(iterate 3 exact rfl);exact hbm;omega;exact rfl)|refine Za ?_ | refine V ?_|(refine W2 ?_ ?_ <;> intro hc))
   all_goals (try change Next _ _ _ _ _ _)
   all_goals first
    | exact Next.go (j + 1) ⟨by omega, by rw [hsj];intro y hy;rcases List.mem_append.1 hy with hy | hy;exact hms y hy;obtain rfl : y = m := (by simpa using hy);omega⟩ (by omega) CV CH
    | exact A5 (by simp) Tryz.results20 rfl (congrArg Value.bool (decide_eq_false (fun h => by have := (h.2.2.1 q hmem).2.2.2 m hmm;omega)).symm)
  ·have h2 : ¬ (j : Int) < ((q.moves.map MoveR.row).length : Nat) := by omega
   have hj2 : q.moves.take j = q.moves := List.take_of_length_le (by omega)
   rw [hj2] at hms
   repeat' (first | refine W ?_|refine Za ?_ | refine V ?_|(refine W2 ?_ ?_ <;> intro hc))
   all_goals (try change Next _ _ _ _ _ _)
   exact Next.go (k + 1) ⟨by omega, by rw [hsn];intro y hy;rcases List.mem_append.1 hy with hy | hy;exact hok y hy;obtain rfl : y = q := (by simpa using hy);exact ⟨by omega, by omega, by omega, hms⟩⟩ (by omega) CV (.live rfl .nil)
 ·have h1 : ¬ (k : Int) < ((c.cues.map CueR.row).length : Nat) := by omega
  have hk2 : c.cues.take k = c.cues := List.take_of_length_le (by omega)
  rw [hk2] at hok
  repeat' (first | refine W ?_ | refine V ?_|(refine W2 ?_ ?_ <;> intro hc))
  refine T.loopS (fun k => k <= c.apart.length /\ ∀ p ∈ c.apart.take k, (p.1.size : Int) <= 60 /\ (p.2.size : Int) <= 60) (fun k => c.apart.length - k) (fun k => [(8, .i k), (2, .ptr 0 0)]) (fun _ => [.live (c.row.map .lf)]) 0 ⟨Nat.zero_le _, by simp⟩ CV (.live rfl .nil) ?_
  rintro k ⟨hk, hok2⟩
  by_cases hlt2 : k < c.apart.length
  ·have h1 : (k : Int) < ((c.apart.map Be).length : Nat) := by omega
   obtain ⟨x, hx⟩ := Ac hlt2
   have hb := Ad (R := Be) hx
   have hsn := Af hx
   have hmem : x ∈ c.apart := List.mem_of_getElem? hx
   repeat' (first | refine W ?_|(apply S.indexR;(iterate 3 exact rfl);exact hb;omega;exact rfl)|(apply S.idxAR;(iterate 3 exact rfl);exact ⟨by decide, by decide⟩;exact rfl)|refine Za ?_ | refine V ?_|(refine W2 ?_ ?_ <;> intro hc))
   all_goals (try change Next _ _ _ _ _ _)
   all_goals first
    | exact Next.go (k + 1) ⟨by omega, by rw [hsn];intro y hy;rcases List.mem_append.1 hy with hy | hy;exact hok2 y hy;obtain rfl : y = x := (by simpa using hy);omega⟩ (by omega) CV (.live rfl .nil)
    | exact A5 (by simp) Tryz.results20 rfl (congrArg Value.bool (decide_eq_false (fun h => by have := h.2.2.2 x hmem;omega)).symm)
  ·have h1 : ¬ (k : Int) < ((c.apart.map Be).length : Nat) := by omega
   have hk2 : c.apart.take k = c.apart := List.take_of_length_le (by omega)
   rw [hk2] at hok2
   repeat' (first | refine W ?_ | refine V ?_|(refine W2 ?_ ?_ <;> intro hc))
   exact A5 (by simp) Tryz.results20 rfl (congrArg Value.bool (decide_eq_true ⟨by omega, by omega, hok, hok2⟩).symm)
/-! ### Cues that are found -/
abbrev Az (l : List CueR) (n : ByteArray) : Int := idx (fun q : CueR => q.name = n) l
theorem Wx {α : Type} {p : α -> Prop} [DecidablePred p] {l : List α} : 0 <= idx p l ↔ ∃ x ∈ l, p x := decide_eq_decide.1 (Gi p l)
theorem idx_lt_iff {α : Type} {p : α -> Prop} [DecidablePred p] : ∀ {l : List α} {i : Nat}, (0 <= idx p l /\ idx p l < i) ↔ ∃ y ∈ l.take i, p y
 | [], i => by simp [idx]
 | x :: l, 0 => by simp only [List.take_zero, List.not_mem_nil, false_and, exists_false, iff_false];omega
 | x :: l, i + 1 => by
  have ih := idx_lt_iff (p := p) (l := l) (i := i)
  have hg := Fk p l
  rw [List.take_succ_cons, idx]
  by_cases hx : p x
  ·rw [if_pos hx]
   exact ⟨fun _ => ⟨x, by simp, hx⟩, fun _ => by omega⟩
  ·rw [if_neg hx]
   constructor
   ·intro h
    split at h
    ·omega
    ·obtain ⟨y, hy, hp⟩ := ih.1 (by omega)
     exact ⟨y, by simp [hy], hp⟩
   ·rintro ⟨y, hy, hp⟩
    rcases List.mem_cons.1 hy with rfl | hy
    ·exact absurd hp hx
    ·have := ih.2 ⟨y, hy, hp⟩
     rw [if_neg (by omega)];omega
theorem Yu (n : ByteArray) (q : CueR) : Fn0 Tryz.prog 191 [A4 q.row, .rop [.s n]] (.b (decide (q.name = n))) := by
 refine Fn0.of Tryz.func191 Tryz.ntmps191 rfl rfl rfl ?_
 simp only [A0]
 repeat' (first | refine W ?_ | refine V ?_|(refine W2 ?_ ?_ <;> intro hc))
 all_goals exact A5 (by simp) Tryz.results191 rfl (by rfl)
theorem Iv (l : List CueR) (n : ByteArray) (hs : l.length <= 9223372036854775807) : Fn0 Tryz.prog 139 [.sl (l.map CueR.row), .s n] (.i (Az l n)) := by
 have hc : Fn0 Tryz.prog 150 [.sl (l.map CueR.row), .fn (.func 191) [] [.rop [.s n]]] (.i (Az l n)) :=
  Kw l CueR.row (fun q => q.name = n) _ _ (fun _ => rfl) hs rfl fun q _ => Yu n q
 refine Fn0.of Tryz.func139 Tryz.ntmps139 rfl rfl rfl ?_
 simp only [A0]
 repeat' (first | refine W ?_|(apply S.callV;exact rfl;exact hc;exact .cons (.one (.lf _)) (.cons (.fn (.cons (.ptr0 (cs := [.s n]) rfl) .nil)) .nil);exact rfl;exact rfl) | refine V ?_|(refine W2 ?_ ?_ <;> intro hc))
 all_goals exact A5 (by simp) Tryz.results139 rfl (by rfl)
theorem Rl (l : List CueR) (k : Nat) (n : ByteArray) (hs : l.length <= 9223372036854775807) : Fn0 Tryz.prog 139 [.sl ((l.map CueR.row).take ((k : Nat) : Int).toNat), .s n] (.i (Az (l.take k) n)) := by
 rw [Int.toNat_natCast, <- List.map_take]
 exact Iv (l.take k) n (by simp;omega)
set_option maxHeartbeats 4000000 in
theorem Ts (c : SheetR) (n : ByteArray) (hs : c.cues.length <= 9223372036854775807) : Fn0 Tryz.prog 76 [A4 c.row, .s n] (.i (Az c.cues n)) := by
 have hle : (c.cues.map CueR.row).length = c.cues.length := List.length_map _
 refine Fn0.of Tryz.func76 Tryz.ntmps76 rfl rfl rfl ?_
 simp only [A0]
 repeat' (first | refine W ?_ | refine V ?_|(refine W2 ?_ ?_ <;> intro hc))
 refine T.loopS (fun k => k <= c.cues.length /\ ∀ s ∈ c.cues.take k, ¬ s.name = n) (fun k => c.cues.length - k) (fun k => [(5, .i k), (2, .ptr 0 0), (1, .s n)]) (fun _ => [.live (c.row.map .lf)]) 0 ⟨Nat.zero_le _, by simp⟩ CV (.live rfl .nil) ?_
 rintro k ⟨hk, hno⟩
 by_cases hlt : k < c.cues.length
 ·have h1 : (k : Int) < ((c.cues.map CueR.row).length : Nat) := by omega
  obtain ⟨x, hx⟩ := Ac hlt
  have hb := Ad (R := CueR.row) hx
  have hsn := Af hx
  repeat' (first | refine W ?_|(apply T.drawAll A3 (by kernel_rfl))|(apply S.indexR;(iterate 3 exact rfl);exact hb;omega;exact rfl)|refine Za ?_ | refine V ?_|(refine W2 ?_ ?_ <;> intro hc))
  all_goals (try change Next _ _ _ _ _ _)
  all_goals first
   | exact Next.go (k + 1) ⟨by omega, by rw [hsn];intro y hy;rcases List.mem_append.1 hy with hy | hy;exact hno y hy;obtain rfl : y = x := (by simpa using hy);assumption⟩ (by omega) CV (.live rfl .nil)
   | exact A5 (by simp) Tryz.results76 rfl (by rw [Az, Ca hx hno (by assumption)])
 ·have h1 : ¬ (k : Int) < ((c.cues.map CueR.row).length : Nat) := by omega
  repeat' (first | refine W ?_ | refine V ?_|(refine W2 ?_ ?_ <;> intro hc))
  exact A5 (by simp) Tryz.results76 rfl (by rw [Az, Nb hno (by omega)])

/-! ### Pairs of cues -/
def G0 (p q : ByteArray × ByteArray) : Prop := p.1 = q.1 /\ p.2 = q.2 \/ p.1 = q.2 /\ p.2 = q.1
def Dn (p : ByteArray × ByteArray) : ByteArray × ByteArray := if gtS p.1 p.2 then (p.2, p.1) else p
theorem Th (p q : ByteArray × ByteArray) : Dn p = Dn q ↔ G0 p q := by
 obtain ⟨a, b⟩ := p
 obtain ⟨c, d⟩ := q
 unfold Dn G0
 have t1 : ¬ gtS a b -> ¬ gtS b a -> a = b := Qm
 have t2 : gtS a b -> ¬ gtS b a := Kt
 have t3 : gtS b a -> ¬ gtS a b := Kt
 have t4 : ¬ gtS c d -> ¬ gtS d c -> c = d := Qm
 have t5 : gtS c d -> ¬ gtS d c := Kt
 by_cases h1 : gtS a b <;> by_cases h2 : gtS c d <;> simp only [h1, h2, if_true, if_false, Prod.mk.injEq]
 ·constructor
  ·rintro ⟨rfl, rfl⟩;exact .inl ⟨rfl, rfl⟩
  ·rintro (⟨rfl, rfl⟩ | ⟨rfl, rfl⟩)
   ·exact ⟨rfl, rfl⟩
   ·exact absurd h2 (t2 h1)
 ·constructor
  ·rintro ⟨rfl, rfl⟩;exact .inr ⟨rfl, rfl⟩
  ·rintro (⟨rfl, rfl⟩ | ⟨rfl, rfl⟩)
   ·exact absurd h1 h2
   ·exact ⟨rfl, rfl⟩
 ·constructor
  ·rintro ⟨rfl, rfl⟩;exact .inr ⟨rfl, rfl⟩
  ·rintro (⟨rfl, rfl⟩ | ⟨rfl, rfl⟩)
   ·exact absurd h2 h1
   ·exact ⟨rfl, rfl⟩
 ·constructor
  ·rintro ⟨rfl, rfl⟩;exact .inl ⟨rfl, rfl⟩
  ·rintro (⟨rfl, rfl⟩ | ⟨rfl, rfl⟩)
   ·exact ⟨rfl, rfl⟩
   ·have := t1 h1 h2
    exact ⟨this, this.symm⟩
def Cu (l : List (ByteArray × ByteArray)) : List ((ByteArray × ByteArray) × Value) := l.foldl (fun es x => Fo es (Dn x) (.agg #[])) []
theorem Mq (l : List (ByteArray × ByteArray)) (x : ByteArray × ByteArray) : Cu (l ++ [x]) = Fo (Cu l) (Dn x) (.agg #[]) := by simp [Cu]
theorem Z9 (es : List ((ByteArray × ByteArray) × Value)) (s r : ByteArray × ByteArray) (v : Value) : D6 (Fo es s v) r = if s = r then some v else D6 es r := by
 induction es with
 | nil => rfl
 | cons p es ih =>
  obtain ⟨k, u⟩ := p
  by_cases e : k = s
  ·subst e
   by_cases e2 : k = r <;> simp [Fo, D6, e2]
  ·by_cases e2 : k = r
   ·subst e2
    have : ¬ s = k := fun h => e h.symm
    simp [Fo, D6, e, this]
   ·simp [Fo, D6, e, e2, ih]
theorem Xr (l : List (ByteArray × ByteArray)) (r : ByteArray × ByteArray) : (D6 (Cu l) r ≠ none ↔ ∃ y ∈ l, Dn y = r) /\ ∀ u, D6 (Cu l) r = some u -> u = .agg #[] := by
 have key : ∀ m : List (ByteArray × ByteArray), (D6 (Cu m.reverse) r ≠ none ↔ ∃ y ∈ m.reverse, Dn y = r) /\ ∀ u, D6 (Cu m.reverse) r = some u -> u = .agg #[] := fun m => by
  induction m with
  | nil => simp [Cu, D6]
  | cons x m ih =>
   rw [List.reverse_cons, Mq, Z9]
   by_cases e : Dn x = r
   ·rw [if_pos e]
    exact ⟨⟨fun _ => ⟨x, by simp, e⟩, fun _ => by simp⟩, fun u hu => by injection hu with hu;exact hu.symm⟩
   ·rw [if_neg e]
    refine ⟨⟨fun h => ?_, ?_⟩, ih.2⟩
    ·obtain ⟨y, hy, h2⟩ := ih.1.1 h
     exact ⟨y, by simp only [List.mem_append];exact .inl hy, h2⟩
    ·rintro ⟨y, hy, h2⟩
     rcases List.mem_append.1 hy with hy | hy
     ·exact ih.1.2 ⟨y, hy, h2⟩
     ·obtain rfl : y = x := by simpa using hy
      exact absurd h2 e
 have := key l.reverse
 rwa [List.reverse_reverse] at this
def okP (c : SheetR) (i : Nat) (p : ByteArray × ByteArray) : Prop := (0 <= Az c.cues p.1 /\ 0 <= Az c.cues p.2) /\ ¬ p.1 = p.2 /\ ¬ ∃ y ∈ c.apart.take i, G0 y p
def L2 (c : SheetR) : Prop := (c.apart.length : Int) <= 1000 /\ ∀ i p, c.apart[i]? = some p -> okP c i p
noncomputable instance (c : SheetR) : Decidable (L2 c) := Classical.propDecidable _
set_option maxHeartbeats 8000000 in
theorem Yt (c : SheetR) (hs : c.cues.length <= 9223372036854775807) (hs2 : c.apart.length <= 9223372036854775807) : Fn0 Tryz.prog 140 [A4 c.row] (.b (decide (L2 c))) := by
 have hle : (c.apart.map Be).length = c.apart.length := List.length_map _
 refine Fn0.of Tryz.func140 Tryz.ntmps140 rfl rfl rfl ?_
 simp only [A0]
 repeat' (first | refine W ?_|(apply S.makeMap;exact rfl;exact rfl) | refine V ?_|(refine W2 ?_ ?_ <;> intro hc))
 all_goals first
  | exact A5 (by simp) Tryz.results140 rfl (congrArg Value.bool (decide_eq_false (fun h => by have := h.1;omega)).symm)
  | skip
 refine T.loopS (fun k => k <= c.apart.length /\ ∀ i p, i < k -> c.apart[i]? = some p -> okP c i p) (fun k => c.apart.length - k) (fun k => [(16, .i k), (15, .i (c.apart.map Be).length), (14, .sl (c.apart.map Be)), (3, .mp 1), (1, .ptr 0 0)]) (fun k => [.live (c.row.map .lf), .map (Ct (Cu (c.apart.take k)))]) 0 ⟨Nat.zero_le _, by intro i p h;omega⟩ CV (.live rfl (.map .nil)) ?_
 rintro k ⟨hk, hok⟩
 by_cases hlt : k < c.apart.length
 ·have h1 : (k : Int) < ((c.apart.map Be).length : Nat) := by omega
  obtain ⟨x, hx⟩ := Ac hlt
  have hb := Ad (R := Be) hx
  have hsn := Af hx
  have hso : Cu (c.apart.take (k + 1)) = Fo (Cu (c.apart.take k)) (Dn x) (.agg #[]) := by rw [hsn, Mq]
  obtain ⟨hg1, hg2⟩ := Xr (c.apart.take k) (Dn x)
  have hsame : D6 (Cu (c.apart.take k)) (Dn x) ≠ none ↔ ∃ y ∈ c.apart.take k, G0 y x := by
   rw [hg1]
   exact ⟨fun ⟨y, hy, h⟩ => ⟨y, hy, (Th _ _).1 h⟩, fun ⟨y, hy, h⟩ => ⟨y, hy, (Th _ _).2 h⟩⟩
  have hbad : ¬ okP c k x -> ¬ L2 c := fun h hh => h (hh.2 k x hx)
  by_cases hgt : gtS x.1 x.2
  ·have hn : Dn x = (x.2, x.1) := by unfold Dn;rw [if_pos hgt]
   rw [hn] at hso hg2 hsame
   repeat' (first | refine W ?_|(apply T.drawAll A3 (by kernel_rfl))|(apply S.indexR;(iterate 3 exact rfl);exact hb;omega;exact rfl)|(apply S.loadRW;(iterate 4 exact rfl))|(apply S.idxAP;(iterate 4 exact rfl);exact ⟨by decide, by decide⟩;exact rfl)|(apply S.strGt;(iterate 3 exact rfl))|(apply S.lookupP;(iterate 4 exact rfl);exact hg2)|(apply S.mapUpdateP;(iterate 5 exact rfl))|refine Zc (Iv c.cues _ hs) ?_|refine Za ?_ | refine V ?_|(refine W2 ?_ ?_ <;> intro hc))
   all_goals (try change Next _ _ _ _ _ _)
   all_goals first
    | exact A5 (by simp) Tryz.results140 rfl (congrArg Value.bool (decide_eq_false (hbad fun hh => by
      obtain ⟨⟨g1, g2⟩, g3, g4⟩ := hh
      first
       | omega
       | exact g4 (hsame.1 (by assumption))
       | exact g3 (by assumption)
       | exact g3 (Eq.symm (by assumption)))).symm)
    | exact Next.go (k + 1) ⟨by omega, by
      intro i p hi hp
      rcases Nat.lt_or_ge i k with h9 | h9
      ·exact hok i p h9 hp
      ·obtain rfl : i = k := by omega
       obtain rfl : x = p := by rw [hx] at hp;injection hp
       exact ⟨⟨by omega, by omega⟩, (by first | assumption | exact fun e => (by assumption : ¬ _ = _) (Eq.symm e)), fun g => hsame.2 g (by assumption)⟩⟩ (by omega) CV (by show CovH _ _ [.live _, .map (Ct (Cu (c.apart.take (k + 1))))];rw [hso];exact .live rfl (.map .nil))
  ·have hn : Dn x = (x.1, x.2) := by unfold Dn;rw [if_neg hgt]
   rw [hn] at hso hg2 hsame
   repeat' (first | refine W ?_|(apply T.drawAll A3 (by kernel_rfl))|(apply S.indexR;(iterate 3 exact rfl);exact hb;omega;exact rfl)|(apply S.loadRW;(iterate 4 exact rfl))|(apply S.idxAP;(iterate 4 exact rfl);exact ⟨by decide, by decide⟩;exact rfl)|(apply S.strGt;(iterate 3 exact rfl))|(apply S.lookupP;(iterate 4 exact rfl);exact hg2)|(apply S.mapUpdateP;(iterate 5 exact rfl))|refine Zc (Iv c.cues _ hs) ?_|refine Za ?_ | refine V ?_|(refine W2 ?_ ?_ <;> intro hc))
   all_goals (try change Next _ _ _ _ _ _)
   all_goals first
    | exact A5 (by simp) Tryz.results140 rfl (congrArg Value.bool (decide_eq_false (hbad fun hh => by
      obtain ⟨⟨g1, g2⟩, g3, g4⟩ := hh
      first
       | omega
       | exact g4 (hsame.1 (by assumption))
       | exact g3 (by assumption)
       | exact g3 (Eq.symm (by assumption)))).symm)
    | exact Next.go (k + 1) ⟨by omega, by
      intro i p hi hp
      rcases Nat.lt_or_ge i k with h9 | h9
      ·exact hok i p h9 hp
      ·obtain rfl : i = k := by omega
       obtain rfl : x = p := by rw [hx] at hp;injection hp
       exact ⟨⟨by omega, by omega⟩, (by first | assumption | exact fun e => (by assumption : ¬ _ = _) (Eq.symm e)), fun g => hsame.2 g (by assumption)⟩⟩ (by omega) CV (by show CovH _ _ [.live _, .map (Ct (Cu (c.apart.take (k + 1))))];rw [hso];exact .live rfl (.map .nil))
 ·have h1 : ¬ (k : Int) < ((c.apart.map Be).length : Nat) := by omega
  repeat' (first | refine W ?_ | refine V ?_|(refine W2 ?_ ?_ <;> intro hc))
  exact A5 (by simp) Tryz.results140 rfl (congrArg Value.bool (decide_eq_true ⟨by omega, fun i p hp => hok i p (by have := (List.getElem?_eq_some_iff.1 hp).1;omega) hp⟩).symm)
end Go.Proofs.YtkboebgkcjcpfaaGreatDoor
