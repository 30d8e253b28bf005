/- Lemmas of the proof. -/
import Derived.Test.YtlapbaiejnaeiaaGreatDoorMk
import Derived.Test.YtlapbaiejnaeiaaGreatDoorMb
set_option linter.all false
set_option maxHeartbeats 64000000
namespace Go.Proofs.YtlapbaiejnaeiaaGreatDoor
open Go.RowKit
def a6o := @List.take_zero
def a6z := @List.take_succ_cons
def a7s := @Tryz.results48
def a8t := @Tryz.results215
def a9b := @Tryz.results47
def a9c := @Tryz.results73
/-! ### What is small -/
def T9 (s : SetR) (n : Int) : Prop := (s.name.size : Int) <= 60 /\ (s.lines.length : Int) <= 12 /\ ¬ (n < s.items.length /\ (s.items.length : Int) <= 40) /\ (s.items.length : Int) <= 45 /\ (s.bricks.length : Int) <= 10 /\ (∀ x ∈ s.items, (x.name.size : Int) <= 60) /\ ∀ x ∈ s.bricks, (x.name.size : Int) <= 60
noncomputable instance (s : SetR) (n : Int) : Decidable (T9 s n) := Classical.propDecidable _
theorem A6m (s : SetR) (n : Int) (hf : s.fits) : Fn0 Tryz.prog 73 [A1 s.row, .i n] (.b (decide (T9 s n))) := by
 have hle : (s.lines.map A3).length = s.lines.length := a0a _
 have hle2 : (s.items.map ItemR.row).length = s.items.length := a0a _
 have hle3 : (s.bricks.map BrickR.row).length = s.bricks.length := a0a _
 refine Fn0.of Tryz.func73 Tryz.ntmps73 rfl rfl rfl ?_
 simp only [A2]
 repeat' (first|refine W ?_|refine V ?_|(refine W2 ?_ ?_<;>intro hc))
 all_goals first
  | exact A4 (by simp) a9c rfl (congrArg Value.bool (decide_eq_false (fun h => by
    obtain ⟨g1, g2, g3, g4, g5, _⟩ := h
    omega)).symm)
  | skip
 all_goals
  refine p0d (fun k => k <= s.items.length /\ ∀ x ∈ s.items.take k, (x.name.size : Int) <= 60) (fun k => s.items.length - k) (fun k => [(5, .i k), (2, .ptr 0 0)]) (fun _ => [.live (s.row.map .lf)]) 0 ⟨a0o _, by simp⟩ CV (.live rfl .nil) ?_
  rintro k ⟨hk, hok⟩
  by_cases hlt : k < s.items.length
  ·have h1 : (k : Int) < ((s.items.map ItemR.row).length : Nat) := by omega
   obtain ⟨x, hx⟩ := Aa hlt
   have hb := Ab (R := ItemR.row) hx
   have hsn := B8 hx
   have hmem : x ∈ s.items := a0c hx
   repeat' (first|refine W ?_|(apply S.indexR;(iterate 3 exact rfl);exact hb;omega;exact rfl)|refine Za ?_|refine V ?_|(refine W2 ?_ ?_<;>intro hc))
   all_goals (try change Next _ _ _ _ _ _)
   all_goals first
    | exact Next.go (k + 1) ⟨by omega, by rw [hsn];intro y hy;rcases a0u.1 hy with hy | hy;exact hok y hy;obtain rfl : y = x := (by simpa using hy);omega⟩ (by omega) CV (.live rfl .nil)
    | exact A4 (by simp) a9c rfl (congrArg Value.bool (decide_eq_false (fun h => by have := h.2.2.2.2.2.1 x hmem;omega)).symm)
  ·have h1 : ¬ (k : Int) < ((s.items.map ItemR.row).length : Nat) := by omega
   have hk2 : s.items.take k = s.items := a0h (by omega)
   rw [hk2] at hok
   repeat' (first|refine W ?_|refine V ?_|(refine W2 ?_ ?_<;>intro hc))
   refine p0d (fun k => k <= s.bricks.length /\ ∀ x ∈ s.bricks.take k, (x.name.size : Int) <= 60) (fun k => s.bricks.length - k) (fun k => [(6, .i k), (2, .ptr 0 0)]) (fun _ => [.live (s.row.map .lf)]) 0 ⟨a0o _, by simp⟩ CV (.live rfl .nil) ?_
   rintro k ⟨hk, hok2⟩
   by_cases hlt2 : k < s.bricks.length
   ·have h1 : (k : Int) < ((s.bricks.map BrickR.row).length : Nat) := by omega
    obtain ⟨x, hx⟩ := Aa hlt2
    have hb := Ab (R := BrickR.row) hx
    have hsn := B8 hx
    have hmem : x ∈ s.bricks := a0c hx
    repeat' (first|refine W ?_|(apply S.indexR;(iterate 3 exact rfl);exact hb;omega;exact rfl)|refine Za ?_|refine V ?_|(refine W2 ?_ ?_<;>intro hc))
    all_goals (try change Next _ _ _ _ _ _)
    all_goals first
     | exact Next.go (k + 1) ⟨by omega, by rw [hsn];intro y hy;rcases a0u.1 hy with hy | hy;exact hok2 y hy;obtain rfl : y = x := (by simpa using hy);omega⟩ (by omega) CV (.live rfl .nil)
     | exact A4 (by simp) a9c rfl (congrArg Value.bool (decide_eq_false (fun h => by have := h.2.2.2.2.2.2 x hmem;omega)).symm)
   ·have h1 : ¬ (k : Int) < ((s.bricks.map BrickR.row).length : Nat) := by omega
    have hk2 : s.bricks.take k = s.bricks := a0h (by omega)
    rw [hk2] at hok2
    repeat' (first|refine W ?_|refine V ?_|(refine W2 ?_ ?_<;>intro hc))
    exact A4 (by simp) a9c rfl (congrArg Value.bool (decide_eq_true ⟨by omega, by omega, by omega, by omega, by omega, hok, hok2⟩).symm)
def T8 (h : HouseR) (n : Int) : Prop := (h.sets.length : Int) <= n /\ (h.roofs.length : Int) <= n + 10 /\ (h.name.size : Int) <= 60 /\ (∀ s ∈ h.sets, T9 s 8) /\ ∀ x ∈ h.roofs, (x.name.size : Int) <= 60
noncomputable instance (h : HouseR) (n : Int) : Decidable (T8 h n) := Classical.propDecidable _
theorem A6n (h : HouseR) (n : Int) (hn : 0 <= n /\ n <= 100) (hf : h.fits) : Fn0 Tryz.prog 47 [A1 h.row, .i n] (.b (decide (T8 h n))) := by
 obtain ⟨hf1, hf2, hf3⟩ := hf
 have hle : (h.sets.map SetR.row).length = h.sets.length := a0a _
 have hle2 : (h.roofs.map RoofR.row).length = h.roofs.length := a0a _
 refine Fn0.of Tryz.func47 Tryz.ntmps47 rfl rfl rfl ?_
 simp only [A2]
 repeat' (first|refine W ?_|refine Za ?_|refine V ?_|(refine W2 ?_ ?_<;>intro hc))
 all_goals first
  | exact A4 (by simp) a9b rfl (congrArg Value.bool (decide_eq_false (fun h => by
    obtain ⟨g1, g2, g3, _⟩ := h
    omega)).symm)
  | skip
 refine p0d (fun k => k <= h.sets.length /\ ∀ x ∈ h.sets.take k, T9 x 8) (fun k => h.sets.length - k) (fun k => [(5, .i k), (2, .ptr 0 0)]) (fun _ => [.live (h.row.map .lf)]) 0 ⟨a0o _, by simp⟩ CV (.live rfl .nil) ?_
 rintro k ⟨hk, hok⟩
 by_cases hlt : k < h.sets.length
 ·have h1 : (k : Int) < ((h.sets.map SetR.row).length : Nat) := by omega
  obtain ⟨x, hx⟩ := Aa hlt
  have hb := Ab (R := SetR.row) hx
  have hsn := B8 hx
  have hmem : x ∈ h.sets := a0c hx
  repeat' (first|refine W ?_|(apply S.indexR;(iterate 3 exact rfl);exact hb;omega;exact rfl)|(apply p0k;(iterate 4 exact rfl))|(apply S.call;exact rfl;exact rfl;exact A6m x 8 (hf3 x hmem);exact rfl)|refine Za ?_|refine V ?_|(refine W2 ?_ ?_<;>intro hc))
  all_goals (try change Next _ _ _ _ _ _)
  all_goals first
   | exact Next.go (k + 1) ⟨by omega, by rw [hsn];intro y hy;rcases a0u.1 hy with hy | hy;exact hok y hy;obtain rfl : y = x := (by simpa using hy);assumption⟩ (by omega) CV (.live rfl .nil)
   | exact A4 (by simp) a9b rfl (congrArg Value.bool (decide_eq_false (fun h => absurd (h.2.2.2.1 x hmem) (by assumption))).symm)
 ·have h1 : ¬ (k : Int) < ((h.sets.map SetR.row).length : Nat) := by omega
  have hk2 : h.sets.take k = h.sets := a0h (by omega)
  rw [hk2] at hok
  repeat' (first|refine W ?_|refine V ?_|(refine W2 ?_ ?_<;>intro hc))
  refine p0d (fun k => k <= h.roofs.length /\ ∀ x ∈ h.roofs.take k, (x.name.size : Int) <= 60) (fun k => h.roofs.length - k) (fun k => [(6, .i k), (2, .ptr 0 0)]) (fun _ => [.live (h.row.map .lf)]) 0 ⟨a0o _, by simp⟩ CV (.live rfl .nil) ?_
  rintro k ⟨hk, hok2⟩
  by_cases hlt2 : k < h.roofs.length
  ·have h1 : (k : Int) < ((h.roofs.map RoofR.row).length : Nat) := by omega
   obtain ⟨x, hx⟩ := Aa hlt2
   have hb := Ab (R := RoofR.row) hx
   have hsn := B8 hx
   have hmem : x ∈ h.roofs := a0c hx
   repeat' (first|refine W ?_|(apply S.indexR;(iterate 3 exact rfl);exact hb;omega;exact rfl)|refine Za ?_|refine V ?_|(refine W2 ?_ ?_<;>intro hc))
   all_goals (try change Next _ _ _ _ _ _)
   all_goals first
    | exact Next.go (k + 1) ⟨by omega, by rw [hsn];intro y hy;rcases a0u.1 hy with hy | hy;exact hok2 y hy;obtain rfl : y = x := (by simpa using hy);omega⟩ (by omega) CV (.live rfl .nil)
    | exact A4 (by simp) a9b rfl (congrArg Value.bool (decide_eq_false (fun h => by have := h.2.2.2.2 x hmem;omega)).symm)
  ·have h1 : ¬ (k : Int) < ((h.roofs.map RoofR.row).length : Nat) := by omega
   have hk2 : h.roofs.take k = h.roofs := a0h (by omega)
   rw [hk2] at hok2
   repeat' (first|refine W ?_|refine V ?_|(refine W2 ?_ ?_<;>intro hc))
   exact A4 (by simp) a9b rfl (congrArg Value.bool (decide_eq_true ⟨by omega, by omega, by omega, hok, hok2⟩).symm)
structure SheetR where
 cues : List CueR
 apart : List (ByteArray × ByteArray)
def Ac (p : ByteArray × ByteArray) : List Lf := [.s p.1, .s p.2]
def SheetR.row (c : SheetR) : List Lf := [.sl (c.cues.map CueR.row), .sl (c.apart.map Ac)]
def SheetR.fits (c : SheetR) : Prop := c.cues.length <= 9223372036854775807 /\ c.apart.length <= 9223372036854775807 /\ ∀ q ∈ c.cues, q.moves.length <= 140737488355328
def A6z (q : CueR) (n : Int) : Prop := (q.moves.length : Int) <= n /\ (q.name.size : Int) <= 60 /\ (q.after.size : Int) <= 60 /\ ∀ m ∈ q.moves, (m.set.size : Int) <= 60
def T7 (c : SheetR) (n : Int) : Prop := (c.cues.length : Int) <= n /\ (c.apart.length : Int) <= 2 * n /\ (∀ q ∈ c.cues, A6z q n) /\ ∀ p ∈ c.apart, (p.1.size : Int) <= 60 /\ (p.2.size : Int) <= 60
noncomputable instance (c : SheetR) (n : Int) : Decidable (T7 c n) := Classical.propDecidable _
theorem A6o (c : SheetR) (n : Int) (hn : 0 <= n /\ n <= 100) (hf : c.fits) : Fn0 Tryz.prog 48 [A1 c.row, .i n] (.b (decide (T7 c n))) := by
 obtain ⟨hf1, hf2, hf3⟩ := hf
 have hle : (c.cues.map CueR.row).length = c.cues.length := a0a _
 have hle2 : (c.apart.map Ac).length = c.apart.length := a0a _
 refine Fn0.of Tryz.func48 Tryz.ntmps48 rfl rfl rfl ?_
 simp only [A2]
 repeat' (first|refine W ?_|refine Za ?_|refine V ?_|(refine W2 ?_ ?_<;>intro hc))
 all_goals first
  | exact A4 (by simp) a7s rfl (congrArg Value.bool (decide_eq_false (fun h => by
    obtain ⟨g1, g2, _⟩ := h
    omega)).symm)
  | skip
 refine p0d (fun k => k <= c.cues.length /\ ∀ q ∈ c.cues.take k, A6z q n) (fun k => c.cues.length - k) (fun k => [(5, .i k), (2, .ptr 0 0), (1, .i n)]) (fun _ => [.live (c.row.map .lf)]) 0 ⟨a0o _, by simp⟩ CV (.live rfl .nil) ?_
 rintro k ⟨hk, hok⟩
 by_cases hlt : k < c.cues.length
 ·have h1 : (k : Int) < ((c.cues.map CueR.row).length : Nat) := by omega
  obtain ⟨q, hq⟩ := Aa hlt
  have hb := Ab (R := CueR.row) hq
  have hsn := B8 hq
  have hmem : q ∈ c.cues := a0c hq
  have hle3 : (q.moves.map MoveR.row).length = q.moves.length := a0a _
  repeat' (first|refine W ?_|(apply S.indexR;(iterate 3 exact rfl);exact hb;omega;exact rfl)|(apply p0k;(iterate 4 exact rfl))|refine Za ?_|refine V ?_|(refine W2 ?_ ?_<;>intro hc))
  all_goals first
   | exact A4 (by simp) a7s rfl (congrArg Value.bool (decide_eq_false (fun h => by
     obtain ⟨g1, g2, g3, _⟩ := h.2.2.1 q hmem
     omega)).symm)
   | skip
  refine p0d (fun j => j <= q.moves.length /\ ∀ m ∈ q.moves.take j, (m.set.size : Int) <= 60) (fun j => q.moves.length - j) (fun j => [(7, .i j), (5, .i k), (2, .ptr 0 0), (6, .ptr 1 0), (1, .i n)]) (fun _ => [.live (c.row.map .lf), .live (q.row.map .lf)]) 0 ⟨a0o _, by simp⟩ CV CH ?_
  rintro j ⟨hj, hms⟩
  by_cases hjk : j < q.moves.length
  ·have h2 : (j : Int) < ((q.moves.map MoveR.row).length : Nat) := by omega
   obtain ⟨m, hm⟩ := Aa hjk
   have hbm := Ab (R := MoveR.row) hm
   have hsj := B8 hm
   have hmm : m ∈ q.moves := a0c hm
   repeat' (first|refine W ?_|(apply S.indexR;(iterate 3 exact rfl);exact hbm;omega;exact rfl)|refine Za ?_|refine V ?_|(refine W2 ?_ ?_<;>intro hc))
   all_goals (try change Next _ _ _ _ _ _)
   all_goals first
    | exact Next.go (j + 1) ⟨by omega, by rw [hsj];intro y hy;rcases a0u.1 hy with hy | hy;exact hms y hy;obtain rfl : y = m := (by simpa using hy);omega⟩ (by omega) CV CH
    | exact A4 (by simp) a7s rfl (congrArg Value.bool (decide_eq_false (fun h => by have := (h.2.2.1 q hmem).2.2.2 m hmm;omega)).symm)
  ·have h2 : ¬ (j : Int) < ((q.moves.map MoveR.row).length : Nat) := by omega
   have hj2 : q.moves.take j = q.moves := a0h (by omega)
   rw [hj2] at hms
   repeat' (first|refine W ?_|refine Za ?_|refine V ?_|(refine W2 ?_ ?_<;>intro hc))
   all_goals (try change Next _ _ _ _ _ _)
   exact Next.go (k + 1) ⟨by omega, by rw [hsn];intro y hy;rcases a0u.1 hy with hy | hy;exact hok y hy;obtain rfl : y = q := (by simpa using hy);exact ⟨by omega, by omega, by omega, hms⟩⟩ (by omega) CV (.live rfl .nil)
 ·have h1 : ¬ (k : Int) < ((c.cues.map CueR.row).length : Nat) := by omega
  have hk2 : c.cues.take k = c.cues := a0h (by omega)
  rw [hk2] at hok
  repeat' (first|refine W ?_|refine V ?_|(refine W2 ?_ ?_<;>intro hc))
  refine p0d (fun k => k <= c.apart.length /\ ∀ p ∈ c.apart.take k, (p.1.size : Int) <= 60 /\ (p.2.size : Int) <= 60) (fun k => c.apart.length - k) (fun k => [(8, .i k), (2, .ptr 0 0)]) (fun _ => [.live (c.row.map .lf)]) 0 ⟨a0o _, by simp⟩ CV (.live rfl .nil) ?_
  rintro k ⟨hk, hok2⟩
  by_cases hlt2 : k < c.apart.length
  ·have h1 : (k : Int) < ((c.apart.map Ac).length : Nat) := by omega
   obtain ⟨x, hx⟩ := Aa hlt2
   have hb := Ab (R := Ac) hx
   have hsn := B8 hx
   have hmem : x ∈ c.apart := a0c hx
   repeat' (first|refine W ?_|(apply S.indexR;(iterate 3 exact rfl);exact hb;omega;exact rfl)|(apply S.idxAR;(iterate 3 exact rfl);exact ⟨by decide, by decide⟩;exact rfl)|refine Za ?_|refine V ?_|(refine W2 ?_ ?_<;>intro hc))
   all_goals (try change Next _ _ _ _ _ _)
   all_goals first
    | exact Next.go (k + 1) ⟨by omega, by rw [hsn];intro y hy;rcases a0u.1 hy with hy | hy;exact hok2 y hy;obtain rfl : y = x := (by simpa using hy);omega⟩ (by omega) CV (.live rfl .nil)
    | exact A4 (by simp) a7s rfl (congrArg Value.bool (decide_eq_false (fun h => by have := h.2.2.2 x hmem;omega)).symm)
  ·have h1 : ¬ (k : Int) < ((c.apart.map Ac).length : Nat) := by omega
   have hk2 : c.apart.take k = c.apart := a0h (by omega)
   rw [hk2] at hok2
   repeat' (first|refine W ?_|refine V ?_|(refine W2 ?_ ?_<;>intro hc))
   exact A4 (by simp) a7s rfl (congrArg Value.bool (decide_eq_true ⟨by omega, by omega, hok, hok2⟩).symm)
/-! ### Cues that are found -/
abbrev Cd (l : List CueR) (n : ByteArray) : Int := idx (fun q : CueR => q.name = n) l
theorem A2z {α : Type} {p : α -> Prop} [DecidablePred p] {l : List α} : 0 <= idx p l ↔ ∃ x ∈ l, p x := decide_eq_decide.1 (Jl p l)
theorem idx_lt_iff {α : Type} {p : α -> Prop} [DecidablePred p] : ∀ {l : List α} {i : Nat}, (0 <= idx p l /\ idx p l < i) ↔ ∃ y ∈ l.take i, p y
 | [], i => by simp [idx]
 | x :: l, 0 => by simp only [a6o, a2e, false_and, exists_false, iff_false];omega
 | x :: l, i + 1 => by
  have ih := idx_lt_iff (p := p) (l := l) (i := i)
  have hg := Fq p l
  rw [a6z, idx]
  by_cases hx : p x
  ·rw [if_pos hx]
   exact ⟨fun _ => ⟨x, by simp, hx⟩, fun _ => by omega⟩
  ·rw [if_neg hx]
   constructor
   ·intro h
    split at h
    ·omega
    ·obtain ⟨y, hy, hp⟩ := ih.1 (by omega)
     exact ⟨y, by simp [hy], hp⟩
   ·rintro ⟨y, hy, hp⟩
    rcases a1j.1 hy with rfl | hy
    ·exact absurd hp hx
    ·have := ih.2 ⟨y, hy, hp⟩
     rw [if_neg (by omega)];omega
theorem A4z (n : ByteArray) (q : CueR) : Fn0 Tryz.prog 246 [A1 q.row, .rop [.s n]] (.b (decide (q.name = n))) := by
 refine Fn0.of Tryz.func246 Tryz.ntmps246 rfl rfl rfl ?_
 simp only [A2]
 repeat' (first|refine W ?_|refine V ?_|(refine W2 ?_ ?_<;>intro hc))
 all_goals exact A4 (by simp) Tryz.results246 rfl (by rfl)
theorem Lx (l : List CueR) (n : ByteArray) (hs : l.length <= 9223372036854775807) : Fn0 Tryz.prog 214 [.sl (l.map CueR.row), .s n] (.i (Cd l n)) := by
 have hc : Fn0 Tryz.prog 224 [.sl (l.map CueR.row), .fn (.func 246) [] [.rop [.s n]]] (.i (Cd l n)) :=
  Np l CueR.row (fun q => q.name = n) _ _ (fun _ => rfl) hs rfl fun q _ => A4z n q
 refine Fn0.of Tryz.func214 Tryz.ntmps214 rfl rfl rfl ?_
 simp only [A2]
 repeat' (first|refine W ?_|(apply S.callV;exact rfl;exact hc;exact .cons (.one (.lf _)) (.cons (.fn (.cons (.ptr0 (cs := [.s n]) rfl) .nil)) .nil);exact rfl;exact rfl)|refine V ?_|(refine W2 ?_ ?_<;>intro hc))
 all_goals exact A4 (by simp) Tryz.results214 rfl (by rfl)
theorem Wa (l : List CueR) (k : Nat) (n : ByteArray) (hs : l.length <= 9223372036854775807) : Fn0 Tryz.prog 214 [.sl ((l.map CueR.row).take ((k : Nat) : Int).toNat), .s n] (.i (Cd (l.take k) n)) := by
 rw [a0v, <- a7y]
 exact Lx (l.take k) n (by simp;omega)
/-! ### Pairs of cues -/
def Ml (p q : ByteArray × ByteArray) : Prop := p.1 = q.1 /\ p.2 = q.2 \/ p.1 = q.2 /\ p.2 = q.1
def El (p : ByteArray × ByteArray) : ByteArray × ByteArray := if gtS p.1 p.2 then (p.2, p.1) else p
theorem Ya (p q : ByteArray × ByteArray) : El p = El q ↔ Ml p q := by
 obtain ⟨a, b⟩ := p
 obtain ⟨c, d⟩ := q
 unfold El Ml
 have t1 : ¬ gtS a b -> ¬ gtS b a -> a = b := Va
 have t2 : gtS a b -> ¬ gtS b a := Nm
 have t3 : gtS b a -> ¬ gtS a b := Nm
 have t4 : ¬ gtS c d -> ¬ gtS d c -> c = d := Va
 have t5 : gtS c d -> ¬ gtS d c := Nm
 by_cases h1 : gtS a b <;> by_cases h2 : gtS c d <;> simp only [h1, h2, if_true, if_false, a1e]
 ·constructor
  ·rintro ⟨rfl, rfl⟩;exact .inl ⟨rfl, rfl⟩
  ·rintro (⟨rfl, rfl⟩ | ⟨rfl, rfl⟩)
   ·exact ⟨rfl, rfl⟩
   ·exact absurd h2 (t2 h1)
 ·constructor
  ·rintro ⟨rfl, rfl⟩;exact .inr ⟨rfl, rfl⟩
  ·rintro (⟨rfl, rfl⟩ | ⟨rfl, rfl⟩)
   ·exact absurd h1 h2
   ·exact ⟨rfl, rfl⟩
 ·constructor
  ·rintro ⟨rfl, rfl⟩;exact .inr ⟨rfl, rfl⟩
  ·rintro (⟨rfl, rfl⟩ | ⟨rfl, rfl⟩)
   ·exact absurd h2 h1
   ·exact ⟨rfl, rfl⟩
 ·constructor
  ·rintro ⟨rfl, rfl⟩;exact .inl ⟨rfl, rfl⟩
  ·rintro (⟨rfl, rfl⟩ | ⟨rfl, rfl⟩)
   ·exact ⟨rfl, rfl⟩
   ·have := t1 h1 h2
    exact ⟨this, this.symm⟩
def Dz (l : List (ByteArray × ByteArray)) : List ((ByteArray × ByteArray) × Value) := l.foldl (fun es x => Hh es (El x) (.agg #[])) []
theorem Qd (l : List (ByteArray × ByteArray)) (x : ByteArray × ByteArray) : Dz (l ++ [x]) = Hh (Dz l) (El x) (.agg #[]) := by simp [Dz]
theorem A5h (es : List ((ByteArray × ByteArray) × Value)) (s r : ByteArray × ByteArray) (v : Value) : E5 (Hh es s v) r = if s = r then some v else E5 es r := by
 induction es with
 | nil => rfl
 | cons p es ih =>
  obtain ⟨k, u⟩ := p
  by_cases e : k = s
  ·subst e
   by_cases e2 : k = r <;> simp [Hh, E5, e2]
  ·by_cases e2 : k = r
   ·subst e2
    have : ¬ s = k := fun h => e h.symm
    simp [Hh, E5, e, this]
   ·simp [Hh, E5, e, e2, ih]
theorem A3n (l : List (ByteArray × ByteArray)) (r : ByteArray × ByteArray) : (E5 (Dz l) r ≠ none ↔ ∃ y ∈ l, El y = r) /\ ∀ u, E5 (Dz l) r = some u -> u = .agg #[] := by
 have key : ∀ m : List (ByteArray × ByteArray), (E5 (Dz m.reverse) r ≠ none ↔ ∃ y ∈ m.reverse, El y = r) /\ ∀ u, E5 (Dz m.reverse) r = some u -> u = .agg #[] := fun m => by
  induction m with
  | nil => simp [Dz, E5]
  | cons x m ih =>
   rw [List.reverse_cons, Qd, A5h]
   by_cases e : El x = r
   ·rw [if_pos e]
    exact ⟨⟨fun _ => ⟨x, by simp, e⟩, fun _ => by simp⟩, fun u hu => by injection hu with hu;exact hu.symm⟩
   ·rw [if_neg e]
    refine ⟨⟨fun h => ?_, ?_⟩, ih.2⟩
    ·obtain ⟨y, hy, h2⟩ := ih.1.1 h
     exact ⟨y, by simp only [a0u];exact .inl hy, h2⟩
    ·rintro ⟨y, hy, h2⟩
     rcases a0u.1 hy with hy | hy
     ·exact ih.1.2 ⟨y, hy, h2⟩
     ·obtain rfl : y = x := by simpa using hy
      exact absurd h2 e
 have := key l.reverse
 rwa [b2c] at this
def okP (c : SheetR) (i : Nat) (p : ByteArray × ByteArray) : Prop := (0 <= Cd c.cues p.1 /\ 0 <= Cd c.cues p.2) /\ ¬ p.1 = p.2 /\ ¬ ∃ y ∈ c.apart.take i, Ml y p
def Nx (c : SheetR) : Prop := (c.apart.length : Int) <= 1000 /\ ∀ i p, c.apart[i]? = some p -> okP c i p
noncomputable instance (c : SheetR) : Decidable (Nx c) := Classical.propDecidable _
theorem A4y (c : SheetR) (hs : c.cues.length <= 9223372036854775807) (hs2 : c.apart.length <= 9223372036854775807) : Fn0 Tryz.prog 215 [A1 c.row] (.b (decide (Nx c))) := by
 have hle : (c.apart.map Ac).length = c.apart.length := a0a _
 refine Fn0.of Tryz.func215 Tryz.ntmps215 rfl rfl rfl ?_
 simp only [A2]
 repeat' (first|refine W ?_|(apply S.makeMap;exact rfl;exact rfl)|refine V ?_|(refine W2 ?_ ?_<;>intro hc))
 all_goals first
  | exact A4 (by simp) a8t rfl (congrArg Value.bool (decide_eq_false (fun h => by have := h.1;omega)).symm)
  | skip
 refine p0d (fun k => k <= c.apart.length /\ ∀ i p, i < k -> c.apart[i]? = some p -> okP c i p) (fun k => c.apart.length - k) (fun k => [(16, .i k), (15, .i (c.apart.map Ac).length), (14, .sl (c.apart.map Ac)), (3, .mp 1), (1, .ptr 0 0)]) (fun k => [.live (c.row.map .lf), .map (Dx (Dz (c.apart.take k)))]) 0 ⟨a0o _, by intro i p h;omega⟩ CV (.live rfl (.map .nil)) ?_
 rintro k ⟨hk, hok⟩
 by_cases hlt : k < c.apart.length
 ·have h1 : (k : Int) < ((c.apart.map Ac).length : Nat) := by omega
  obtain ⟨x, hx⟩ := Aa hlt
  have hb := Ab (R := Ac) hx
  have hsn := B8 hx
  have hso : Dz (c.apart.take (k + 1)) = Hh (Dz (c.apart.take k)) (El x) (.agg #[]) := by rw [hsn, Qd]
  obtain ⟨hg1, hg2⟩ := A3n (c.apart.take k) (El x)
  have hsame : E5 (Dz (c.apart.take k)) (El x) ≠ none ↔ ∃ y ∈ c.apart.take k, Ml y x := by
   rw [hg1]
   exact ⟨fun ⟨y, hy, h⟩ => ⟨y, hy, (Ya _ _).1 h⟩, fun ⟨y, hy, h⟩ => ⟨y, hy, (Ya _ _).2 h⟩⟩
  have hbad : ¬ okP c k x -> ¬ Nx c := fun h hh => h (hh.2 k x hx)
  by_cases hgt : gtS x.1 x.2
  ·have hn : El x = (x.2, x.1) := by unfold El;rw [if_pos hgt]
   rw [hn] at hso hg2 hsame
   repeat' (first|refine W ?_|(apply p0b A0 (by kernel_rfl))|(apply S.indexR;(iterate 3 exact rfl);exact hb;omega;exact rfl)|(apply p0k;(iterate 4 exact rfl))|(apply S.idxAP;(iterate 4 exact rfl);exact ⟨by decide, by decide⟩;exact rfl)|(apply S.strGt;(iterate 3 exact rfl))|(apply p3d;(iterate 4 exact rfl);exact hg2)|(apply p2l;(iterate 5 exact rfl))|refine Zc (Lx c.cues _ hs) ?_|refine Za ?_|refine V ?_|(refine W2 ?_ ?_<;>intro hc))
   all_goals (try change Next _ _ _ _ _ _)
   all_goals first
    | exact A4 (by simp) a8t rfl (congrArg Value.bool (decide_eq_false (hbad fun hh => by
      obtain ⟨⟨g1, g2⟩, g3, g4⟩ := hh
      first
       | omega
       | exact g4 (hsame.1 (by assumption))
       | exact g3 (by assumption)
       | exact g3 (b0w (by assumption)))).symm)
    | exact Next.go (k + 1) ⟨by omega, by
      intro i p hi hp
      rcases a1a i k with h9 | h9
      ·exact hok i p h9 hp
      ·obtain rfl : i = k := by omega
       obtain rfl : x = p := by rw [hx] at hp;injection hp
       exact ⟨⟨by omega, by omega⟩, (by first | assumption | exact fun e => (by assumption : ¬ _ = _) (b0w e)), fun g => hsame.2 g (by assumption)⟩⟩ (by omega) CV (by show CovH _ _ [.live _, .map (Dx (Dz (c.apart.take (k + 1))))];rw [hso];exact .live rfl (.map .nil))
  ·have hn : El x = (x.1, x.2) := by unfold El;rw [if_neg hgt]
   rw [hn] at hso hg2 hsame
   repeat' (first|refine W ?_|(apply p0b A0 (by kernel_rfl))|(apply S.indexR;(iterate 3 exact rfl);exact hb;omega;exact rfl)|(apply p0k;(iterate 4 exact rfl))|(apply S.idxAP;(iterate 4 exact rfl);exact ⟨by decide, by decide⟩;exact rfl)|(apply S.strGt;(iterate 3 exact rfl))|(apply p3d;(iterate 4 exact rfl);exact hg2)|(apply p2l;(iterate 5 exact rfl))|refine Zc (Lx c.cues _ hs) ?_|refine Za ?_|refine V ?_|(refine W2 ?_ ?_<;>intro hc))
   all_goals (try change Next _ _ _ _ _ _)
   all_goals first
    | exact A4 (by simp) a8t rfl (congrArg Value.bool (decide_eq_false (hbad fun hh => by
      obtain ⟨⟨g1, g2⟩, g3, g4⟩ := hh
      first
       | omega
       | exact g4 (hsame.1 (by assumption))
       | exact g3 (by assumption)
       | exact g3 (b0w (by assumption)))).symm)
    | exact Next.go (k + 1) ⟨by omega, by
      intro i p hi hp
      rcases a1a i k with h9 | h9
      ·exact hok i p h9 hp
      ·obtain rfl : i = k := by omega
       obtain rfl : x = p := by rw [hx] at hp;injection hp
       exact ⟨⟨by omega, by omega⟩, (by first | assumption | exact fun e => (by assumption : ¬ _ = _) (b0w e)), fun g => hsame.2 g (by assumption)⟩⟩ (by omega) CV (by show CovH _ _ [.live _, .map (Dx (Dz (c.apart.take (k + 1))))];rw [hso];exact .live rfl (.map .nil))
 ·have h1 : ¬ (k : Int) < ((c.apart.map Ac).length : Nat) := by omega
  repeat' (first|refine W ?_|refine V ?_|(refine W2 ?_ ?_<;>intro hc))
  exact A4 (by simp) a8t rfl (congrArg Value.bool (decide_eq_true ⟨by omega, fun i p hp => hok i p (by have := (a0g.1 hp).1;omega) hp⟩).symm)
end Go.Proofs.YtlapbaiejnaeiaaGreatDoor
