/- Contracts of the functions that say whether a house is valid, continued: bricks, lift lines, line sets, beams, houses (the program's side). No conditions but those of each statement. -/
import Derived.Test.YtcfjofhapbkmfaaGreatDoorMi
set_option linter.unusedSimpArgs false
set_option linter.unusedVariables false
namespace Go.Proofs.YtcfjofhapbkmfaaGreatDoor
open Go.RowKit
/-! ### Bricks -/
def Fq (x : BrickR) : Prop := Bp x.name = true /\ (1 <= x.weight /\ x.weight <= 1048576) /\ 0 <= x.count /\ x.count <= 60
def Cs (l : List BrickR) : Int := (l.map BrickR.count).sum
theorem Gd (l : List BrickR) (x : BrickR) : Cs (l ++ [x]) = Cs l + x.count := by simp [Cs, List.sum_append]
theorem J7 {l : List BrickR} (h : ∀ x ∈ l, Fq x) : 0 <= Cs l /\ Cs l <= 60 * l.length := by
 induction l with
 | nil => simp [Cs]
 | cons x l ih =>
  have h1 := (h x (by simp)).2.2
  have h2 := ih fun y hy => h y (by simp [hy])
  have : Cs (x :: l) = x.count + Cs l := by simp [Cs]
  simp only [List.length_cons]
  omega
def Eo (l : List BrickR) : Prop := l.length <= 8 /\ (l.map BrickR.name).Nodup /\ (∀ x ∈ l, Fq x) /\ Cs l <= 60
noncomputable instance (l : List BrickR) : Decidable (Eo l) := Classical.propDecidable _
set_option maxHeartbeats 4000000 in
theorem Sd (l : List BrickR) (hs : l.length <= 9223372036854775807) : Fn0 Tryz.prog 148 [.sl (l.map BrickR.row)] (.b (decide (Eo l))) := by
 have htw := Tx l BrickR.row BrickR.name 218 [] (fun _ => rfl) (fun _ => rfl) hs rfl fun x _ => Qm x
 have hle : (l.map BrickR.row).length = l.length := List.length_map _
 refine Fn0.of Tryz.func148 Tryz.ntmps148 rfl rfl rfl ?_
 simp only [A0]
 repeat' (first | refine W ?_|refine Zc htw ?_ | refine V ?_|(refine W2 ?_ ?_ <;> intro hc))
 all_goals first
  | exact A7 (by simp) Tryz.results148 rfl (congrArg Value.bool (decide_eq_false (fun h => by have := h.1;omega)).symm)
  | exact A7 (by simp) Tryz.results148 rfl (congrArg Value.bool (decide_eq_false (fun h => by have := h.2.1;contradiction)).symm)
  | skip
 have hs8 : l.length <= 8 := by omega
 refine T.loopS (fun k => k <= l.length /\ ∀ x ∈ l.take k, Fq x) (fun k => l.length - k) (fun k => [(15, .i k), (14, .i (l.map BrickR.row).length), (13, .sl (l.map BrickR.row)), (0, .sl (l.map BrickR.row)), (3, .i (Cs (l.take k)))]) (fun _ => []) 0 ⟨Nat.zero_le _, by simp⟩ CV .nil ?_
 rintro k ⟨hk, hok⟩
 have hsum := J7 hok
 have hlk : (l.take k).length <= 8 := by simp;omega
 by_cases hlt : k < l.length
 ·have h1 : (k : Int) < ((l.map BrickR.row).length : Nat) := by omega
  obtain ⟨x, hx⟩ : ∃ x, l[k]? = some x := ⟨l[k], List.getElem?_eq_getElem hlt⟩
  have hb : (l.map BrickR.row)[((k : Nat) : Int).toNat]? = some (BrickR.row x) := by rw [Int.toNat_natCast, List.getElem?_map, hx];rfl
  have hsn : l.take (k + 1) = l.take k ++ [x] := by rw [List.take_add_one, hx];rfl
  have hmem : x ∈ l := List.mem_of_getElem? hx
  repeat' (first | refine W ?_|(apply S.indexR;(iterate 3 exact rfl);exact hb;omega;exact rfl)|(apply S.loadRW;(iterate 4 exact rfl))|refine Zc (Bz _) ?_|refine Zc (D5 _ _ _) ?_|refine Za ?_ | refine V ?_|(refine W2 ?_ ?_ <;> intro hc))
  all_goals (try change Next _ _ _ _ _ _)
  all_goals first
   | exact Next.go (k + 1) ⟨by omega, by rw [hsn];intro y hy;rcases List.mem_append.1 hy with hy | hy;exact hok y hy;obtain rfl : y = x := (by simpa using hy);exact ⟨by assumption, by assumption, by assumption⟩⟩ (by omega) (.cons rfl rfl (.cons rfl rfl (.cons rfl rfl (.cons rfl rfl (.cons (by rw [hsn, Gd];rfl) rfl .nil))))) .nil
   | exact A7 (by simp) Tryz.results148 rfl (congrArg Value.bool (decide_eq_false (fun h => by
     have h3 := h.2.2.1 x hmem
     unfold Fq at h3
     simp_all)).symm)
 ·have h1 : ¬ (k : Int) < ((l.map BrickR.row).length : Nat) := by omega
  have hk2 : l.take k = l := List.take_of_length_le (by omega)
  rw [hk2] at hok hsum
  rw [hk2]
  repeat' (first | refine W ?_ | refine V ?_|(refine W2 ?_ ?_ <;> intro hc))
  exact A7 (by simp) Tryz.results148 rfl (congrArg Value.bool (decide_eq_decide.2 ⟨fun h => ⟨hs8, by first | assumption | exact Classical.byContradiction (by assumption), hok, h⟩, fun h => h.2.2.2⟩))

/-! ### Lift lines -/
def Lo (l : List Int) (len : Int) : Prop := (2 <= l.length /\ l.length <= 10) /\ (∀ x ∈ l, 0 <= x /\ x <= len) /\ l.Pairwise (· < ·)
noncomputable instance (l : List Int) (len : Int) : Decidable (Lo l len) := Classical.propDecidable _
theorem Io {l : List Int} (h : l.Pairwise (· < ·)) {i j : Nat} {a b : Int} (hi : l[i]? = some a) (hj : l[j]? = some b) (hij : i < j) : a < b := by
 rw [List.pairwise_iff_getElem] at h
 obtain ⟨h1, rfl⟩ := List.getElem?_eq_some_iff.1 hi
 obtain ⟨h2, rfl⟩ := List.getElem?_eq_some_iff.1 hj
 exact h i j h1 h2 hij
theorem S1 {l : List Int} {x y : Int} {k : Nat} (h : (l.take (k + 1)).Pairwise (· < ·)) (hy : l[k]? = some y) (hx : l[k + 1]? = some x) : (l.take (k + 2)).Pairwise (· < ·) ↔ y < x := by
 have hsn : l.take (k + 2) = l.take (k + 1) ++ [x] := by rw [List.take_add_one, hx];rfl
 have hyk : (l.take (k + 1))[k]? = some y := by rw [List.getElem?_take_of_lt (by omega)];exact hy
 rw [hsn, List.pairwise_append]
 constructor
 ·rintro ⟨_, _, h3⟩
  exact h3 y (List.mem_of_getElem? hyk) x (by simp)
 ·intro hlt
  refine ⟨h, by simp, fun a ha b hb => ?_⟩
  obtain rfl : b = x := by simpa using hb
  obtain ⟨i, hi⟩ := List.getElem?_of_mem ha
  have hik : i < k + 1 := by
   have := (List.getElem?_eq_some_iff.1 hi).1
   simp at this;omega
  rcases Nat.lt_or_ge i k with h1 | h1
  ·have := Io h hi hyk h1
   omega
  ·obtain rfl : i = k := by omega
   rw [hi] at hyk
   injection hyk with hyk
   omega
set_option maxHeartbeats 4000000 in
theorem Ua (l : List Int) (len : Int) (hs : l.length <= 9223372036854775807) : Fn0 Tryz.prog 146 [.sl (l.map A8), .i len] (.b (decide (Lo l len))) := by
 have hle : (l.map A8).length = l.length := List.length_map _
 by_cases h2 : (2 : Int) <= ((l.map A8).length : Nat) /\ (((l.map A8).length : Nat) : Int) <= 10
 ·obtain ⟨a, ha⟩ : ∃ a, l[0]? = some a := ⟨l[0], List.getElem?_eq_getElem (by omega)⟩
  obtain ⟨z, hz⟩ : ∃ z, l[l.length - 1]? = some z := ⟨l[l.length - 1], List.getElem?_eq_getElem (by omega)⟩
  have hb0 : (l.map A8)[((0 : Int)).toNat]? = some (A8 a) := by rw [show ((0 : Int)).toNat = 0 from rfl, List.getElem?_map, ha];rfl
  have hbz : (l.map A8)[((((l.map A8).length : Nat) : Int) - 1).toNat]? = some (A8 z) := by rw [show ((((l.map A8).length : Nat) : Int) - 1).toNat = l.length - 1 by omega, List.getElem?_map, hz];rfl
  refine Fn0.of Tryz.func146 Tryz.ntmps146 rfl rfl rfl ?_
  simp only [A0]
  repeat' (first | refine W ?_|refine Zc (D5 _ _ _) ?_|(apply S.indexR;(iterate 3 exact rfl);exact hb0;omega;exact rfl)|(apply S.indexR;(iterate 3 exact rfl);exact hbz;omega;exact rfl)|refine Za ?_ | refine V ?_|(refine W2 ?_ ?_ <;> intro hc))
  all_goals first
   | exact A7 (by simp) Tryz.results146 rfl (congrArg Value.bool (decide_eq_false (fun h => by
     have h3 := h.2.1 a (List.mem_of_getElem? ha)
     have h4 := h.2.1 z (List.mem_of_getElem? hz)
     omega)).symm)
   | skip
  refine T.loopS (fun k => 1 <= k /\ k <= l.length /\ (l.take k).Pairwise (· < ·)) (fun k => l.length - k) (fun k => [(5, .i k), (0, .sl (l.map A8)), (1, .i len)]) (fun _ => []) 1 ⟨Nat.le_refl _, by omega, by rw [show (1 : Nat) = 0 + 1 from rfl, List.take_add_one, ha];simp⟩ CV .nil ?_
  rintro k ⟨hk0, hk, hok⟩
  by_cases hlt : k < l.length
  ·have h1 : (k : Int) < ((l.map A8).length : Nat) := by omega
   obtain ⟨j, rfl⟩ : ∃ j, k = j + 1 := ⟨k - 1, by omega⟩
   obtain ⟨x, hx⟩ : ∃ x, l[j + 1]? = some x := ⟨l[j + 1], List.getElem?_eq_getElem hlt⟩
   obtain ⟨y, hy⟩ : ∃ y, l[j]? = some y := ⟨l[j], List.getElem?_eq_getElem (by omega)⟩
   have hb : (l.map A8)[((((j + 1 : Nat)) : Int)).toNat]? = some (A8 x) := by rw [Int.toNat_natCast, List.getElem?_map, hx];rfl
   have hb2 : (l.map A8)[((((j + 1 : Nat)) : Int) - 1).toNat]? = some (A8 y) := by rw [show ((((j + 1 : Nat)) : Int) - 1).toNat = j by omega, List.getElem?_map, hy];rfl
   have hps := S1 hok hy hx
   repeat' (first | refine W ?_|(apply T.drawAll A3 (by kernel_rfl))|(apply S.indexR;(iterate 3 exact rfl);exact hb;omega;exact rfl)|(apply S.indexR;(iterate 3 exact rfl);exact hb2;omega;exact rfl)|refine Za ?_ | refine V ?_|(refine W2 ?_ ?_ <;> intro hc))
   all_goals (try change Next _ _ _ _ _ _)
   all_goals first
    | exact Next.go (j + 1 + 1) ⟨by omega, by omega, hps.2 (by omega)⟩ (by omega) CV .nil
    | exact A7 (by simp) Tryz.results146 rfl (congrArg Value.bool (decide_eq_false (fun h => by
      have := Io h.2.2 hy hx (by omega)
      omega)).symm)
  ·have h1 : ¬ (k : Int) < ((l.map A8).length : Nat) := by omega
   rw [List.take_of_length_le (by omega)] at hok
   repeat' (first | refine W ?_ | refine V ?_|(refine W2 ?_ ?_ <;> intro hc))
   refine A7 (by simp) Tryz.results146 rfl (congrArg Value.bool (decide_eq_true ⟨by omega, fun x hx => ?_, hok⟩).symm)
   obtain ⟨i, hi⟩ := List.getElem?_of_mem hx
   have hil := (List.getElem?_eq_some_iff.1 hi).1
   have g1 : a <= x := by
    rcases Nat.eq_zero_or_pos i with e | e
    ·subst e;rw [ha] at hi;injection hi with hi;omega
    ·have := Io hok ha hi e;omega
   have g2 : x <= z := by
    rcases Nat.lt_or_ge i (l.length - 1) with e | e
    ·have := Io hok hi hz e;omega
    ·obtain rfl : i = l.length - 1 := by omega
     rw [hz] at hi;injection hi with hi;omega
   omega
 ·skip
  refine Fn0.of Tryz.func146 Tryz.ntmps146 rfl rfl rfl ?_
  simp only [A0]
  repeat' (first | refine W ?_|refine Zc (D5 _ _ _) ?_ | refine V ?_|(refine W2 ?_ ?_ <;> intro hc))
  all_goals exact A7 (by simp) Tryz.results146 rfl (congrArg Value.bool (decide_eq_false (fun h => by have := h.1;omega)).symm)
def Bf (s : SetR) : Prop := Bp s.name = true /\ (0 <= s.depth /\ s.depth <= 1048576) /\ 0 <= s.low /\ s.low <= s.high /\ s.high <= 1048576 /\ (1000 <= s.length /\ s.length <= 1048576) /\ s.length % 1000 = 0 /\ Lo s.lines s.length /\
 (0 <= s.pipe /\ s.pipe <= 1048576) /\ (0 <= s.arbor /\ s.arbor <= 1048576) /\ (1 <= s.purchase /\ s.purchase <= 2) /\ (1 <= s.most /\ s.most <= 67108864) /\ (0 <= s.brake /\ s.brake <= 67108864) /\ Ln s.items s.length /\ Eo s.bricks
noncomputable instance (s : SetR) : Decidable (Bf s) := Classical.propDecidable _
def SetR.fits (s : SetR) : Prop := s.lines.length <= 9223372036854775807 /\ s.items.length <= 9223372036854775807 /\ s.bricks.length <= 9223372036854775807
set_option maxHeartbeats 8000000 in
theorem Na (s : SetR) (hf : s.fits) : Fn0 Tryz.prog 91 [A6 s.row] (.b (decide (Bf s))) := by
 refine Fn0.of Tryz.func91 Tryz.ntmps91 rfl rfl rfl ?_
 simp only [A0]
 repeat' (first | refine W ?_|refine Zc (Bz _) ?_|refine Zc (D5 _ _ _) ?_|refine Zc (Ua s.lines s.length hf.1) ?_|(apply S.call;exact rfl;exact rfl;exact U9 s.items s.length (by omega) hf.2.1;exact rfl)|refine Zc (Sd s.bricks hf.2.2) ?_|(apply S.rem;(iterate 3 exact rfl);omega) | refine V ?_|(refine W2 ?_ ?_ <;> intro hc))
 all_goals exact A7 (by simp) Tryz.results91 rfl (by simp only [Bf];simp [*])

/-! ### Beams -/
def Hs (x : RoofR) : Prop := Bp x.name = true /\ (0 <= x.from_ /\ x.from_ <= 1048576) /\ (0 <= x.to /\ x.to <= 1048576) /\ x.from_ <= x.to /\ 0 <= x.most /\ x.most <= 67108864
def G1 (l : List RoofR) : Prop := l.length <= 20 /\ (∀ x ∈ l, Hs x) /\ (l.map RoofR.name).Nodup
noncomputable instance (l : List RoofR) : Decidable (G1 l) := Classical.propDecidable _
theorem Qt (x y : RoofR) : Fn0 Tryz.prog 158 [A6 y.row, .rop x.row] (.b (decide (y.name = x.name))) := by
 refine Fn0.of Tryz.func158 Tryz.ntmps158 rfl rfl rfl ?_
 simp only [A0]
 repeat' (first | refine W ?_ | refine V ?_|(refine W2 ?_ ?_ <;> intro hc))
 all_goals exact A7 (by simp) Tryz.results158 rfl (by rfl)
theorem My (l : List RoofR) (k : Nat) (x : RoofR) (hs : l.length <= 20) :
  Fn0 Tryz.prog 157 [.sl ((l.map RoofR.row).take ((k : Nat) : Int).toNat), .fn (.func 158) [] [.rop x.row]] (.b (decide (∃ y ∈ l.take k, y.name = x.name))) := by
 rw [Int.toNat_natCast, <- List.map_take]
 exact Kb (l.take k) RoofR.row (fun y => y.name = x.name) _ _ (fun _ => rfl) (by simp;omega) rfl fun y hy => Qt x y
theorem Bv {α : Type} (nm : α -> ByteArray) (m : List α) (x : α) : ((m ++ [x]).map nm).Nodup ↔ (m.map nm).Nodup /\ ¬ ∃ y ∈ m, nm y = nm x := by
 rw [List.map_append, List.map_singleton, Ls]
 simp
theorem Fl {α : Type} {nm : α -> ByteArray} {l : List α} (h : (l.map nm).Nodup) (k : Nat) : ((l.take k).map nm).Nodup := by
 rw [<- List.take_append_drop k l, List.map_append] at h
 unfold List.Nodup at h ⊢
 exact (List.pairwise_append.1 h).1
set_option maxHeartbeats 8000000 in
theorem Lh (l : List RoofR) (hs : l.length <= 9223372036854775807) : Fn0 Tryz.prog 106 [.sl (l.map RoofR.row)] (.b (decide (G1 l))) := by
 have hle : (l.map RoofR.row).length = l.length := List.length_map _
 refine Fn0.of Tryz.func106 Tryz.ntmps106 rfl rfl rfl ?_
 simp only [A0]
 repeat' (first | refine W ?_ | refine V ?_|(refine W2 ?_ ?_ <;> intro hc))
 all_goals first
  | exact A7 (by simp) Tryz.results106 rfl (congrArg Value.bool (decide_eq_false (fun h => by have := h.1;omega)).symm)
  | skip
 have hs20 : l.length <= 20 := by omega
 refine T.loopS (fun k => k <= l.length /\ (∀ x ∈ l.take k, Hs x) /\ ((l.take k).map RoofR.name).Nodup) (fun k => l.length - k) (fun k => [(10, .i k), (9, .i (l.map RoofR.row).length), (8, .sl (l.map RoofR.row)), (0, .sl (l.map RoofR.row))]) (fun _ => []) 0 ⟨Nat.zero_le _, by simp⟩ CV .nil ?_
 rintro k ⟨hk, hok, hnd⟩
 by_cases hlt : k < l.length
 ·have h1 : (k : Int) < ((l.map RoofR.row).length : Nat) := by omega
  obtain ⟨x, hx⟩ : ∃ x, l[k]? = some x := ⟨l[k], List.getElem?_eq_getElem hlt⟩
  have hb : (l.map RoofR.row)[((k : Nat) : Int).toNat]? = some (RoofR.row x) := by rw [Int.toNat_natCast, List.getElem?_map, hx];rfl
  have hsn : l.take (k + 1) = l.take k ++ [x] := by rw [List.take_add_one, hx];rfl
  have hmem : x ∈ l := List.mem_of_getElem? hx
  repeat' (first | refine W ?_|(apply S.indexR;(iterate 3 exact rfl);exact hb;omega;exact rfl)|(apply S.loadRW;(iterate 4 exact rfl))|refine Zc (Qs _) ?_|refine Zc (Jh _) ?_|(apply S.sliceTo;(iterate 3 exact rfl);omega;(intro row hr;obtain ⟨z, _, rfl⟩ := List.mem_map.1 hr;rfl))|(apply S.callV;exact rfl;exact My l k x hs20;exact .cons (.one (.lf _)) (.cons (.fn (.cons (.ptr0 rfl) .nil)) .nil);exact rfl;exact rfl)|refine Za ?_ | refine V ?_|(refine W2 ?_ ?_ <;> intro hc))
  all_goals (try change Next _ _ _ _ _ _)
  all_goals first
   | exact Next.go (k + 1) ⟨by omega, by rw [hsn];intro y hy;rcases List.mem_append.1 hy with hy | hy;exact hok y hy;obtain rfl : y = x := (by simpa using hy);exact ⟨by assumption, by assumption, by assumption, by omega, by omega, by omega⟩, by rw [hsn];exact (Bv _ _ _).2 ⟨hnd, by assumption⟩⟩ (by omega) CV .nil
   | exact A7 (by simp) Tryz.results106 rfl (congrArg Value.bool (decide_eq_false (fun h => by
     have h3 := h.2.1 x hmem
     have h4 := Fl h.2.2 (k + 1)
     rw [hsn] at h4
     have h5 := ((Bv _ _ _).1 h4).2
     unfold Hs at h3
     first | contradiction | omega|(simp_all;done))).symm)
 ·have h1 : ¬ (k : Int) < ((l.map RoofR.row).length : Nat) := by omega
  have hk2 : l.take k = l := List.take_of_length_le (by omega)
  rw [hk2] at hok hnd
  repeat' (first | refine W ?_ | refine V ?_|(refine W2 ?_ ?_ <;> intro hc))
  exact A7 (by simp) Tryz.results106 rfl (congrArg Value.bool (decide_eq_true ⟨hs20, hok, hnd⟩).symm)

/-! ### Houses -/
abbrev G2 (h : HouseR) (n : ByteArray) : Int := idx (fun s : SetR => s.name = n) h.sets
theorem Qu (n : ByteArray) (s : SetR) : Fn0 Tryz.prog 160 [A6 s.row, .rop [.s n]] (.b (decide (s.name = n))) := by
 refine Fn0.of Tryz.func160 Tryz.ntmps160 rfl rfl rfl ?_
 simp only [A0]
 repeat' (first | refine W ?_ | refine V ?_|(refine W2 ?_ ?_ <;> intro hc))
 all_goals exact A7 (by simp) Tryz.results160 rfl (by rfl)
theorem Su (h : HouseR) (n : ByteArray) (hs : h.sets.length <= 9223372036854775807) : Fn0 Tryz.prog 107 [A6 h.row, .s n] (.i (G2 h n)) := by
 have hc : Fn0 Tryz.prog 159 [.sl (h.sets.map SetR.row), .fn (.func 160) [] [.rop [.s n]]] (.i (G2 h n)) :=
  Pj h.sets SetR.row (fun s => s.name = n) _ _ (fun _ => rfl) hs rfl fun s _ => Qu n s
 refine Fn0.of Tryz.func107 Tryz.ntmps107 rfl rfl rfl ?_
 simp only [A0]
 repeat' (first | refine W ?_|(apply S.callV;exact rfl;exact hc;exact .cons (.one (.lf _)) (.cons (.fn (.cons (.ptr0 (cs := [.s n]) rfl) .nil)) .nil);exact rfl;exact rfl) | refine V ?_|(refine W2 ?_ ?_ <;> intro hc))
 all_goals exact A7 (by simp) Tryz.results107 rfl (by rfl)
def Az (h : HouseR) : Prop := Bp h.name = true /\ 1 <= h.height /\ h.height <= 1048576 /\ h.sets.length <= 60 /\ G1 h.roofs /\ (∀ s ∈ h.sets, Bf s /\ s.high <= h.height) /\ (h.sets.map SetR.name).Nodup
noncomputable instance (h : HouseR) : Decidable (Az h) := Classical.propDecidable _
def HouseR.fits (h : HouseR) : Prop := h.sets.length <= 9223372036854775807 /\ h.roofs.length <= 9223372036854775807 /\ ∀ s ∈ h.sets, s.fits
theorem Ll {α : Type} {p : α -> Prop} [DecidablePred p] {l : List α} {k : Nat} {x : α} (hx : l[k]? = some x) (hp : p x) : idx p l = (k : Int) ↔ ¬ ∃ y ∈ l.take k, p y := by
 constructor
 ·intro h ⟨y, hy, hpy⟩
  obtain ⟨i, hi⟩ := List.getElem?_of_mem hy
  have hik : i < k := by have := (List.getElem?_eq_some_iff.1 hi).1;simp at this;omega
  have key : ∀ (l : List α) (i : Nat) (y : α), l[i]? = some y -> p y -> idx p l <= i := fun l => by
   induction l with
   | nil => intro i y h;simp at h
   | cons a l ih =>
    intro i y h hp
    have hn := Fk p l
    rw [idx]
    split
    ·omega
    ·cases i with
     | zero => simp at h;subst h;contradiction
     | succ i =>
      have := ih i y (by simpa using h) hp
      split <;> omega
  have := key l i y (by rw [List.getElem?_take_of_lt hik] at hi;exact hi) hpy
  omega
 ·intro h
  exact Du hx (fun y hy hpy => h ⟨y, hy, hpy⟩) hp
set_option maxHeartbeats 8000000 in
theorem Ez (h : HouseR) (hf : h.fits) : Fn0 Tryz.prog 54 [A6 h.row] (.b (decide (Az h))) := by
 obtain ⟨hf1, hf2, hf3⟩ := hf
 have hle : (h.sets.map SetR.row).length = h.sets.length := List.length_map _
 refine Fn0.of Tryz.func54 Tryz.ntmps54 rfl rfl rfl ?_
 simp only [A0]
 repeat' (first | refine W ?_|refine Zc (Bz _) ?_|refine Zc (Lh h.roofs hf2) ?_ | refine V ?_|(refine W2 ?_ ?_ <;> intro hc))
 all_goals first
  | exact A7 (by simp) Tryz.results54 rfl (congrArg Value.bool (decide_eq_false (fun hh => by
    obtain ⟨g1, g2, g3, g4, g5, _⟩ := hh
    first | contradiction | omega)).symm)
  | skip
 have hs60 : h.sets.length <= 60 := by omega
 refine T.loopS (fun k => k <= h.sets.length /\ (∀ s ∈ h.sets.take k, Bf s /\ s.high <= h.height) /\ ((h.sets.take k).map SetR.name).Nodup) (fun k => h.sets.length - k) (fun k => [(34, .i k), (33, .i (h.sets.map SetR.row).length), (32, .sl (h.sets.map SetR.row)), (1, .ptr 0 0)]) (fun _ => [.live (h.row.map .lf)]) 0 ⟨Nat.zero_le _, by simp⟩ CV (.live rfl .nil) ?_
 rintro k ⟨hk, hok, hnd⟩
 by_cases hlt : k < h.sets.length
 ·have h1 : (k : Int) < ((h.sets.map SetR.row).length : Nat) := by omega
  obtain ⟨x, hx⟩ : ∃ x, h.sets[k]? = some x := ⟨h.sets[k], List.getElem?_eq_getElem hlt⟩
  have hb : (h.sets.map SetR.row)[((k : Nat) : Int).toNat]? = some (SetR.row x) := by rw [Int.toNat_natCast, List.getElem?_map, hx];rfl
  have hsn : h.sets.take (k + 1) = h.sets.take k ++ [x] := by rw [List.take_add_one, hx];rfl
  have hmem : x ∈ h.sets := List.mem_of_getElem? hx
  have hidx : G2 h x.name = (k : Int) ↔ _ := Ll (p := fun s : SetR => s.name = x.name) hx rfl
  repeat' (first | refine W ?_|(apply S.indexR;(iterate 3 exact rfl);exact hb;omega;exact rfl)|(apply S.loadRW;(iterate 4 exact rfl))|(apply S.call;exact rfl;exact rfl;exact Na x (hf3 x hmem);exact rfl)|refine Zc (Su h x.name hf1) ?_|refine Za ?_ | refine V ?_|(refine W2 ?_ ?_ <;> intro hc))
  all_goals (try change Next _ _ _ _ _ _)
  all_goals first
   | exact Next.go (k + 1) ⟨by omega, by rw [hsn];intro y hy;rcases List.mem_append.1 hy with hy | hy;exact hok y hy;obtain rfl : y = x := (by simpa using hy);exact ⟨by assumption, by omega⟩, by rw [hsn];exact (Bv _ _ _).2 ⟨hnd, hidx.1 (by assumption)⟩⟩ (by omega) CV (.live rfl .nil)
   | exact A7 (by simp) Tryz.results54 rfl (congrArg Value.bool (decide_eq_false (fun hh => by
     obtain ⟨_, _, _, _, _, g6, g7⟩ := hh
     have h3 := g6 x hmem
     have h4 := Fl g7 (k + 1)
     rw [hsn] at h4
     have h5 := hidx.2 ((Bv _ _ _).1 h4).2
     first | contradiction | exact absurd h3.1 (by assumption)|(have := h3.2;omega))).symm)
 ·have h1 : ¬ (k : Int) < ((h.sets.map SetR.row).length : Nat) := by omega
  have hk2 : h.sets.take k = h.sets := List.take_of_length_le (by omega)
  rw [hk2] at hok hnd
  repeat' (first | refine W ?_ | refine V ?_|(refine W2 ?_ ?_ <;> intro hc))
  exact A7 (by simp) Tryz.results54 rfl (congrArg Value.bool (decide_eq_true ⟨by assumption, by omega, by omega, hs60, by assumption, hok, hnd⟩).symm)
end Go.Proofs.YtcfjofhapbkmfaaGreatDoor
