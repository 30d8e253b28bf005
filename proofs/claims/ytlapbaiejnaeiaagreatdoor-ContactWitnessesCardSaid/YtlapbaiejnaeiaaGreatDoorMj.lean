/- Lemmas of the proof. -/
import Derived.Test.YtlapbaiejnaeiaaGreatDoorMi
import Derived.Test.YtlapbaiejnaeiaaGreatDoorMb
import Derived.Test.YtlapbaiejnaeiaaGreatDoorMh
import Derived.Test.YtlapbaiejnaeiaaGreatDoorMc
set_option linter.all false
set_option maxHeartbeats 64000000
namespace Go.Proofs.YtlapbaiejnaeiaaGreatDoor
open Go.RowKit
def a2e := @List.not_mem_nil
def a4n := @List.pairwise_iff_getElem
def a8q := @Tryz.results131
def a8s := @Tryz.results133
def b0j := @Tryz.results119
def b0s := @Tryz.results76
/-! ### Bricks -/
def Rq (x : BrickR) : Prop := Ct x.name = true /\ (1 <= x.weight /\ x.weight <= 1048576) /\ 0 <= x.count /\ x.count <= 60
def Jz (l : List BrickR) : Int := (l.map BrickR.count).sum
theorem A78 (l : List BrickR) (x : BrickR) : Jz (l ++ [x]) = Jz l + x.count := by simp [Jz, List.sum_append]
theorem Ace {l : List BrickR} (h : ∀ x ∈ l, Rq x) : 0 <= Jz l /\ Jz l <= 60 * l.length := by
 induction l with
 | nil => simp [Jz]
 | cons x l ih =>
  have h1 := (h x (by simp)).2.2
  have h2 := ih fun y hy => h y (by simp [hy])
  have : Jz (x :: l) = x.count + Jz l := by simp [Jz]
  simp only [a0i]
  omega
def Tl (l : List BrickR) : Prop := l.length <= 8 /\ (l.map BrickR.name).Nodup /\ (∀ x ∈ l, Rq x) /\ Jz l <= 60
noncomputable instance (l : List BrickR) : Decidable (Tl l) := Classical.propDecidable _
theorem A25 (l : List BrickR) (hs : l.length <= 9223372036854775807) : Fn0 Tryz.prog 133 [.sl (l.map BrickR.row)] (.b (decide (Tl l))) := by
 have htw := A3x l BrickR.row BrickR.name 192 [] (fun _ => rfl) (fun _ => rfl) hs rfl fun x _ => Zr x
 have hle : (l.map BrickR.row).length = l.length := a0a _
 refine Fn0.of Tryz.func133 Tryz.ntmps133 rfl rfl rfl ?_
 simp only [A2]
 repeat' (first|refine W ?_|refine Zc htw ?_|refine V ?_|(refine W2 ?_ ?_<;>intro hc))
 all_goals first
  | exact A4 (by simp) a8s rfl (congrArg Value.bool (decide_eq_false (fun h => by have := h.1;omega)).symm)
  | exact A4 (by simp) a8s rfl (congrArg Value.bool (decide_eq_false (fun h => by have := h.2.1;contradiction)).symm)
  | skip
 have hs8 : l.length <= 8 := by omega
 refine p0d (fun k => k <= l.length /\ ∀ x ∈ l.take k, Rq x) (fun k => l.length - k) (fun k => [(15, .i k), (14, .i (l.map BrickR.row).length), (13, .sl (l.map BrickR.row)), (0, .sl (l.map BrickR.row)), (3, .i (Jz (l.take k)))]) (fun _ => []) 0 ⟨a0o _, by simp⟩ CV .nil ?_
 rintro k ⟨hk, hok⟩
 have hsum := Ace hok
 have hlk : (l.take k).length <= 8 := by simp;omega
 by_cases hlt : k < l.length
 ·have h1 : (k : Int) < ((l.map BrickR.row).length : Nat) := by omega
  obtain ⟨x, hx⟩ : ∃ x, l[k]? = some x := ⟨l[k], a0b hlt⟩
  have hb : (l.map BrickR.row)[((k : Nat) : Int).toNat]? = some (BrickR.row x) := by rw [a0v, a0e, hx];rfl
  have hsn : l.take (k + 1) = l.take k ++ [x] := by rw [a0x, hx];rfl
  have hmem : x ∈ l := a0c hx
  repeat' (first|refine W ?_|(apply S.indexR;(iterate 3 exact rfl);exact hb;omega;exact rfl)|(apply p0k;(iterate 4 exact rfl))|refine Zc (Cs _) ?_|refine Zc (Et _ _ _) ?_|refine Za ?_|refine V ?_|(refine W2 ?_ ?_<;>intro hc))
  all_goals (try change Next _ _ _ _ _ _)
  all_goals first
   | exact Next.go (k + 1) ⟨by omega, by rw [hsn];intro y hy;rcases a0u.1 hy with hy | hy;exact hok y hy;obtain rfl : y = x := (by simpa using hy);exact ⟨by assumption, by assumption, by assumption⟩⟩ (by omega) (.cons rfl rfl (.cons rfl rfl (.cons rfl rfl (.cons rfl rfl (.cons (by rw [hsn, A78];rfl) rfl .nil))))) .nil
   | exact A4 (by simp) a8s rfl (congrArg Value.bool (decide_eq_false (fun h => by
     have h3 := h.2.2.1 x hmem
     unfold Rq at h3
     simp_all)).symm)
 ·have h1 : ¬ (k : Int) < ((l.map BrickR.row).length : Nat) := by omega
  have hk2 : l.take k = l := a0h (by omega)
  rw [hk2] at hok hsum
  rw [hk2]
  repeat' (first|refine W ?_|refine V ?_|(refine W2 ?_ ?_<;>intro hc))
  exact A4 (by simp) a8s rfl (congrArg Value.bool (decide_eq_decide.2 ⟨fun h => ⟨hs8, by first | assumption | exact a3k (by assumption), hok, h⟩, fun h => h.2.2.2⟩))

/-! ### Lift lines -/
def Y1 (l : List Int) (len : Int) : Prop := (2 <= l.length /\ l.length <= 10) /\ (∀ x ∈ l, 0 <= x /\ x <= len) /\ l.Pairwise (· < ·)
noncomputable instance (l : List Int) (len : Int) : Decidable (Y1 l len) := Classical.propDecidable _
theorem Sx {l : List Int} (h : l.Pairwise (· < ·)) {i j : Nat} {a b : Int} (hi : l[i]? = some a) (hj : l[j]? = some b) (hij : i < j) : a < b := by
 rw [a4n] at h
 obtain ⟨h1, rfl⟩ := a0g.1 hi
 obtain ⟨h2, rfl⟩ := a0g.1 hj
 exact h i j h1 h2 hij
theorem Ac3 {l : List Int} {x y : Int} {k : Nat} (h : (l.take (k + 1)).Pairwise (· < ·)) (hy : l[k]? = some y) (hx : l[k + 1]? = some x) : (l.take (k + 2)).Pairwise (· < ·) ↔ y < x := by
 have hsn : l.take (k + 2) = l.take (k + 1) ++ [x] := by rw [a0x, hx];rfl
 have hyk : (l.take (k + 1))[k]? = some y := by rw [a1k (by omega)];exact hy
 rw [hsn, a4p]
 constructor
 ·rintro ⟨_, _, h3⟩
  exact h3 y (a0c hyk) x (by simp)
 ·intro hlt
  refine ⟨h, by simp, fun a ha b hb => ?_⟩
  obtain rfl : b = x := by simpa using hb
  obtain ⟨i, hi⟩ := a2y ha
  have hik : i < k + 1 := by
   have := (a0g.1 hi).1
   simp at this;omega
  rcases a1a i k with h1 | h1
  ·have := Sx h hi hyk h1
   omega
  ·obtain rfl : i = k := by omega
   rw [hi] at hyk
   injection hyk with hyk
   omega
theorem A4f (l : List Int) (len : Int) (hs : l.length <= 9223372036854775807) : Fn0 Tryz.prog 131 [.sl (l.map A3), .i len] (.b (decide (Y1 l len))) := by
 have hle : (l.map A3).length = l.length := a0a _
 by_cases h2 : (2 : Int) <= ((l.map A3).length : Nat) /\ (((l.map A3).length : Nat) : Int) <= 10
 ·obtain ⟨a, ha⟩ : ∃ a, l[0]? = some a := ⟨l[0], a0b (by omega)⟩
  obtain ⟨z, hz⟩ : ∃ z, l[l.length - 1]? = some z := ⟨l[l.length - 1], a0b (by omega)⟩
  have hb0 : (l.map A3)[((0 : Int)).toNat]? = some (A3 a) := by rw [show ((0 : Int)).toNat = 0 from rfl, a0e, ha];rfl
  have hbz : (l.map A3)[((((l.map A3).length : Nat) : Int) - 1).toNat]? = some (A3 z) := by rw [show ((((l.map A3).length : Nat) : Int) - 1).toNat = l.length - 1 by omega, a0e, hz];rfl
  refine Fn0.of Tryz.func131 Tryz.ntmps131 rfl rfl rfl ?_
  simp only [A2]
  repeat' (first|refine W ?_|refine Zc (Et _ _ _) ?_|(apply S.indexR;(iterate 3 exact rfl);exact hb0;omega;exact rfl)|(apply S.indexR;(iterate 3 exact rfl);exact hbz;omega;exact rfl)|refine Za ?_|refine V ?_|(refine W2 ?_ ?_<;>intro hc))
  all_goals first
   | exact A4 (by simp) a8q rfl (congrArg Value.bool (decide_eq_false (fun h => by
     have h3 := h.2.1 a (a0c ha)
     have h4 := h.2.1 z (a0c hz)
     omega)).symm)
   | skip
  refine p0d (fun k => 1 <= k /\ k <= l.length /\ (l.take k).Pairwise (· < ·)) (fun k => l.length - k) (fun k => [(5, .i k), (0, .sl (l.map A3)), (1, .i len)]) (fun _ => []) 1 ⟨a0l _, by omega, by rw [show (1 : Nat) = 0 + 1 from rfl, a0x, ha];simp⟩ CV .nil ?_
  rintro k ⟨hk0, hk, hok⟩
  by_cases hlt : k < l.length
  ·have h1 : (k : Int) < ((l.map A3).length : Nat) := by omega
   obtain ⟨j, rfl⟩ : ∃ j, k = j + 1 := ⟨k - 1, by omega⟩
   obtain ⟨x, hx⟩ : ∃ x, l[j + 1]? = some x := ⟨l[j + 1], a0b hlt⟩
   obtain ⟨y, hy⟩ : ∃ y, l[j]? = some y := ⟨l[j], a0b (by omega)⟩
   have hb : (l.map A3)[((((j + 1 : Nat)) : Int)).toNat]? = some (A3 x) := by rw [a0v, a0e, hx];rfl
   have hb2 : (l.map A3)[((((j + 1 : Nat)) : Int) - 1).toNat]? = some (A3 y) := by rw [show ((((j + 1 : Nat)) : Int) - 1).toNat = j by omega, a0e, hy];rfl
   have hps := Ac3 hok hy hx
   repeat' (first|refine W ?_|(apply p0b A0 (by kernel_rfl))|(apply S.indexR;(iterate 3 exact rfl);exact hb;omega;exact rfl)|(apply S.indexR;(iterate 3 exact rfl);exact hb2;omega;exact rfl)|refine Za ?_|refine V ?_|(refine W2 ?_ ?_<;>intro hc))
   all_goals (try change Next _ _ _ _ _ _)
   all_goals first
    | exact Next.go (j + 1 + 1) ⟨by omega, by omega, hps.2 (by omega)⟩ (by omega) CV .nil
    | exact A4 (by simp) a8q rfl (congrArg Value.bool (decide_eq_false (fun h => by
      have := Sx h.2.2 hy hx (by omega)
      omega)).symm)
  ·have h1 : ¬ (k : Int) < ((l.map A3).length : Nat) := by omega
   rw [a0h (by omega)] at hok
   repeat' (first|refine W ?_|refine V ?_|(refine W2 ?_ ?_<;>intro hc))
   refine A4 (by simp) a8q rfl (congrArg Value.bool (decide_eq_true ⟨by omega, fun x hx => ?_, hok⟩).symm)
   obtain ⟨i, hi⟩ := a2y hx
   have hil := (a0g.1 hi).1
   have g1 : a <= x := by
    rcases a4j i with e | e
    ·subst e;rw [ha] at hi;injection hi with hi;omega
    ·have := Sx hok ha hi e;omega
   have g2 : x <= z := by
    rcases a1a i (l.length - 1) with e | e
    ·have := Sx hok hi hz e;omega
    ·obtain rfl : i = l.length - 1 := by omega
     rw [hz] at hi;injection hi with hi;omega
   omega
 ·skip
  refine Fn0.of Tryz.func131 Tryz.ntmps131 rfl rfl rfl ?_
  simp only [A2]
  repeat' (first|refine W ?_|refine Zc (Et _ _ _) ?_|refine V ?_|(refine W2 ?_ ?_<;>intro hc))
  all_goals exact A4 (by simp) a8q rfl (congrArg Value.bool (decide_eq_false (fun h => by have := h.1;omega)).symm)
def Ec (s : SetR) : Prop := Ct s.name = true /\ (0 <= s.depth /\ s.depth <= 1048576) /\ 0 <= s.low /\ s.low <= s.high /\ s.high <= 1048576 /\ (1000 <= s.length /\ s.length <= 1048576) /\ s.length % 1000 = 0 /\ Y1 s.lines s.length /\
 (0 <= s.pipe /\ s.pipe <= 1048576) /\ (0 <= s.arbor /\ s.arbor <= 1048576) /\ (1 <= s.purchase /\ s.purchase <= 2) /\ (1 <= s.most /\ s.most <= 67108864) /\ (0 <= s.brake /\ s.brake <= 67108864) /\ Xx s.items s.length /\ Tl s.bricks
noncomputable instance (s : SetR) : Decidable (Ec s) := Classical.propDecidable _
def SetR.fits (s : SetR) : Prop := s.lines.length <= 9223372036854775807 /\ s.items.length <= 9223372036854775807 /\ s.bricks.length <= 9223372036854775807
theorem F6 (s : SetR) (hf : s.fits) : Fn0 Tryz.prog 83 [A1 s.row] (.b (decide (Ec s))) := by
 refine Fn0.of Tryz.func83 Tryz.ntmps83 rfl rfl rfl ?_
 simp only [A2]
 repeat' (first|refine W ?_|refine Zc (Cs _) ?_|refine Zc (Et _ _ _) ?_|refine Zc (A4f s.lines s.length hf.1) ?_|(apply S.call;exact rfl;exact rfl;exact A4e s.items s.length (by omega) hf.2.1;exact rfl)|refine Zc (A25 s.bricks hf.2.2) ?_|(apply S.rem;(iterate 3 exact rfl);omega)|refine V ?_|(refine W2 ?_ ?_<;>intro hc))
 all_goals exact A4 (by simp) Tryz.results83 rfl (by simp only [Ec];simp [*])

/-! ### Beams -/
def A3i (x : RoofR) : Prop := Ct x.name = true /\ (0 <= x.from_ /\ x.from_ <= 1048576) /\ (0 <= x.to /\ x.to <= 1048576) /\ x.from_ <= x.to /\ 0 <= x.most /\ x.most <= 67108864
def T5 (l : List RoofR) : Prop := l.length <= 20 /\ (∀ x ∈ l, A3i x) /\ (l.map RoofR.name).Nodup
noncomputable instance (l : List RoofR) : Decidable (T5 l) := Classical.propDecidable _
theorem Zx (x y : RoofR) : Fn0 Tryz.prog 172 [A1 y.row, .rop x.row] (.b (decide (y.name = x.name))) := by
 refine Fn0.of Tryz.func172 Tryz.ntmps172 rfl rfl rfl ?_
 simp only [A2]
 repeat' (first|refine W ?_|refine V ?_|(refine W2 ?_ ?_<;>intro hc))
 all_goals exact A4 (by simp) Tryz.results172 rfl (by rfl)
theorem Ue (l : List RoofR) (k : Nat) (x : RoofR) (hs : l.length <= 20) :
  Fn0 Tryz.prog 171 [.sl ((l.map RoofR.row).take ((k : Nat) : Int).toNat), .fn (.func 172) [] [.rop x.row]] (.b (decide (∃ y ∈ l.take k, y.name = x.name))) := by
 rw [a0v, <- a7y]
 exact Qw (l.take k) RoofR.row (fun y => y.name = x.name) _ _ (fun _ => rfl) (by simp;omega) rfl fun y hy => Zx x y
theorem Fv {α : Type} (nm : α -> ByteArray) (m : List α) (x : α) : ((m ++ [x]).map nm).Nodup ↔ (m.map nm).Nodup /\ ¬ ∃ y ∈ m, nm y = nm x := by
 rw [a1u, b3i, Sm]
 simp
theorem M9 {α : Type} {nm : α -> ByteArray} {l : List α} (h : (l.map nm).Nodup) (k : Nat) : ((l.take k).map nm).Nodup := by
 rw [<- a4i k l, a1u] at h
 unfold List.Nodup at h ⊢
 exact (a4p.1 h).1
theorem A2x (l : List RoofR) (hs : l.length <= 9223372036854775807) : Fn0 Tryz.prog 119 [.sl (l.map RoofR.row)] (.b (decide (T5 l))) := by
 have hle : (l.map RoofR.row).length = l.length := a0a _
 refine Fn0.of Tryz.func119 Tryz.ntmps119 rfl rfl rfl ?_
 simp only [A2]
 repeat' (first|refine W ?_|refine V ?_|(refine W2 ?_ ?_<;>intro hc))
 all_goals first
  | exact A4 (by simp) b0j rfl (congrArg Value.bool (decide_eq_false (fun h => by have := h.1;omega)).symm)
  | skip
 have hs20 : l.length <= 20 := by omega
 refine p0d (fun k => k <= l.length /\ (∀ x ∈ l.take k, A3i x) /\ ((l.take k).map RoofR.name).Nodup) (fun k => l.length - k) (fun k => [(10, .i k), (9, .i (l.map RoofR.row).length), (8, .sl (l.map RoofR.row)), (0, .sl (l.map RoofR.row))]) (fun _ => []) 0 ⟨a0o _, by simp⟩ CV .nil ?_
 rintro k ⟨hk, hok, hnd⟩
 by_cases hlt : k < l.length
 ·have h1 : (k : Int) < ((l.map RoofR.row).length : Nat) := by omega
  obtain ⟨x, hx⟩ : ∃ x, l[k]? = some x := ⟨l[k], a0b hlt⟩
  have hb : (l.map RoofR.row)[((k : Nat) : Int).toNat]? = some (RoofR.row x) := by rw [a0v, a0e, hx];rfl
  have hsn : l.take (k + 1) = l.take k ++ [x] := by rw [a0x, hx];rfl
  have hmem : x ∈ l := a0c hx
  repeat' (first|refine W ?_|(apply S.indexR;(iterate 3 exact rfl);exact hb;omega;exact rfl)|(apply p0k;(iterate 4 exact rfl))|refine Zc (Zw _) ?_|refine Zc (Zy _) ?_|(apply p1s;(iterate 3 exact rfl);omega;(intro row hr;obtain ⟨z, _, rfl⟩ := a1b.1 hr;rfl))|(apply S.callV;exact rfl;exact Ue l k x hs20;exact .cons (.one (.lf _)) (.cons (.fn (.cons (.ptr0 rfl) .nil)) .nil);exact rfl;exact rfl)|refine Za ?_|refine V ?_|(refine W2 ?_ ?_<;>intro hc))
  all_goals (try change Next _ _ _ _ _ _)
  all_goals first
   | exact Next.go (k + 1) ⟨by omega, by rw [hsn];intro y hy;rcases a0u.1 hy with hy | hy;exact hok y hy;obtain rfl : y = x := (by simpa using hy);exact ⟨by assumption, by assumption, by assumption, by omega, by omega, by omega⟩, by rw [hsn];exact (Fv _ _ _).2 ⟨hnd, by assumption⟩⟩ (by omega) CV .nil
   | exact A4 (by simp) b0j rfl (congrArg Value.bool (decide_eq_false (fun h => by
     have h3 := h.2.1 x hmem
     have h4 := M9 h.2.2 (k + 1)
     rw [hsn] at h4
     have h5 := ((Fv _ _ _).1 h4).2
     unfold A3i at h3
     first | contradiction | omega|(simp_all;done))).symm)
 ·have h1 : ¬ (k : Int) < ((l.map RoofR.row).length : Nat) := by omega
  have hk2 : l.take k = l := a0h (by omega)
  rw [hk2] at hok hnd
  repeat' (first|refine W ?_|refine V ?_|(refine W2 ?_ ?_<;>intro hc))
  exact A4 (by simp) b0j rfl (congrArg Value.bool (decide_eq_true ⟨hs20, hok, hnd⟩).symm)

/-! ### Houses -/
abbrev Ae (h : HouseR) (n : ByteArray) : Int := idx (fun s : SetR => s.name = n) h.sets
theorem A00 (n : ByteArray) (s : SetR) : Fn0 Tryz.prog 129 [A1 s.row, .rop [.s n]] (.b (decide (s.name = n))) := by
 refine Fn0.of Tryz.func129 Tryz.ntmps129 rfl rfl rfl ?_
 simp only [A2]
 repeat' (first|refine W ?_|refine V ?_|(refine W2 ?_ ?_<;>intro hc))
 all_goals exact A4 (by simp) Tryz.results129 rfl (by rfl)
theorem Sf (h : HouseR) (n : ByteArray) (hs : h.sets.length <= 9223372036854775807) : Fn0 Tryz.prog 82 [A1 h.row, .s n] (.i (Ae h n)) := by
 have hc : Fn0 Tryz.prog 88 [.sl (h.sets.map SetR.row), .fn (.func 129) [] [.rop [.s n]]] (.i (Ae h n)) :=
  Jm h.sets SetR.row (fun s => s.name = n) _ _ (fun _ => rfl) hs rfl fun s _ => A00 n s
 refine Fn0.of Tryz.func82 Tryz.ntmps82 rfl rfl rfl ?_
 simp only [A2]
 repeat' (first|refine W ?_|(apply S.callV;exact rfl;exact hc;exact .cons (.one (.lf _)) (.cons (.fn (.cons (.ptr0 (cs := [.s n]) rfl) .nil)) .nil);exact rfl;exact rfl)|refine V ?_|(refine W2 ?_ ?_<;>intro hc))
 all_goals exact A4 (by simp) Tryz.results82 rfl (by rfl)
theorem A8a (n : ByteArray) (s : SetR) : Fn0 Tryz.prog 218 [A1 s.row, .rop [.s n]] (.b (decide (s.name = n))) := by
 refine Fn0.of Tryz.func218 Tryz.ntmps218 rfl rfl rfl ?_
 simp only [A2]
 repeat' (first|refine W ?_|refine V ?_|(refine W2 ?_ ?_<;>intro hc))
 all_goals exact A4 (by simp) Tryz.results218 rfl (by rfl)
theorem Ox (h : HouseR) (n : ByteArray) (hs : h.sets.length <= 9223372036854775807) : Fn0 Tryz.prog 160 [A1 h.row, .s n] (.i (Ae h n)) := by
 have hc : Fn0 Tryz.prog 88 [.sl (h.sets.map SetR.row), .fn (.func 218) [] [.rop [.s n]]] (.i (Ae h n)) :=
  Jm h.sets SetR.row (fun s => s.name = n) _ _ (fun _ => rfl) hs rfl fun s _ => A8a n s
 refine Fn0.of Tryz.func160 Tryz.ntmps160 rfl rfl rfl ?_
 simp only [A2]
 repeat' (first|refine W ?_|(apply S.callV;exact rfl;exact hc;exact .cons (.one (.lf _)) (.cons (.fn (.cons (.ptr0 (cs := [.s n]) rfl) .nil)) .nil);exact rfl;exact rfl)|refine V ?_|(refine W2 ?_ ?_<;>intro hc))
 all_goals exact A4 (by simp) Tryz.results160 rfl (by rfl)
def Cn (h : HouseR) : Prop := Ct h.name = true /\ 1 <= h.height /\ h.height <= 1048576 /\ h.sets.length <= 60 /\ T5 h.roofs /\ (∀ s ∈ h.sets, Ec s /\ s.high <= h.height) /\ (h.sets.map SetR.name).Nodup
noncomputable instance (h : HouseR) : Decidable (Cn h) := Classical.propDecidable _
def HouseR.fits (h : HouseR) : Prop := h.sets.length <= 9223372036854775807 /\ h.roofs.length <= 9223372036854775807 /\ ∀ s ∈ h.sets, s.fits
theorem M3 {α : Type} {p : α -> Prop} [DecidablePred p] {l : List α} {k : Nat} {x : α} (hx : l[k]? = some x) (hp : p x) : idx p l = (k : Int) ↔ ¬ ∃ y ∈ l.take k, p y := by
 constructor
 ·intro h ⟨y, hy, hpy⟩
  obtain ⟨i, hi⟩ := a2y hy
  have hik : i < k := by have := (a0g.1 hi).1;simp at this;omega
  have key : ∀ (l : List α) (i : Nat) (y : α), l[i]? = some y -> p y -> idx p l <= i := fun l => by
   induction l with
   | nil => intro i y h;simp at h
   | cons a l ih =>
    intro i y h hp
    have hn := Fq p l
    rw [idx]
    split
    ·omega
    ·cases i with
     | zero => simp at h;subst h;contradiction
     | succ i =>
      have := ih i y (by simpa using h) hp
      split <;> omega
  have := key l i y (by rw [a1k hik] at hi;exact hi) hpy
  omega
 ·intro h
  exact G7 hx (fun y hy hpy => h ⟨y, hy, hpy⟩) hp
theorem G6 (h : HouseR) (hf : h.fits) : Fn0 Tryz.prog 76 [A1 h.row] (.b (decide (Cn h))) := by
 obtain ⟨hf1, hf2, hf3⟩ := hf
 have hle : (h.sets.map SetR.row).length = h.sets.length := a0a _
 refine Fn0.of Tryz.func76 Tryz.ntmps76 rfl rfl rfl ?_
 simp only [A2]
 repeat' (first|refine W ?_|refine Zc (Cs _) ?_|refine Zc (A2x h.roofs hf2) ?_|refine V ?_|(refine W2 ?_ ?_<;>intro hc))
 all_goals first
  | exact A4 (by simp) b0s rfl (congrArg Value.bool (decide_eq_false (fun hh => by
    obtain ⟨g1, g2, g3, g4, g5, _⟩ := hh
    first | contradiction | omega)).symm)
  | skip
 have hs60 : h.sets.length <= 60 := by omega
 refine p0d (fun k => k <= h.sets.length /\ (∀ s ∈ h.sets.take k, Ec s /\ s.high <= h.height) /\ ((h.sets.take k).map SetR.name).Nodup) (fun k => h.sets.length - k) (fun k => [(34, .i k), (33, .i (h.sets.map SetR.row).length), (32, .sl (h.sets.map SetR.row)), (1, .ptr 0 0)]) (fun _ => [.live (h.row.map .lf)]) 0 ⟨a0o _, by simp⟩ CV (.live rfl .nil) ?_
 rintro k ⟨hk, hok, hnd⟩
 by_cases hlt : k < h.sets.length
 ·have h1 : (k : Int) < ((h.sets.map SetR.row).length : Nat) := by omega
  obtain ⟨x, hx⟩ : ∃ x, h.sets[k]? = some x := ⟨h.sets[k], a0b hlt⟩
  have hb : (h.sets.map SetR.row)[((k : Nat) : Int).toNat]? = some (SetR.row x) := by rw [a0v, a0e, hx];rfl
  have hsn : h.sets.take (k + 1) = h.sets.take k ++ [x] := by rw [a0x, hx];rfl
  have hmem : x ∈ h.sets := a0c hx
  have hidx : Ae h x.name = (k : Int) ↔ _ := M3 (p := fun s : SetR => s.name = x.name) hx rfl
  repeat' (first|refine W ?_|(apply S.indexR;(iterate 3 exact rfl);exact hb;omega;exact rfl)|(apply p0k;(iterate 4 exact rfl))|(apply S.call;exact rfl;exact rfl;exact F6 x (hf3 x hmem);exact rfl)|refine Zc (Sf h x.name hf1) ?_|refine Za ?_|refine V ?_|(refine W2 ?_ ?_<;>intro hc))
  all_goals (try change Next _ _ _ _ _ _)
  all_goals first
   | exact Next.go (k + 1) ⟨by omega, by rw [hsn];intro y hy;rcases a0u.1 hy with hy | hy;exact hok y hy;obtain rfl : y = x := (by simpa using hy);exact ⟨by assumption, by omega⟩, by rw [hsn];exact (Fv _ _ _).2 ⟨hnd, hidx.1 (by assumption)⟩⟩ (by omega) CV (.live rfl .nil)
   | exact A4 (by simp) b0s rfl (congrArg Value.bool (decide_eq_false (fun hh => by
     obtain ⟨_, _, _, _, _, g6, g7⟩ := hh
     have h3 := g6 x hmem
     have h4 := M9 g7 (k + 1)
     rw [hsn] at h4
     have h5 := hidx.2 ((Fv _ _ _).1 h4).2
     first | contradiction | exact absurd h3.1 (by assumption)|(have := h3.2;omega))).symm)
 ·have h1 : ¬ (k : Int) < ((h.sets.map SetR.row).length : Nat) := by omega
  have hk2 : h.sets.take k = h.sets := a0h (by omega)
  rw [hk2] at hok hnd
  repeat' (first|refine W ?_|refine V ?_|(refine W2 ?_ ?_<;>intro hc))
  exact A4 (by simp) b0s rfl (congrArg Value.bool (decide_eq_true ⟨by assumption, by omega, by omega, hs60, by assumption, hok, hnd⟩).symm)
end Go.Proofs.YtlapbaiejnaeiaaGreatDoor
namespace Go.Proofs.YtlapbaiejnaeiaaGreatDoor
open Go Go.RowKit
theorem CW {tm tm' : Tm} {n : Nat} (h : Cov tm n tm' := by (repeat' (first|exact Cov.nil|(apply Cov.cons;exact rfl;exact rfl)));first|done|fail) : Cov tm n tm' := h
theorem CG {H H' : AH} {n : Nat} (h : CovH n H H' := by (repeat' (first|exact CovH.nil|apply CovH.dead|(apply CovH.live;exact rfl)|apply CovH.map));first|done|fail) : CovH n H H' := h
section
variable {P : Program} {N : Nat} {ops : Array Oper} {m : Option Nat} {K : Tm -> AH -> Prop} {tm tm' : Tm} {H : AH} {rest : List Oper} {ty : TypeId} {pos : String} {af : Array Edge} {d : Nat} {t e : TypeId} {x y z : Operand}
theorem p3f {H : AH} {g : Nat} (h : H.nextId = some g) : H.at g = .free := by
 have := G8 h
 subst this
 simp [AH.at]
theorem RelH.keep {w : World} {L : Nat -> Prop} {ρ : Pl} {H : AH} (h : RelH w L ρ H) {g : Nat} {cs : List AV} {vs : List Value} (hg : H.at g = .free) (hl : cs.length = vs.length) (hr : ∀ (i : Nat) (x : AV) (v : Value), cs[i]? = some x -> vs[i]? = some v -> RelV w L ρ x v) : RelH w L ρ (H.put g (.gho cs vs)) := by
 have hput : ∀ {b : Nat} {y : HB}, (∀ cs vs, y ≠ .gho cs vs) -> (H.put g (.gho cs vs)).at b = y -> H.at b = y := fun {b y} hy hb => by
  rw [p0a] at hb
  split at hb
  ·exact absurd hb.symm (hy _ _)
  ·exact hb
 exact ⟨fun b hb => h.free b (hput (by intro _ _ h;cases h) hb), fun b hb => h.dead b (hput (by intro _ _ h;cases h) hb), fun b cs' hb => h.live b cs' (hput (by intro _ _ h;cases h) hb), fun b es hb => h.map b es (hput (by intro _ _ h;cases h) hb), h.dist,
  h.ext.put (fun k o u h1 h2 => ⟨h2, h1⟩) (by rw [hg];rfl) rfl (fun _ _ => rfl) (a0l _) (fun _ _ _ _ _ _ _ _ h => h) (fun _ _ _ _ _ => rfl) (fun _ _ _ h => by cases h) fun cs' vs' e => by
   injection e with e1 e2
   subst e1 e2
   exact ⟨(fun k o hk => by rw [h.free g hg] at hk;cases hk), hl, hr⟩⟩
def Co (P : Program) (fn : Func) (g : Nat) (cs : List AV) (vs : List Value) (J : AV -> AH -> Prop) (e : Exit) (st : St) : Prop := (e = .normal \/ e = .ret) /\
 ∃ rs, ResL P st fn.results.toList rs /\ st.H.at g = .gho cs vs /\ J (Kc rs) st.H
theorem A9p {w : World} {L : Nat -> Prop} {ρ : Pl} {rs : List AV} {us : List Value} (hl : rs.length = us.length) (h : ∀ (i : Nat) (x : AV) (v : Value), rs[i]? = some x -> us[i]? = some v -> RelV w L ρ x v) : RelV w L ρ (Kc rs) (P8 us) := by
 match rs, us, hl, h with
 | [x], [u], _, h => exact h 0 x u rfl rfl
 | [], [], _, h => exact .tup [] [] rfl (fun i x u h => by simp at h)
 | x :: y :: xs, u :: v :: us, hl, h => exact .tup _ (u :: v :: us) hl h
theorem A1b : ∀ (keep : Tm) (t : Nat) (x : AV), keep.get t = some x -> ∃ i : Nat, keep[i]? = some (t, x)
 | [], t, x, h => by cases h
 | (k, y) :: r, t, x, h => by
  rw [p0q] at h
  by_cases e : k = t
  ·rw [if_pos e] at h
   injection h with h
   subst e h
   exact ⟨0, rfl⟩
  ·rw [if_neg e] at h
   obtain ⟨i, hi⟩ := A1b r t x h
   exact ⟨i + 1, hi⟩
theorem p1y (keep : Tm) {g : Nat} {f : FuncId} {fn : Func} {c : Code} {N' : Nat} {x : Operand} {xs : Array Operand} {ts : Array TypeId} {ys caps args : List AV} (hf : P.funcs[f]? = some fn) (hnt : fn.ntmps = N') (hb : fn.body = some c) (hn : (fn.name == "runtime.NumGoroutine") = false)
  (hx : evT tm x = some (.fn (.func f) [] caps)) (hy : evs (evT tm) xs.toList = some ys) (ha : ys ++ caps = args) (hN' : Nat.ble args.length N' = true) (hg : H.nextId = some g) (hk : Cov tm g keep) (hN : Nat.ble (d + 1) N = true)
  (h : ∀ vs : List Value, T P N' c ⟨A2 0 args, H.put g (.gho (keep.map (·.2)) vs)⟩ (Co P fn g (keep.map (·.2)) vs fun r H' => Reg none P N ops rest ((d, r) :: keep) H' K)) :
  Reg none P N ops (⟨some d, .call ⟨.value x, xs, ts⟩, ty, pos, af, none⟩ :: rest) tm H K := by
 subst hnt ha
 refine ⟨fun E a w ρ hE hR => ?_⟩
 refine wpList_plain rfl fun K' hK => ?_
 have hNN := a0d hN'
 obtain ⟨g1, g2⟩ := Dg _ _ hy
 have hfv := hR.ev (x := x) (by rw [Ag];exact hx)
 obtain ⟨us, ws, h1, h2, h3, _, h4⟩ := hfv.fn_out
 simp only [a0n] at h2
 obtain rfl : us = [] := a1p h2.symm
 have hent : Enters P f := ⟨fn, hf, hn, by rw [hb];rfl⟩
 have hrun : (execOp a.eval ⟨some d, .call ⟨.value x, xs, ts⟩, ty, pos, af, none⟩).run P w = .ok (.enter f (xs.toList.map a.eval ++ ws).toArray) w := by
  have : (execOp a.eval ⟨some d, .call ⟨.value x, xs, ts⟩, ty, pos, af, none⟩).run P w = (callFunc f (#[] ++ xs.map a.eval ++ ws.toArray)).run P w := by simp [execOp, resolve, h1, Deferred.ofValue, invoke]
  rw [this, hent.run]
  simp only [a3f, a3v, true_and, and_true]
  apply a4y
  simp
 unfold Oper.wp
 rw [hrun]
 -- the callee's frame
 obtain ⟨vs, hvs⟩ : ∃ vs, vs = xs.toList.map a.eval ++ ws := ⟨_, rfl⟩
 have hvl : (ys ++ caps).length = vs.length := by rw [hvs];simp [<- g1, h3]
 have hv : ∀ (i : Nat) (x : AV) (v : Value), (ys ++ caps)[i]? = some x -> vs[i]? = some v -> RelV w E.L ρ x v := fun i x v hx hv => by
  rw [hvs] at hv
  rcases a1a i ys.length with hi | hi
  ·rw [a1g hi] at hx
   rw [a1g (by rw [a0a, g1];exact hi)] at hv
   obtain ⟨z, h5, h6⟩ := g2 i x hx
   rw [a0e, h5] at hv
   simp at hv
   subst hv
   exact hR.ev (by rw [Ag];exact h6)
  ·rw [a1d hi] at hx
   rw [a1d (by rw [a0a, g1];exact hi), a0a, g1] at hv
   exact h4 _ _ _ hx hv
 rw [<- hvs]
 obtain ⟨ks, hks⟩ : ∃ ks, ks = keep.map (fun p => a.tmps.getD p.1 undef) := ⟨_, rfl⟩
 have hfree := p3f hg
 have hkg : ∀ t y, keep.get t = some y -> tm.get t = some y := fun t y ht => (hk.get t y ht).1
 have hko : ∀ (i : Nat) (p : Nat × AV), keep[i]? = some p -> tm.get p.1 = some p.2 := by
  have key : ∀ (keep : Tm), Cov tm g keep -> ∀ (i : Nat) (p : Nat × AV), keep[i]? = some p -> tm.get p.1 = some p.2 := fun keep hc => by
   induction hc with
   | nil => intro i p hp;simp at hp
   | cons h hb c ih =>
    intro i p hp
    cases i with
    | zero => simp at hp;subst hp;exact h
    | succ i => exact ih i p (by simpa using hp)
  exact key keep hk
 let E' : Env := { N := fn.ntmps, L := E.L, O := E.O, w0 := E.w0, good := E.good }
 have hsz : (vs.toArray ++ Array.replicate (fn.ntmps - vs.toArray.size) undef).size = fn.ntmps := by simp;omega
 have hst : RelSt E' ⟨A2 0 (ys ++ caps), H.put g (.gho (keep.map (·.2)) ks)⟩ { tmps := vs.toArray ++ Array.replicate (fn.ntmps - vs.toArray.size) undef, defers := [] } w ρ := by
  refine ⟨hsz, rfl, fun t x hx => ?_, hR.H.keep hfree (by rw [hks];simp) fun i y v hy hv => ?_, hR.fr, fun b k o hk => hR.minePut g rfl hk, hR.lim⟩
  ·obtain ⟨_, hx⟩ := Gu _ _ _ _ hx
   rw [a6u] at hx
   have ht : t < (ys ++ caps).length := (a0g.1 hx).1
   refine ⟨by show t < fn.ntmps;omega, ?_⟩
   have hu : vs[t]? = some (vs[t]'(by omega)) := a0b _
   have : (vs.toArray ++ Array.replicate (fn.ntmps - vs.toArray.size) undef).getD t undef = vs[t]'(by omega) := by
    rw [a0s, a1l (by simp;omega)]
    simp [hu]
   show RelV w E.L ρ x ((vs.toArray ++ Array.replicate (fn.ntmps - vs.toArray.size) undef).getD t undef)
   rw [this]
   exact hv t x _ hx hu
  ·rw [a0e] at hy
   rw [hks, a0e] at hv
   cases e : keep[i]? with
   | none => rw [e] at hy;cases hy
   | some p =>
    rw [e] at hy hv
    simp only [a1c, a0f] at hy hv
    subst hy hv
    exact (hR.tm p.1 p.2 (hko i p e)).2
 have key : Calls P f vs.toArray w fun e w' => ∃ v, e = .returned v /\ K' (a.put (some d) v) w' := by
  refine calls_of_wp hf hb ?_
  refine wp_mono ((h ks).out E' _ w ρ rfl hst) ?_
  rintro e a' w' ⟨st', ρ', ⟨he, rs, hrs, hgo, hreg⟩, hr'⟩
  obtain ⟨us, h1, h2, h3⟩ := hrs.run hr'
  have hres := Fy (fn := fn) h1
  have hback : RelSt E ⟨keep, st'.H⟩ a w' ρ' := by
   refine ⟨hR.size, hR.defers, fun t x hx => ?_, hr'.H, hr'.fr, hr'.mine, hr'.lim⟩
   obtain ⟨i, hi⟩ := A1b keep t x hx
   obtain ⟨_, _, q3⟩ := hr'.H.ext.gho g _ _ hgo
   exact ⟨(hR.tm t x (hkg t x hx)).1, q3 i x _ (by rw [a0e, hi];rfl) (by rw [hks, a0e, hi];rfl)⟩
  have hfin : K' (a.put (some d) (P8 us)) w' := hK _ _ (hreg.out E _ w' ρ' hE (hback.put (by rw [hE];exact a0d hN) (A9p h2 h3)))
  rcases he with rfl | rfl
  ·exact ⟨hr'.defers, _, hres, _, rfl, hfin⟩
  ·exact ⟨hr'.defers, _, hres, _, rfl, hfin⟩
 refine key.mono ?_
 rintro e w' ⟨v, rfl, hv⟩
 exact hv
end
section
variable {P : Program} {N : Nat} {ops : Array Oper}
theorem p0j {K : Tm -> AH -> Prop} {n d : Nat} (i : Nat) {listed : Array Bool} {tm : Tm} {H : AH} {x : Operand} {j : Nat} {ty : TypeId} {pos : String} {af : Array Edge} {cs : List AV} {r : AV} (ho : ops[i]? = some ⟨some d, .extract x j, ty, pos, af, none⟩) (hs : Region.noSelect ops = true) (hf : Region.free .any ops listed i = true) (hr : (Region.ready .any ops listed).contains i = true) (hx : evT tm x = some (.tup cs)) (hc : cs[j]? = some r) (hN : Nat.ble (d + 1) N = true)
  (h : Ords P N ops K n (listed.setIfInBounds i true) ((d, r) :: tm) H) : Ords P N ops K (n + 1) listed tm H :=
 Ords.take ho hs hf hr hN (fun L w ρ η hη => by
  obtain ⟨vs, h1, hl, hv⟩ := (hη x (by simp [Op.operands]) _ hx).tup_out
  have hi : j < vs.length := by rw [<- hl];exact (a0g.1 hc).1
  exact ⟨vs[j], fun w' => by simp [execOp, h1, Instr.extract, hi], hv j r _ hc (a0b hi)⟩) h
theorem p1a {K : Tm -> AH -> Prop} {n d : Nat} (i : Nat) {listed : Array Bool} {tm : Tm} {H : AH} {x : Operand} {ty : TypeId} {pos : String} {af : Array Edge} {r : AV} (ho : ops[i]? = some ⟨some d, .assign x, ty, pos, af, none⟩) (hs : Region.noSelect ops = true) (hf : Region.free .any ops listed i = true) (hr : (Region.ready .any ops listed).contains i = true) (hx : evT tm x = some r) (hN : Nat.ble (d + 1) N = true)
  (h : Ords P N ops K n (listed.setIfInBounds i true) ((d, r) :: tm) H) : Ords P N ops K (n + 1) listed tm H :=
 Ords.take ho hs hf hr hN (fun L w ρ η hη => ⟨η x, fun w' => by simp [execOp], hη x (by simp [Op.operands]) _ hx⟩) h
theorem p0y {K : Tm -> AH -> Prop} {n d : Nat} (i : Nat) {listed : Array Bool} {tm : Tm} {H : AH} {x : Operand} {t ty : TypeId} {j b off fo : Nat} {pos : String} {af : Array Edge} {cells : List AV} [hfi : HasF P t j fo] (ho : ops[i]? = some ⟨some d, .fieldAddr t x j, ty, pos, af, none⟩) (hs : Region.noSelect ops = true) (hf : Region.free .any ops listed i = true) (hr : (Region.ready .any ops listed).contains i = true) (hx : evT tm x = some (.ptr b off)) (hb : H.at b = .live cells) (hN : Nat.ble (d + 1) N = true)
  (h : Ords P N ops K n (listed.setIfInBounds i true) ((d, .ptr b (off + fo)) :: tm) H) : Ords P N ops K (n + 1) listed tm H := ⟨fun E a w ρ hE hR => by
 obtain ⟨fs, f, m, h1, h2, h3, h4, rfl⟩ := hfi.out
 obtain ⟨k, o', arr, e, lo, hi', g1, g2, g3, g4, g5, g6⟩ := hR.H.live b cells hb
 have hv := (hR.ev (x := x) (by rw [Ag];exact hx)).ptr_out k o' g1
 refine wpAny_take ho hs hf hr (fun c a w hq => absurd hq.1 (by simp)) (.inl ⟨rfl, fun w' => by simp only [execOp, hv, a0m, Ia h1 h2 h3 h4, a0j, a1f];rfl⟩) (h.out E _ w ρ hE (hR.put (by rw [hE];exact a0d hN) ?_))
 refine .ptr _ _ _ (by rw [g1];simp) rfl fun k2 o2 h2 => ?_
 rw [g1] at h2
 injection h2 with h2
 injection h2 with h2
 injection h2 with h2 h3
 subst h2 h3
 rw [Bh rfl, a1h]⟩
end
theorem Y {G R : Prop} (r : R) (h : Rest R -> G := by
 intro r
 first
  | (apply S.call;exact rfl;exact rfl;assumption;exact rfl)
  | (apply S.indexR;(iterate 3 exact rfl);assumption;omega;exact rfl)
  | (apply p0k;(iterate 4 exact rfl))
  | (apply S.max2;(iterate 3 exact rfl))
  | (apply S.min2;(iterate 3 exact rfl))
  | refine Za ?_
  | (apply S.lenO;(iterate 3 exact rfl))
  | (apply p0t;(iterate 3 exact rfl))
 exact r.out) : G := h ⟨r⟩
section
variable {P : Program} {N : Nat} {ops : Array Oper} {m : Option Nat} {K : Tm -> AH -> Prop} {tm tm' : Tm} {H : AH} {rest : List Oper} {ty : TypeId} {pos : String} {af : Array Edge} {d : Nat} {t e : TypeId} {x y z : Operand}
theorem OpV.idxV {o : Oper} {ev : Operand -> Option AV} {Hf : Nat -> HB} {k : IntKind} {i : Int} {len : Nat} {cs : List AV} {c : AV} {ds : TypeDesc} (ho : o.op = .index t x y) (hx : ev x = some (.agg cs)) (hy : ev y = some (.val (.int k i))) (hu : P.underlying t = some (.array len e)) (he : P.underlying e = some ds) (hr : ds.isRow = false) (hi : (P.info? e).map (·.size) = some 1) (h0 : 0 <= i /\ i < len) (hc : cs[i.toNat]? = some c) : OpV P o ev Hf c none := OpV.mk fun L w ρ η hη _ => by
 obtain ⟨vs, h1, hl, hv⟩ := (hη x (by simp [ho, Op.operands]) _ hx).agg_out
 have h2 := (hη y (by simp [ho, Op.operands]) _ hy).val_eq
 have hlt : i.toNat < vs.length := by rw [<- hl];exact (a0g.1 hc).1
 have hg := a0b hlt
 refine ⟨vs[i.toNat], ?_, hv _ _ _ hc hg⟩
 simp [execOp, ho, h1, h2, Instr.index, asIntOf, run_underlying hu, h0, Aw hi, part, K9 he, hr, hlt]
theorem S.idxV {k : IntKind} {i : Int} {len : Nat} {cs : List AV} {c : AV} {ds : TypeDesc} [hu : HasU P t (.array len e)] [he : HasU P e ds] [hi : HasS P e 1] (hx : evT tm x = some (.agg cs)) (hy : evT tm y = some (.val (.int k i))) (hr : ds.isRow = false) (h0 : 0 <= i /\ i < len) (hc : cs[i.toNat]? = some c) (hN : Nat.ble (d + 1) N = true) (h : Reg m P N ops rest ((d, c) :: tm) H K) : Reg m P N ops (⟨some d, .index t x y, ty, pos, af, none⟩ :: rest) tm H K :=
 S.val (OpV.idxV rfl hx hy hu.out he.out hr hi.out h0 hc) hN h
end
section
variable {P : Program} {N : Nat} {ops : Array Oper} {m : Option Nat} {K : Tm -> AH -> Prop} {tm : Tm} {H : AH} {rest : List Oper} {ty : TypeId} {pos : String} {af : Array Edge} {d : Nat} {t e : TypeId}
theorem p0c {ps : Array (Nat × Operand)} {n : Nat} {zv : Value} {ys : List (Nat × AV)} {out : List AV} {cs : List Lf} [hu : HasU P t (.slice e)] [hi : HasS P e n] [hz : HasZ P e zv] (h1 : Nat.ble 1 (1 * n) = true) (h2 : Nat.ble (1 * n) 16777216 = true) (hy : Do (evT tm) ps.toList = some ys) (ho : Fp (fun (i : Nat) => some (i * n, n)) ys (Ez zv (1 * n)) = some out) (hc : lfs out = some cs) (hl : Nat.beq cs.length (1 * n) = true) (hN : Nat.ble (d + 1) N = true) (h : Reg m P N ops rest ((d, .sl [cs]) :: tm) H K) : Reg m P N ops (⟨some d, .buildSlice t 1 ps, ty, pos, af, none⟩ :: rest) tm H K :=
 p1e h1 h2 hy ho hc hl (by
  have := a1y hl
  simp only [chunks, Ri]
  rw [a0h (by omega)]) hN h
end
theorem Af {n : Nat} {r : List Lf} (h : r.length = n) : ∀ x ∈ [r], x.length = n := by
 intro x hx
 simp only [a1j, a2e, or_false] at hx
 rw [hx];exact h
theorem Aj (n : Nat) (cs : List Lf) : (cs.map AV.lf).all (AV.under n) = true := by
 rw [a0k]
 intro x hx
 obtain ⟨y, _, rfl⟩ := a1b.1 hx
 rfl
def rT (b st : Nat) : Nat -> AV
 | 0 => .val (.slice none 0 0)
 | n + 1 => .own b 0 (n + 1) st
def rB (cells : List AV) : Nat -> HB
 | 0 => .dead
 | _ + 1 => .live cells
theorem Jw {b st n : Nat} (h : 0 < n) : rT b st n = .own b 0 n st := by cases n <;> first | omega | rfl
theorem Jv {cells : List AV} {n : Nat} (h : 0 < n) : rB cells n = .live cells := by cases n <;> first | omega | rfl
theorem Rd (n b st : Nat) : ∀ k, b < n -> (rT b st k).under n = true
 | 0, _ => rfl
 | k + 1, h => by show Nat.blt b n = true;exact a2o h
theorem p2h {n : Nat} {cells : List AV} {H H' : AH} (hb : cells.all (AV.under n) = true) (c : CovH n H H') : ∀ k, CovH n (rB cells k :: H) (rB cells k :: H')
 | 0 => .dead c
 | _ + 1 => .live hb c
section
variable {P : Program} {N : Nat} {ops : Array Oper} {K : Tm -> AH -> Prop} {tm : Tm} {H : AH} {rest : List Oper} {ty : TypeId} {pos : String} {af : Array Edge} {d : Nat} {t e : TypeId} {x : Operand}
theorem p2d {b st n : Nat} {cells : List AV} [hu : HasU P t (.slice e)] (hx : evT tm x = some (rT b st n)) (hb : H.at b = rB cells n) (hN : Nat.ble (d + 1) N = true) (h : Reg none P N ops rest ((d, .val (.int .i64 (n : Int))) :: tm) H K) : Reg none P N ops (⟨some d, .call ⟨.builtin .len, #[x], #[t]⟩, ty, pos, af, none⟩ :: rest) tm H K := by
 cases n with
 | zero => exact p5e hx hN h
 | succ n => exact S.lenO hx (by show (H.at b).isLive = true;rw [hb];rfl) hN h
end
section
variable {P : Program} {N : Nat} {ops : Array Oper}
theorem p2v {K : Tm -> AH -> Prop} {n d c : Nat} (i : Nat) {listed : Array Bool} {tm : Tm} {H : AH} {x y : Operand} {t e ty : TypeId} {pos : String} {af : Array Edge} {k : IntKind} {j : Int} {rows : List (List Lf)} {row : List Lf} (ho : ops[i]? = some ⟨some d, .indexAddr t x y, ty, pos, af, none⟩) (hs : Region.noSelect ops = true) (hf : Region.free .any ops listed i = true) (hr : (Region.ready .any ops listed).contains i = true) (hN : Nat.ble (d + 1) N = true) (hu : HasU P t (.slice e)) (hi : HasS P e c) (hx : evT tm x = some (.sl rows)) (hy : evT tm y = some (.val (.int k j))) (hrow : rows[j.toNat]? = some row) (h0 : 0 <= j) (hn : row.length = c)
  (h : Ords P N ops K n (listed.setIfInBounds i true) ((d, .rop row) :: tm) H) : Ords P N ops K (n + 1) listed tm H := by
 refine Ords.take ho hs hf hr hN (fun L w ρ η hη => ?_) h
 have hv := (hη y (by simp [Op.operands]) _ hy).val_eq
 have hlt := (a0g.1 hrow).1
 rcases (hη x (by simp [Op.operands]) _ hx).lf_out.sl_out with ⟨rfl, _⟩ | ⟨ad, cap, V, h1, hs, hc, h2, h3⟩
 ·simp at hlt
 ·refine ⟨_, fun w' => by simp only [execOp, h1, hv, a0m, Ko hu.out hi.out w' ad rows.length cap k j h0 (by omega), a0j, a1f];rfl, ?_⟩
  rw [Bh (hs.resolve_right (by omega))]
  refine .rop _ _ (fun z => V j.toNat z) rfl (fun z x hz => ?_) fun z x hz => h3 _ _ _ _ hrow hz
  have := h2 _ _ _ _ hrow hz
  rw [hn, <- a1h] at this
  exact this
end
end Go.Proofs.YtlapbaiejnaeiaaGreatDoor
