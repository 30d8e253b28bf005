/- Contracts: the weight and the balance of a set. No conditions but those of each statement. -/
import Derived.Test.YtcfjofhapbkmfaaGreatDoorZa
import Derived.Test.YtcfjofhapbkmfaaGreatDoorPa
set_option linter.unusedSimpArgs false
set_option linter.unusedVariables false
namespace Go.Proofs.YtcfjofhapbkmfaaGreatDoor
open Go Go.RowKit
set_option maxHeartbeats 4000000 in
theorem Mn {α : Type} (l : List α) (R : α -> List Lf) (p : α -> Prop) [DecidablePred p] (g : FuncId) (caps : List AV) (hR : ∀ x, (R x).length = 3) (hl : l.length <= 9223372036854775807) (hcaps : caps.all AV.cap = true) (hg : ∀ x ∈ l, Fn0 Tryz.prog g (.agg ((R x).map .lf) :: caps) (.b (decide (p x)))) :
  Fn0 Tryz.prog 223 [.sl (l.map R), .fn (.func g) [] caps] (.i (idx p l)) := by
 refine Fn0.of Tryz.func223 Tryz.ntmps223 rfl rfl rfl ?_
 simp only [A0]
 repeat' (first
  | refine W ?_

  | refine V ?_
  | (refine W2 ?_ ?_ <;> intro hc))
 refine T.loopS (fun k => k <= l.length /\ ∀ x ∈ l.take k, ¬ p x) (fun k => l.length - k) (fun k => [(8, .i k), (7, .i (l.map R).length), (0, .sl (l.map R)), (1, .fn (.func g) [] caps)]) (fun _ => []) 0 ⟨Nat.zero_le _, by simp⟩ (.cons rfl rfl (.cons rfl rfl (.cons rfl rfl (.cons rfl (As hcaps) .nil)))) .nil ?_
 rintro k ⟨hk, hno⟩
 have hle : (l.map R).length = l.length := List.length_map _
 by_cases hlt : k < l.length
 ·have h1 : (k : Int) < ((l.map R).length : Nat) := by omega
  obtain ⟨x, hx⟩ : ∃ x, l[k]? = some x := ⟨l[k], List.getElem?_eq_getElem hlt⟩
  have hb : (l.map R)[((k : Nat) : Int).toNat]? = some (R x) := by rw [Int.toNat_natCast, List.getElem?_map, hx];rfl
  have hx2 := hg x (List.mem_of_getElem? hx)
  repeat' (first
   | refine W ?_
   | (apply S.indexR;(iterate 3 exact rfl);exact hb;omega;exact hR x)|(apply S.loadRW;(iterate 3 exact rfl);exact hR x)|(apply S.callF;exact rfl;exact rfl;exact hx2;exact Cy hcaps;exact rfl)|refine Za ?_
   | refine V ?_
   | (refine W2 ?_ ?_ <;> intro hc))
  all_goals first
   | exact Next.go (k + 1) ⟨by omega, by rw [List.take_add_one, hx];intro y hy;rcases List.mem_append.1 hy with hy | hy;exact hno y hy;obtain rfl : y = x := (by simpa using hy);assumption⟩ (by omega) (.cons rfl rfl (.cons rfl rfl (.cons rfl rfl (.cons rfl (As hcaps) .nil)))) .nil
   | exact A7 (by simp) Tryz.results223 rfl (by rw [Du hx hno (by assumption)])
 ·have h1 : ¬ (k : Int) < ((l.map R).length : Nat) := by omega
  repeat' (first
   | refine W ?_

   | refine V ?_
   | (refine W2 ?_ ?_ <;> intro hc))
  exact A7 (by simp) Tryz.results223 rfl (by rw [Cj (by rw [List.take_of_length_le (by omega)] at hno;exact hno)])
set_option maxHeartbeats 4000000 in
theorem Ja {α : Type} (l : List α) (R : α -> List Lf) (p : α -> Prop) [DecidablePred p] (g : FuncId) (caps : List AV) (hR : ∀ x, (R x).length = 3) (hl : l.length <= 9223372036854775807) (hcaps : caps.all AV.cap = true) (hg : ∀ x ∈ l, Fn0 Tryz.prog g (.agg ((R x).map .lf) :: caps) (.b (decide (p x)))) :
  Fn0 Tryz.prog 163 [.sl (l.map R), .fn (.func g) [] caps] (.b (decide (∃ x ∈ l, p x))) := by
 refine Fn0.of Tryz.func163 Tryz.ntmps163 rfl rfl rfl ?_
 simp only [A0]
 repeat' (first
  | refine W ?_
  | (apply S.call;exact rfl;exact Gh hcaps;exact Mn l R p g caps hR hl hcaps hg;exact rfl)
  | refine V ?_
  | (refine W2 ?_ ?_ <;> intro hc))
 all_goals exact A7 (by simp) Tryz.results163 rfl (by rw [Ie p l])
theorem X2 (s : SetR) (h : Bf s) : Fn0 Tryz.prog 149 [A6 s.row] (.i (Co s)) := by
 have hr := Dv h
 have hl := h.2.2.2.2.2.1
 have hq : s.length.tdiv 1000 = s.length / 1000 := by rw [Int.tdiv_eq_ediv_of_nonneg (by omega)]
 unfold Co at *
 refine Fn0.of Tryz.func149 Tryz.ntmps149 rfl rfl rfl ?_
 simp only [A0]
 repeat' (first
  | refine W ?_
  | refine Y ?_|(apply S.quo;(iterate 3 exact rfl);omega)|refine Za ?_
  | refine V ?_
  | (refine W2 ?_ ?_ <;> intro hc))
 all_goals exact A7 (by simp) Tryz.results149 rfl rfl
set_option maxHeartbeats 4000000 in
theorem Sh (s : SetR) (h : Bf s) : Fn0 Tryz.prog 92 [A6 s.row] (.i (wtS s)) := by
 have cp := X2 s h
 have hp := Dv h
 have h40 : s.items.length <= 40 := h.2.2.2.2.2.2.2.2.2.2.2.2.2.1.1
 have hle : (s.items.map ItemR.row).length = s.items.length := List.length_map _
 refine Fn0.of Tryz.func92 Tryz.ntmps92 rfl rfl rfl ?_
 simp only [A0]
 repeat' (first
  | refine W ?_
  | refine Y ?_
  | refine V ?_
  | (refine W2 ?_ ?_ <;> intro hc))
 refine T.loopS (fun k => k <= s.items.length) (fun k => s.items.length - k) (fun k => [(11, .i (k : Nat)), (10, .i (s.items.map ItemR.row).length), (9, .sl (s.items.map ItemR.row)), (3, .i (Co s + itW (s.items.take k))), (1, .ptr 0 0)]) (fun _ => [.live (s.row.map .lf)]) 0 (Nat.zero_le _) (by rw [show Co s + itW (s.items.take 0) = Co s by simp [itW]];exact CW) (.live rfl .nil) ?_
 intro k hk
 have hr := F8 h k
 by_cases hlt : k < s.items.length
 ·have h1 : ((k : Nat) : Int) < ((s.items.map ItemR.row).length : Nat) := by omega
  obtain ⟨x, hx⟩ := Aa hlt
  have hb := Ab (R := ItemR.row) hx
  have hs := Pp hx
  have hr2 := F8 h (k + 1)
  repeat' (first
   | refine W ?_
   | (apply S.indexR;(iterate 3 exact rfl);exact hb;omega;exact rfl) | refine Y ?_|refine Za ?_
   | refine V ?_
   | (refine W2 ?_ ?_ <;> intro hc))
  all_goals (change Next _ _ _ _ _ _)
  all_goals exact Next.go (k + 1) (by omega) (by omega) (by rw [hs, <- Int.add_assoc];exact CW) (.live rfl .nil)
 ·have h1 : ¬ ((k : Nat) : Int) < ((s.items.map ItemR.row).length : Nat) := by omega
  have hw : Co s + itW (s.items.take k) = wtS s := by rw [List.take_of_length_le (by omega)];rfl
  rw [hw]
  repeat' (first
   | refine W ?_
   | refine Y ?_
   | refine V ?_
   | (refine W2 ?_ ?_ <;> intro hc))
  all_goals exact A7 (by simp) Tryz.results92 rfl rfl
theorem Gx (s : SetR) (hf : s.fits) (h : Bf s) : Fn0 Tryz.prog 43 [A6 s.row] (.tup [.i (wtS s), .i 0]) := by
 have cv := Na s hf
 rw [decide_eq_true h] at cv
 have cw := Sh s h
 refine Fn0.of Tryz.func43 Tryz.ntmps43 rfl rfl rfl ?_
 simp only [A0]
 repeat' (first
  | refine W ?_
  | refine Y ?_
  | refine V ?_
  | (refine W2 ?_ ?_ <;> intro hc))
 all_goals exact D2 rfl rfl rfl
theorem Sa (s : SetR) (hf : s.fits) (h : Bf s) : Fn0 Tryz.prog 93 [A6 s.row] (.tup [.i (ndS s), .i 0]) := by
 have cw := Gx s hf h
 have h1 := C5 h
 have h2 := F9 h
 have h3 := h.2.2.2.2.2.2.2.2.2.1
 have h4 := De (a := wtS s) (b := s.purchase) (A := 1140850688) (B := 2) (by omega) (by have := h.2.2.2.2.2.2.2.2.2.2.1;omega)
 unfold ndS at *
 generalize wtS s = n at *
 refine Fn0.of Tryz.func93 Tryz.ntmps93 rfl rfl rfl ?_
 simp only [A0]
 repeat' (first
  | refine W ?_
  | refine Y ?_|refine Za ?_
  | refine V ?_
  | (refine W2 ?_ ?_ <;> intro hc))
 all_goals exact D2 rfl rfl rfl
set_option maxHeartbeats 4000000 in
theorem U5 (s : SetR) (h : Bf s) : Fn0 Tryz.prog 94 [A6 s.row] (.tup [.i (bkS s.bricks), .i (Cs s.bricks)]) := by
 have hle : (s.bricks.map BrickR.row).length = s.bricks.length := List.length_map _
 obtain ⟨b8, _, bok, _⟩ := h.2.2.2.2.2.2.2.2.2.2.2.2.2.2
 refine Fn0.of Tryz.func94 Tryz.ntmps94 rfl rfl rfl ?_
 simp only [A0]
 repeat' (first
  | refine W ?_
  | refine Y ?_
  | refine V ?_
  | (refine W2 ?_ ?_ <;> intro hc))
 refine T.loopS (fun k => k <= s.bricks.length) (fun k => s.bricks.length - k) (fun k => [(9, .i (k : Nat)), (8, .i (s.bricks.map BrickR.row).length), (7, .sl (s.bricks.map BrickR.row)), (2, .i (bkS (s.bricks.take k))), (3, .i (Cs (s.bricks.take k)))]) (fun _ => []) 0 (Nat.zero_le _) CW .nil ?_
 intro k hk
 have hr := C0 h k
 have hsb := J7 (l := s.bricks.take k) fun x hx => bok x (List.mem_of_mem_take hx)
 have hlk : (s.bricks.take k).length <= 8 := by rw [List.length_take];omega
 by_cases hlt : k < s.bricks.length
 ·have h1 : ((k : Nat) : Int) < ((s.bricks.map BrickR.row).length : Nat) := by omega
  obtain ⟨x, hx⟩ := Aa hlt
  have hb := Ab (R := BrickR.row) hx
  obtain ⟨_, x2, x3, x4⟩ := bok x (List.mem_of_getElem? hx)
  have hm := De (a := x.weight) (b := x.count) (A := 1048576) (B := 60) (by omega) (by omega)
  have hs := Ju hx
  have hs2 : Cs (s.bricks.take (k + 1)) = Cs (s.bricks.take k) + x.count := by rw [Ai hx, Gd]
  repeat' (first
   | refine W ?_
   | (apply S.indexR;(iterate 3 exact rfl);exact hb;omega;exact rfl) | refine Y ?_|refine Za ?_
   | refine V ?_
   | (refine W2 ?_ ?_ <;> intro hc))
  all_goals (change Next _ _ _ _ _ _)
  all_goals exact Next.go (k + 1) (by omega) (by omega) (by rw [hs, hs2];exact CW) .nil
 ·have h1 : ¬ ((k : Nat) : Int) < ((s.bricks.map BrickR.row).length : Nat) := by omega
  rw [List.take_of_length_le (by omega)]
  repeat' (first
   | refine W ?_
   | refine Y ?_
   | refine V ?_
   | (refine W2 ?_ ?_ <;> intro hc))
  all_goals exact D2 rfl rfl rfl
theorem Jc (s : SetR) (hf : s.fits) (h : Bf s) : Fn0 Tryz.prog 44 [A6 s.row] (.tup [.i (Br s), .i 0]) := by
 have c1 := Sa s hf h
 have c2 := U5 s h
 have h2 := F9 h
 have h3 := C0 h s.bricks.length
 rw [List.take_length] at h3
 unfold Br
 generalize ndS s = n at *
 generalize bkS s.bricks = m at *
 refine Fn0.of Tryz.func44 Tryz.ntmps44 rfl rfl rfl ?_
 simp only [A0]
 repeat' (first
  | refine W ?_
  | refine Y ?_|refine Za ?_
  | refine V ?_
  | (refine W2 ?_ ?_ <;> intro hc))
 all_goals exact D2 rfl rfl rfl
theorem U4 (s : SetR) (hf : s.fits) (h : Bf s) : Fn0 Tryz.prog 45 [A6 s.row] (.tup [.b (decide (Gf s)), .i 0]) := by
 have c1 := Jc s hf h
 have h2 := Ej h
 have h3 := h.2.2.2.2.2.2.2.2.2.2.2.2.1
 have e : decide (Gf s) = decide (max (Br s) (-Br s) <= s.brake) := by
  rw [decide_eq_decide]
  unfold Gf
  omega
 rw [e]
 generalize Br s = n at *
 refine Fn0.of Tryz.func45 Tryz.ntmps45 rfl rfl rfl ?_
 simp only [A0]
 repeat' (first
  | refine W ?_
  | refine Y ?_|refine Za ?_|(apply S.neg;exact rfl;exact rfl;omega)
  | refine V ?_
  | (refine W2 ?_ ?_ <;> intro hc))
 all_goals exact D2 rfl rfl rfl
theorem Sb (x y : BrickR) : Fn0 Tryz.prog 164 [A6 y.row, .rop x.row] (.b (decide (y.name = x.name))) := by
 refine Fn0.of Tryz.func164 Tryz.ntmps164 rfl rfl rfl ?_
 simp only [A0]
 repeat' (first
  | refine W ?_

  | refine V ?_
  | (refine W2 ?_ ?_ <;> intro hc))
 all_goals exact A7 (by simp) Tryz.results164 rfl (by rfl)
theorem Kz (l : List BrickR) (k : Nat) (x : BrickR) (hs : l.length <= 8) (hn : (l.map BrickR.name).Nodup) (hx : l[k]? = some x) :
  Fn0 Tryz.prog 163 [.sl ((l.map BrickR.row).take ((k : Nat) : Int).toNat), .fn (.func 164) [] [.rop x.row]] (.b false) := by
 rw [Int.toNat_natCast, <- List.map_take]
 have c := Ja (l.take k) BrickR.row (fun y => y.name = x.name) 164 [.rop x.row] (fun _ => rfl) (by simp;omega) rfl fun y hy => Sb x y
 rw [decide_eq_false] at c
 ·exact c
 ·have h4 := Fl hn (k + 1)
  rw [Ai hx] at h4
  exact ((Bv _ _ _).1 h4).2
set_option maxHeartbeats 8000000 in
theorem U6 (l : List BrickR) (h : Eo l) : Fn0 Tryz.prog 109 [.sl (l.map BrickR.row)] (.b true) := by
 have hle : (l.map BrickR.row).length = l.length := List.length_map _
 obtain ⟨h8, hnd, hok, hsum⟩ := h
 refine Fn0.of Tryz.func109 Tryz.ntmps109 rfl rfl rfl ?_
 simp only [A0]
 repeat' (first
  | refine W ?_
  | refine Y ?_
  | refine V ?_
  | (refine W2 ?_ ?_ <;> intro hc))
 all_goals (try (exfalso;omega))
 refine T.loopS (fun k => k <= l.length) (fun k => l.length - k) (fun k => [(11, .i (k : Nat)), (10, .i (l.map BrickR.row).length), (9, .sl (l.map BrickR.row)), (0, .sl (l.map BrickR.row)), (3, .i (Cs (l.take k)))]) (fun _ => []) 0 (Nat.zero_le _) CW .nil ?_
 intro k hk
 have hsb := J7 (l := l.take k) fun x hx => hok x (List.mem_of_mem_take hx)
 have hlk : (l.take k).length <= 8 := by rw [List.length_take];omega
 by_cases hlt : k < l.length
 ·have h1 : ((k : Nat) : Int) < ((l.map BrickR.row).length : Nat) := by omega
  obtain ⟨x, hx⟩ := Aa hlt
  have hb := Ab (R := BrickR.row) hx
  obtain ⟨x1, x2, x3, x4⟩ := hok x (List.mem_of_getElem? hx)
  have cn := Bz x.name
  rw [x1, decide_eq_true rfl] at cn
  have cc := Kz l k x h8 hnd hx
  have n1 : ¬ x.weight < 1 := by omega
  have n2 : ¬ x.weight > 1048576 := by omega
  have n3 : ¬ x.count < 0 := by omega
  have n4 : ¬ x.count > 60 := by omega
  have hs2 : Cs (l.take (k + 1)) = Cs (l.take k) + x.count := by rw [Ai hx, Gd]
  repeat' (first
   | refine W ?_
   | (apply S.indexR;(iterate 3 exact rfl);exact hb;omega;exact rfl) | refine Y ?_|(apply S.sliceTo;(iterate 3 exact rfl);omega;(intro row hr;obtain ⟨z, _, rfl⟩ := List.mem_map.1 hr;rfl))|(apply S.callV;exact rfl;exact cc;exact .cons (.one (.lf _)) (.cons (.fn (.cons (.ptr0 rfl) .nil)) .nil);exact rfl;exact rfl)|refine Za ?_
   | refine V ?_
   | (refine W2 ?_ ?_ <;> intro hc))
  all_goals (change Next _ _ _ _ _ _)
  all_goals exact Next.go (k + 1) (by omega) (by omega) (by rw [hs2];exact CW) .nil
 ·have h1 : ¬ ((k : Nat) : Int) < ((l.map BrickR.row).length : Nat) := by omega
  rw [List.take_of_length_le (by omega)]
  repeat' (first
   | refine W ?_
   | refine Y ?_
   | refine V ?_
   | (refine W2 ?_ ?_ <;> intro hc))
  all_goals exact A7 (by simp) Tryz.results109 rfl (by simp;exact hsum)
set_option maxHeartbeats 8000000 in
theorem Sc (l : List BrickR) (h : Eo l) (hr : ∀ k, 0 <= bkS (l.take k) /\ bkS (l.take k) <= 503316480) : Fn0 Tryz.prog 57 [.sl (l.map BrickR.row), .sl ((l.map BrickR.count).map A8)] (.tup [.i (bkS l), .i 0]) := by
 have hle : (l.map BrickR.row).length = l.length := List.length_map _
 have hle2 : ((l.map BrickR.count).map A8).length = l.length := by rw [List.length_map, List.length_map]
 have cv := U6 l h
 obtain ⟨h8, hnd, hok, hsum⟩ := h
 have hne : ¬ ¬ ((((l.map BrickR.count).map A8).length : Nat) : Int) = ((l.map BrickR.row).length : Nat) := by omega
 refine Fn0.of Tryz.func57 Tryz.ntmps57 rfl rfl rfl ?_
 simp only [A0]
 repeat' (first
  | refine W ?_
  | refine Y ?_
  | refine V ?_
  | (refine W2 ?_ ?_ <;> intro hc))
 refine T.loopS (fun k => k <= l.length) (fun k => l.length - k) (fun k => [(21, .i (k : Nat)), (20, .i ((l.map BrickR.count).map A8).length), (19, .sl ((l.map BrickR.count).map A8)), (0, .sl (l.map BrickR.row)), (6, .i (bkS (l.take k)))]) (fun _ => []) 0 (Nat.zero_le _) CW .nil ?_
 intro k hk
 have hrk := hr k
 by_cases hlt : k < l.length
 ·have h1 : ((k : Nat) : Int) < (((l.map BrickR.count).map A8).length : Nat) := by omega
  obtain ⟨x, hx⟩ := Aa hlt
  have hb := Ab (R := BrickR.row) hx
  have hb2 : ((l.map BrickR.count).map A8)[((k : Nat) : Int).toNat]? = some (A8 x.count) := by rw [Int.toNat_natCast, List.getElem?_map, List.getElem?_map, hx];rfl
  obtain ⟨x1, x2, x3, x4⟩ := hok x (List.mem_of_getElem? hx)
  have hm := De (a := x.count) (b := x.weight) (A := 60) (B := 1048576) (by omega) (by omega)
  have n3 : ¬ x.count < 0 := by omega
  have n4 : ¬ x.count > x.count := by omega
  have hs := Ju hx
  rw [Int.mul_comm x.weight] at hs
  repeat' (first
   | refine W ?_
   | (apply S.indexR;(iterate 3 exact rfl);exact hb;omega;exact rfl)|(apply S.indexR;(iterate 3 exact rfl);exact hb2;omega;exact rfl) | refine Y ?_|refine Za ?_
   | refine V ?_
   | (refine W2 ?_ ?_ <;> intro hc))
  all_goals (change Next _ _ _ _ _ _)
  all_goals exact Next.go (k + 1) (by omega) (by omega) (by rw [hs];exact CW) .nil
 ·have h1 : ¬ ((k : Nat) : Int) < (((l.map BrickR.count).map A8).length : Nat) := by omega
  rw [List.take_of_length_le (by omega)]
  repeat' (first
   | refine W ?_
   | refine Y ?_
   | refine V ?_
   | (refine W2 ?_ ?_ <;> intro hc))
  all_goals exact D2 rfl rfl rfl
end Go.Proofs.YtcfjofhapbkmfaaGreatDoor
