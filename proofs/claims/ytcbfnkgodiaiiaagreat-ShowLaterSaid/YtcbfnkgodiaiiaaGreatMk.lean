/- Contracts of the reference's functions that say whether a house is valid: names, beams. No conditions but those of each statement. -/
import Derived.Test.YtcbfnkgodiaiiaaGreatMj
set_option linter.unusedSimpArgs false
set_option linter.unusedVariables false
namespace Go.Proofs.YtcbfnkgodiaiiaaGreat
open Go.RowKit
/-! ### Beams -/
theorem Xq {α : Type} {nm : α -> ByteArray} {l : List α} (h : (l.map nm).Nodup) {j k : Nat} {x y : α} (hj : l[j]? = some y) (hk : l[k]? = some x) (hjk : j < k) : nm y ≠ nm x := by
 unfold List.Nodup at h
 rw [List.pairwise_iff_getElem] at h
 obtain ⟨h1, e1⟩ := List.getElem?_eq_some_iff.1 hj
 obtain ⟨h2, e2⟩ := List.getElem?_eq_some_iff.1 hk
 have := h j k (by simpa using h1) (by simpa using h2) hjk
 simpa [e1, e2] using this
theorem Bn {α : Type} {l : List α} {k : Nat} {x : α} (hx : l[k]? = some x) : l.take (k + 1) = l.take k ++ [x] := by rw [List.take_add_one, hx];rfl
theorem Ac {α : Type} {l : List α} {R : α -> List Lf} {k : Nat} {x : α} (hx : l[k]? = some x) : (l.map R)[((k : Nat) : Int).toNat]? = some (R x) := by rw [Int.toNat_natCast, List.getElem?_map, hx];rfl
theorem A9 {α : Type} {l : List α} {k : Nat} (h : k < l.length) : ∃ x, l[k]? = some x := ⟨l[k], List.getElem?_eq_getElem h⟩
/-! ### Line sets and houses -/
/-! ### Moves -/
structure MoveR where
 set : ByteArray
 to : Int
 speed : Int
 rise : Int
 fall : Int
def MoveR.row (m : MoveR) : List Lf := [.s m.set, .i m.to, .i m.speed, .i m.rise, .i m.fall]
structure CueR where
 name : ByteArray
 after : ByteArray
 link : Int
 delay : Int
 moves : List MoveR
 crew : Int
 power : Int
def CueR.row (q : CueR) : List Lf := [.s q.name, .s q.after, .i q.link, .i q.delay, .sl (q.moves.map MoveR.row), .i q.crew, .i q.power]
def D8 (m : MoveR) : Prop := F0 m.set = true /\ (-1048576 <= m.to /\ m.to <= 1048576) /\ (1 <= m.speed /\ m.speed <= 8192) /\ (1 <= m.rise /\ m.rise <= 16384) /\ 1 <= m.fall /\ m.fall <= 16384
instance (m : MoveR) : Decidable (D8 m) := by unfold D8;exact inferInstance
theorem Qi (n lo hi : Int) : Fn0 Tryz.prog 280 [.i n, .i lo, .i hi] (.b (decide (lo <= n /\ n <= hi))) := by
 refine Fn0.of Tryz.func280 Tryz.ntmps280 rfl rfl rfl ?_
 simp only [A2]
 repeat' (first | refine W ?_ | refine V ?_|(refine W2 ?_ ?_ <;> intro hc))
 all_goals exact A5 (by simp) Tryz.results280 rfl (by simp [*])
set_option maxHeartbeats 4000000 in
theorem Mn (m : MoveR) : Fn0 Tryz.prog 279 [A1 m.row] (.b (decide (D8 m))) := by
 refine Fn0.of Tryz.func279 Tryz.ntmps279 rfl rfl rfl ?_
 simp only [A2]
 repeat' (first | refine W ?_|refine Zc (E2 _) ?_|refine Zc (Qi _ _ _) ?_ | refine V ?_|(refine W2 ?_ ?_ <;> intro hc))
 all_goals exact A5 (by simp) Tryz.results279 rfl (by simp only [D8];simp [*])
/-! ### Cues that are right -/
def moveIn (h : HouseR) (m : MoveR) : Prop := D8 m /\ ∃ s, 0 <= Ad h m.set /\ h.sets[(Ad h m.set).toNat]? = some s /\ s.low <= m.to /\ m.to <= s.high
def E8 (h : HouseR) (q : CueR) : Prop := F0 q.name = true /\ (1 <= q.link /\ q.link <= 3) /\ (0 <= q.delay /\ q.delay <= 2147483648) /\ (0 <= q.crew /\ q.crew <= 100) /\ (0 <= q.power /\ q.power <= 100) /\ (∀ m ∈ q.moves, moveIn h m) /\ (q.moves.map MoveR.set).Nodup
noncomputable instance (h : HouseR) (q : CueR) : Decidable (E8 h q) := Classical.propDecidable _
theorem Hd {α : Type} {p : α -> Prop} [DecidablePred p] {l : List α} (h : ¬ idx p l < 0) : ∃ x, l[(idx p l).toNat]? = some x := by
 have := Sl p l
 exact ⟨l[(idx p l).toNat]'(by omega), List.getElem?_eq_getElem _⟩
theorem Lq {α : Type} {l : List α} {R : α -> List Lf} {i : Int} {x : α} (hx : l[i.toNat]? = some x) : (l.map R)[i.toNat]? = some (R x) := by rw [List.getElem?_map, hx];rfl
theorem A3f {h : HouseR} {m : MoveR} {s : SetR} (hk : ¬ Ad h m.set < 0) (hs : h.sets[(Ad h m.set).toNat]? = some s) : moveIn h m ↔ D8 m /\ s.low <= m.to /\ m.to <= s.high := by
 constructor
 ·rintro ⟨h1, t, h2, h3, h4⟩
  rw [hs] at h3;injection h3 with h3;subst h3
  exact ⟨h1, h4⟩
 ·rintro ⟨h1, h2⟩
  exact ⟨h1, s, by omega, hs, h2⟩
theorem A2q (m x : MoveR) : Fn0 Tryz.prog 293 [A1 x.row, .rop m.row] (.b (decide (x.set = m.set))) := by
 refine Fn0.of Tryz.func293 Tryz.ntmps293 rfl rfl rfl ?_
 simp only [A2]
 repeat' (first | refine W ?_ | refine V ?_|(refine W2 ?_ ?_ <;> intro hc))
 all_goals exact A5 (by simp) Tryz.results293 rfl (by rfl)
theorem Ui (l : List MoveR) (k : Nat) (m : MoveR) (hs : l.length <= 9223372036854775807) :
  Fn0 Tryz.prog 292 [.sl ((l.map MoveR.row).take ((k : Nat) : Int).toNat), .fn (.func 293) [] [.rop m.row]] (.b (decide (∃ y ∈ l.take k, y.set = m.set))) := by
 rw [Int.toNat_natCast, <- List.map_take]
 exact Rb (l.take k) MoveR.row (fun y => y.set = m.set) _ _ (fun _ => rfl) (by simp;omega) rfl fun y hy => A2q m y
theorem Zw {h : HouseR} {q : CueR} {k : Nat} {m : MoveR} (hm : q.moves[k]? = some m) (hn : ¬ moveIn h m \/ ∃ y ∈ q.moves.take k, y.set = m.set) : ¬ E8 h q := by
 rintro ⟨_, _, _, _, _, h6, h7⟩
 rcases hn with hn | hn
 ·exact hn (h6 m (List.mem_of_getElem? hm))
 ·have h4 := Nc h7 (k + 1)
  rw [Bn hm] at h4
  exact ((Ga _ _ _).1 h4).2 hn
set_option maxHeartbeats 8000000 in
theorem V0 (h : HouseR) (q : CueR) (hf : h.sets.length <= 9223372036854775807) (hq : q.moves.length <= 9223372036854775807) : Fn0 Tryz.prog 255 [A1 h.row, A1 q.row] (.b (decide (E8 h q))) := by
 have hle : (q.moves.map MoveR.row).length = q.moves.length := List.length_map _
 have hles : (h.sets.map SetR.row).length = h.sets.length := List.length_map _
 refine Fn0.of Tryz.func255 Tryz.ntmps255 rfl rfl rfl ?_
 simp only [A2]
 repeat' (first | refine W ?_|refine Zc (E2 _) ?_|refine Zc (Iw _ _ _) ?_ | refine V ?_|(refine W2 ?_ ?_ <;> intro hc))
 all_goals first
  | exact A5 (by simp) Tryz.results255 rfl (congrArg Value.bool (decide_eq_false (fun hh => by
    obtain ⟨g1, g2, g3, g4, g5, _⟩ := hh
    first | contradiction | omega)).symm)
  | skip
 all_goals
  refine T.loopS (fun k => k <= q.moves.length /\ (∀ m ∈ q.moves.take k, moveIn h m) /\ ((q.moves.take k).map MoveR.set).Nodup) (fun k => q.moves.length - k) (fun k => [(48, .i k), (47, .i (q.moves.map MoveR.row).length), (46, .sl (q.moves.map MoveR.row)), (2, .ptr 0 0), (3, .ptr 1 0)]) (fun _ => [.live (h.row.map .lf), .live (q.row.map .lf)]) 0 ⟨Nat.zero_le _, by simp⟩ CV CH ?_
  rintro k ⟨hk, hok, hnd⟩
  by_cases hlt : k < q.moves.length
  ·have h1 : (k : Int) < ((q.moves.map MoveR.row).length : Nat) := by omega
   obtain ⟨m, hm⟩ := A9 hlt
   have hb := Ac (R := MoveR.row) hm
   have hsn := Bn hm
   have hmf := Zw (h := h) hm
   by_cases hk0 : Ad h m.set < 0
   ·have hbad : ¬ moveIn h m := fun ⟨_, _, hh, _⟩ => by omega
    repeat' (first | refine W ?_|(apply T.drawAll A0 (by kernel_rfl))|refine Zi hb ?_|(apply S.loadRW;(iterate 4 exact rfl))|refine Zc (Mn m) ?_|refine Zc (Py h m.set hf) ?_|refine Zc (Iw _ _ _) ?_|refine Za ?_ | refine V ?_|(refine W2 ?_ ?_ <;> intro hc))
    all_goals exact A5 (by simp) Tryz.results255 rfl (congrArg Value.bool (decide_eq_false (hmf (.inl hbad))).symm)
   ·obtain ⟨s, hs⟩ := Hd hk0
    have hbs := Lq (R := SetR.row) hs
    have hin := A3f hk0 hs
    have hid := Sl (fun s : SetR => s.name = m.set) h.sets
    repeat' (first | refine W ?_|(apply T.drawAll A0 (by kernel_rfl))|refine Zi hb ?_|refine Zi hbs ?_|(apply S.loadRW;(iterate 4 exact rfl))|refine Zc (Mn m) ?_|refine Zc (Py h m.set hf) ?_|refine Zc (Iw _ _ _) ?_|(apply S.sliceTo;exact rfl;exact rfl;exact rfl;omega;(intro row hr;obtain ⟨z, _, rfl⟩ := List.mem_map.1 hr;rfl))|(apply S.callV;exact rfl;exact Ui q.moves k m hq;exact .cons (.one (.lf _)) (.cons (.fn (.cons (.ptr0 rfl) .nil)) .nil);exact rfl;exact rfl)|refine Za ?_ | refine V ?_|(refine W2 ?_ ?_ <;> intro hc))
    all_goals (try change Next _ _ _ _ _ _)
    all_goals first
     | exact Next.go (k + 1) ⟨by omega, by rw [hsn];intro y hy;rcases List.mem_append.1 hy with hy | hy;exact hok y hy;obtain rfl : y = m := (by simpa using hy);exact hin.2 ⟨by assumption, by assumption⟩, by rw [hsn];exact (Ga _ _ _).2 ⟨hnd, by assumption⟩⟩ (by omega) CV CH
     | exact A5 (by simp) Tryz.results255 rfl (congrArg Value.bool (decide_eq_false (hmf (.inr (by assumption)))).symm)
     | exact A5 (by simp) Tryz.results255 rfl (congrArg Value.bool (decide_eq_false (hmf (.inl (fun hh => by
       have h3 := hin.1 hh
       first | exact absurd h3.1 (by assumption) | exact absurd h3.2 (by assumption))))).symm)
  ·have h1 : ¬ (k : Int) < ((q.moves.map MoveR.row).length : Nat) := by omega
   have hk2 : q.moves.take k = q.moves := List.take_of_length_le (by omega)
   rw [hk2] at hok hnd
   repeat' (first | refine W ?_ | refine V ?_|(refine W2 ?_ ?_ <;> intro hc))
   exact A5 (by simp) Tryz.results255 rfl (congrArg Value.bool (decide_eq_true ⟨by assumption, by omega, by omega, by omega, by omega, hok, hnd⟩).symm)
end Go.Proofs.YtcbfnkgodiaiiaaGreat
