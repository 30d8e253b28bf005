/- Contracts of the reference's functions that say whether a house is valid: names, beams. No conditions but those of each statement. -/
import Derived.Test.YtlapbaiejnaeiaaGreatDoorMj
set_option linter.unusedSimpArgs false
set_option linter.unusedVariables false
namespace Go.Proofs.YtlapbaiejnaeiaaGreatDoor
open Go.RowKit
set_option maxHeartbeats 4000000 in
theorem La (n : Int) : Fn0 Tryz.prog 69 [.val (.int .u8 n)] (.b (decide (Fz n))) := by
 refine Fn0.of Tryz.func69 Tryz.ntmps69 rfl rfl rfl ?_
 simp only [A0]
 repeat' (first | refine W ?_ | refine V ?_|(refine W2 ?_ ?_ <;> intro hc))
 all_goals exact A3 (by simp) Tryz.results69 rfl (by simp only [Fz];simp [*];try omega)
set_option maxHeartbeats 4000000 in
theorem Up (n : Int) : Fn0 Tryz.prog 108 [.val (.int .u8 n)] (.b (decide (K5 n))) := by
 refine Fn0.of Tryz.func108 Tryz.ntmps108 rfl rfl rfl ?_
 simp only [A0]
 repeat' (first | refine W ?_ | refine V ?_|(refine W2 ?_ ?_ <;> intro hc))
 all_goals exact A3 (by simp) Tryz.results108 rfl (by simp only [K5];simp [*];try omega)
set_option maxHeartbeats 4000000 in
theorem Wz (s : ByteArray) (hs : s.size <= 9223372036854775807) : Fn0 Tryz.prog 70 [.s s, .i 0] (.i (Bo s)) := by
 refine Fn0.of Tryz.func70 Tryz.ntmps70 rfl rfl rfl ?_
 simp only [A0]
 repeat' (first | refine W ?_ | refine V ?_|(refine W2 ?_ ?_ <;> intro hc))
 refine T.loopS (fun k => k <= Bo s) (fun k => s.size - k) (fun k => [(1, .i k), (0, .s s)]) (fun _ => []) 0 (by omega) CV .nil ?_
 intro k hk
 have hle := Lp s
 by_cases hlt : k < s.size
 ·have h1 : (k : Int) < s.size := by omega
  obtain ⟨c, hc, hc2⟩ := F8 hlt
  have hn := Iy hk hc2
  have hb : s[((k : Nat) : Int).toNat]? = some c := hc
  repeat' (first | refine W ?_|(apply S.byteAt;exact rfl;exact rfl;exact rfl;omega;exact hb)|refine Zc (La _) ?_|refine Zc (Up _) ?_|refine Za ?_ | refine V ?_|(refine W2 ?_ ?_ <;> intro hc))
  all_goals (try change Next _ _ _ _ _ _)
  all_goals first
   | exact Next.go (k + 1) (by rw [if_pos (by simp [Cv, *])] at hn;exact hn) (by omega) CV .nil
   | exact A3 (by simp) Tryz.results70 rfl (by rw [if_neg (by simp [Cv, *])] at hn;rw [hn])
 ·have h1 : ¬ (k : Int) < s.size := by omega
  repeat' (first | refine W ?_ | refine V ?_|(refine W2 ?_ ?_ <;> intro hc))
  exact A3 (by simp) Tryz.results70 rfl (by rw [show Bo s = k by omega])
theorem Nm {s : ByteArray} : (s.size : Int) = 0 ↔ s = ⟨#[]⟩ := by
 constructor
 ·intro h
  exact Classical.byContradiction fun hn => by have := H9 hn;omega
 ·rintro rfl;rfl
set_option maxHeartbeats 4000000 in
theorem L9 (s : ByteArray) : Fn0 Tryz.prog 39 [.s s] (.b (decide (B9 s = true))) := by
 have hz := Nm (s := s)
 by_cases h0 : (s.size : Int) = 0
 ·skip
  refine Fn0.of Tryz.func39 Tryz.ntmps39 rfl rfl rfl ?_
  simp only [A0]
  repeat' (first | refine W ?_ | refine V ?_|(refine W2 ?_ ?_ <;> intro hc))
  all_goals exact A3 (by simp) Tryz.results39 rfl (by simp [B9, hz.1 h0])
 ·have h0' : ¬ s = (⟨#[]⟩ : ByteArray) := fun h => h0 (hz.2 h)
  obtain ⟨c, hc, _⟩ := F8 (H9 h0')
  have hb : s[((0 : Int)).toNat]? = some c := hc
  by_cases h1 : (20 : Int) < s.size
  ·skip
   refine Fn0.of Tryz.func39 Tryz.ntmps39 rfl rfl rfl ?_
   simp only [A0]
   repeat' (first | refine W ?_ | refine V ?_|(refine W2 ?_ ?_ <;> intro hc))
   all_goals exact A3 (by simp) Tryz.results39 rfl (by simp [B9];omega)
  ·have hw := Wz s (by omega)
   refine Fn0.of Tryz.func39 Tryz.ntmps39 rfl rfl rfl ?_
   simp only [A0]
   repeat' (first | refine W ?_|refine Zc (La _) ?_|refine Zc hw ?_|(apply S.byteAt;exact rfl;exact rfl;exact rfl;omega;exact hb) | refine V ?_|(refine W2 ?_ ?_ <;> intro hc))
   all_goals exact A3 (by simp) Tryz.results39 rfl (by simp_all [B9];try omega)

/-! ### Beams -/
theorem Bd {α : Type} {l : List α} {k : Nat} {x : α} (hx : l[k]? = some x) : l.take (k + 1) = l.take k ++ [x] := by rw [List.take_add_one, hx];rfl
theorem Ae {α : Type} {l : List α} {R : α -> List Lf} {k : Nat} {x : α} (hx : l[k]? = some x) : (l.map R)[((k : Nat) : Int).toNat]? = some (R x) := by rw [Int.toNat_natCast, List.getElem?_map, hx];rfl
theorem Ac {α : Type} {l : List α} {k : Nat} (h : k < l.length) : ∃ x, l[k]? = some x := ⟨l[k], List.getElem?_eq_getElem h⟩
/-! ### Line sets and houses -/
/-! ### Moves -/
structure MoveR where
 set : ByteArray
 to : Int
 speed : Int
 rise : Int
 fall : Int
def MoveR.row (m : MoveR) : List Lf := [.s m.set, .i m.to, .i m.speed, .i m.rise, .i m.fall]
structure CueR where
 name : ByteArray
 after : ByteArray
 link : Int
 delay : Int
 moves : List MoveR
 crew : Int
 power : Int
def CueR.row (q : CueR) : List Lf := [.s q.name, .s q.after, .i q.link, .i q.delay, .sl (q.moves.map MoveR.row), .i q.crew, .i q.power]
def Cf (m : MoveR) : Prop := B9 m.set = true /\ (-1048576 <= m.to /\ m.to <= 1048576) /\ (1 <= m.speed /\ m.speed <= 8192) /\ (1 <= m.rise /\ m.rise <= 16384) /\ 1 <= m.fall /\ m.fall <= 16384
instance (m : MoveR) : Decidable (Cf m) := by unfold Cf;exact inferInstance
theorem Jm (n lo hi : Int) : Fn0 Tryz.prog 228 [.i n, .i lo, .i hi] (.b (decide (lo <= n /\ n <= hi))) := by
 refine Fn0.of Tryz.func228 Tryz.ntmps228 rfl rfl rfl ?_
 simp only [A0]
 repeat' (first | refine W ?_ | refine V ?_|(refine W2 ?_ ?_ <;> intro hc))
 all_goals exact A3 (by simp) Tryz.results228 rfl (by simp [*])
set_option maxHeartbeats 4000000 in
theorem Hq (m : MoveR) : Fn0 Tryz.prog 227 [A4 m.row] (.b (decide (Cf m))) := by
 refine Fn0.of Tryz.func227 Tryz.ntmps227 rfl rfl rfl ?_
 simp only [A0]
 repeat' (first | refine W ?_|refine Zc (Bk _) ?_|refine Zc (Jm _ _ _) ?_ | refine V ?_|(refine W2 ?_ ?_ <;> intro hc))
 all_goals exact A3 (by simp) Tryz.results227 rfl (by simp only [Cf];simp [*])
/-! ### Cues that are right -/
def Il (h : HouseR) (m : MoveR) : Prop := Cf m /\ ∃ s, 0 <= As h m.set /\ h.sets[(As h m.set).toNat]? = some s /\ s.low <= m.to /\ m.to <= s.high
def C0 (h : HouseR) (q : CueR) : Prop := B9 q.name = true /\ (1 <= q.link /\ q.link <= 3) /\ (0 <= q.delay /\ q.delay <= 2147483648) /\ (0 <= q.crew /\ q.crew <= 100) /\ (0 <= q.power /\ q.power <= 100) /\ (∀ m ∈ q.moves, Il h m) /\ (q.moves.map MoveR.set).Nodup
noncomputable instance (h : HouseR) (q : CueR) : Decidable (C0 h q) := Classical.propDecidable _
theorem Xv {α : Type} {p : α -> Prop} [DecidablePred p] {l : List α} (h : ¬ idx p l < 0) : ∃ x, l[(idx p l).toNat]? = some x := by
 have := Ol p l
 exact ⟨l[(idx p l).toNat]'(by omega), List.getElem?_eq_getElem _⟩
theorem Rf {α : Type} {l : List α} {R : α -> List Lf} {i : Int} {x : α} (hx : l[i.toNat]? = some x) : (l.map R)[i.toNat]? = some (R x) := by rw [List.getElem?_map, hx];rfl
theorem Sc {h : HouseR} {m : MoveR} {s : SetR} (hk : ¬ As h m.set < 0) (hs : h.sets[(As h m.set).toNat]? = some s) : Il h m ↔ Cf m /\ s.low <= m.to /\ m.to <= s.high := by
 constructor
 ·rintro ⟨h1, t, h2, h3, h4⟩
  rw [hs] at h3;injection h3 with h3;subst h3
  exact ⟨h1, h4⟩
 ·rintro ⟨h1, h2⟩
  exact ⟨h1, s, by omega, hs, h2⟩
theorem S2 (m x : MoveR) : Fn0 Tryz.prog 245 [A4 x.row, .rop m.row] (.b (decide (x.set = m.set))) := by
 refine Fn0.of Tryz.func245 Tryz.ntmps245 rfl rfl rfl ?_
 simp only [A0]
 repeat' (first | refine W ?_ | refine V ?_|(refine W2 ?_ ?_ <;> intro hc))
 all_goals exact A3 (by simp) Tryz.results245 rfl (by rfl)
theorem Mb (l : List MoveR) (k : Nat) (m : MoveR) (hs : l.length <= 9223372036854775807) :
  Fn0 Tryz.prog 244 [.sl ((l.map MoveR.row).take ((k : Nat) : Int).toNat), .fn (.func 245) [] [.rop m.row]] (.b (decide (∃ y ∈ l.take k, y.set = m.set))) := by
 rw [Int.toNat_natCast, <- List.map_take]
 exact K3 (l.take k) MoveR.row (fun y => y.set = m.set) _ _ (fun _ => rfl) (by simp;omega) rfl fun y hy => S2 m y
theorem Ql {h : HouseR} {q : CueR} {k : Nat} {m : MoveR} (hm : q.moves[k]? = some m) (hn : ¬ Il h m \/ ∃ y ∈ q.moves.take k, y.set = m.set) : ¬ C0 h q := by
 rintro ⟨_, _, _, _, _, h6, h7⟩
 rcases hn with hn | hn
 ·exact hn (h6 m (List.mem_of_getElem? hm))
 ·have h4 := Hk h7 (k + 1)
  rw [Bd hm] at h4
  exact ((Da _ _ _).1 h4).2 hn
set_option maxHeartbeats 8000000 in
theorem Ml (h : HouseR) (q : CueR) (hf : h.sets.length <= 9223372036854775807) (hq : q.moves.length <= 9223372036854775807) : Fn0 Tryz.prog 213 [A4 h.row, A4 q.row] (.b (decide (C0 h q))) := by
 have hle : (q.moves.map MoveR.row).length = q.moves.length := List.length_map _
 have hles : (h.sets.map SetR.row).length = h.sets.length := List.length_map _
 refine Fn0.of Tryz.func213 Tryz.ntmps213 rfl rfl rfl ?_
 simp only [A0]
 repeat' (first | refine W ?_|refine Zc (Bk _) ?_|refine Zc (Er _ _ _) ?_ | refine V ?_|(refine W2 ?_ ?_ <;> intro hc))
 all_goals first
  | exact A3 (by simp) Tryz.results213 rfl (congrArg Value.bool (decide_eq_false (fun hh => by
    obtain ⟨g1, g2, g3, g4, g5, _⟩ := hh
    first | contradiction | omega)).symm)
  | skip
 all_goals
  refine T.loopS (fun k => k <= q.moves.length /\ (∀ m ∈ q.moves.take k, Il h m) /\ ((q.moves.take k).map MoveR.set).Nodup) (fun k => q.moves.length - k) (fun k => [(48, .i k), (47, .i (q.moves.map MoveR.row).length), (46, .sl (q.moves.map MoveR.row)), (2, .ptr 0 0), (3, .ptr 1 0)]) (fun _ => [.live (h.row.map .lf), .live (q.row.map .lf)]) 0 ⟨Nat.zero_le _, by simp⟩ CV CH ?_
  rintro k ⟨hk, hok, hnd⟩
  by_cases hlt : k < q.moves.length
  ·have h1 : (k : Int) < ((q.moves.map MoveR.row).length : Nat) := by omega
   obtain ⟨m, hm⟩ := Ac hlt
   have hb := Ae (R := MoveR.row) hm
   have hsn := Bd hm
   have hmf := Ql (h := h) hm
   by_cases hk0 : As h m.set < 0
   ·have hbad : ¬ Il h m := fun ⟨_, _, hh, _⟩ => by omega
    repeat' (first | refine W ?_|(apply T.drawAll A2 (by kernel_rfl))|refine Zi hb ?_|(apply S.loadRW;(iterate 4 exact rfl))|refine Zc (Hq m) ?_|refine Zc (Iz h m.set hf) ?_|refine Zc (Er _ _ _) ?_|refine Za ?_ | refine V ?_|(refine W2 ?_ ?_ <;> intro hc))
    all_goals exact A3 (by simp) Tryz.results213 rfl (congrArg Value.bool (decide_eq_false (hmf (.inl hbad))).symm)
   ·obtain ⟨s, hs⟩ := Xv hk0
    have hbs := Rf (R := SetR.row) hs
    have hin := Sc hk0 hs
    have hid := Ol (fun s : SetR => s.name = m.set) h.sets
    repeat' (first | refine W ?_|(apply T.drawAll A2 (by kernel_rfl))|refine Zi hb ?_|refine Zi hbs ?_|(apply S.loadRW;(iterate 4 exact rfl))|refine Zc (Hq m) ?_|refine Zc (Iz h m.set hf) ?_|refine Zc (Er _ _ _) ?_|(apply S.sliceTo;exact rfl;exact rfl;exact rfl;omega;(intro row hr;obtain ⟨z, _, rfl⟩ := List.mem_map.1 hr;rfl))|(apply S.callV;exact rfl;exact Mb q.moves k m hq;exact .cons (.one (.lf _)) (.cons (.fn (.cons (.ptr0 rfl) .nil)) .nil);exact rfl;exact rfl)|refine Za ?_ | refine V ?_|(refine W2 ?_ ?_ <;> intro hc))
    all_goals (try change Next _ _ _ _ _ _)
    all_goals first
     | exact Next.go (k + 1) ⟨by omega, by rw [hsn];intro y hy;rcases List.mem_append.1 hy with hy | hy;exact hok y hy;obtain rfl : y = m := (by simpa using hy);exact hin.2 ⟨by assumption, by assumption⟩, by rw [hsn];exact (Da _ _ _).2 ⟨hnd, by assumption⟩⟩ (by omega) CV CH
     | exact A3 (by simp) Tryz.results213 rfl (congrArg Value.bool (decide_eq_false (hmf (.inr (by assumption)))).symm)
     | exact A3 (by simp) Tryz.results213 rfl (congrArg Value.bool (decide_eq_false (hmf (.inl (fun hh => by
       have h3 := hin.1 hh
       first | exact absurd h3.1 (by assumption) | exact absurd h3.2 (by assumption))))).symm)
  ·have h1 : ¬ (k : Int) < ((q.moves.map MoveR.row).length : Nat) := by omega
   have hk2 : q.moves.take k = q.moves := List.take_of_length_le (by omega)
   rw [hk2] at hok hnd
   repeat' (first | refine W ?_ | refine V ?_|(refine W2 ?_ ?_ <;> intro hc))
   exact A3 (by simp) Tryz.results213 rfl (congrArg Value.bool (decide_eq_true ⟨by assumption, by omega, by omega, by omega, by omega, hok, hnd⟩).symm)
end Go.Proofs.YtlapbaiejnaeiaaGreatDoor
