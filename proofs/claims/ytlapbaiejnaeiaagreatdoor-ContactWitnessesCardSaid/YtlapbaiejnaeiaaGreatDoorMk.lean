/- Lemmas of the proof. -/
import Derived.Test.YtlapbaiejnaeiaaGreatDoorMj
set_option linter.all false
set_option maxHeartbeats 64000000
namespace Go.Proofs.YtlapbaiejnaeiaaGreatDoor
open Go.RowKit
def a7f := @Tryz.results213
/-! ### Beams -/
theorem B8 {α : Type} {l : List α} {k : Nat} {x : α} (hx : l[k]? = some x) : l.take (k + 1) = l.take k ++ [x] := by rw [a0x, hx];rfl
theorem Ab {α : Type} {l : List α} {R : α -> List Lf} {k : Nat} {x : α} (hx : l[k]? = some x) : (l.map R)[((k : Nat) : Int).toNat]? = some (R x) := by rw [a0v, a0e, hx];rfl
theorem Aa {α : Type} {l : List α} {k : Nat} (h : k < l.length) : ∃ x, l[k]? = some x := ⟨l[k], a0b h⟩
/-! ### Line sets and houses -/
theorem A8w {α : Type} {p : α -> Prop} [DecidablePred p] {l : List α} {k : Nat} (h : ∀ x ∈ l.take k, ¬ p x) (hk : l.length <= k) : idx p l = -1 := E1 (by rw [a0h hk] at h;exact h)
/-! ### Moves -/
structure MoveR where
 set : ByteArray
 to : Int
 speed : Int
 rise : Int
 fall : Int
def MoveR.row (m : MoveR) : List Lf := [.s m.set, .i m.to, .i m.speed, .i m.rise, .i m.fall]
structure CueR where
 name : ByteArray
 after : ByteArray
 link : Int
 delay : Int
 moves : List MoveR
 crew : Int
 power : Int
def CueR.row (q : CueR) : List Lf := [.s q.name, .s q.after, .i q.link, .i q.delay, .sl (q.moves.map MoveR.row), .i q.crew, .i q.power]
def E4 (m : MoveR) : Prop := Ct m.set = true /\ (-1048576 <= m.to /\ m.to <= 1048576) /\ (1 <= m.speed /\ m.speed <= 8192) /\ (1 <= m.rise /\ m.rise <= 16384) /\ 1 <= m.fall /\ m.fall <= 16384
instance (m : MoveR) : Decidable (E4 m) := by unfold E4;exact inferInstance
theorem Qc (n lo hi : Int) : Fn0 Tryz.prog 228 [.i n, .i lo, .i hi] (.b (decide (lo <= n /\ n <= hi))) := by
 refine Fn0.of Tryz.func228 Tryz.ntmps228 rfl rfl rfl ?_
 simp only [A2]
 repeat' (first|refine W ?_|refine V ?_|(refine W2 ?_ ?_<;>intro hc))
 all_goals exact A4 (by simp) Tryz.results228 rfl (by simp [*])
theorem Mc (m : MoveR) : Fn0 Tryz.prog 227 [A1 m.row] (.b (decide (E4 m))) := by
 refine Fn0.of Tryz.func227 Tryz.ntmps227 rfl rfl rfl ?_
 simp only [A2]
 repeat' (first|refine W ?_|refine Zc (Cs _) ?_|refine Zc (Qc _ _ _) ?_|refine V ?_|(refine W2 ?_ ?_<;>intro hc))
 all_goals exact A4 (by simp) Tryz.results227 rfl (by simp only [E4];simp [*])
/-! ### Cues that are right -/
def moveIn (h : HouseR) (m : MoveR) : Prop := E4 m /\ ∃ s, 0 <= Ae h m.set /\ h.sets[(Ae h m.set).toNat]? = some s /\ s.low <= m.to /\ m.to <= s.high
def Dy (h : HouseR) (q : CueR) : Prop := Ct q.name = true /\ (1 <= q.link /\ q.link <= 3) /\ (0 <= q.delay /\ q.delay <= 2147483648) /\ (0 <= q.crew /\ q.crew <= 100) /\ (0 <= q.power /\ q.power <= 100) /\ (∀ m ∈ q.moves, moveIn h m) /\ (q.moves.map MoveR.set).Nodup
noncomputable instance (h : HouseR) (q : CueR) : Decidable (Dy h q) := Classical.propDecidable _
theorem J5 {α : Type} {p : α -> Prop} [DecidablePred p] {l : List α} (h : ¬ idx p l < 0) : ∃ x, l[(idx p l).toNat]? = some x := by
 have := L6 p l
 exact ⟨l[(idx p l).toNat]'(by omega), a0b _⟩
theorem I3 {α : Type} {l : List α} {R : α -> List Lf} {i : Int} {x : α} (hx : l[i.toNat]? = some x) : (l.map R)[i.toNat]? = some (R x) := by rw [a0e, hx];rfl
theorem A33 {h : HouseR} {m : MoveR} {s : SetR} (hk : ¬ Ae h m.set < 0) (hs : h.sets[(Ae h m.set).toNat]? = some s) : moveIn h m ↔ E4 m /\ s.low <= m.to /\ m.to <= s.high := by
 constructor
 ·rintro ⟨h1, t, h2, h3, h4⟩
  rw [hs] at h3;injection h3 with h3;subst h3
  exact ⟨h1, h4⟩
 ·rintro ⟨h1, h2⟩
  exact ⟨h1, s, by omega, hs, h2⟩
theorem A2o (m x : MoveR) : Fn0 Tryz.prog 245 [A1 x.row, .rop m.row] (.b (decide (x.set = m.set))) := by
 refine Fn0.of Tryz.func245 Tryz.ntmps245 rfl rfl rfl ?_
 simp only [A2]
 repeat' (first|refine W ?_|refine V ?_|(refine W2 ?_ ?_<;>intro hc))
 all_goals exact A4 (by simp) Tryz.results245 rfl (by rfl)
theorem Ud (l : List MoveR) (k : Nat) (m : MoveR) (hs : l.length <= 9223372036854775807) :
  Fn0 Tryz.prog 244 [.sl ((l.map MoveR.row).take ((k : Nat) : Int).toNat), .fn (.func 245) [] [.rop m.row]] (.b (decide (∃ y ∈ l.take k, y.set = m.set))) := by
 rw [a0v, <- a7y]
 exact Qv (l.take k) MoveR.row (fun y => y.set = m.set) _ _ (fun _ => rfl) (by simp;omega) rfl fun y hy => A2o m y
theorem A06 {h : HouseR} {q : CueR} {k : Nat} {m : MoveR} (hm : q.moves[k]? = some m) (hn : ¬ moveIn h m \/ ∃ y ∈ q.moves.take k, y.set = m.set) : ¬ Dy h q := by
 rintro ⟨_, _, _, _, _, h6, h7⟩
 rcases hn with hn | hn
 ·exact hn (h6 m (a0c hm))
 ·have h4 := M9 h7 (k + 1)
  rw [B8 hm] at h4
  exact ((Fv _ _ _).1 h4).2 hn
theorem Ux (h : HouseR) (q : CueR) (hf : h.sets.length <= 9223372036854775807) (hq : q.moves.length <= 9223372036854775807) : Fn0 Tryz.prog 213 [A1 h.row, A1 q.row] (.b (decide (Dy h q))) := by
 have hle : (q.moves.map MoveR.row).length = q.moves.length := a0a _
 have hles : (h.sets.map SetR.row).length = h.sets.length := a0a _
 refine Fn0.of Tryz.func213 Tryz.ntmps213 rfl rfl rfl ?_
 simp only [A2]
 repeat' (first|refine W ?_|refine Zc (Cs _) ?_|refine Zc (I8 _ _ _) ?_|refine V ?_|(refine W2 ?_ ?_<;>intro hc))
 all_goals first
  | exact A4 (by simp) a7f rfl (congrArg Value.bool (decide_eq_false (fun hh => by
    obtain ⟨g1, g2, g3, g4, g5, _⟩ := hh
    first | contradiction | omega)).symm)
  | skip
 all_goals
  refine p0d (fun k => k <= q.moves.length /\ (∀ m ∈ q.moves.take k, moveIn h m) /\ ((q.moves.take k).map MoveR.set).Nodup) (fun k => q.moves.length - k) (fun k => [(48, .i k), (47, .i (q.moves.map MoveR.row).length), (46, .sl (q.moves.map MoveR.row)), (2, .ptr 0 0), (3, .ptr 1 0)]) (fun _ => [.live (h.row.map .lf), .live (q.row.map .lf)]) 0 ⟨a0o _, by simp⟩ CV CH ?_
  rintro k ⟨hk, hok, hnd⟩
  by_cases hlt : k < q.moves.length
  ·have h1 : (k : Int) < ((q.moves.map MoveR.row).length : Nat) := by omega
   obtain ⟨m, hm⟩ := Aa hlt
   have hb := Ab (R := MoveR.row) hm
   have hsn := B8 hm
   have hmf := A06 (h := h) hm
   by_cases hk0 : Ae h m.set < 0
   ·have hbad : ¬ moveIn h m := fun ⟨_, _, hh, _⟩ => by omega
    repeat' (first|refine W ?_|(apply p0b A0 (by kernel_rfl))|(apply S.indexR;(iterate 3 exact rfl);exact hb;omega;exact rfl)|(apply p0k;(iterate 4 exact rfl))|refine Zc (Mc m) ?_|refine Zc (Ox h m.set hf) ?_|refine Zc (I8 _ _ _) ?_|refine Za ?_|refine V ?_|(refine W2 ?_ ?_<;>intro hc))
    all_goals exact A4 (by simp) a7f rfl (congrArg Value.bool (decide_eq_false (hmf (.inl hbad))).symm)
   ·obtain ⟨s, hs⟩ := J5 hk0
    have hbs := I3 (R := SetR.row) hs
    have hin := A33 hk0 hs
    have hid := L6 (fun s : SetR => s.name = m.set) h.sets
    repeat' (first|refine W ?_|(apply p0b A0 (by kernel_rfl))|(apply S.indexR;(iterate 3 exact rfl);exact hb;omega;exact rfl)|(apply S.indexR;(iterate 3 exact rfl);exact hbs;omega;exact rfl)|(apply p0k;(iterate 4 exact rfl))|refine Zc (Mc m) ?_|refine Zc (Ox h m.set hf) ?_|refine Zc (I8 _ _ _) ?_|(apply p1s;(iterate 3 exact rfl);omega;(intro row hr;obtain ⟨z, _, rfl⟩ := a1b.1 hr;rfl))|(apply S.callV;exact rfl;exact Ud q.moves k m hq;exact .cons (.one (.lf _)) (.cons (.fn (.cons (.ptr0 rfl) .nil)) .nil);exact rfl;exact rfl)|refine Za ?_|refine V ?_|(refine W2 ?_ ?_<;>intro hc))
    all_goals (try change Next _ _ _ _ _ _)
    all_goals first
     | exact Next.go (k + 1) ⟨by omega, by rw [hsn];intro y hy;rcases a0u.1 hy with hy | hy;exact hok y hy;obtain rfl : y = m := (by simpa using hy);exact hin.2 ⟨by assumption, by assumption⟩, by rw [hsn];exact (Fv _ _ _).2 ⟨hnd, by assumption⟩⟩ (by omega) CV CH
     | exact A4 (by simp) a7f rfl (congrArg Value.bool (decide_eq_false (hmf (.inr (by assumption)))).symm)
     | exact A4 (by simp) a7f rfl (congrArg Value.bool (decide_eq_false (hmf (.inl (fun hh => by
       have h3 := hin.1 hh
       first | exact absurd h3.1 (by assumption) | exact absurd h3.2 (by assumption))))).symm)
  ·have h1 : ¬ (k : Int) < ((q.moves.map MoveR.row).length : Nat) := by omega
   have hk2 : q.moves.take k = q.moves := a0h (by omega)
   rw [hk2] at hok hnd
   repeat' (first|refine W ?_|refine V ?_|(refine W2 ?_ ?_<;>intro hc))
   exact A4 (by simp) a7f rfl (congrArg Value.bool (decide_eq_true ⟨by assumption, by omega, by omega, by omega, by omega, hok, hnd⟩).symm)
end Go.Proofs.YtlapbaiejnaeiaaGreatDoor
