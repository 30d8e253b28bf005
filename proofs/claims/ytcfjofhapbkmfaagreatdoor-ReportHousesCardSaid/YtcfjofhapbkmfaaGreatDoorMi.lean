/- Contracts of the functions that say whether a house is valid: names, beams, items, bricks, line sets (the program's side). No conditions but those of each statement. -/
import Derived.Test.YtcfjofhapbkmfaaGreatDoorMh
set_option linter.unusedSimpArgs false
set_option linter.unusedVariables false
namespace Go.Proofs.YtcfjofhapbkmfaaGreatDoor
open Go.RowKit
/-! ### Names -/
def Bp (s : ByteArray) : Bool := decide (¬ s = ⟨#[]⟩) && decide ((s.size : Int) <= 20) && (match s[0]? with | some c => decide (G7 c.toNat) | none => false) && decide ((Cu s : Int) = s.size)
theorem Hb {s : ByteArray} (h : ¬ s = ⟨#[]⟩) : 0 < s.size := by
 rcases Nat.eq_zero_or_pos s.size with e | e
 ·exact absurd (by cases s with | mk a => exact congrArg _ (Array.eq_empty_of_size_eq_zero e)) h
 ·exact e
set_option maxHeartbeats 4000000 in
theorem Bz (s : ByteArray) : Fn0 Tryz.prog 63 [.s s] (.b (decide (Bp s = true))) := by
 by_cases h0 : s = ⟨#[]⟩
 ·have h0' : ¬ ¬ s = (⟨#[]⟩ : ByteArray) := fun h => h h0
  refine Fn0.of Tryz.func63 Tryz.ntmps63 rfl rfl rfl ?_
  simp only [A0]
  repeat' (first | refine W ?_ | refine V ?_|(refine W2 ?_ ?_ <;> intro hc))
  all_goals exact A7 (by simp) Tryz.results63 rfl (by simp_all [Bp])
 ·obtain ⟨c, hc, _⟩ := Iv (Hb h0)
  have hb : s[((0 : Int)).toNat]? = some c := hc
  by_cases h1 : (s.size : Int) <= 20
  ·have hw := X9 s (by omega)
   refine Fn0.of Tryz.func63 Tryz.ntmps63 rfl rfl rfl ?_
   simp only [A0]
   repeat' (first | refine W ?_|refine Zc (L9 _) ?_|refine Zc hw ?_|(apply S.byteAt;(iterate 3 exact rfl);omega;exact hb) | refine V ?_|(refine W2 ?_ ?_ <;> intro hc))
   all_goals exact A7 (by simp) Tryz.results63 rfl (by simp_all [Bp];try omega)
  ·skip
   refine Fn0.of Tryz.func63 Tryz.ntmps63 rfl rfl rfl ?_
   simp only [A0]
   repeat' (first | refine W ?_ | refine V ?_|(refine W2 ?_ ?_ <;> intro hc))
   all_goals exact A7 (by simp) Tryz.results63 rfl (by simp_all [Bp];try omega)
theorem Qs (s : ByteArray) : Fn0 Tryz.prog 155 [.s s] (.b (decide (Bp s = true))) := by
 refine Fn0.of Tryz.func155 Tryz.ntmps155 rfl rfl rfl ?_
 simp only [A0]
 repeat' (first | refine W ?_|refine Zc (Bz _) ?_ | refine V ?_|(refine W2 ?_ ?_ <;> intro hc))
 all_goals exact A7 (by simp) Tryz.results155 rfl (by rfl)
theorem Jh (n : Int) : Fn0 Tryz.prog 156 [.i n] (.b (decide (0 <= n /\ n <= 1048576))) := by
 refine Fn0.of Tryz.func156 Tryz.ntmps156 rfl rfl rfl ?_
 simp only [A0]
 repeat' (first | refine W ?_ | refine V ?_|(refine W2 ?_ ?_ <;> intro hc))
 all_goals exact A7 (by simp) Tryz.results156 rfl (by simp [*])
theorem D5 (n lo hi : Int) : Fn0 Tryz.prog 145 [.i n, .i lo, .i hi] (.b (decide (lo <= n /\ n <= hi))) := by
 refine Fn0.of Tryz.func145 Tryz.ntmps145 rfl rfl rfl ?_
 simp only [A0]
 repeat' (first | refine W ?_ | refine V ?_|(refine W2 ?_ ?_ <;> intro hc))
 all_goals exact A7 (by simp) Tryz.results145 rfl (by simp [*])

/-! ### Data -/
structure ItemR where
 name : ByteArray
 at_ : Int
 width : Int
 weight : Int
 hang : Int
 front : Int
 back : Int
def ItemR.row (x : ItemR) : List Lf := [.s x.name, .i x.at_, .i x.width, .i x.weight, .i x.hang, .i x.front, .i x.back]
structure BrickR where
 name : ByteArray
 weight : Int
 count : Int
def BrickR.row (x : BrickR) : List Lf := [.s x.name, .i x.weight, .i x.count]
structure SetR where
 name : ByteArray
 depth : Int
 low : Int
 high : Int
 length : Int
 lines : List Int
 pipe : Int
 arbor : Int
 purchase : Int
 most : Int
 brake : Int
 items : List ItemR
 bricks : List BrickR
def A8 (n : Int) : List Lf := [.i n]
def SetR.row (s : SetR) : List Lf := [.s s.name, .i s.depth, .i s.low, .i s.high, .i s.length, .sl (s.lines.map A8), .i s.pipe, .i s.arbor, .i s.purchase, .i s.most, .i s.brake, .sl (s.items.map ItemR.row), .sl (s.bricks.map BrickR.row)]
structure RoofR where
 name : ByteArray
 from_ : Int
 to : Int
 most : Int
def RoofR.row (x : RoofR) : List Lf := [.s x.name, .i x.from_, .i x.to, .i x.most]
structure HouseR where
 name : ByteArray
 height : Int
 sets : List SetR
 roofs : List RoofR
def HouseR.row (h : HouseR) : List Lf := [.s h.name, .i h.height, .sl (h.sets.map SetR.row), .sl (h.roofs.map RoofR.row)]
abbrev A6 (l : List Lf) : AV := .agg (l.map .lf)

/-! ### Items -/
def Eh (x : ItemR) : Prop := Bp x.name = true /\ (0 <= x.weight /\ x.weight <= 1048576) /\ (0 <= x.hang /\ x.hang <= 1048576) /\ (0 <= x.front /\ x.front <= 1048576) /\ (0 <= x.back /\ x.back <= 1048576)
instance (x : ItemR) : Decidable (Eh x) := by unfold Eh;exact inferInstance
def Cp (x : ItemR) (length : Int) : Prop := 0 <= x.at_ /\ (1 <= x.width /\ x.width <= 1048576) /\ x.at_ <= length - x.width
instance (x : ItemR) (l : Int) : Decidable (Cp x l) := by unfold Cp;exact inferInstance
def Bw (x y : ItemR) : Prop := x.at_ + x.width <= y.at_ \/ y.at_ + y.width <= x.at_
instance (x y : ItemR) : Decidable (Bw x y) := by unfold Bw;exact inferInstance
set_option maxHeartbeats 4000000 in
theorem U7 (x : ItemR) : Fn0 Tryz.prog 212 [A6 x.row] (.b (decide (Eh x))) := by
 refine Fn0.of Tryz.func212 Tryz.ntmps212 rfl rfl rfl ?_
 simp only [A0]
 repeat' (first | refine W ?_|refine Zc (Bz _) ?_|refine Zc (D5 _ _ _) ?_ | refine V ?_|(refine W2 ?_ ?_ <;> intro hc))
 all_goals exact A7 (by simp) Tryz.results212 rfl (by simp only [Eh];simp [*])
set_option maxHeartbeats 4000000 in
theorem Se (x : ItemR) (l : Int) (hl : 0 <= l /\ l <= 1048576) : Fn0 Tryz.prog 213 [A6 x.row, .i l] (.b (decide (Cp x l))) := by
 refine Fn0.of Tryz.func213 Tryz.ntmps213 rfl rfl rfl ?_
 simp only [A0]
 repeat' (first | refine W ?_|refine Zc (D5 _ _ _) ?_|refine Za ?_ | refine V ?_|(refine W2 ?_ ?_ <;> intro hc))
 all_goals exact A7 (by simp) Tryz.results213 rfl (by simp only [Cp];simp [*])
set_option maxHeartbeats 4000000 in
theorem U8 (x y : ItemR) (hx : 0 <= x.at_ /\ x.at_ <= 1048576 /\ 0 <= x.width /\ x.width <= 1048576) (hy : 0 <= y.at_ /\ y.at_ <= 1048576 /\ 0 <= y.width /\ y.width <= 1048576) : Fn0 Tryz.prog 216 [A6 x.row, A6 y.row] (.b (decide (Bw x y))) := by
 refine Fn0.of Tryz.func216 Tryz.ntmps216 rfl rfl rfl ?_
 simp only [A0]
 repeat' (first | refine W ?_|refine Za ?_ | refine V ?_|(refine W2 ?_ ?_ <;> intro hc))
 all_goals exact A7 (by simp) Tryz.results216 rfl (by simp only [Bw];simp [*])
theorem Sf (x : ItemR) : Fn0 Tryz.prog 211 [A6 x.row] (.s x.name) := by
 refine Fn0.of Tryz.func211 Tryz.ntmps211 rfl rfl rfl ?_
 simp only [A0]
 repeat' (first | refine W ?_ | refine V ?_|(refine W2 ?_ ?_ <;> intro hc))
 all_goals exact A7 (by simp) Tryz.results211 rfl (by rfl)
theorem Qm (x : BrickR) : Fn0 Tryz.prog 218 [A6 x.row] (.s x.name) := by
 refine Fn0.of Tryz.func218 Tryz.ntmps218 rfl rfl rfl ?_
 simp only [A0]
 repeat' (first | refine W ?_ | refine V ?_|(refine W2 ?_ ?_ <;> intro hc))
 all_goals exact A7 (by simp) Tryz.results218 rfl (by rfl)
set_option maxHeartbeats 4000000 in
theorem Sg (x y : ItemR) (hx : 0 <= x.at_ /\ x.at_ <= 1048576 /\ 0 <= x.width /\ x.width <= 1048576) (hy : 0 <= y.at_ /\ y.at_ <= 1048576 /\ 0 <= y.width /\ y.width <= 1048576) : Fn0 Tryz.prog 215 [A6 y.row, .rop x.row] (.b (decide (¬ Bw x y))) := by
 refine Fn0.of Tryz.func215 Tryz.ntmps215 rfl rfl rfl ?_
 simp only [A0]
 repeat' (first | refine W ?_|refine Zc (U8 x y hx hy) ?_ | refine V ?_|(refine W2 ?_ ?_ <;> intro hc))
 all_goals exact A7 (by simp) Tryz.results215 rfl (by rfl)
theorem A3 : Tryz.prog.follows .mixedOrders = true := by kernel_rfl

/-! ### Names that occur twice -/
def C8 {α : Type} (nm : α -> ByteArray) (l : List α) : List (ByteArray × Value) := l.foldl (fun es x => Df es (nm x) (.agg #[])) []
theorem Vl (es : List (ByteArray × Value)) (s : ByteArray) (v : Value) : (∀ k, k ∈ (Df es s v).map (·.1) ↔ k ∈ es.map (·.1) \/ k = s) /\ (s ∈ es.map (·.1) -> (Df es s v).length = es.length) /\ (s ∉ es.map (·.1) -> (Df es s v).length = es.length + 1) := by
 induction es with
 | nil => simp [Df]
 | cons p es ih =>
  obtain ⟨k, u⟩ := p
  obtain ⟨h1, h2, h3⟩ := ih
  by_cases e : k = s
  ·subst e
   simp only [Df, if_true, List.map_cons, List.mem_cons, List.length_cons]
   exact ⟨fun j => ⟨fun h => .inl h, fun h => h.elim id .inl⟩, fun _ => trivial, fun h => absurd (.inl trivial) h⟩
  ·simp only [Df, if_neg e, List.map_cons, List.mem_cons, List.length_cons]
   refine ⟨fun j => ?_, fun h => ?_, fun h => ?_⟩
   ·rw [h1 j]
    exact ⟨fun h => h.elim (fun h => .inl (.inl h)) fun h => h.elim (fun h => .inl (.inr h)) .inr, fun h => h.elim (fun h => h.elim .inl fun h => .inr (.inl h)) fun h => .inr (.inr h)⟩
   ·rw [h2 (h.resolve_left fun h => e h.symm)]
   ·rw [h3 fun hm => h (.inr hm)]
theorem Ia {α : Type} (nm : α -> ByteArray) (l : List α) (x : α) : C8 nm (l ++ [x]) = Df (C8 nm l) (nm x) (.agg #[]) := by simp [C8]
theorem Ls {β : Type} (l : List β) (x : β) : (l ++ [x]).Nodup ↔ l.Nodup /\ x ∉ l := by
 unfold List.Nodup
 rw [List.pairwise_append]
 constructor
 ·rintro ⟨h1, _, h2⟩
  exact ⟨h1, fun hx => h2 x hx x (by simp) rfl⟩
 ·rintro ⟨h1, h2⟩
  refine ⟨h1, by simp, fun a ha b hb => ?_⟩
  obtain rfl : b = x := by simpa using hb
  exact fun e => h2 (e ▸ ha)
theorem Un {α : Type} (nm : α -> ByteArray) (l : List α) : (∀ k, k ∈ (C8 nm l).map (·.1) ↔ k ∈ l.map nm) /\ (C8 nm l).length <= l.length /\ ((C8 nm l).length = l.length ↔ (l.map nm).Nodup) := by
 have key : ∀ (m : List α), (∀ k, k ∈ (C8 nm m.reverse).map (·.1) ↔ k ∈ m.reverse.map nm) /\ (C8 nm m.reverse).length <= m.reverse.length /\ ((C8 nm m.reverse).length = m.reverse.length ↔ (m.reverse.map nm).Nodup) := fun m => by
  induction m with
  | nil => simp [C8]
  | cons x m ih =>
   obtain ⟨h1, h2, h3⟩ := ih
   obtain ⟨g1, g2, g3⟩ := Vl (C8 nm m.reverse) (nm x) (.agg #[])
   rw [List.reverse_cons, Ia]
   refine ⟨fun k => by rw [g1 k, h1 k];simp, ?_, ?_⟩
   ·rw [List.length_append];simp only [List.length_singleton]
    by_cases hm : nm x ∈ (C8 nm m.reverse).map (·.1)
    ·rw [g2 hm];omega
    ·rw [g3 hm];omega
   ·rw [List.map_append, List.map_singleton, Ls, List.length_append, <- h3]
    simp only [List.length_singleton]
    by_cases hm : nm x ∈ (C8 nm m.reverse).map (·.1)
    ·rw [g2 hm]
     exact ⟨fun h => by omega, fun ⟨_, h⟩ => absurd ((h1 _).1 hm) h⟩
    ·rw [g3 hm]
     exact ⟨fun h => ⟨by omega, fun h => hm ((h1 _).2 h)⟩, fun ⟨h, _⟩ => by omega⟩
 have := key l.reverse
 rwa [List.reverse_reverse] at this
theorem Ri {α : Type} (nm : α -> ByteArray) (l : List α) : decide (((C8 nm l).length : Int) < l.length) = decide (¬ (l.map nm).Nodup) := by
 obtain ⟨_, h2, h3⟩ := Un nm l
 by_cases h : (l.map nm).Nodup
 ·have e := h3.2 h
  rw [decide_eq_false (by omega), decide_eq_false (fun hn => hn h)]
 ·have e : (C8 nm l).length ≠ l.length := fun e => h (h3.1 e)
  rw [decide_eq_true (by omega), decide_eq_true h]
set_option maxHeartbeats 4000000 in
theorem Ww {α : Type} (l : List α) (R : α -> List Lf) (nm : α -> ByteArray) (g : FuncId) (caps : List AV) (hR : ∀ x, (R x).length = 7) (h1c : ∀ x, ((R x).map AV.lf).all AV.one = true) (hl : l.length <= 9223372036854775807) (hcaps : caps.all AV.cap = true) (hg : ∀ x ∈ l, Fn0 Tryz.prog g (.agg ((R x).map .lf) :: caps) (.s (nm x))) :
  Fn0 Tryz.prog 210 [.sl (l.map R), .fn (.func g) [] caps] (.b (decide (¬ (l.map nm).Nodup))) := by
 have hle : (l.map R).length = l.length := List.length_map _
 refine Fn0.of Tryz.func210 Tryz.ntmps210 rfl rfl rfl ?_
 simp only [A0]
 repeat' (first | refine W ?_|(apply S.makeMap;exact rfl;exact rfl) | refine V ?_|(refine W2 ?_ ?_ <;> intro hc))
 refine T.loopS (fun k => k <= l.length) (fun k => l.length - k) (fun k => [(11, .i k), (10, .i (l.map R).length), (0, .sl (l.map R)), (9, .sl (l.map R)), (5, .mp 0), (1, .fn (.func g) [] caps)]) (fun k => [.map (Is (C8 nm (l.take k)))]) 0 (Nat.zero_le _) (.cons rfl rfl (.cons rfl rfl (.cons rfl rfl (.cons rfl rfl (.cons rfl rfl (.cons rfl (As hcaps) .nil)))))) (.map .nil) ?_
 intro k hk
 by_cases hlt : k < l.length
 ·have h1 : (k : Int) < ((l.map R).length : Nat) := by omega
  obtain ⟨x, hx⟩ : ∃ x, l[k]? = some x := ⟨l[k], List.getElem?_eq_getElem hlt⟩
  have hb : (l.map R)[((k : Nat) : Int).toNat]? = some (R x) := by rw [Int.toNat_natCast, List.getElem?_map, hx];rfl
  have hx2 := hg x (List.mem_of_getElem? hx)
  have hsn : C8 nm (l.take (k + 1)) = Df (C8 nm (l.take k)) (nm x) (.agg #[]) := by rw [List.take_add_one, hx];exact Ia nm _ x
  obtain ⟨row, hrow⟩ : ∃ row, R x = row := ⟨_, rfl⟩
  have hlen := hR x
  have hone := h1c x
  rw [hrow] at hb hx2 hlen hone
  match row, hlen, hone with
  | [a1, a2, a3, a4, a5, a6, a7], _, hone =>
   repeat' (first | refine W ?_|(apply S.indexR;(iterate 3 exact rfl);exact hb;omega;exact rfl)|(apply S.loadRW;(iterate 4 exact rfl))|(apply S.callF;exact rfl;exact rfl;exact hx2;exact Cy (row := [a1, a2, a3, a4, a5, a6, a7]) hcaps;exact rfl)|(apply S.store;(iterate 4 exact rfl);exact hone;exact rfl;exact rfl)|(apply S.mapUpdate;(iterate 5 exact rfl))|refine Za ?_ | refine V ?_|(refine W2 ?_ ?_ <;> intro hc))
   change Next _ _ _ _ _ _
   exact Next.go (k + 1) (by omega) (by omega) (.cons rfl rfl (.cons rfl rfl (.cons rfl rfl (.cons rfl rfl (.cons rfl rfl (.cons rfl (As hcaps) .nil)))))) (by show CovH _ _ [.map (Is (C8 nm (l.take (k + 1))))];rw [hsn];exact .map .nil)
 ·have h1 : ¬ (k : Int) < ((l.map R).length : Nat) := by omega
  have hk2 : l.take k = l := List.take_of_length_le (by omega)
  repeat' (first | refine W ?_|(apply S.mapLen;(iterate 3 exact rfl)) | refine V ?_|(refine W2 ?_ ?_ <;> intro hc))
  exact A7 (by simp) Tryz.results210 rfl (by rw [hk2, hle, Qb];exact congrArg Value.bool (Ri nm l))
set_option maxHeartbeats 4000000 in
theorem Tx {α : Type} (l : List α) (R : α -> List Lf) (nm : α -> ByteArray) (g : FuncId) (caps : List AV) (hR : ∀ x, (R x).length = 3) (h1c : ∀ x, ((R x).map AV.lf).all AV.one = true) (hl : l.length <= 9223372036854775807) (hcaps : caps.all AV.cap = true) (hg : ∀ x ∈ l, Fn0 Tryz.prog g (.agg ((R x).map .lf) :: caps) (.s (nm x))) :
  Fn0 Tryz.prog 217 [.sl (l.map R), .fn (.func g) [] caps] (.b (decide (¬ (l.map nm).Nodup))) := by
 have hle : (l.map R).length = l.length := List.length_map _
 refine Fn0.of Tryz.func217 Tryz.ntmps217 rfl rfl rfl ?_
 simp only [A0]
 repeat' (first | refine W ?_|(apply S.makeMap;exact rfl;exact rfl) | refine V ?_|(refine W2 ?_ ?_ <;> intro hc))
 refine T.loopS (fun k => k <= l.length) (fun k => l.length - k) (fun k => [(11, .i k), (10, .i (l.map R).length), (0, .sl (l.map R)), (9, .sl (l.map R)), (5, .mp 0), (1, .fn (.func g) [] caps)]) (fun k => [.map (Is (C8 nm (l.take k)))]) 0 (Nat.zero_le _) (.cons rfl rfl (.cons rfl rfl (.cons rfl rfl (.cons rfl rfl (.cons rfl rfl (.cons rfl (As hcaps) .nil)))))) (.map .nil) ?_
 intro k hk
 by_cases hlt : k < l.length
 ·have h1 : (k : Int) < ((l.map R).length : Nat) := by omega
  obtain ⟨x, hx⟩ : ∃ x, l[k]? = some x := ⟨l[k], List.getElem?_eq_getElem hlt⟩
  have hb : (l.map R)[((k : Nat) : Int).toNat]? = some (R x) := by rw [Int.toNat_natCast, List.getElem?_map, hx];rfl
  have hx2 := hg x (List.mem_of_getElem? hx)
  have hsn : C8 nm (l.take (k + 1)) = Df (C8 nm (l.take k)) (nm x) (.agg #[]) := by rw [List.take_add_one, hx];exact Ia nm _ x
  obtain ⟨row, hrow⟩ : ∃ row, R x = row := ⟨_, rfl⟩
  have hlen := hR x
  have hone := h1c x
  rw [hrow] at hb hx2 hlen hone
  match row, hlen, hone with
  | [a1, a2, a3], _, hone =>
   repeat' (first | refine W ?_|(apply S.indexR;(iterate 3 exact rfl);exact hb;omega;exact rfl)|(apply S.loadRW;(iterate 4 exact rfl))|(apply S.callF;exact rfl;exact rfl;exact hx2;exact Cy (row := [a1, a2, a3]) hcaps;exact rfl)|(apply S.store;(iterate 4 exact rfl);exact hone;exact rfl;exact rfl)|(apply S.mapUpdate;(iterate 5 exact rfl))|refine Za ?_ | refine V ?_|(refine W2 ?_ ?_ <;> intro hc))
   change Next _ _ _ _ _ _
   exact Next.go (k + 1) (by omega) (by omega) (.cons rfl rfl (.cons rfl rfl (.cons rfl rfl (.cons rfl rfl (.cons rfl rfl (.cons rfl (As hcaps) .nil)))))) (by show CovH _ _ [.map (Is (C8 nm (l.take (k + 1))))];rw [hsn];exact .map .nil)
 ·have h1 : ¬ (k : Int) < ((l.map R).length : Nat) := by omega
  have hk2 : l.take k = l := List.take_of_length_le (by omega)
  repeat' (first | refine W ?_|(apply S.mapLen;(iterate 3 exact rfl)) | refine V ?_|(refine W2 ?_ ?_ <;> intro hc))
  exact A7 (by simp) Tryz.results217 rfl (by rw [hk2, hle, Qb];exact congrArg Value.bool (Ri nm l))

/-! ### Lists of items -/
def okI (len : Int) (m : List ItemR) : Prop := (∀ x ∈ m, Eh x /\ Cp x len) /\ m.Pairwise fun y x => Bw x y
def Ln (l : List ItemR) (len : Int) : Prop := l.length <= 40 /\ (l.map ItemR.name).Nodup /\ okI len l
noncomputable instance (l : List ItemR) (len : Int) : Decidable (Ln l len) := Classical.propDecidable _
theorem okI_snoc {len : Int} {m : List ItemR} {x : ItemR} : okI len (m ++ [x]) ↔ okI len m /\ (Eh x /\ Cp x len) /\ ∀ y ∈ m, Bw x y := by
 unfold okI
 rw [List.pairwise_append]
 constructor
 ·rintro ⟨h1, h2, _, h3⟩
  exact ⟨⟨fun y hy => h1 y (by simp [hy]), h2⟩, h1 x (by simp), fun y hy => h3 y hy x (by simp)⟩
 ·rintro ⟨⟨h1, h2⟩, h3, h4⟩
  refine ⟨fun y hy => ?_, h2, by simp, fun y hy z hz => ?_⟩
  ·rcases List.mem_append.1 hy with h | h
   ·exact h1 y h
   ·obtain rfl : y = x := by simpa using h
    exact h3
  ·obtain rfl : z = x := by simpa using hz
   exact h4 y hy
theorem Sy {len : Int} {a b : List ItemR} (h : okI len (a ++ b)) : okI len a := by
 unfold okI at h ⊢
 rw [List.pairwise_append] at h
 exact ⟨fun x hx => h.1 x (by simp [hx]), h.2.1⟩
theorem E8 {x : ItemR} {len : Int} (hl : 0 <= len /\ len <= 1048576) (h : Cp x len) : 0 <= x.at_ /\ x.at_ <= 1048576 /\ 0 <= x.width /\ x.width <= 1048576 := by
 obtain ⟨h1, h2, h3⟩ := h
 omega
theorem Mo {l : List ItemR} {k : Nat} {x : ItemR} {len : Int} (hl : 0 <= len /\ len <= 1048576) (hs : l.length <= 40) (hok : okI len (l.take k)) (hx : Cp x len) :
  Fn0 Tryz.prog 214 [.sl ((l.map ItemR.row).take ((k : Nat) : Int).toNat), .fn (.func 215) [] [.rop x.row]] (.b (decide (∃ y ∈ l.take k, ¬ Bw x y))) := by
 rw [Int.toNat_natCast, <- List.map_take]
 refine Jz (l.take k) ItemR.row (fun y => ¬ Bw x y) _ _ (fun _ => rfl) (by simp;omega) rfl fun y hy => ?_
 exact Sg x y (E8 hl hx) (E8 hl (hok.1 y hy).2)
set_option maxHeartbeats 4000000 in
theorem U9 (l : List ItemR) (len : Int) (hl : 0 <= len /\ len <= 1048576) (hs : l.length <= 9223372036854775807) : Fn0 Tryz.prog 147 [.sl (l.map ItemR.row), .i len] (.b (decide (Ln l len))) := by
 have htw := Ww l ItemR.row ItemR.name 211 [] (fun _ => rfl) (fun _ => rfl) hs rfl fun x _ => Sf x
 have hle : (l.map ItemR.row).length = l.length := List.length_map _
 refine Fn0.of Tryz.func147 Tryz.ntmps147 rfl rfl rfl ?_
 simp only [A0]
 repeat' (first | refine W ?_|refine Zc htw ?_ | refine V ?_|(refine W2 ?_ ?_ <;> intro hc))
 all_goals first
  | exact A7 (by simp) Tryz.results147 rfl (congrArg Value.bool (decide_eq_false (fun h => by have := h.1;omega)).symm)
  | exact A7 (by simp) Tryz.results147 rfl (congrArg Value.bool (decide_eq_false (fun h => by have := h.2.1;contradiction)).symm)
  | skip
 have hs40 : l.length <= 40 := by omega
 refine T.loopS (fun k => k <= l.length /\ okI len (l.take k)) (fun k => l.length - k) (fun k => [(16, .i k), (15, .i (l.map ItemR.row).length), (0, .sl (l.map ItemR.row)), (14, .sl (l.map ItemR.row)), (1, .i len)]) (fun _ => []) 0 ⟨Nat.zero_le _, by simp [okI]⟩ CV .nil ?_
 rintro k ⟨hk, hok⟩
 by_cases hlt : k < l.length
 ·have h1 : (k : Int) < ((l.map ItemR.row).length : Nat) := by omega
  obtain ⟨x, hx⟩ : ∃ x, l[k]? = some x := ⟨l[k], List.getElem?_eq_getElem hlt⟩
  have hb : (l.map ItemR.row)[((k : Nat) : Int).toNat]? = some (ItemR.row x) := by rw [Int.toNat_natCast, List.getElem?_map, hx];rfl
  have hsn : l.take (k + 1) = l.take k ++ [x] := by rw [List.take_add_one, hx];rfl
  repeat' (first | refine W ?_|(apply S.indexR;(iterate 3 exact rfl);exact hb;omega;exact rfl)|(apply S.loadRW;(iterate 4 exact rfl))|refine Zc (U7 x) ?_|refine Zc (Se x len hl) ?_|(apply S.sliceTo;(iterate 3 exact rfl);omega;(intro row hr;obtain ⟨z, _, rfl⟩ := List.mem_map.1 hr;rfl))|(apply S.callV;exact rfl;exact Mo hl hs40 hok (by assumption);exact .cons (.one (.lf _)) (.cons (.fn (.cons (.ptr0 rfl) .nil)) .nil);exact rfl;exact rfl)|refine Za ?_ | refine V ?_|(refine W2 ?_ ?_ <;> intro hc))
  all_goals (try change Next _ _ _ _ _ _)
  all_goals first
   | exact Next.go (k + 1) ⟨by omega, by rw [hsn];exact okI_snoc.2 ⟨hok, ⟨by assumption, by assumption⟩, fun y hy => Classical.byContradiction fun hn => (by assumption : ¬ ∃ y ∈ l.take k, ¬ Bw x y) ⟨y, hy, hn⟩⟩⟩ (by omega) CV .nil
   | exact A7 (by simp) Tryz.results147 rfl (congrArg Value.bool (decide_eq_false (fun h => by
     have h3 := List.take_append_drop (k + 1) l
     have h4 := h.2.2
     rw [<- h3, hsn] at h4
     have h5 := (okI_snoc.1 (Sy h4)).2
     first | exact absurd h5.1.1 (by assumption) | exact absurd h5.1.2 (by assumption) | exact (by assumption : ∃ y ∈ l.take k, ¬ Bw x y).elim fun y hy => hy.2 (h5.2 y hy.1))).symm)
 ·have h1 : ¬ (k : Int) < ((l.map ItemR.row).length : Nat) := by omega
  rw [List.take_of_length_le (by omega)] at hok
  repeat' (first | refine W ?_ | refine V ?_|(refine W2 ?_ ?_ <;> intro hc))
  exact A7 (by simp) Tryz.results147 rfl (congrArg Value.bool (decide_eq_true ⟨hs40, by first | assumption | exact Classical.byContradiction (by assumption), hok⟩).symm)
end Go.Proofs.YtcfjofhapbkmfaaGreatDoor
