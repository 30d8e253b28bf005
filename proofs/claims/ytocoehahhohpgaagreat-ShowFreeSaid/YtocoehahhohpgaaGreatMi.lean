/- Contracts of the functions that say whether a house is valid: names, beams, items, bricks, line sets (the program's side). No conditions but those of each statement. -/
import Derived.Test.YtocoehahhohpgaaGreatMh
set_option linter.unusedSimpArgs false
set_option linter.unusedVariables false
namespace Go.Proofs.YtocoehahhohpgaaGreat
open Go.RowKit
/-! ### Names -/
def Ey (s : ByteArray) : Bool := decide (¬ s = ⟨#[]⟩) && decide ((s.size : Int) <= 20) && (match s[0]? with | some c => decide (Pb c.toNat) | none => false) && decide ((H9 s : Int) = s.size)
theorem A2o {s : ByteArray} (h : ¬ s = ⟨#[]⟩) : 0 < s.size := by
 rcases Nat.eq_zero_or_pos s.size with e | e
 ·exact absurd (by cases s with | mk a => exact congrArg _ (Array.eq_empty_of_size_eq_zero e)) h
 ·exact e
set_option maxHeartbeats 4000000 in
theorem E0 (s : ByteArray) : Fn0 Tryz.prog 79 [.s s] (.b (decide (Ey s = true))) := by
 by_cases h0 : s = ⟨#[]⟩
 ·have h0' : ¬ ¬ s = (⟨#[]⟩ : ByteArray) := fun h => h h0
  refine Fn0.of Tryz.func79 Tryz.ntmps79 rfl rfl rfl ?_
  simp only [A2]
  repeat' (first | refine W ?_ | refine V ?_|(refine W2 ?_ ?_ <;> intro hc))
  all_goals exact A5 (by simp) Tryz.results79 rfl (by simp_all [Ey])
 ·obtain ⟨c, hc, _⟩ := A0h (A2o h0)
  have hb : s[((0 : Int)).toNat]? = some c := hc
  by_cases h1 : (s.size : Int) <= 20
  ·have hw := A6w s (by omega)
   refine Fn0.of Tryz.func79 Tryz.ntmps79 rfl rfl rfl ?_
   simp only [A2]
   repeat' (first | refine W ?_|refine Zc (S5 _) ?_|refine Zc hw ?_|(apply S.byteAt;exact rfl;exact rfl;exact rfl;omega;exact hb) | refine V ?_|(refine W2 ?_ ?_ <;> intro hc))
   all_goals exact A5 (by simp) Tryz.results79 rfl (by simp_all [Ey];try omega)
  ·skip
   refine Fn0.of Tryz.func79 Tryz.ntmps79 rfl rfl rfl ?_
   simp only [A2]
   repeat' (first | refine W ?_ | refine V ?_|(refine W2 ?_ ?_ <;> intro hc))
   all_goals exact A5 (by simp) Tryz.results79 rfl (by simp_all [Ey];try omega)
theorem Zf (s : ByteArray) : Fn0 Tryz.prog 146 [.s s] (.b (decide (Ey s = true))) := by
 refine Fn0.of Tryz.func146 Tryz.ntmps146 rfl rfl rfl ?_
 simp only [A2]
 repeat' (first | refine W ?_|refine Zc (E0 _) ?_ | refine V ?_|(refine W2 ?_ ?_ <;> intro hc))
 all_goals exact A5 (by simp) Tryz.results146 rfl (by rfl)
theorem Zb (n : Int) : Fn0 Tryz.prog 147 [.i n] (.b (decide (0 <= n /\ n <= 1048576))) := by
 refine Fn0.of Tryz.func147 Tryz.ntmps147 rfl rfl rfl ?_
 simp only [A2]
 repeat' (first | refine W ?_ | refine V ?_|(refine W2 ?_ ?_ <;> intro hc))
 all_goals exact A5 (by simp) Tryz.results147 rfl (by simp [*])
theorem F3 (n lo hi : Int) : Fn0 Tryz.prog 100 [.i n, .i lo, .i hi] (.b (decide (lo <= n /\ n <= hi))) := by
 refine Fn0.of Tryz.func100 Tryz.ntmps100 rfl rfl rfl ?_
 simp only [A2]
 repeat' (first | refine W ?_ | refine V ?_|(refine W2 ?_ ?_ <;> intro hc))
 all_goals exact A5 (by simp) Tryz.results100 rfl (by simp [*])

/-! ### Data -/
structure ItemR where
 name : ByteArray
 at_ : Int
 width : Int
 weight : Int
 hang : Int
 front : Int
 back : Int
def ItemR.row (x : ItemR) : List Lf := [.s x.name, .i x.at_, .i x.width, .i x.weight, .i x.hang, .i x.front, .i x.back]
structure BrickR where
 name : ByteArray
 weight : Int
 count : Int
def BrickR.row (x : BrickR) : List Lf := [.s x.name, .i x.weight, .i x.count]
structure SetR where
 name : ByteArray
 depth : Int
 low : Int
 high : Int
 length : Int
 lines : List Int
 pipe : Int
 arbor : Int
 purchase : Int
 most : Int
 brake : Int
 items : List ItemR
 bricks : List BrickR
def A3 (n : Int) : List Lf := [.i n]
def SetR.row (s : SetR) : List Lf := [.s s.name, .i s.depth, .i s.low, .i s.high, .i s.length, .sl (s.lines.map A3), .i s.pipe, .i s.arbor, .i s.purchase, .i s.most, .i s.brake, .sl (s.items.map ItemR.row), .sl (s.bricks.map BrickR.row)]
structure RoofR where
 name : ByteArray
 from_ : Int
 to : Int
 most : Int
def RoofR.row (x : RoofR) : List Lf := [.s x.name, .i x.from_, .i x.to, .i x.most]
structure HouseR where
 name : ByteArray
 height : Int
 sets : List SetR
 roofs : List RoofR
def HouseR.row (h : HouseR) : List Lf := [.s h.name, .i h.height, .sl (h.sets.map SetR.row), .sl (h.roofs.map RoofR.row)]
abbrev A1 (l : List Lf) : AV := .agg (l.map .lf)

/-! ### Items -/
def L9 (x : ItemR) : Prop := Ey x.name = true /\ (0 <= x.weight /\ x.weight <= 1048576) /\ (0 <= x.hang /\ x.hang <= 1048576) /\ (0 <= x.front /\ x.front <= 1048576) /\ (0 <= x.back /\ x.back <= 1048576)
instance (x : ItemR) : Decidable (L9 x) := by unfold L9;exact inferInstance
def H5 (x : ItemR) (length : Int) : Prop := 0 <= x.at_ /\ (1 <= x.width /\ x.width <= 1048576) /\ x.at_ <= length - x.width
instance (x : ItemR) (l : Int) : Decidable (H5 x l) := by unfold H5;exact inferInstance
def Fy (x y : ItemR) : Prop := x.at_ + x.width <= y.at_ \/ y.at_ + y.width <= x.at_
instance (x y : ItemR) : Decidable (Fy x y) := by unfold Fy;exact inferInstance
set_option maxHeartbeats 4000000 in
theorem A50 (x : ItemR) : Fn0 Tryz.prog 172 [A1 x.row] (.b (decide (L9 x))) := by
 refine Fn0.of Tryz.func172 Tryz.ntmps172 rfl rfl rfl ?_
 simp only [A2]
 repeat' (first | refine W ?_|refine Zc (E0 _) ?_|refine Zc (F3 _ _ _) ?_ | refine V ?_|(refine W2 ?_ ?_ <;> intro hc))
 all_goals exact A5 (by simp) Tryz.results172 rfl (by simp only [L9];simp [*])
set_option maxHeartbeats 4000000 in
theorem A2h (x : ItemR) (l : Int) (hl : 0 <= l /\ l <= 1048576) : Fn0 Tryz.prog 173 [A1 x.row, .i l] (.b (decide (H5 x l))) := by
 refine Fn0.of Tryz.func173 Tryz.ntmps173 rfl rfl rfl ?_
 simp only [A2]
 repeat' (first | refine W ?_|refine Zc (F3 _ _ _) ?_|refine Za ?_ | refine V ?_|(refine W2 ?_ ?_ <;> intro hc))
 all_goals exact A5 (by simp) Tryz.results173 rfl (by simp only [H5];simp [*])
set_option maxHeartbeats 4000000 in
theorem A55 (x y : ItemR) (hx : 0 <= x.at_ /\ x.at_ <= 1048576 /\ 0 <= x.width /\ x.width <= 1048576) (hy : 0 <= y.at_ /\ y.at_ <= 1048576 /\ 0 <= y.width /\ y.width <= 1048576) : Fn0 Tryz.prog 176 [A1 x.row, A1 y.row] (.b (decide (Fy x y))) := by
 refine Fn0.of Tryz.func176 Tryz.ntmps176 rfl rfl rfl ?_
 simp only [A2]
 repeat' (first | refine W ?_|refine Za ?_ | refine V ?_|(refine W2 ?_ ?_ <;> intro hc))
 all_goals exact A5 (by simp) Tryz.results176 rfl (by simp only [Fy];simp [*])
theorem A27 (x : ItemR) : Fn0 Tryz.prog 171 [A1 x.row] (.s x.name) := by
 refine Fn0.of Tryz.func171 Tryz.ntmps171 rfl rfl rfl ?_
 simp only [A2]
 repeat' (first | refine W ?_ | refine V ?_|(refine W2 ?_ ?_ <;> intro hc))
 all_goals exact A5 (by simp) Tryz.results171 rfl (by rfl)
theorem Zd (x : BrickR) : Fn0 Tryz.prog 178 [A1 x.row] (.s x.name) := by
 refine Fn0.of Tryz.func178 Tryz.ntmps178 rfl rfl rfl ?_
 simp only [A2]
 repeat' (first | refine W ?_ | refine V ?_|(refine W2 ?_ ?_ <;> intro hc))
 all_goals exact A5 (by simp) Tryz.results178 rfl (by rfl)
set_option maxHeartbeats 4000000 in
theorem A1l (x y : ItemR) (hx : 0 <= x.at_ /\ x.at_ <= 1048576 /\ 0 <= x.width /\ x.width <= 1048576) (hy : 0 <= y.at_ /\ y.at_ <= 1048576 /\ 0 <= y.width /\ y.width <= 1048576) : Fn0 Tryz.prog 175 [A1 y.row, .rop x.row] (.b (decide (¬ Fy x y))) := by
 refine Fn0.of Tryz.func175 Tryz.ntmps175 rfl rfl rfl ?_
 simp only [A2]
 repeat' (first | refine W ?_|refine Zc (A55 x y hx hy) ?_ | refine V ?_|(refine W2 ?_ ?_ <;> intro hc))
 all_goals exact A5 (by simp) Tryz.results175 rfl (by rfl)
theorem A0 : Tryz.prog.follows .mixedOrders = true := by kernel_rfl

/-! ### Names that occur twice -/
def Dk {α : Type} (nm : α -> ByteArray) (l : List α) : List (ByteArray × Value) := l.foldl (fun es x => Fp es (nm x) (.agg #[])) []
theorem A3n (es : List (ByteArray × Value)) (s : ByteArray) (v : Value) : (∀ k, k ∈ (Fp es s v).map (·.1) ↔ k ∈ es.map (·.1) \/ k = s) /\ (s ∈ es.map (·.1) -> (Fp es s v).length = es.length) /\ (s ∉ es.map (·.1) -> (Fp es s v).length = es.length + 1) := by
 induction es with
 | nil => simp [Fp]
 | cons p es ih =>
  obtain ⟨k, u⟩ := p
  obtain ⟨h1, h2, h3⟩ := ih
  by_cases e : k = s
  ·subst e
   simp only [Fp, if_true, List.map_cons, List.mem_cons, List.length_cons]
   exact ⟨fun j => ⟨fun h => .inl h, fun h => h.elim id .inl⟩, fun _ => trivial, fun h => absurd (.inl trivial) h⟩
  ·simp only [Fp, if_neg e, List.map_cons, List.mem_cons, List.length_cons]
   refine ⟨fun j => ?_, fun h => ?_, fun h => ?_⟩
   ·rw [h1 j]
    exact ⟨fun h => h.elim (fun h => .inl (.inl h)) fun h => h.elim (fun h => .inl (.inr h)) .inr, fun h => h.elim (fun h => h.elim .inl fun h => .inr (.inl h)) fun h => .inr (.inr h)⟩
   ·rw [h2 (h.resolve_left fun h => e h.symm)]
   ·rw [h3 fun hm => h (.inr hm)]
theorem O1 {α : Type} (nm : α -> ByteArray) (l : List α) (x : α) : Dk nm (l ++ [x]) = Fp (Dk nm l) (nm x) (.agg #[]) := by simp [Dk]
theorem T4 {β : Type} (l : List β) (x : β) : (l ++ [x]).Nodup ↔ l.Nodup /\ x ∉ l := by
 unfold List.Nodup
 rw [List.pairwise_append]
 constructor
 ·rintro ⟨h1, _, h2⟩
  exact ⟨h1, fun hx => h2 x hx x (by simp) rfl⟩
 ·rintro ⟨h1, h2⟩
  refine ⟨h1, by simp, fun a ha b hb => ?_⟩
  obtain rfl : b = x := by simpa using hb
  exact fun e => h2 (e ▸ ha)
theorem A3a {α : Type} (nm : α -> ByteArray) (l : List α) : (∀ k, k ∈ (Dk nm l).map (·.1) ↔ k ∈ l.map nm) /\ (Dk nm l).length <= l.length /\ ((Dk nm l).length = l.length ↔ (l.map nm).Nodup) := by
 have key : ∀ (m : List α), (∀ k, k ∈ (Dk nm m.reverse).map (·.1) ↔ k ∈ m.reverse.map nm) /\ (Dk nm m.reverse).length <= m.reverse.length /\ ((Dk nm m.reverse).length = m.reverse.length ↔ (m.reverse.map nm).Nodup) := fun m => by
  induction m with
  | nil => simp [Dk]
  | cons x m ih =>
   obtain ⟨h1, h2, h3⟩ := ih
   obtain ⟨g1, g2, g3⟩ := A3n (Dk nm m.reverse) (nm x) (.agg #[])
   rw [List.reverse_cons, O1]
   refine ⟨fun k => by rw [g1 k, h1 k];simp, ?_, ?_⟩
   ·rw [List.length_append];simp only [List.length_singleton]
    by_cases hm : nm x ∈ (Dk nm m.reverse).map (·.1)
    ·rw [g2 hm];omega
    ·rw [g3 hm];omega
   ·rw [List.map_append, List.map_singleton, T4, List.length_append, <- h3]
    simp only [List.length_singleton]
    by_cases hm : nm x ∈ (Dk nm m.reverse).map (·.1)
    ·rw [g2 hm]
     exact ⟨fun h => by omega, fun ⟨_, h⟩ => absurd ((h1 _).1 hm) h⟩
    ·rw [g3 hm]
     exact ⟨fun h => ⟨by omega, fun h => hm ((h1 _).2 h)⟩, fun ⟨h, _⟩ => by omega⟩
 have := key l.reverse
 rwa [List.reverse_reverse] at this
theorem A0j {α : Type} (nm : α -> ByteArray) (l : List α) : decide (((Dk nm l).length : Int) < l.length) = decide (¬ (l.map nm).Nodup) := by
 obtain ⟨_, h2, h3⟩ := A3a nm l
 by_cases h : (l.map nm).Nodup
 ·have e := h3.2 h
  rw [decide_eq_false (by omega), decide_eq_false (fun hn => hn h)]
 ·have e : (Dk nm l).length ≠ l.length := fun e => h (h3.1 e)
  rw [decide_eq_true (by omega), decide_eq_true h]
set_option maxHeartbeats 4000000 in
theorem A5i {α : Type} (l : List α) (R : α -> List Lf) (nm : α -> ByteArray) (g : FuncId) (caps : List AV) (hR : ∀ x, (R x).length = 7) (h1c : ∀ x, ((R x).map AV.lf).all AV.one = true) (hl : l.length <= 9223372036854775807) (hcaps : caps.all AV.cap = true) (hg : ∀ x ∈ l, Fn0 Tryz.prog g (.agg ((R x).map .lf) :: caps) (.s (nm x))) :
  Fn0 Tryz.prog 170 [.sl (l.map R), .fn (.func g) [] caps] (.b (decide (¬ (l.map nm).Nodup))) := by
 have hle : (l.map R).length = l.length := List.length_map _
 refine Fn0.of Tryz.func170 Tryz.ntmps170 rfl rfl rfl ?_
 simp only [A2]
 repeat' (first | refine W ?_|(apply S.makeMap;exact rfl;exact rfl) | refine V ?_|(refine W2 ?_ ?_ <;> intro hc))
 refine T.loopS (fun k => k <= l.length) (fun k => l.length - k) (fun k => [(11, .i k), (10, .i (l.map R).length), (0, .sl (l.map R)), (9, .sl (l.map R)), (5, .mp 0), (1, .fn (.func g) [] caps)]) (fun k => [.map (R5 (Dk nm (l.take k)))]) 0 (Nat.zero_le _) (.cons rfl rfl (.cons rfl rfl (.cons rfl rfl (.cons rfl rfl (.cons rfl rfl (.cons rfl (B0 hcaps) .nil)))))) (.map .nil) ?_
 intro k hk
 by_cases hlt : k < l.length
 ·have h1 : (k : Int) < ((l.map R).length : Nat) := by omega
  obtain ⟨x, hx⟩ : ∃ x, l[k]? = some x := ⟨l[k], List.getElem?_eq_getElem hlt⟩
  have hb : (l.map R)[((k : Nat) : Int).toNat]? = some (R x) := by rw [Int.toNat_natCast, List.getElem?_map, hx];rfl
  have hx2 := hg x (List.mem_of_getElem? hx)
  have hsn : Dk nm (l.take (k + 1)) = Fp (Dk nm (l.take k)) (nm x) (.agg #[]) := by rw [List.take_add_one, hx];exact O1 nm _ x
  obtain ⟨row, hrow⟩ : ∃ row, R x = row := ⟨_, rfl⟩
  have hlen := hR x
  have hone := h1c x
  rw [hrow] at hb hx2 hlen hone
  match row, hlen, hone with
  | [a1, a2, a3, a4, a5, a6, a7], _, hone =>
   repeat' (first | refine W ?_|refine Zi hb ?_|(apply S.loadRW;(iterate 4 exact rfl))|(apply S.callF;exact rfl;exact rfl;exact hx2;exact Es (row := [a1, a2, a3, a4, a5, a6, a7]) hcaps;exact rfl)|(apply S.store;(iterate 4 exact rfl);exact hone;exact rfl;exact rfl)|(apply S.mapUpdate;(iterate 5 exact rfl))|refine Za ?_ | refine V ?_|(refine W2 ?_ ?_ <;> intro hc))
   change Next _ _ _ _ _ _
   exact Next.go (k + 1) (by omega) (by omega) (.cons rfl rfl (.cons rfl rfl (.cons rfl rfl (.cons rfl rfl (.cons rfl rfl (.cons rfl (B0 hcaps) .nil)))))) (by show CovH _ _ [.map (R5 (Dk nm (l.take (k + 1))))];rw [hsn];exact .map .nil)
 ·have h1 : ¬ (k : Int) < ((l.map R).length : Nat) := by omega
  have hk2 : l.take k = l := List.take_of_length_le (by omega)
  repeat' (first | refine W ?_|(apply S.mapLen;exact rfl;exact rfl;exact rfl) | refine V ?_|(refine W2 ?_ ?_ <;> intro hc))
  exact A5 (by simp) Tryz.results170 rfl (by rw [hk2, hle, Y3];exact congrArg Value.bool (A0j nm l))
set_option maxHeartbeats 4000000 in
theorem A1t {α : Type} (l : List α) (R : α -> List Lf) (nm : α -> ByteArray) (g : FuncId) (caps : List AV) (hR : ∀ x, (R x).length = 3) (h1c : ∀ x, ((R x).map AV.lf).all AV.one = true) (hl : l.length <= 9223372036854775807) (hcaps : caps.all AV.cap = true) (hg : ∀ x ∈ l, Fn0 Tryz.prog g (.agg ((R x).map .lf) :: caps) (.s (nm x))) :
  Fn0 Tryz.prog 177 [.sl (l.map R), .fn (.func g) [] caps] (.b (decide (¬ (l.map nm).Nodup))) := by
 have hle : (l.map R).length = l.length := List.length_map _
 refine Fn0.of Tryz.func177 Tryz.ntmps177 rfl rfl rfl ?_
 simp only [A2]
 repeat' (first | refine W ?_|(apply S.makeMap;exact rfl;exact rfl) | refine V ?_|(refine W2 ?_ ?_ <;> intro hc))
 refine T.loopS (fun k => k <= l.length) (fun k => l.length - k) (fun k => [(11, .i k), (10, .i (l.map R).length), (0, .sl (l.map R)), (9, .sl (l.map R)), (5, .mp 0), (1, .fn (.func g) [] caps)]) (fun k => [.map (R5 (Dk nm (l.take k)))]) 0 (Nat.zero_le _) (.cons rfl rfl (.cons rfl rfl (.cons rfl rfl (.cons rfl rfl (.cons rfl rfl (.cons rfl (B0 hcaps) .nil)))))) (.map .nil) ?_
 intro k hk
 by_cases hlt : k < l.length
 ·have h1 : (k : Int) < ((l.map R).length : Nat) := by omega
  obtain ⟨x, hx⟩ : ∃ x, l[k]? = some x := ⟨l[k], List.getElem?_eq_getElem hlt⟩
  have hb : (l.map R)[((k : Nat) : Int).toNat]? = some (R x) := by rw [Int.toNat_natCast, List.getElem?_map, hx];rfl
  have hx2 := hg x (List.mem_of_getElem? hx)
  have hsn : Dk nm (l.take (k + 1)) = Fp (Dk nm (l.take k)) (nm x) (.agg #[]) := by rw [List.take_add_one, hx];exact O1 nm _ x
  obtain ⟨row, hrow⟩ : ∃ row, R x = row := ⟨_, rfl⟩
  have hlen := hR x
  have hone := h1c x
  rw [hrow] at hb hx2 hlen hone
  match row, hlen, hone with
  | [a1, a2, a3], _, hone =>
   repeat' (first | refine W ?_|refine Zi hb ?_|(apply S.loadRW;(iterate 4 exact rfl))|(apply S.callF;exact rfl;exact rfl;exact hx2;exact Es (row := [a1, a2, a3]) hcaps;exact rfl)|(apply S.store;(iterate 4 exact rfl);exact hone;exact rfl;exact rfl)|(apply S.mapUpdate;(iterate 5 exact rfl))|refine Za ?_ | refine V ?_|(refine W2 ?_ ?_ <;> intro hc))
   change Next _ _ _ _ _ _
   exact Next.go (k + 1) (by omega) (by omega) (.cons rfl rfl (.cons rfl rfl (.cons rfl rfl (.cons rfl rfl (.cons rfl rfl (.cons rfl (B0 hcaps) .nil)))))) (by show CovH _ _ [.map (R5 (Dk nm (l.take (k + 1))))];rw [hsn];exact .map .nil)
 ·have h1 : ¬ (k : Int) < ((l.map R).length : Nat) := by omega
  have hk2 : l.take k = l := List.take_of_length_le (by omega)
  repeat' (first | refine W ?_|(apply S.mapLen;exact rfl;exact rfl;exact rfl) | refine V ?_|(refine W2 ?_ ?_ <;> intro hc))
  exact A5 (by simp) Tryz.results177 rfl (by rw [hk2, hle, Y3];exact congrArg Value.bool (A0j nm l))

/-! ### Lists of items -/
def okI (len : Int) (m : List ItemR) : Prop := (∀ x ∈ m, L9 x /\ H5 x len) /\ m.Pairwise fun y x => Fy x y
def Yf (l : List ItemR) (len : Int) : Prop := l.length <= 40 /\ (l.map ItemR.name).Nodup /\ okI len l
noncomputable instance (l : List ItemR) (len : Int) : Decidable (Yf l len) := Classical.propDecidable _
theorem okI_snoc {len : Int} {m : List ItemR} {x : ItemR} : okI len (m ++ [x]) ↔ okI len m /\ (L9 x /\ H5 x len) /\ ∀ y ∈ m, Fy x y := by
 unfold okI
 rw [List.pairwise_append]
 constructor
 ·rintro ⟨h1, h2, _, h3⟩
  exact ⟨⟨fun y hy => h1 y (by simp [hy]), h2⟩, h1 x (by simp), fun y hy => h3 y hy x (by simp)⟩
 ·rintro ⟨⟨h1, h2⟩, h3, h4⟩
  refine ⟨fun y hy => ?_, h2, by simp, fun y hy z hz => ?_⟩
  ·rcases List.mem_append.1 hy with h | h
   ·exact h1 y h
   ·obtain rfl : y = x := by simpa using h
    exact h3
  ·obtain rfl : z = x := by simpa using hz
   exact h4 y hy
theorem A2j {len : Int} {a b : List ItemR} (h : okI len (a ++ b)) : okI len a := by
 unfold okI at h ⊢
 rw [List.pairwise_append] at h
 exact ⟨fun x hx => h.1 x (by simp [hx]), h.2.1⟩
theorem Nb {x : ItemR} {len : Int} (hl : 0 <= len /\ len <= 1048576) (h : H5 x len) : 0 <= x.at_ /\ x.at_ <= 1048576 /\ 0 <= x.width /\ x.width <= 1048576 := by
 obtain ⟨h1, h2, h3⟩ := h
 omega
theorem Tj {l : List ItemR} {k : Nat} {x : ItemR} {len : Int} (hl : 0 <= len /\ len <= 1048576) (hs : l.length <= 40) (hok : okI len (l.take k)) (hx : H5 x len) :
  Fn0 Tryz.prog 174 [.sl ((l.map ItemR.row).take ((k : Nat) : Int).toNat), .fn (.func 175) [] [.rop x.row]] (.b (decide (∃ y ∈ l.take k, ¬ Fy x y))) := by
 rw [Int.toNat_natCast, <- List.map_take]
 refine Qx (l.take k) ItemR.row (fun y => ¬ Fy x y) _ _ (fun _ => rfl) (by simp;omega) rfl fun y hy => ?_
 exact A1l x y (Nb hl hx) (Nb hl (hok.1 y hy).2)
set_option maxHeartbeats 4000000 in
theorem A5x (l : List ItemR) (len : Int) (hl : 0 <= len /\ len <= 1048576) (hs : l.length <= 9223372036854775807) : Fn0 Tryz.prog 102 [.sl (l.map ItemR.row), .i len] (.b (decide (Yf l len))) := by
 have htw := A5i l ItemR.row ItemR.name 171 [] (fun _ => rfl) (fun _ => rfl) hs rfl fun x _ => A27 x
 have hle : (l.map ItemR.row).length = l.length := List.length_map _
 refine Fn0.of Tryz.func102 Tryz.ntmps102 rfl rfl rfl ?_
 simp only [A2]
 repeat' (first | refine W ?_|refine Zc htw ?_ | refine V ?_|(refine W2 ?_ ?_ <;> intro hc))
 all_goals first
  | exact A5 (by simp) Tryz.results102 rfl (congrArg Value.bool (decide_eq_false (fun h => by have := h.1;omega)).symm)
  | exact A5 (by simp) Tryz.results102 rfl (congrArg Value.bool (decide_eq_false (fun h => by have := h.2.1;contradiction)).symm)
  | skip
 have hs40 : l.length <= 40 := by omega
 refine T.loopS (fun k => k <= l.length /\ okI len (l.take k)) (fun k => l.length - k) (fun k => [(16, .i k), (15, .i (l.map ItemR.row).length), (0, .sl (l.map ItemR.row)), (14, .sl (l.map ItemR.row)), (1, .i len)]) (fun _ => []) 0 ⟨Nat.zero_le _, by simp [okI]⟩ CV .nil ?_
 rintro k ⟨hk, hok⟩
 by_cases hlt : k < l.length
 ·have h1 : (k : Int) < ((l.map ItemR.row).length : Nat) := by omega
  obtain ⟨x, hx⟩ : ∃ x, l[k]? = some x := ⟨l[k], List.getElem?_eq_getElem hlt⟩
  have hb : (l.map ItemR.row)[((k : Nat) : Int).toNat]? = some (ItemR.row x) := by rw [Int.toNat_natCast, List.getElem?_map, hx];rfl
  have hsn : l.take (k + 1) = l.take k ++ [x] := by rw [List.take_add_one, hx];rfl
  repeat' (first | refine W ?_|refine Zi hb ?_|(apply S.loadRW;(iterate 4 exact rfl))|refine Zc (A50 x) ?_|refine Zc (A2h x len hl) ?_|(apply S.sliceTo;exact rfl;exact rfl;exact rfl;omega;(intro row hr;obtain ⟨z, _, rfl⟩ := List.mem_map.1 hr;rfl))|(apply S.callV;exact rfl;exact Tj hl hs40 hok (by assumption);exact .cons (.one (.lf _)) (.cons (.fn (.cons (.ptr0 rfl) .nil)) .nil);exact rfl;exact rfl)|refine Za ?_ | refine V ?_|(refine W2 ?_ ?_ <;> intro hc))
  all_goals (try change Next _ _ _ _ _ _)
  all_goals first
   | exact Next.go (k + 1) ⟨by omega, by rw [hsn];exact okI_snoc.2 ⟨hok, ⟨by assumption, by assumption⟩, fun y hy => Classical.byContradiction fun hn => (by assumption : ¬ ∃ y ∈ l.take k, ¬ Fy x y) ⟨y, hy, hn⟩⟩⟩ (by omega) CV .nil
   | exact A5 (by simp) Tryz.results102 rfl (congrArg Value.bool (decide_eq_false (fun h => by
     have h3 := List.take_append_drop (k + 1) l
     have h4 := h.2.2
     rw [<- h3, hsn] at h4
     have h5 := (okI_snoc.1 (A2j h4)).2
     first | exact absurd h5.1.1 (by assumption) | exact absurd h5.1.2 (by assumption) | exact (by assumption : ∃ y ∈ l.take k, ¬ Fy x y).elim fun y hy => hy.2 (h5.2 y hy.1))).symm)
 ·have h1 : ¬ (k : Int) < ((l.map ItemR.row).length : Nat) := by omega
  rw [List.take_of_length_le (by omega)] at hok
  repeat' (first | refine W ?_ | refine V ?_|(refine W2 ?_ ?_ <;> intro hc))
  exact A5 (by simp) Tryz.results102 rfl (congrArg Value.bool (decide_eq_true ⟨hs40, by first | assumption | exact Classical.byContradiction (by assumption), hok⟩).symm)
end Go.Proofs.YtocoehahhohpgaaGreat
