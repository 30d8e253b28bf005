/- Contracts of the functions that say whether a house is valid: names, beams, items, bricks, line sets (the program's side). No conditions but those of each statement. -/
import Derived.Test.YtcbfnkgodiaiiaaGreatMh
set_option linter.unusedSimpArgs false
set_option linter.unusedVariables false
namespace Go.Proofs.YtcbfnkgodiaiiaaGreat
open Go.RowKit
/-! ### Names -/
def F0 (s : ByteArray) : Bool := decide (¬ s = ⟨#[]⟩) && decide ((s.size : Int) <= 20) && (match s[0]? with | some c => decide (Pp c.toNat) | none => false) && decide ((Hn s : Int) = s.size)
theorem A3q {s : ByteArray} (h : ¬ s = ⟨#[]⟩) : 0 < s.size := by
 rcases Nat.eq_zero_or_pos s.size with e | e
 ·exact absurd (by cases s with | mk a => exact congrArg _ (Array.eq_empty_of_size_eq_zero e)) h
 ·exact e
set_option maxHeartbeats 4000000 in
theorem E2 (s : ByteArray) : Fn0 Tryz.prog 140 [.s s] (.b (decide (F0 s = true))) := by
 by_cases h0 : s = ⟨#[]⟩
 ·have h0' : ¬ ¬ s = (⟨#[]⟩ : ByteArray) := fun h => h h0
  refine Fn0.of Tryz.func140 Tryz.ntmps140 rfl rfl rfl ?_
  simp only [A2]
  repeat' (first | refine W ?_ | refine V ?_|(refine W2 ?_ ?_ <;> intro hc))
  all_goals exact A5 (by simp) Tryz.results140 rfl (by simp_all [F0])
 ·obtain ⟨c, hc, _⟩ := A1e (A3q h0)
  have hb : s[((0 : Int)).toNat]? = some c := hc
  by_cases h1 : (s.size : Int) <= 20
  ·have hw := A9u s (by omega)
   refine Fn0.of Tryz.func140 Tryz.ntmps140 rfl rfl rfl ?_
   simp only [A2]
   repeat' (first | refine W ?_|refine Zc (T1 _) ?_|refine Zc hw ?_|(apply S.byteAt;exact rfl;exact rfl;exact rfl;omega;exact hb) | refine V ?_|(refine W2 ?_ ?_ <;> intro hc))
   all_goals exact A5 (by simp) Tryz.results140 rfl (by simp_all [F0];try omega)
  ·skip
   refine Fn0.of Tryz.func140 Tryz.ntmps140 rfl rfl rfl ?_
   simp only [A2]
   repeat' (first | refine W ?_ | refine V ?_|(refine W2 ?_ ?_ <;> intro hc))
   all_goals exact A5 (by simp) Tryz.results140 rfl (by simp_all [F0];try omega)
theorem A0a (s : ByteArray) : Fn0 Tryz.prog 225 [.s s] (.b (decide (F0 s = true))) := by
 refine Fn0.of Tryz.func225 Tryz.ntmps225 rfl rfl rfl ?_
 simp only [A2]
 repeat' (first | refine W ?_|refine Zc (E2 _) ?_ | refine V ?_|(refine W2 ?_ ?_ <;> intro hc))
 all_goals exact A5 (by simp) Tryz.results225 rfl (by rfl)
theorem Zy (n : Int) : Fn0 Tryz.prog 226 [.i n] (.b (decide (0 <= n /\ n <= 1048576))) := by
 refine Fn0.of Tryz.func226 Tryz.ntmps226 rfl rfl rfl ?_
 simp only [A2]
 repeat' (first | refine W ?_ | refine V ?_|(refine W2 ?_ ?_ <;> intro hc))
 all_goals exact A5 (by simp) Tryz.results226 rfl (by simp [*])
theorem Fe (n lo hi : Int) : Fn0 Tryz.prog 174 [.i n, .i lo, .i hi] (.b (decide (lo <= n /\ n <= hi))) := by
 refine Fn0.of Tryz.func174 Tryz.ntmps174 rfl rfl rfl ?_
 simp only [A2]
 repeat' (first | refine W ?_ | refine V ?_|(refine W2 ?_ ?_ <;> intro hc))
 all_goals exact A5 (by simp) Tryz.results174 rfl (by simp [*])

/-! ### Data -/
structure ItemR where
 name : ByteArray
 at_ : Int
 width : Int
 weight : Int
 hang : Int
 front : Int
 back : Int
def ItemR.row (x : ItemR) : List Lf := [.s x.name, .i x.at_, .i x.width, .i x.weight, .i x.hang, .i x.front, .i x.back]
structure BrickR where
 name : ByteArray
 weight : Int
 count : Int
def BrickR.row (x : BrickR) : List Lf := [.s x.name, .i x.weight, .i x.count]
structure SetR where
 name : ByteArray
 depth : Int
 low : Int
 high : Int
 length : Int
 lines : List Int
 pipe : Int
 arbor : Int
 purchase : Int
 most : Int
 brake : Int
 items : List ItemR
 bricks : List BrickR
def A3 (n : Int) : List Lf := [.i n]
def SetR.row (s : SetR) : List Lf := [.s s.name, .i s.depth, .i s.low, .i s.high, .i s.length, .sl (s.lines.map A3), .i s.pipe, .i s.arbor, .i s.purchase, .i s.most, .i s.brake, .sl (s.items.map ItemR.row), .sl (s.bricks.map BrickR.row)]
structure RoofR where
 name : ByteArray
 from_ : Int
 to : Int
 most : Int
def RoofR.row (x : RoofR) : List Lf := [.s x.name, .i x.from_, .i x.to, .i x.most]
structure HouseR where
 name : ByteArray
 height : Int
 sets : List SetR
 roofs : List RoofR
def HouseR.row (h : HouseR) : List Lf := [.s h.name, .i h.height, .sl (h.sets.map SetR.row), .sl (h.roofs.map RoofR.row)]
abbrev A1 (l : List Lf) : AV := .agg (l.map .lf)

/-! ### Items -/
def Ll (x : ItemR) : Prop := F0 x.name = true /\ (0 <= x.weight /\ x.weight <= 1048576) /\ (0 <= x.hang /\ x.hang <= 1048576) /\ (0 <= x.front /\ x.front <= 1048576) /\ (0 <= x.back /\ x.back <= 1048576)
instance (x : ItemR) : Decidable (Ll x) := by unfold Ll;exact inferInstance
def He (x : ItemR) (length : Int) : Prop := 0 <= x.at_ /\ (1 <= x.width /\ x.width <= 1048576) /\ x.at_ <= length - x.width
instance (x : ItemR) (l : Int) : Decidable (He x l) := by unfold He;exact inferInstance
def Fv (x y : ItemR) : Prop := x.at_ + x.width <= y.at_ \/ y.at_ + y.width <= x.at_
instance (x y : ItemR) : Decidable (Fv x y) := by unfold Fv;exact inferInstance
set_option maxHeartbeats 4000000 in
theorem A4i (x : ItemR) : Fn0 Tryz.prog 238 [A1 x.row] (.b (decide (Ll x))) := by
 refine Fn0.of Tryz.func238 Tryz.ntmps238 rfl rfl rfl ?_
 simp only [A2]
 repeat' (first | refine W ?_|refine Zc (E2 _) ?_|refine Zc (Fe _ _ _) ?_ | refine V ?_|(refine W2 ?_ ?_ <;> intro hc))
 all_goals exact A5 (by simp) Tryz.results238 rfl (by simp only [Ll];simp [*])
set_option maxHeartbeats 4000000 in
theorem A3d (x : ItemR) (l : Int) (hl : 0 <= l /\ l <= 1048576) : Fn0 Tryz.prog 239 [A1 x.row, .i l] (.b (decide (He x l))) := by
 refine Fn0.of Tryz.func239 Tryz.ntmps239 rfl rfl rfl ?_
 simp only [A2]
 repeat' (first | refine W ?_|refine Zc (Fe _ _ _) ?_|refine Za ?_ | refine V ?_|(refine W2 ?_ ?_ <;> intro hc))
 all_goals exact A5 (by simp) Tryz.results239 rfl (by simp only [He];simp [*])
set_option maxHeartbeats 4000000 in
theorem A7g (x y : ItemR) (hx : 0 <= x.at_ /\ x.at_ <= 1048576 /\ 0 <= x.width /\ x.width <= 1048576) (hy : 0 <= y.at_ /\ y.at_ <= 1048576 /\ 0 <= y.width /\ y.width <= 1048576) : Fn0 Tryz.prog 242 [A1 x.row, A1 y.row] (.b (decide (Fv x y))) := by
 refine Fn0.of Tryz.func242 Tryz.ntmps242 rfl rfl rfl ?_
 simp only [A2]
 repeat' (first | refine W ?_|refine Za ?_ | refine V ?_|(refine W2 ?_ ?_ <;> intro hc))
 all_goals exact A5 (by simp) Tryz.results242 rfl (by simp only [Fv];simp [*])
theorem A3k (x : ItemR) : Fn0 Tryz.prog 237 [A1 x.row] (.s x.name) := by
 refine Fn0.of Tryz.func237 Tryz.ntmps237 rfl rfl rfl ?_
 simp only [A2]
 repeat' (first | refine W ?_ | refine V ?_|(refine W2 ?_ ?_ <;> intro hc))
 all_goals exact A5 (by simp) Tryz.results237 rfl (by rfl)
theorem Zp (x : BrickR) : Fn0 Tryz.prog 244 [A1 x.row] (.s x.name) := by
 refine Fn0.of Tryz.func244 Tryz.ntmps244 rfl rfl rfl ?_
 simp only [A2]
 repeat' (first | refine W ?_ | refine V ?_|(refine W2 ?_ ?_ <;> intro hc))
 all_goals exact A5 (by simp) Tryz.results244 rfl (by rfl)
set_option maxHeartbeats 4000000 in
theorem A2s (x y : ItemR) (hx : 0 <= x.at_ /\ x.at_ <= 1048576 /\ 0 <= x.width /\ x.width <= 1048576) (hy : 0 <= y.at_ /\ y.at_ <= 1048576 /\ 0 <= y.width /\ y.width <= 1048576) : Fn0 Tryz.prog 241 [A1 y.row, .rop x.row] (.b (decide (¬ Fv x y))) := by
 refine Fn0.of Tryz.func241 Tryz.ntmps241 rfl rfl rfl ?_
 simp only [A2]
 repeat' (first | refine W ?_|refine Zc (A7g x y hx hy) ?_ | refine V ?_|(refine W2 ?_ ?_ <;> intro hc))
 all_goals exact A5 (by simp) Tryz.results241 rfl (by rfl)
theorem A0 : Tryz.prog.follows .mixedOrders = true := by kernel_rfl

/-! ### Names that occur twice -/
def Dp {α : Type} (nm : α -> ByteArray) (l : List α) : List (ByteArray × Value) := l.foldl (fun es x => Fw es (nm x) (.agg #[])) []
theorem A7b (es : List (ByteArray × Value)) (s : ByteArray) (v : Value) : (∀ k, k ∈ (Fw es s v).map (·.1) ↔ k ∈ es.map (·.1) \/ k = s) /\ (s ∈ es.map (·.1) -> (Fw es s v).length = es.length) /\ (s ∉ es.map (·.1) -> (Fw es s v).length = es.length + 1) := by
 induction es with
 | nil => simp [Fw]
 | cons p es ih =>
  obtain ⟨k, u⟩ := p
  obtain ⟨h1, h2, h3⟩ := ih
  by_cases e : k = s
  ·subst e
   simp only [Fw, if_true, List.map_cons, List.mem_cons, List.length_cons]
   exact ⟨fun j => ⟨fun h => .inl h, fun h => h.elim id .inl⟩, fun _ => trivial, fun h => absurd (.inl trivial) h⟩
  ·simp only [Fw, if_neg e, List.map_cons, List.mem_cons, List.length_cons]
   refine ⟨fun j => ?_, fun h => ?_, fun h => ?_⟩
   ·rw [h1 j]
    exact ⟨fun h => h.elim (fun h => .inl (.inl h)) fun h => h.elim (fun h => .inl (.inr h)) .inr, fun h => h.elim (fun h => h.elim .inl fun h => .inr (.inl h)) fun h => .inr (.inr h)⟩
   ·rw [h2 (h.resolve_left fun h => e h.symm)]
   ·rw [h3 fun hm => h (.inr hm)]
theorem P9 {α : Type} (nm : α -> ByteArray) (l : List α) (x : α) : Dp nm (l ++ [x]) = Fw (Dp nm l) (nm x) (.agg #[]) := by simp [Dp]
theorem Sn {β : Type} (l : List β) (x : β) : (l ++ [x]).Nodup ↔ l.Nodup /\ x ∉ l := by
 unfold List.Nodup
 rw [List.pairwise_append]
 constructor
 ·rintro ⟨h1, _, h2⟩
  exact ⟨h1, fun hx => h2 x hx x (by simp) rfl⟩
 ·rintro ⟨h1, h2⟩
  refine ⟨h1, by simp, fun a ha b hb => ?_⟩
  obtain rfl : b = x := by simpa using hb
  exact fun e => h2 (e ▸ ha)
theorem A5z {α : Type} (nm : α -> ByteArray) (l : List α) : (∀ k, k ∈ (Dp nm l).map (·.1) ↔ k ∈ l.map nm) /\ (Dp nm l).length <= l.length /\ ((Dp nm l).length = l.length ↔ (l.map nm).Nodup) := by
 have key : ∀ (m : List α), (∀ k, k ∈ (Dp nm m.reverse).map (·.1) ↔ k ∈ m.reverse.map nm) /\ (Dp nm m.reverse).length <= m.reverse.length /\ ((Dp nm m.reverse).length = m.reverse.length ↔ (m.reverse.map nm).Nodup) := fun m => by
  induction m with
  | nil => simp [Dp]
  | cons x m ih =>
   obtain ⟨h1, h2, h3⟩ := ih
   obtain ⟨g1, g2, g3⟩ := A7b (Dp nm m.reverse) (nm x) (.agg #[])
   rw [List.reverse_cons, P9]
   refine ⟨fun k => by rw [g1 k, h1 k];simp, ?_, ?_⟩
   ·rw [List.length_append];simp only [List.length_singleton]
    by_cases hm : nm x ∈ (Dp nm m.reverse).map (·.1)
    ·rw [g2 hm];omega
    ·rw [g3 hm];omega
   ·rw [List.map_append, List.map_singleton, Sn, List.length_append, <- h3]
    simp only [List.length_singleton]
    by_cases hm : nm x ∈ (Dp nm m.reverse).map (·.1)
    ·rw [g2 hm]
     exact ⟨fun h => by omega, fun ⟨_, h⟩ => absurd ((h1 _).1 hm) h⟩
    ·rw [g3 hm]
     exact ⟨fun h => ⟨by omega, fun h => hm ((h1 _).2 h)⟩, fun ⟨h, _⟩ => by omega⟩
 have := key l.reverse
 rwa [List.reverse_reverse] at this
theorem A0q {α : Type} (nm : α -> ByteArray) (l : List α) : decide (((Dp nm l).length : Int) < l.length) = decide (¬ (l.map nm).Nodup) := by
 obtain ⟨_, h2, h3⟩ := A5z nm l
 by_cases h : (l.map nm).Nodup
 ·have e := h3.2 h
  rw [decide_eq_false (by omega), decide_eq_false (fun hn => hn h)]
 ·have e : (Dp nm l).length ≠ l.length := fun e => h (h3.1 e)
  rw [decide_eq_true (by omega), decide_eq_true h]
set_option maxHeartbeats 4000000 in
theorem A59 {α : Type} (l : List α) (R : α -> List Lf) (nm : α -> ByteArray) (g : FuncId) (caps : List AV) (hR : ∀ x, (R x).length = 7) (h1c : ∀ x, ((R x).map AV.lf).all AV.one = true) (hl : l.length <= 9223372036854775807) (hcaps : caps.all AV.cap = true) (hg : ∀ x ∈ l, Fn0 Tryz.prog g (.agg ((R x).map .lf) :: caps) (.s (nm x))) :
  Fn0 Tryz.prog 236 [.sl (l.map R), .fn (.func g) [] caps] (.b (decide (¬ (l.map nm).Nodup))) := by
 have hle : (l.map R).length = l.length := List.length_map _
 refine Fn0.of Tryz.func236 Tryz.ntmps236 rfl rfl rfl ?_
 simp only [A2]
 repeat' (first | refine W ?_|(apply S.makeMap;exact rfl;exact rfl) | refine V ?_|(refine W2 ?_ ?_ <;> intro hc))
 refine T.loopS (fun k => k <= l.length) (fun k => l.length - k) (fun k => [(11, .i k), (10, .i (l.map R).length), (0, .sl (l.map R)), (9, .sl (l.map R)), (5, .mp 0), (1, .fn (.func g) [] caps)]) (fun k => [.map (Rh (Dp nm (l.take k)))]) 0 (Nat.zero_le _) (.cons rfl rfl (.cons rfl rfl (.cons rfl rfl (.cons rfl rfl (.cons rfl rfl (.cons rfl (Bg hcaps) .nil)))))) (.map .nil) ?_
 intro k hk
 by_cases hlt : k < l.length
 ·have h1 : (k : Int) < ((l.map R).length : Nat) := by omega
  obtain ⟨x, hx⟩ : ∃ x, l[k]? = some x := ⟨l[k], List.getElem?_eq_getElem hlt⟩
  have hb : (l.map R)[((k : Nat) : Int).toNat]? = some (R x) := by rw [Int.toNat_natCast, List.getElem?_map, hx];rfl
  have hx2 := hg x (List.mem_of_getElem? hx)
  have hsn : Dp nm (l.take (k + 1)) = Fw (Dp nm (l.take k)) (nm x) (.agg #[]) := by rw [List.take_add_one, hx];exact P9 nm _ x
  obtain ⟨row, hrow⟩ : ∃ row, R x = row := ⟨_, rfl⟩
  have hlen := hR x
  have hone := h1c x
  rw [hrow] at hb hx2 hlen hone
  match row, hlen, hone with
  | [a1, a2, a3, a4, a5, a6, a7], _, hone =>
   repeat' (first | refine W ?_|refine Zi hb ?_|(apply S.loadRW;(iterate 4 exact rfl))|(apply S.callF;exact rfl;exact rfl;exact hx2;exact G5 (row := [a1, a2, a3, a4, a5, a6, a7]) hcaps;exact rfl)|(apply S.store;(iterate 4 exact rfl);exact hone;exact rfl;exact rfl)|(apply S.mapUpdate;(iterate 5 exact rfl))|refine Za ?_ | refine V ?_|(refine W2 ?_ ?_ <;> intro hc))
   change Next _ _ _ _ _ _
   exact Next.go (k + 1) (by omega) (by omega) (.cons rfl rfl (.cons rfl rfl (.cons rfl rfl (.cons rfl rfl (.cons rfl rfl (.cons rfl (Bg hcaps) .nil)))))) (by show CovH _ _ [.map (Rh (Dp nm (l.take (k + 1))))];rw [hsn];exact .map .nil)
 ·have h1 : ¬ (k : Int) < ((l.map R).length : Nat) := by omega
  have hk2 : l.take k = l := List.take_of_length_le (by omega)
  repeat' (first | refine W ?_|(apply S.mapLen;exact rfl;exact rfl;exact rfl) | refine V ?_|(refine W2 ?_ ?_ <;> intro hc))
  exact A5 (by simp) Tryz.results236 rfl (by rw [hk2, hle, Z7];exact congrArg Value.bool (A0q nm l))
set_option maxHeartbeats 4000000 in
theorem A2t {α : Type} (l : List α) (R : α -> List Lf) (nm : α -> ByteArray) (g : FuncId) (caps : List AV) (hR : ∀ x, (R x).length = 3) (h1c : ∀ x, ((R x).map AV.lf).all AV.one = true) (hl : l.length <= 9223372036854775807) (hcaps : caps.all AV.cap = true) (hg : ∀ x ∈ l, Fn0 Tryz.prog g (.agg ((R x).map .lf) :: caps) (.s (nm x))) :
  Fn0 Tryz.prog 243 [.sl (l.map R), .fn (.func g) [] caps] (.b (decide (¬ (l.map nm).Nodup))) := by
 have hle : (l.map R).length = l.length := List.length_map _
 refine Fn0.of Tryz.func243 Tryz.ntmps243 rfl rfl rfl ?_
 simp only [A2]
 repeat' (first | refine W ?_|(apply S.makeMap;exact rfl;exact rfl) | refine V ?_|(refine W2 ?_ ?_ <;> intro hc))
 refine T.loopS (fun k => k <= l.length) (fun k => l.length - k) (fun k => [(11, .i k), (10, .i (l.map R).length), (0, .sl (l.map R)), (9, .sl (l.map R)), (5, .mp 0), (1, .fn (.func g) [] caps)]) (fun k => [.map (Rh (Dp nm (l.take k)))]) 0 (Nat.zero_le _) (.cons rfl rfl (.cons rfl rfl (.cons rfl rfl (.cons rfl rfl (.cons rfl rfl (.cons rfl (Bg hcaps) .nil)))))) (.map .nil) ?_
 intro k hk
 by_cases hlt : k < l.length
 ·have h1 : (k : Int) < ((l.map R).length : Nat) := by omega
  obtain ⟨x, hx⟩ : ∃ x, l[k]? = some x := ⟨l[k], List.getElem?_eq_getElem hlt⟩
  have hb : (l.map R)[((k : Nat) : Int).toNat]? = some (R x) := by rw [Int.toNat_natCast, List.getElem?_map, hx];rfl
  have hx2 := hg x (List.mem_of_getElem? hx)
  have hsn : Dp nm (l.take (k + 1)) = Fw (Dp nm (l.take k)) (nm x) (.agg #[]) := by rw [List.take_add_one, hx];exact P9 nm _ x
  obtain ⟨row, hrow⟩ : ∃ row, R x = row := ⟨_, rfl⟩
  have hlen := hR x
  have hone := h1c x
  rw [hrow] at hb hx2 hlen hone
  match row, hlen, hone with
  | [a1, a2, a3], _, hone =>
   repeat' (first | refine W ?_|refine Zi hb ?_|(apply S.loadRW;(iterate 4 exact rfl))|(apply S.callF;exact rfl;exact rfl;exact hx2;exact G5 (row := [a1, a2, a3]) hcaps;exact rfl)|(apply S.store;(iterate 4 exact rfl);exact hone;exact rfl;exact rfl)|(apply S.mapUpdate;(iterate 5 exact rfl))|refine Za ?_ | refine V ?_|(refine W2 ?_ ?_ <;> intro hc))
   change Next _ _ _ _ _ _
   exact Next.go (k + 1) (by omega) (by omega) (.cons rfl rfl (.cons rfl rfl (.cons rfl rfl (.cons rfl rfl (.cons rfl rfl (.cons rfl (Bg hcaps) .nil)))))) (by show CovH _ _ [.map (Rh (Dp nm (l.take (k + 1))))];rw [hsn];exact .map .nil)
 ·have h1 : ¬ (k : Int) < ((l.map R).length : Nat) := by omega
  have hk2 : l.take k = l := List.take_of_length_le (by omega)
  repeat' (first | refine W ?_|(apply S.mapLen;exact rfl;exact rfl;exact rfl) | refine V ?_|(refine W2 ?_ ?_ <;> intro hc))
  exact A5 (by simp) Tryz.results243 rfl (by rw [hk2, hle, Z7];exact congrArg Value.bool (A0q nm l))

/-! ### Lists of items -/
def okI (len : Int) (m : List ItemR) : Prop := (∀ x ∈ m, Ll x /\ He x len) /\ m.Pairwise fun y x => Fv x y
def Y7 (l : List ItemR) (len : Int) : Prop := l.length <= 40 /\ (l.map ItemR.name).Nodup /\ okI len l
noncomputable instance (l : List ItemR) (len : Int) : Decidable (Y7 l len) := Classical.propDecidable _
theorem okI_snoc {len : Int} {m : List ItemR} {x : ItemR} : okI len (m ++ [x]) ↔ okI len m /\ (Ll x /\ He x len) /\ ∀ y ∈ m, Fv x y := by
 unfold okI
 rw [List.pairwise_append]
 constructor
 ·rintro ⟨h1, h2, _, h3⟩
  exact ⟨⟨fun y hy => h1 y (by simp [hy]), h2⟩, h1 x (by simp), fun y hy => h3 y hy x (by simp)⟩
 ·rintro ⟨⟨h1, h2⟩, h3, h4⟩
  refine ⟨fun y hy => ?_, h2, by simp, fun y hy z hz => ?_⟩
  ·rcases List.mem_append.1 hy with h | h
   ·exact h1 y h
   ·obtain rfl : y = x := by simpa using h
    exact h3
  ·obtain rfl : z = x := by simpa using hz
   exact h4 y hy
theorem A2f {len : Int} {a b : List ItemR} (h : okI len (a ++ b)) : okI len a := by
 unfold okI at h ⊢
 rw [List.pairwise_append] at h
 exact ⟨fun x hx => h.1 x (by simp [hx]), h.2.1⟩
theorem Nw {x : ItemR} {len : Int} (hl : 0 <= len /\ len <= 1048576) (h : He x len) : 0 <= x.at_ /\ x.at_ <= 1048576 /\ 0 <= x.width /\ x.width <= 1048576 := by
 obtain ⟨h1, h2, h3⟩ := h
 omega
theorem Tx {l : List ItemR} {k : Nat} {x : ItemR} {len : Int} (hl : 0 <= len /\ len <= 1048576) (hs : l.length <= 40) (hok : okI len (l.take k)) (hx : He x len) :
  Fn0 Tryz.prog 240 [.sl ((l.map ItemR.row).take ((k : Nat) : Int).toNat), .fn (.func 241) [] [.rop x.row]] (.b (decide (∃ y ∈ l.take k, ¬ Fv x y))) := by
 rw [Int.toNat_natCast, <- List.map_take]
 refine R9 (l.take k) ItemR.row (fun y => ¬ Fv x y) _ _ (fun _ => rfl) (by simp;omega) rfl fun y hy => ?_
 exact A2s x y (Nw hl hx) (Nw hl (hok.1 y hy).2)
set_option maxHeartbeats 4000000 in
theorem A6u (l : List ItemR) (len : Int) (hl : 0 <= len /\ len <= 1048576) (hs : l.length <= 9223372036854775807) : Fn0 Tryz.prog 176 [.sl (l.map ItemR.row), .i len] (.b (decide (Y7 l len))) := by
 have htw := A59 l ItemR.row ItemR.name 237 [] (fun _ => rfl) (fun _ => rfl) hs rfl fun x _ => A3k x
 have hle : (l.map ItemR.row).length = l.length := List.length_map _
 refine Fn0.of Tryz.func176 Tryz.ntmps176 rfl rfl rfl ?_
 simp only [A2]
 repeat' (first | refine W ?_|refine Zc htw ?_ | refine V ?_|(refine W2 ?_ ?_ <;> intro hc))
 all_goals first
  | exact A5 (by simp) Tryz.results176 rfl (congrArg Value.bool (decide_eq_false (fun h => by have := h.1;omega)).symm)
  | exact A5 (by simp) Tryz.results176 rfl (congrArg Value.bool (decide_eq_false (fun h => by have := h.2.1;contradiction)).symm)
  | skip
 have hs40 : l.length <= 40 := by omega
 refine T.loopS (fun k => k <= l.length /\ okI len (l.take k)) (fun k => l.length - k) (fun k => [(16, .i k), (15, .i (l.map ItemR.row).length), (0, .sl (l.map ItemR.row)), (14, .sl (l.map ItemR.row)), (1, .i len)]) (fun _ => []) 0 ⟨Nat.zero_le _, by simp [okI]⟩ CV .nil ?_
 rintro k ⟨hk, hok⟩
 by_cases hlt : k < l.length
 ·have h1 : (k : Int) < ((l.map ItemR.row).length : Nat) := by omega
  obtain ⟨x, hx⟩ : ∃ x, l[k]? = some x := ⟨l[k], List.getElem?_eq_getElem hlt⟩
  have hb : (l.map ItemR.row)[((k : Nat) : Int).toNat]? = some (ItemR.row x) := by rw [Int.toNat_natCast, List.getElem?_map, hx];rfl
  have hsn : l.take (k + 1) = l.take k ++ [x] := by rw [List.take_add_one, hx];rfl
  repeat' (first | refine W ?_|refine Zi hb ?_|(apply S.loadRW;(iterate 4 exact rfl))|refine Zc (A4i x) ?_|refine Zc (A3d x len hl) ?_|(apply S.sliceTo;exact rfl;exact rfl;exact rfl;omega;(intro row hr;obtain ⟨z, _, rfl⟩ := List.mem_map.1 hr;rfl))|(apply S.callV;exact rfl;exact Tx hl hs40 hok (by assumption);exact .cons (.one (.lf _)) (.cons (.fn (.cons (.ptr0 rfl) .nil)) .nil);exact rfl;exact rfl)|refine Za ?_ | refine V ?_|(refine W2 ?_ ?_ <;> intro hc))
  all_goals (try change Next _ _ _ _ _ _)
  all_goals first
   | exact Next.go (k + 1) ⟨by omega, by rw [hsn];exact okI_snoc.2 ⟨hok, ⟨by assumption, by assumption⟩, fun y hy => Classical.byContradiction fun hn => (by assumption : ¬ ∃ y ∈ l.take k, ¬ Fv x y) ⟨y, hy, hn⟩⟩⟩ (by omega) CV .nil
   | exact A5 (by simp) Tryz.results176 rfl (congrArg Value.bool (decide_eq_false (fun h => by
     have h3 := List.take_append_drop (k + 1) l
     have h4 := h.2.2
     rw [<- h3, hsn] at h4
     have h5 := (okI_snoc.1 (A2f h4)).2
     first | exact absurd h5.1.1 (by assumption) | exact absurd h5.1.2 (by assumption) | exact (by assumption : ∃ y ∈ l.take k, ¬ Fv x y).elim fun y hy => hy.2 (h5.2 y hy.1))).symm)
 ·have h1 : ¬ (k : Int) < ((l.map ItemR.row).length : Nat) := by omega
  rw [List.take_of_length_le (by omega)] at hok
  repeat' (first | refine W ?_ | refine V ?_|(refine W2 ?_ ?_ <;> intro hc))
  exact A5 (by simp) Tryz.results176 rfl (congrArg Value.bool (decide_eq_true ⟨hs40, by first | assumption | exact Classical.byContradiction (by assumption), hok⟩).symm)
end Go.Proofs.YtcbfnkgodiaiiaaGreat
