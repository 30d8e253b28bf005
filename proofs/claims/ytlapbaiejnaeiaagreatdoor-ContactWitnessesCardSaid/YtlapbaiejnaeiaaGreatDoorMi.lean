/- Lemmas of the proof. -/
import Derived.Test.YtlapbaiejnaeiaaGreatDoorMh
set_option linter.all false
set_option maxHeartbeats 64000000
namespace Go.Proofs.YtlapbaiejnaeiaaGreatDoor
open Go.RowKit
def a1u := @List.map_append
def a3k := @Classical.byContradiction
def a4i := @List.take_append_drop
def a4p := @List.pairwise_append
def a6r := @List.length_singleton
def a8r := @Tryz.results132
def b0q := @Tryz.results61
def b1w := @Tryz.ntmps61
def b2c := @List.reverse_reverse
def b2v := @Tryz.func61
def b3i := @List.map_singleton
/-! ### Names -/
def Ct (s : ByteArray) : Bool := decide (¬ s = ⟨#[]⟩) && decide ((s.size : Int) <= 20) && (match s[0]? with | some c => decide (P6 c.toNat) | none => false) && decide ((Ey s : Int) = s.size)
theorem A2t {s : ByteArray} (h : ¬ s = ⟨#[]⟩) : 0 < s.size := by
 rcases a4j s.size with e | e
 ·exact absurd (by cases s with | mk a => exact congrArg _ (Array.eq_empty_of_size_eq_zero e)) h
 ·exact e
theorem Cs (s : ByteArray) : Fn0 Tryz.prog 61 [.s s] (.b (decide (Ct s = true))) := by
 by_cases h0 : s = ⟨#[]⟩
 ·have h0' : ¬ ¬ s = (⟨#[]⟩ : ByteArray) := fun h => h h0
  refine Fn0.of b2v b1w rfl rfl rfl ?_
  simp only [A2]
  repeat' (first|refine W ?_|refine V ?_|(refine W2 ?_ ?_<;>intro hc))
  all_goals exact A4 (by simp) b0q rfl (by simp_all [Ct])
 ·obtain ⟨c, hc, _⟩ := A0s (A2t h0)
  have hb : s[((0 : Int)).toNat]? = some c := hc
  by_cases h1 : (s.size : Int) <= 20
  ·have hw := A8b s (by omega)
   refine Fn0.of b2v b1w rfl rfl rfl ?_
   simp only [A2]
   repeat' (first|refine W ?_|refine Zc (S7 _) ?_|refine Zc hw ?_|(apply S.byteAt;(iterate 3 exact rfl);omega;exact hb)|refine V ?_|(refine W2 ?_ ?_<;>intro hc))
   all_goals exact A4 (by simp) b0q rfl (by simp_all [Ct];try omega)
  ·skip
   refine Fn0.of b2v b1w rfl rfl rfl ?_
   simp only [A2]
   repeat' (first|refine W ?_|refine V ?_|(refine W2 ?_ ?_<;>intro hc))
   all_goals exact A4 (by simp) b0q rfl (by simp_all [Ct];try omega)
theorem Zw (s : ByteArray) : Fn0 Tryz.prog 169 [.s s] (.b (decide (Ct s = true))) := by
 refine Fn0.of Tryz.func169 Tryz.ntmps169 rfl rfl rfl ?_
 simp only [A2]
 repeat' (first|refine W ?_|refine Zc (Cs _) ?_|refine V ?_|(refine W2 ?_ ?_<;>intro hc))
 all_goals exact A4 (by simp) Tryz.results169 rfl (by rfl)
theorem Zy (n : Int) : Fn0 Tryz.prog 170 [.i n] (.b (decide (0 <= n /\ n <= 1048576))) := by
 refine Fn0.of Tryz.func170 Tryz.ntmps170 rfl rfl rfl ?_
 simp only [A2]
 repeat' (first|refine W ?_|refine V ?_|(refine W2 ?_ ?_<;>intro hc))
 all_goals exact A4 (by simp) Tryz.results170 rfl (by simp [*])
theorem Et (n lo hi : Int) : Fn0 Tryz.prog 130 [.i n, .i lo, .i hi] (.b (decide (lo <= n /\ n <= hi))) := by
 refine Fn0.of Tryz.func130 Tryz.ntmps130 rfl rfl rfl ?_
 simp only [A2]
 repeat' (first|refine W ?_|refine V ?_|(refine W2 ?_ ?_<;>intro hc))
 all_goals exact A4 (by simp) Tryz.results130 rfl (by simp [*])

/-! ### Data -/
structure ItemR where
 name : ByteArray
 at_ : Int
 width : Int
 weight : Int
 hang : Int
 front : Int
 back : Int
def ItemR.row (x : ItemR) : List Lf := [.s x.name, .i x.at_, .i x.width, .i x.weight, .i x.hang, .i x.front, .i x.back]
structure BrickR where
 name : ByteArray
 weight : Int
 count : Int
def BrickR.row (x : BrickR) : List Lf := [.s x.name, .i x.weight, .i x.count]
structure SetR where
 name : ByteArray
 depth : Int
 low : Int
 high : Int
 length : Int
 lines : List Int
 pipe : Int
 arbor : Int
 purchase : Int
 most : Int
 brake : Int
 items : List ItemR
 bricks : List BrickR
def A3 (n : Int) : List Lf := [.i n]
def SetR.row (s : SetR) : List Lf := [.s s.name, .i s.depth, .i s.low, .i s.high, .i s.length, .sl (s.lines.map A3), .i s.pipe, .i s.arbor, .i s.purchase, .i s.most, .i s.brake, .sl (s.items.map ItemR.row), .sl (s.bricks.map BrickR.row)]
structure RoofR where
 name : ByteArray
 from_ : Int
 to : Int
 most : Int
def RoofR.row (x : RoofR) : List Lf := [.s x.name, .i x.from_, .i x.to, .i x.most]
structure HouseR where
 name : ByteArray
 height : Int
 sets : List SetR
 roofs : List RoofR
def HouseR.row (h : HouseR) : List Lf := [.s h.name, .i h.height, .sl (h.sets.map SetR.row), .sl (h.roofs.map RoofR.row)]
abbrev A1 (l : List Lf) : AV := .agg (l.map .lf)

/-! ### Items -/
def Ky (x : ItemR) : Prop := Ct x.name = true /\ (0 <= x.weight /\ x.weight <= 1048576) /\ (0 <= x.hang /\ x.hang <= 1048576) /\ (0 <= x.front /\ x.front <= 1048576) /\ (0 <= x.back /\ x.back <= 1048576)
instance (x : ItemR) : Decidable (Ky x) := by unfold Ky;exact inferInstance
def Gx (x : ItemR) (length : Int) : Prop := 0 <= x.at_ /\ (1 <= x.width /\ x.width <= 1048576) /\ x.at_ <= length - x.width
instance (x : ItemR) (l : Int) : Decidable (Gx x l) := by unfold Gx;exact inferInstance
def F5 (x y : ItemR) : Prop := x.at_ + x.width <= y.at_ \/ y.at_ + y.width <= x.at_
instance (x y : ItemR) : Decidable (F5 x y) := by unfold F5;exact inferInstance
theorem A4c (x : ItemR) : Fn0 Tryz.prog 186 [A1 x.row] (.b (decide (Ky x))) := by
 refine Fn0.of Tryz.func186 Tryz.ntmps186 rfl rfl rfl ?_
 simp only [A2]
 repeat' (first|refine W ?_|refine Zc (Cs _) ?_|refine Zc (Et _ _ _) ?_|refine V ?_|(refine W2 ?_ ?_<;>intro hc))
 all_goals exact A4 (by simp) Tryz.results186 rfl (by simp only [Ky];simp [*])
theorem A26 (x : ItemR) (l : Int) (hl : 0 <= l /\ l <= 1048576) : Fn0 Tryz.prog 187 [A1 x.row, .i l] (.b (decide (Gx x l))) := by
 refine Fn0.of Tryz.func187 Tryz.ntmps187 rfl rfl rfl ?_
 simp only [A2]
 repeat' (first|refine W ?_|refine Zc (Et _ _ _) ?_|refine Za ?_|refine V ?_|(refine W2 ?_ ?_<;>intro hc))
 all_goals exact A4 (by simp) Tryz.results187 rfl (by simp only [Gx];simp [*])
theorem A4d (x y : ItemR) (hx : 0 <= x.at_ /\ x.at_ <= 1048576 /\ 0 <= x.width /\ x.width <= 1048576) (hy : 0 <= y.at_ /\ y.at_ <= 1048576 /\ 0 <= y.width /\ y.width <= 1048576) : Fn0 Tryz.prog 190 [A1 x.row, A1 y.row] (.b (decide (F5 x y))) := by
 refine Fn0.of Tryz.func190 Tryz.ntmps190 rfl rfl rfl ?_
 simp only [A2]
 repeat' (first|refine W ?_|refine Za ?_|refine V ?_|(refine W2 ?_ ?_<;>intro hc))
 all_goals exact A4 (by simp) Tryz.results190 rfl (by simp only [F5];simp [*])
theorem A27 (x : ItemR) : Fn0 Tryz.prog 185 [A1 x.row] (.s x.name) := by
 refine Fn0.of Tryz.func185 Tryz.ntmps185 rfl rfl rfl ?_
 simp only [A2]
 repeat' (first|refine W ?_|refine V ?_|(refine W2 ?_ ?_<;>intro hc))
 all_goals exact A4 (by simp) Tryz.results185 rfl (by rfl)
theorem Zr (x : BrickR) : Fn0 Tryz.prog 192 [A1 x.row] (.s x.name) := by
 refine Fn0.of Tryz.func192 Tryz.ntmps192 rfl rfl rfl ?_
 simp only [A2]
 repeat' (first|refine W ?_|refine V ?_|(refine W2 ?_ ?_<;>intro hc))
 all_goals exact A4 (by simp) Tryz.results192 rfl (by rfl)
theorem A28 (x y : ItemR) (hx : 0 <= x.at_ /\ x.at_ <= 1048576 /\ 0 <= x.width /\ x.width <= 1048576) (hy : 0 <= y.at_ /\ y.at_ <= 1048576 /\ 0 <= y.width /\ y.width <= 1048576) : Fn0 Tryz.prog 189 [A1 y.row, .rop x.row] (.b (decide (¬ F5 x y))) := by
 refine Fn0.of Tryz.func189 Tryz.ntmps189 rfl rfl rfl ?_
 simp only [A2]
 repeat' (first|refine W ?_|refine Zc (A4d x y hx hy) ?_|refine V ?_|(refine W2 ?_ ?_<;>intro hc))
 all_goals exact A4 (by simp) Tryz.results189 rfl (by rfl)
theorem A0 : Tryz.prog.follows .mixedOrders = true := by kernel_rfl

/-! ### Names that occur twice -/
def Df {α : Type} (nm : α -> ByteArray) (l : List α) : List (ByteArray × Value) := l.foldl (fun es x => Ff es (nm x) (.agg #[])) []
theorem A6i (es : List (ByteArray × Value)) (s : ByteArray) (v : Value) : (∀ k, k ∈ (Ff es s v).map (·.1) ↔ k ∈ es.map (·.1) \/ k = s) /\ (s ∈ es.map (·.1) -> (Ff es s v).length = es.length) /\ (s ∉ es.map (·.1) -> (Ff es s v).length = es.length + 1) := by
 induction es with
 | nil => simp [Ff]
 | cons p es ih =>
  obtain ⟨k, u⟩ := p
  obtain ⟨h1, h2, h3⟩ := ih
  by_cases e : k = s
  ·subst e
   simp only [Ff, if_true, a1q, a1j, a0i]
   exact ⟨fun j => ⟨fun h => .inl h, fun h => h.elim id .inl⟩, fun _ => trivial, fun h => absurd (.inl trivial) h⟩
  ·simp only [Ff, if_neg e, a1q, a1j, a0i]
   refine ⟨fun j => ?_, fun h => ?_, fun h => ?_⟩
   ·rw [h1 j]
    exact ⟨fun h => h.elim (fun h => .inl (.inl h)) fun h => h.elim (fun h => .inl (.inr h)) .inr, fun h => h.elim (fun h => h.elim .inl fun h => .inr (.inl h)) fun h => .inr (.inr h)⟩
   ·rw [h2 (h.resolve_left fun h => e h.symm)]
   ·rw [h3 fun hm => h (.inr hm)]
theorem Nk {α : Type} (nm : α -> ByteArray) (l : List α) (x : α) : Df nm (l ++ [x]) = Ff (Df nm l) (nm x) (.agg #[]) := by simp [Df]
theorem Sm {β : Type} (l : List β) (x : β) : (l ++ [x]).Nodup ↔ l.Nodup /\ x ∉ l := by
 unfold List.Nodup
 rw [a4p]
 constructor
 ·rintro ⟨h1, _, h2⟩
  exact ⟨h1, fun hx => h2 x hx x (by simp) rfl⟩
 ·rintro ⟨h1, h2⟩
  refine ⟨h1, by simp, fun a ha b hb => ?_⟩
  obtain rfl : b = x := by simpa using hb
  exact fun e => h2 (e ▸ ha)
theorem A5a {α : Type} (nm : α -> ByteArray) (l : List α) : (∀ k, k ∈ (Df nm l).map (·.1) ↔ k ∈ l.map nm) /\ (Df nm l).length <= l.length /\ ((Df nm l).length = l.length ↔ (l.map nm).Nodup) := by
 have key : ∀ (m : List α), (∀ k, k ∈ (Df nm m.reverse).map (·.1) ↔ k ∈ m.reverse.map nm) /\ (Df nm m.reverse).length <= m.reverse.length /\ ((Df nm m.reverse).length = m.reverse.length ↔ (m.reverse.map nm).Nodup) := fun m => by
  induction m with
  | nil => simp [Df]
  | cons x m ih =>
   obtain ⟨h1, h2, h3⟩ := ih
   obtain ⟨g1, g2, g3⟩ := A6i (Df nm m.reverse) (nm x) (.agg #[])
   rw [List.reverse_cons, Nk]
   refine ⟨fun k => by rw [g1 k, h1 k];simp, ?_, ?_⟩
   ·rw [a0q];simp only [a6r]
    by_cases hm : nm x ∈ (Df nm m.reverse).map (·.1)
    ·rw [g2 hm];omega
    ·rw [g3 hm];omega
   ·rw [a1u, b3i, Sm, a0q, <- h3]
    simp only [a6r]
    by_cases hm : nm x ∈ (Df nm m.reverse).map (·.1)
    ·rw [g2 hm]
     exact ⟨fun h => by omega, fun ⟨_, h⟩ => absurd ((h1 _).1 hm) h⟩
    ·rw [g3 hm]
     exact ⟨fun h => ⟨by omega, fun h => hm ((h1 _).2 h)⟩, fun ⟨h, _⟩ => by omega⟩
 have := key l.reverse
 rwa [b2c] at this
theorem A11 {α : Type} (nm : α -> ByteArray) (l : List α) : decide (((Df nm l).length : Int) < l.length) = decide (¬ (l.map nm).Nodup) := by
 obtain ⟨_, h2, h3⟩ := A5a nm l
 by_cases h : (l.map nm).Nodup
 ·have e := h3.2 h
  rw [decide_eq_false (by omega), decide_eq_false (fun hn => hn h)]
 ·have e : (Df nm l).length ≠ l.length := fun e => h (h3.1 e)
  rw [decide_eq_true (by omega), decide_eq_true h]
theorem A7m {α : Type} (l : List α) (R : α -> List Lf) (nm : α -> ByteArray) (g : FuncId) (caps : List AV) (hR : ∀ x, (R x).length = 7) (h1c : ∀ x, ((R x).map AV.lf).all AV.one = true) (hl : l.length <= 9223372036854775807) (hcaps : caps.all p1p = true) (hg : ∀ x ∈ l, Fn0 Tryz.prog g (.agg ((R x).map .lf) :: caps) (.s (nm x))) :
  Fn0 Tryz.prog 184 [.sl (l.map R), .fn (.func g) [] caps] (.b (decide (¬ (l.map nm).Nodup))) := by
 have hle : (l.map R).length = l.length := a0a _
 refine Fn0.of Tryz.func184 Tryz.ntmps184 rfl rfl rfl ?_
 simp only [A2]
 repeat' (first|refine W ?_|(apply S.makeMap;exact rfl;exact rfl)|refine V ?_|(refine W2 ?_ ?_<;>intro hc))
 refine p0d (fun k => k <= l.length) (fun k => l.length - k) (fun k => [(11, .i k), (10, .i (l.map R).length), (0, .sl (l.map R)), (9, .sl (l.map R)), (5, .mp 0), (1, .fn (.func g) [] caps)]) (fun k => [.map (Rh (Df nm (l.take k)))]) 0 (a0o _) (.cons rfl rfl (.cons rfl rfl (.cons rfl rfl (.cons rfl rfl (.cons rfl rfl (.cons rfl (Bg hcaps) .nil)))))) (.map .nil) ?_
 intro k hk
 by_cases hlt : k < l.length
 ·have h1 : (k : Int) < ((l.map R).length : Nat) := by omega
  obtain ⟨x, hx⟩ : ∃ x, l[k]? = some x := ⟨l[k], a0b hlt⟩
  have hb : (l.map R)[((k : Nat) : Int).toNat]? = some (R x) := by rw [a0v, a0e, hx];rfl
  have hx2 := hg x (a0c hx)
  have hsn : Df nm (l.take (k + 1)) = Ff (Df nm (l.take k)) (nm x) (.agg #[]) := by rw [a0x, hx];exact Nk nm _ x
  obtain ⟨row, hrow⟩ : ∃ row, R x = row := ⟨_, rfl⟩
  have hlen := hR x
  have hone := h1c x
  rw [hrow] at hb hx2 hlen hone
  match row, hlen, hone with
  | [a1, a2, a3, a4, a5, a6, a7], _, hone =>
   repeat' (first|refine W ?_|(apply S.indexR;(iterate 3 exact rfl);exact hb;omega;exact rfl)|(apply p0k;(iterate 4 exact rfl))|(apply S.callF;exact rfl;exact rfl;exact hx2;exact F7 (row := [a1, a2, a3, a4, a5, a6, a7]) hcaps;exact rfl)|(apply S.store;(iterate 4 exact rfl);exact hone;exact rfl;exact rfl)|(apply S.mapUpdate;(iterate 5 exact rfl))|refine Za ?_|refine V ?_|(refine W2 ?_ ?_<;>intro hc))
   change Next _ _ _ _ _ _
   exact Next.go (k + 1) (by omega) (by omega) (.cons rfl rfl (.cons rfl rfl (.cons rfl rfl (.cons rfl rfl (.cons rfl rfl (.cons rfl (Bg hcaps) .nil)))))) (by show CovH _ _ [.map (Rh (Df nm (l.take (k + 1))))];rw [hsn];exact .map .nil)
 ·have h1 : ¬ (k : Int) < ((l.map R).length : Nat) := by omega
  have hk2 : l.take k = l := a0h (by omega)
  repeat' (first|refine W ?_|(apply p3p;(iterate 3 exact rfl))|refine V ?_|(refine W2 ?_ ?_<;>intro hc))
  exact A4 (by simp) Tryz.results184 rfl (by rw [hk2, hle, Z0];exact congrArg Value.bool (A11 nm l))
theorem A3x {α : Type} (l : List α) (R : α -> List Lf) (nm : α -> ByteArray) (g : FuncId) (caps : List AV) (hR : ∀ x, (R x).length = 3) (h1c : ∀ x, ((R x).map AV.lf).all AV.one = true) (hl : l.length <= 9223372036854775807) (hcaps : caps.all p1p = true) (hg : ∀ x ∈ l, Fn0 Tryz.prog g (.agg ((R x).map .lf) :: caps) (.s (nm x))) :
  Fn0 Tryz.prog 191 [.sl (l.map R), .fn (.func g) [] caps] (.b (decide (¬ (l.map nm).Nodup))) := by
 have hle : (l.map R).length = l.length := a0a _
 refine Fn0.of Tryz.func191 Tryz.ntmps191 rfl rfl rfl ?_
 simp only [A2]
 repeat' (first|refine W ?_|(apply S.makeMap;exact rfl;exact rfl)|refine V ?_|(refine W2 ?_ ?_<;>intro hc))
 refine p0d (fun k => k <= l.length) (fun k => l.length - k) (fun k => [(11, .i k), (10, .i (l.map R).length), (0, .sl (l.map R)), (9, .sl (l.map R)), (5, .mp 0), (1, .fn (.func g) [] caps)]) (fun k => [.map (Rh (Df nm (l.take k)))]) 0 (a0o _) (.cons rfl rfl (.cons rfl rfl (.cons rfl rfl (.cons rfl rfl (.cons rfl rfl (.cons rfl (Bg hcaps) .nil)))))) (.map .nil) ?_
 intro k hk
 by_cases hlt : k < l.length
 ·have h1 : (k : Int) < ((l.map R).length : Nat) := by omega
  obtain ⟨x, hx⟩ : ∃ x, l[k]? = some x := ⟨l[k], a0b hlt⟩
  have hb : (l.map R)[((k : Nat) : Int).toNat]? = some (R x) := by rw [a0v, a0e, hx];rfl
  have hx2 := hg x (a0c hx)
  have hsn : Df nm (l.take (k + 1)) = Ff (Df nm (l.take k)) (nm x) (.agg #[]) := by rw [a0x, hx];exact Nk nm _ x
  obtain ⟨row, hrow⟩ : ∃ row, R x = row := ⟨_, rfl⟩
  have hlen := hR x
  have hone := h1c x
  rw [hrow] at hb hx2 hlen hone
  match row, hlen, hone with
  | [a1, a2, a3], _, hone =>
   repeat' (first|refine W ?_|(apply S.indexR;(iterate 3 exact rfl);exact hb;omega;exact rfl)|(apply p0k;(iterate 4 exact rfl))|(apply S.callF;exact rfl;exact rfl;exact hx2;exact F7 (row := [a1, a2, a3]) hcaps;exact rfl)|(apply S.store;(iterate 4 exact rfl);exact hone;exact rfl;exact rfl)|(apply S.mapUpdate;(iterate 5 exact rfl))|refine Za ?_|refine V ?_|(refine W2 ?_ ?_<;>intro hc))
   change Next _ _ _ _ _ _
   exact Next.go (k + 1) (by omega) (by omega) (.cons rfl rfl (.cons rfl rfl (.cons rfl rfl (.cons rfl rfl (.cons rfl rfl (.cons rfl (Bg hcaps) .nil)))))) (by show CovH _ _ [.map (Rh (Df nm (l.take (k + 1))))];rw [hsn];exact .map .nil)
 ·have h1 : ¬ (k : Int) < ((l.map R).length : Nat) := by omega
  have hk2 : l.take k = l := a0h (by omega)
  repeat' (first|refine W ?_|(apply p3p;(iterate 3 exact rfl))|refine V ?_|(refine W2 ?_ ?_<;>intro hc))
  exact A4 (by simp) Tryz.results191 rfl (by rw [hk2, hle, Z0];exact congrArg Value.bool (A11 nm l))

/-! ### Lists of items -/
def okI (len : Int) (m : List ItemR) : Prop := (∀ x ∈ m, Ky x /\ Gx x len) /\ m.Pairwise fun y x => F5 x y
def Xx (l : List ItemR) (len : Int) : Prop := l.length <= 40 /\ (l.map ItemR.name).Nodup /\ okI len l
noncomputable instance (l : List ItemR) (len : Int) : Decidable (Xx l len) := Classical.propDecidable _
theorem okI_snoc {len : Int} {m : List ItemR} {x : ItemR} : okI len (m ++ [x]) ↔ okI len m /\ (Ky x /\ Gx x len) /\ ∀ y ∈ m, F5 x y := by
 unfold okI
 rw [a4p]
 constructor
 ·rintro ⟨h1, h2, _, h3⟩
  exact ⟨⟨fun y hy => h1 y (by simp [hy]), h2⟩, h1 x (by simp), fun y hy => h3 y hy x (by simp)⟩
 ·rintro ⟨⟨h1, h2⟩, h3, h4⟩
  refine ⟨fun y hy => ?_, h2, by simp, fun y hy z hz => ?_⟩
  ·rcases a0u.1 hy with h | h
   ·exact h1 y h
   ·obtain rfl : y = x := by simpa using h
    exact h3
  ·obtain rfl : z = x := by simpa using hz
   exact h4 y hy
theorem A34 {len : Int} {a b : List ItemR} (h : okI len (a ++ b)) : okI len a := by
 unfold okI at h ⊢
 rw [a4p] at h
 exact ⟨fun x hx => h.1 x (by simp [hx]), h.2.1⟩
theorem N3 {x : ItemR} {len : Int} (hl : 0 <= len /\ len <= 1048576) (h : Gx x len) : 0 <= x.at_ /\ x.at_ <= 1048576 /\ 0 <= x.width /\ x.width <= 1048576 := by
 obtain ⟨h1, h2, h3⟩ := h
 omega
theorem U1 {l : List ItemR} {k : Nat} {x : ItemR} {len : Int} (hl : 0 <= len /\ len <= 1048576) (hs : l.length <= 40) (hok : okI len (l.take k)) (hx : Gx x len) :
  Fn0 Tryz.prog 188 [.sl ((l.map ItemR.row).take ((k : Nat) : Int).toNat), .fn (.func 189) [] [.rop x.row]] (.b (decide (∃ y ∈ l.take k, ¬ F5 x y))) := by
 rw [a0v, <- a7y]
 refine Qu (l.take k) ItemR.row (fun y => ¬ F5 x y) _ _ (fun _ => rfl) (by simp;omega) rfl fun y hy => ?_
 exact A28 x y (N3 hl hx) (N3 hl (hok.1 y hy).2)
theorem A4e (l : List ItemR) (len : Int) (hl : 0 <= len /\ len <= 1048576) (hs : l.length <= 9223372036854775807) : Fn0 Tryz.prog 132 [.sl (l.map ItemR.row), .i len] (.b (decide (Xx l len))) := by
 have htw := A7m l ItemR.row ItemR.name 185 [] (fun _ => rfl) (fun _ => rfl) hs rfl fun x _ => A27 x
 have hle : (l.map ItemR.row).length = l.length := a0a _
 refine Fn0.of Tryz.func132 Tryz.ntmps132 rfl rfl rfl ?_
 simp only [A2]
 repeat' (first|refine W ?_|refine Zc htw ?_|refine V ?_|(refine W2 ?_ ?_<;>intro hc))
 all_goals first
  | exact A4 (by simp) a8r rfl (congrArg Value.bool (decide_eq_false (fun h => by have := h.1;omega)).symm)
  | exact A4 (by simp) a8r rfl (congrArg Value.bool (decide_eq_false (fun h => by have := h.2.1;contradiction)).symm)
  | skip
 have hs40 : l.length <= 40 := by omega
 refine p0d (fun k => k <= l.length /\ okI len (l.take k)) (fun k => l.length - k) (fun k => [(16, .i k), (15, .i (l.map ItemR.row).length), (0, .sl (l.map ItemR.row)), (14, .sl (l.map ItemR.row)), (1, .i len)]) (fun _ => []) 0 ⟨a0o _, by simp [okI]⟩ CV .nil ?_
 rintro k ⟨hk, hok⟩
 by_cases hlt : k < l.length
 ·have h1 : (k : Int) < ((l.map ItemR.row).length : Nat) := by omega
  obtain ⟨x, hx⟩ : ∃ x, l[k]? = some x := ⟨l[k], a0b hlt⟩
  have hb : (l.map ItemR.row)[((k : Nat) : Int).toNat]? = some (ItemR.row x) := by rw [a0v, a0e, hx];rfl
  have hsn : l.take (k + 1) = l.take k ++ [x] := by rw [a0x, hx];rfl
  repeat' (first|refine W ?_|(apply S.indexR;(iterate 3 exact rfl);exact hb;omega;exact rfl)|(apply p0k;(iterate 4 exact rfl))|refine Zc (A4c x) ?_|refine Zc (A26 x len hl) ?_|(apply p1s;(iterate 3 exact rfl);omega;(intro row hr;obtain ⟨z, _, rfl⟩ := a1b.1 hr;rfl))|(apply S.callV;exact rfl;exact U1 hl hs40 hok (by assumption);exact .cons (.one (.lf _)) (.cons (.fn (.cons (.ptr0 rfl) .nil)) .nil);exact rfl;exact rfl)|refine Za ?_|refine V ?_|(refine W2 ?_ ?_<;>intro hc))
  all_goals (try change Next _ _ _ _ _ _)
  all_goals first
   | exact Next.go (k + 1) ⟨by omega, by rw [hsn];exact okI_snoc.2 ⟨hok, ⟨by assumption, by assumption⟩, fun y hy => a3k fun hn => (by assumption : ¬ ∃ y ∈ l.take k, ¬ F5 x y) ⟨y, hy, hn⟩⟩⟩ (by omega) CV .nil
   | exact A4 (by simp) a8r rfl (congrArg Value.bool (decide_eq_false (fun h => by
     have h3 := a4i (k + 1) l
     have h4 := h.2.2
     rw [<- h3, hsn] at h4
     have h5 := (okI_snoc.1 (A34 h4)).2
     first | exact absurd h5.1.1 (by assumption) | exact absurd h5.1.2 (by assumption) | exact (by assumption : ∃ y ∈ l.take k, ¬ F5 x y).elim fun y hy => hy.2 (h5.2 y hy.1))).symm)
 ·have h1 : ¬ (k : Int) < ((l.map ItemR.row).length : Nat) := by omega
  rw [a0h (by omega)] at hok
  repeat' (first|refine W ?_|refine V ?_|(refine W2 ?_ ?_<;>intro hc))
  exact A4 (by simp) a8r rfl (congrArg Value.bool (decide_eq_true ⟨hs40, by first | assumption | exact a3k (by assumption), hok⟩).symm)
end Go.Proofs.YtlapbaiejnaeiaaGreatDoor
