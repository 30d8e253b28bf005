/- Lemmas of the proof. -/
import Derived.Test.YtlapbaiejnaeiaaGreatDoorMh
set_option linter.all false
set_option maxHeartbeats 64000000
namespace Go.Proofs.YtlapbaiejnaeiaaGreatDoor
open Go.RowKit
def a1p := @List.map_append
def a3f := @Classical.byContradiction
def a3l := @List.pairwise_iff_getElem
def a4k := @List.pairwise_append
def a6s := @List.length_singleton
def a6u := @List.take_append_drop
def a8r := @Tryz.results131
def a8s := @Tryz.results132
def a8t := @Tryz.results133
def b0i := @Tryz.results119
def b0p := @Tryz.results61
def b0r := @Tryz.results76
def b1v := @Tryz.ntmps61
def b2c := @List.reverse_reverse
def b2w := @Tryz.func61
def b3i := @List.map_singleton
/-! ### Names -/
def Cy (s : ByteArray) : Bool := decide (¬ s = ⟨#[]⟩) && decide ((s.size : Int) <= 20) && (match s[0]? with | some c => decide (Pu c.toNat) | none => false) && decide ((F9 s : Int) = s.size)
theorem A3f {s : ByteArray} (h : ¬ s = ⟨#[]⟩) : 0 < s.size := by
 rcases a4e s.size with e | e
 ·exact absurd (by cases s with | mk a => exact congrArg _ (Array.eq_empty_of_size_eq_zero e)) h
 ·exact e
theorem Cx (s : ByteArray) : Fn0 Tryz.prog 61 [.s s] (.b (decide (Cy s = true))) := by
 by_cases h0 : s = ⟨#[]⟩
 ·have h0' : ¬ ¬ s = (⟨#[]⟩ : ByteArray) := fun h => h h0
  refine Fn0.of b2w b1v rfl rfl rfl ?_
  simp only [A1]
  repeat' (first|refine W ?_|refine V ?_|(refine W2 ?_ ?_<;>intro hc))
  all_goals exact A4 (by simp) b0p rfl (by simp_all [Cy])
 ·obtain ⟨c, hc, _⟩ := A13 (A3f h0)
  have hb : s[((0 : Int)).toNat]? = some c := hc
  by_cases h1 : (s.size : Int) <= 20
  ·have hw := A9d s (by omega)
   refine Fn0.of b2w b1v rfl rfl rfl ?_
   simp only [A1]
   repeat' (first|refine W ?_|refine Zc (Sl _) ?_|refine Zc hw ?_|(apply S.byteAt;(iterate 3 exact rfl);omega;exact hb)|refine V ?_|(refine W2 ?_ ?_<;>intro hc))
   all_goals exact A4 (by simp) b0p rfl (by simp_all [Cy];try omega)
  ·skip
   refine Fn0.of b2w b1v rfl rfl rfl ?_
   simp only [A1]
   repeat' (first|refine W ?_|refine V ?_|(refine W2 ?_ ?_<;>intro hc))
   all_goals exact A4 (by simp) b0p rfl (by simp_all [Cy];try omega)
theorem A02 (s : ByteArray) : Fn0 Tryz.prog 169 [.s s] (.b (decide (Cy s = true))) := by
 refine Fn0.of Tryz.func169 Tryz.ntmps169 rfl rfl rfl ?_
 simp only [A1]
 repeat' (first|refine W ?_|refine Zc (Cx _) ?_|refine V ?_|(refine W2 ?_ ?_<;>intro hc))
 all_goals exact A4 (by simp) Tryz.results169 rfl (by rfl)
theorem A04 (n : Int) : Fn0 Tryz.prog 170 [.i n] (.b (decide (0 <= n /\ n <= 1048576))) := by
 refine Fn0.of Tryz.func170 Tryz.ntmps170 rfl rfl rfl ?_
 simp only [A1]
 repeat' (first|refine W ?_|refine V ?_|(refine W2 ?_ ?_<;>intro hc))
 all_goals exact A4 (by simp) Tryz.results170 rfl (by simp [*])
theorem F5 (n lo hi : Int) : Fn0 Tryz.prog 130 [.i n, .i lo, .i hi] (.b (decide (lo <= n /\ n <= hi))) := by
 refine Fn0.of Tryz.func130 Tryz.ntmps130 rfl rfl rfl ?_
 simp only [A1]
 repeat' (first|refine W ?_|refine V ?_|(refine W2 ?_ ?_<;>intro hc))
 all_goals exact A4 (by simp) Tryz.results130 rfl (by simp [*])

/-! ### Data -/
structure ItemR where
 name : ByteArray
 at_ : Int
 width : Int
 weight : Int
 hang : Int
 front : Int
 back : Int
def ItemR.row (x : ItemR) : List Lf := [.s x.name, .i x.at_, .i x.width, .i x.weight, .i x.hang, .i x.front, .i x.back]
structure BrickR where
 name : ByteArray
 weight : Int
 count : Int
def BrickR.row (x : BrickR) : List Lf := [.s x.name, .i x.weight, .i x.count]
structure SetR where
 name : ByteArray
 depth : Int
 low : Int
 high : Int
 length : Int
 lines : List Int
 pipe : Int
 arbor : Int
 purchase : Int
 most : Int
 brake : Int
 items : List ItemR
 bricks : List BrickR
def A3 (n : Int) : List Lf := [.i n]
def SetR.row (s : SetR) : List Lf := [.s s.name, .i s.depth, .i s.low, .i s.high, .i s.length, .sl (s.lines.map A3), .i s.pipe, .i s.arbor, .i s.purchase, .i s.most, .i s.brake, .sl (s.items.map ItemR.row), .sl (s.bricks.map BrickR.row)]
structure RoofR where
 name : ByteArray
 from_ : Int
 to : Int
 most : Int
def RoofR.row (x : RoofR) : List Lf := [.s x.name, .i x.from_, .i x.to, .i x.most]
structure HouseR where
 name : ByteArray
 height : Int
 sets : List SetR
 roofs : List RoofR
def HouseR.row (h : HouseR) : List Lf := [.s h.name, .i h.height, .sl (h.sets.map SetR.row), .sl (h.roofs.map RoofR.row)]
abbrev A2 (l : List Lf) : AV := .agg (l.map .lf)

/-! ### Items -/
def Ld (x : ItemR) : Prop := Cy x.name = true /\ (0 <= x.weight /\ x.weight <= 1048576) /\ (0 <= x.hang /\ x.hang <= 1048576) /\ (0 <= x.front /\ x.front <= 1048576) /\ (0 <= x.back /\ x.back <= 1048576)
instance (x : ItemR) : Decidable (Ld x) := by unfold Ld;exact inferInstance
def Hh (x : ItemR) (length : Int) : Prop := 0 <= x.at_ /\ (1 <= x.width /\ x.width <= 1048576) /\ x.at_ <= length - x.width
instance (x : ItemR) (l : Int) : Decidable (Hh x l) := by unfold Hh;exact inferInstance
def Fl (x y : ItemR) : Prop := x.at_ + x.width <= y.at_ \/ y.at_ + y.width <= x.at_
instance (x y : ItemR) : Decidable (Fl x y) := by unfold Fl;exact inferInstance
theorem A4w (x : ItemR) : Fn0 Tryz.prog 186 [A2 x.row] (.b (decide (Ld x))) := by
 refine Fn0.of Tryz.func186 Tryz.ntmps186 rfl rfl rfl ?_
 simp only [A1]
 repeat' (first|refine W ?_|refine Zc (Cx _) ?_|refine Zc (F5 _ _ _) ?_|refine V ?_|(refine W2 ?_ ?_<;>intro hc))
 all_goals exact A4 (by simp) Tryz.results186 rfl (by simp only [Ld];simp [*])
theorem A2r (x : ItemR) (l : Int) (hl : 0 <= l /\ l <= 1048576) : Fn0 Tryz.prog 187 [A2 x.row, .i l] (.b (decide (Hh x l))) := by
 refine Fn0.of Tryz.func187 Tryz.ntmps187 rfl rfl rfl ?_
 simp only [A1]
 repeat' (first|refine W ?_|refine Zc (F5 _ _ _) ?_|refine Za ?_|refine V ?_|(refine W2 ?_ ?_<;>intro hc))
 all_goals exact A4 (by simp) Tryz.results187 rfl (by simp only [Hh];simp [*])
theorem A4x (x y : ItemR) (hx : 0 <= x.at_ /\ x.at_ <= 1048576 /\ 0 <= x.width /\ x.width <= 1048576) (hy : 0 <= y.at_ /\ y.at_ <= 1048576 /\ 0 <= y.width /\ y.width <= 1048576) : Fn0 Tryz.prog 190 [A2 x.row, A2 y.row] (.b (decide (Fl x y))) := by
 refine Fn0.of Tryz.func190 Tryz.ntmps190 rfl rfl rfl ?_
 simp only [A1]
 repeat' (first|refine W ?_|refine Za ?_|refine V ?_|(refine W2 ?_ ?_<;>intro hc))
 all_goals exact A4 (by simp) Tryz.results190 rfl (by simp only [Fl];simp [*])
theorem A2s (x : ItemR) : Fn0 Tryz.prog 185 [A2 x.row] (.s x.name) := by
 refine Fn0.of Tryz.func185 Tryz.ntmps185 rfl rfl rfl ?_
 simp only [A1]
 repeat' (first|refine W ?_|refine V ?_|(refine W2 ?_ ?_<;>intro hc))
 all_goals exact A4 (by simp) Tryz.results185 rfl (by rfl)
theorem Zx (x : BrickR) : Fn0 Tryz.prog 192 [A2 x.row] (.s x.name) := by
 refine Fn0.of Tryz.func192 Tryz.ntmps192 rfl rfl rfl ?_
 simp only [A1]
 repeat' (first|refine W ?_|refine V ?_|(refine W2 ?_ ?_<;>intro hc))
 all_goals exact A4 (by simp) Tryz.results192 rfl (by rfl)
theorem A2t (x y : ItemR) (hx : 0 <= x.at_ /\ x.at_ <= 1048576 /\ 0 <= x.width /\ x.width <= 1048576) (hy : 0 <= y.at_ /\ y.at_ <= 1048576 /\ 0 <= y.width /\ y.width <= 1048576) : Fn0 Tryz.prog 189 [A2 y.row, .rop x.row] (.b (decide (¬ Fl x y))) := by
 refine Fn0.of Tryz.func189 Tryz.ntmps189 rfl rfl rfl ?_
 simp only [A1]
 repeat' (first|refine W ?_|refine Zc (A4x x y hx hy) ?_|refine V ?_|(refine W2 ?_ ?_<;>intro hc))
 all_goals exact A4 (by simp) Tryz.results189 rfl (by rfl)
theorem A0 : Tryz.prog.follows .mixedOrders = true := by kernel_rfl

/-! ### Names that occur twice -/
def Dj {α : Type} (nm : α -> ByteArray) (l : List α) : List (ByteArray × Value) := l.foldl (fun es x => Fv es (nm x) (.agg #[])) []
theorem A7d (es : List (ByteArray × Value)) (s : ByteArray) (v : Value) : (∀ k, k ∈ (Fv es s v).map (·.1) ↔ k ∈ es.map (·.1) \/ k = s) /\ (s ∈ es.map (·.1) -> (Fv es s v).length = es.length) /\ (s ∉ es.map (·.1) -> (Fv es s v).length = es.length + 1) := by
 induction es with
 | nil => simp [Fv]
 | cons p es ih =>
  obtain ⟨k, u⟩ := p
  obtain ⟨h1, h2, h3⟩ := ih
  by_cases e : k = s
  ·subst e
   simp only [Fv, if_true, a1l, a1i, a0i]
   exact ⟨fun j => ⟨fun h => .inl h, fun h => h.elim id .inl⟩, fun _ => trivial, fun h => absurd (.inl trivial) h⟩
  ·simp only [Fv, if_neg e, a1l, a1i, a0i]
   refine ⟨fun j => ?_, fun h => ?_, fun h => ?_⟩
   ·rw [h1 j]
    exact ⟨fun h => h.elim (fun h => .inl (.inl h)) fun h => h.elim (fun h => .inl (.inr h)) .inr, fun h => h.elim (fun h => h.elim .inl fun h => .inr (.inl h)) fun h => .inr (.inr h)⟩
   ·rw [h2 (h.resolve_left fun h => e h.symm)]
   ·rw [h3 fun hm => h (.inr hm)]
theorem O2 {α : Type} (nm : α -> ByteArray) (l : List α) (x : α) : Dj nm (l ++ [x]) = Fv (Dj nm l) (nm x) (.agg #[]) := by simp [Dj]
theorem T0 {β : Type} (l : List β) (x : β) : (l ++ [x]).Nodup ↔ l.Nodup /\ x ∉ l := by
 unfold List.Nodup
 rw [a4k]
 constructor
 ·rintro ⟨h1, _, h2⟩
  exact ⟨h1, fun hx => h2 x hx x (by simp) rfl⟩
 ·rintro ⟨h1, h2⟩
  refine ⟨h1, by simp, fun a ha b hb => ?_⟩
  obtain rfl : b = x := by simpa using hb
  exact fun e => h2 (e ▸ ha)
theorem A5z {α : Type} (nm : α -> ByteArray) (l : List α) : (∀ k, k ∈ (Dj nm l).map (·.1) ↔ k ∈ l.map nm) /\ (Dj nm l).length <= l.length /\ ((Dj nm l).length = l.length ↔ (l.map nm).Nodup) := by
 have key : ∀ (m : List α), (∀ k, k ∈ (Dj nm m.reverse).map (·.1) ↔ k ∈ m.reverse.map nm) /\ (Dj nm m.reverse).length <= m.reverse.length /\ ((Dj nm m.reverse).length = m.reverse.length ↔ (m.reverse.map nm).Nodup) := fun m => by
  induction m with
  | nil => simp [Dj]
  | cons x m ih =>
   obtain ⟨h1, h2, h3⟩ := ih
   obtain ⟨g1, g2, g3⟩ := A7d (Dj nm m.reverse) (nm x) (.agg #[])
   rw [List.reverse_cons, O2]
   refine ⟨fun k => by rw [g1 k, h1 k];simp, ?_, ?_⟩
   ·rw [a0q];simp only [a6s]
    by_cases hm : nm x ∈ (Dj nm m.reverse).map (·.1)
    ·rw [g2 hm];omega
    ·rw [g3 hm];omega
   ·rw [a1p, b3i, T0, a0q, <- h3]
    simp only [a6s]
    by_cases hm : nm x ∈ (Dj nm m.reverse).map (·.1)
    ·rw [g2 hm]
     exact ⟨fun h => by omega, fun ⟨_, h⟩ => absurd ((h1 _).1 hm) h⟩
    ·rw [g3 hm]
     exact ⟨fun h => ⟨by omega, fun h => hm ((h1 _).2 h)⟩, fun ⟨h, _⟩ => by omega⟩
 have := key l.reverse
 rwa [b2c] at this
theorem A1e {α : Type} (nm : α -> ByteArray) (l : List α) : decide (((Dj nm l).length : Int) < l.length) = decide (¬ (l.map nm).Nodup) := by
 obtain ⟨_, h2, h3⟩ := A5z nm l
 by_cases h : (l.map nm).Nodup
 ·have e := h3.2 h
  rw [decide_eq_false (by omega), decide_eq_false (fun hn => hn h)]
 ·have e : (Dj nm l).length ≠ l.length := fun e => h (h3.1 e)
  rw [decide_eq_true (by omega), decide_eq_true h]
theorem A8n {α : Type} (l : List α) (R : α -> List Lf) (nm : α -> ByteArray) (g : FuncId) (caps : List AV) (hR : ∀ x, (R x).length = 7) (h1c : ∀ x, ((R x).map AV.lf).all AV.one = true) (hl : l.length <= 9223372036854775807) (hcaps : caps.all p1n = true) (hg : ∀ x ∈ l, Fn0 Tryz.prog g (.agg ((R x).map .lf) :: caps) (.s (nm x))) :
  Fn0 Tryz.prog 184 [.sl (l.map R), .fn (.func g) [] caps] (.b (decide (¬ (l.map nm).Nodup))) := by
 have hle : (l.map R).length = l.length := a0a _
 refine Fn0.of Tryz.func184 Tryz.ntmps184 rfl rfl rfl ?_
 simp only [A1]
 repeat' (first|refine W ?_|(apply S.makeMap;exact rfl;exact rfl)|refine V ?_|(refine W2 ?_ ?_<;>intro hc))
 refine p0d (fun k => k <= l.length) (fun k => l.length - k) (fun k => [(11, .i k), (10, .i (l.map R).length), (0, .sl (l.map R)), (9, .sl (l.map R)), (5, .mp 0), (1, .fn (.func g) [] caps)]) (fun k => [.map (Ry (Dj nm (l.take k)))]) 0 (a0n _) (.cons rfl rfl (.cons rfl rfl (.cons rfl rfl (.cons rfl rfl (.cons rfl rfl (.cons rfl (B6 hcaps) .nil)))))) (.map .nil) ?_
 intro k hk
 by_cases hlt : k < l.length
 ·have h1 : (k : Int) < ((l.map R).length : Nat) := by omega
  obtain ⟨x, hx⟩ : ∃ x, l[k]? = some x := ⟨l[k], a0c hlt⟩
  have hb : (l.map R)[((k : Nat) : Int).toNat]? = some (R x) := by rw [a0s, a0e, hx];rfl
  have hx2 := hg x (a0b hx)
  have hsn : Dj nm (l.take (k + 1)) = Fv (Dj nm (l.take k)) (nm x) (.agg #[]) := by rw [a0w, hx];exact O2 nm _ x
  obtain ⟨row, hrow⟩ : ∃ row, R x = row := ⟨_, rfl⟩
  have hlen := hR x
  have hone := h1c x
  rw [hrow] at hb hx2 hlen hone
  match row, hlen, hone with
  | [a1, a2, a3, a4, a5, a6, a7], _, hone =>
   repeat' (first|refine W ?_|(apply S.indexR;(iterate 3 exact rfl);exact hb;omega;exact rfl)|(apply p0k;(iterate 4 exact rfl))|(apply S.callF;exact rfl;exact rfl;exact hx2;exact Ep (row := [a1, a2, a3, a4, a5, a6, a7]) hcaps;exact rfl)|(apply S.store;(iterate 4 exact rfl);exact hone;exact rfl;exact rfl)|(apply S.mapUpdate;(iterate 5 exact rfl))|refine Za ?_|refine V ?_|(refine W2 ?_ ?_<;>intro hc))
   change Next _ _ _ _ _ _
   exact Next.go (k + 1) (by omega) (by omega) (.cons rfl rfl (.cons rfl rfl (.cons rfl rfl (.cons rfl rfl (.cons rfl rfl (.cons rfl (B6 hcaps) .nil)))))) (by show CovH _ _ [.map (Ry (Dj nm (l.take (k + 1))))];rw [hsn];exact .map .nil)
 ·have h1 : ¬ (k : Int) < ((l.map R).length : Nat) := by omega
  have hk2 : l.take k = l := a0h (by omega)
  repeat' (first|refine W ?_|(apply p3o;(iterate 3 exact rfl))|refine V ?_|(refine W2 ?_ ?_<;>intro hc))
  exact A4 (by simp) Tryz.results184 rfl (by rw [hk2, hle, Z4];exact congrArg Value.bool (A1e nm l))
theorem A4g {α : Type} (l : List α) (R : α -> List Lf) (nm : α -> ByteArray) (g : FuncId) (caps : List AV) (hR : ∀ x, (R x).length = 3) (h1c : ∀ x, ((R x).map AV.lf).all AV.one = true) (hl : l.length <= 9223372036854775807) (hcaps : caps.all p1n = true) (hg : ∀ x ∈ l, Fn0 Tryz.prog g (.agg ((R x).map .lf) :: caps) (.s (nm x))) :
  Fn0 Tryz.prog 191 [.sl (l.map R), .fn (.func g) [] caps] (.b (decide (¬ (l.map nm).Nodup))) := by
 have hle : (l.map R).length = l.length := a0a _
 refine Fn0.of Tryz.func191 Tryz.ntmps191 rfl rfl rfl ?_
 simp only [A1]
 repeat' (first|refine W ?_|(apply S.makeMap;exact rfl;exact rfl)|refine V ?_|(refine W2 ?_ ?_<;>intro hc))
 refine p0d (fun k => k <= l.length) (fun k => l.length - k) (fun k => [(11, .i k), (10, .i (l.map R).length), (0, .sl (l.map R)), (9, .sl (l.map R)), (5, .mp 0), (1, .fn (.func g) [] caps)]) (fun k => [.map (Ry (Dj nm (l.take k)))]) 0 (a0n _) (.cons rfl rfl (.cons rfl rfl (.cons rfl rfl (.cons rfl rfl (.cons rfl rfl (.cons rfl (B6 hcaps) .nil)))))) (.map .nil) ?_
 intro k hk
 by_cases hlt : k < l.length
 ·have h1 : (k : Int) < ((l.map R).length : Nat) := by omega
  obtain ⟨x, hx⟩ : ∃ x, l[k]? = some x := ⟨l[k], a0c hlt⟩
  have hb : (l.map R)[((k : Nat) : Int).toNat]? = some (R x) := by rw [a0s, a0e, hx];rfl
  have hx2 := hg x (a0b hx)
  have hsn : Dj nm (l.take (k + 1)) = Fv (Dj nm (l.take k)) (nm x) (.agg #[]) := by rw [a0w, hx];exact O2 nm _ x
  obtain ⟨row, hrow⟩ : ∃ row, R x = row := ⟨_, rfl⟩
  have hlen := hR x
  have hone := h1c x
  rw [hrow] at hb hx2 hlen hone
  match row, hlen, hone with
  | [a1, a2, a3], _, hone =>
   repeat' (first|refine W ?_|(apply S.indexR;(iterate 3 exact rfl);exact hb;omega;exact rfl)|(apply p0k;(iterate 4 exact rfl))|(apply S.callF;exact rfl;exact rfl;exact hx2;exact Ep (row := [a1, a2, a3]) hcaps;exact rfl)|(apply S.store;(iterate 4 exact rfl);exact hone;exact rfl;exact rfl)|(apply S.mapUpdate;(iterate 5 exact rfl))|refine Za ?_|refine V ?_|(refine W2 ?_ ?_<;>intro hc))
   change Next _ _ _ _ _ _
   exact Next.go (k + 1) (by omega) (by omega) (.cons rfl rfl (.cons rfl rfl (.cons rfl rfl (.cons rfl rfl (.cons rfl rfl (.cons rfl (B6 hcaps) .nil)))))) (by show CovH _ _ [.map (Ry (Dj nm (l.take (k + 1))))];rw [hsn];exact .map .nil)
 ·have h1 : ¬ (k : Int) < ((l.map R).length : Nat) := by omega
  have hk2 : l.take k = l := a0h (by omega)
  repeat' (first|refine W ?_|(apply p3o;(iterate 3 exact rfl))|refine V ?_|(refine W2 ?_ ?_<;>intro hc))
  exact A4 (by simp) Tryz.results191 rfl (by rw [hk2, hle, Z4];exact congrArg Value.bool (A1e nm l))

/-! ### Lists of items -/
def okI (len : Int) (m : List ItemR) : Prop := (∀ x ∈ m, Ld x /\ Hh x len) /\ m.Pairwise fun y x => Fl x y
def Xz (l : List ItemR) (len : Int) : Prop := l.length <= 40 /\ (l.map ItemR.name).Nodup /\ okI len l
noncomputable instance (l : List ItemR) (len : Int) : Decidable (Xz l len) := Classical.propDecidable _
theorem okI_snoc {len : Int} {m : List ItemR} {x : ItemR} : okI len (m ++ [x]) ↔ okI len m /\ (Ld x /\ Hh x len) /\ ∀ y ∈ m, Fl x y := by
 unfold okI
 rw [a4k]
 constructor
 ·rintro ⟨h1, h2, _, h3⟩
  exact ⟨⟨fun y hy => h1 y (by simp [hy]), h2⟩, h1 x (by simp), fun y hy => h3 y hy x (by simp)⟩
 ·rintro ⟨⟨h1, h2⟩, h3, h4⟩
  refine ⟨fun y hy => ?_, h2, by simp, fun y hy z hz => ?_⟩
  ·rcases a0t.1 hy with h | h
   ·exact h1 y h
   ·obtain rfl : y = x := by simpa using h
    exact h3
  ·obtain rfl : z = x := by simpa using hz
   exact h4 y hy
theorem A3r {len : Int} {a b : List ItemR} (h : okI len (a ++ b)) : okI len a := by
 unfold okI at h ⊢
 rw [a4k] at h
 exact ⟨fun x hx => h.1 x (by simp [hx]), h.2.1⟩
theorem Nm {x : ItemR} {len : Int} (hl : 0 <= len /\ len <= 1048576) (h : Hh x len) : 0 <= x.at_ /\ x.at_ <= 1048576 /\ 0 <= x.width /\ x.width <= 1048576 := by
 obtain ⟨h1, h2, h3⟩ := h
 omega
theorem Ud {l : List ItemR} {k : Nat} {x : ItemR} {len : Int} (hl : 0 <= len /\ len <= 1048576) (hs : l.length <= 40) (hok : okI len (l.take k)) (hx : Hh x len) :
  Fn0 Tryz.prog 188 [.sl ((l.map ItemR.row).take ((k : Nat) : Int).toNat), .fn (.func 189) [] [.rop x.row]] (.b (decide (∃ y ∈ l.take k, ¬ Fl x y))) := by
 rw [a0s, <- a8c]
 refine Rg (l.take k) ItemR.row (fun y => ¬ Fl x y) _ _ (fun _ => rfl) (by simp;omega) rfl fun y hy => ?_
 exact A2t x y (Nm hl hx) (Nm hl (hok.1 y hy).2)
theorem A4y (l : List ItemR) (len : Int) (hl : 0 <= len /\ len <= 1048576) (hs : l.length <= 9223372036854775807) : Fn0 Tryz.prog 132 [.sl (l.map ItemR.row), .i len] (.b (decide (Xz l len))) := by
 have htw := A8n l ItemR.row ItemR.name 185 [] (fun _ => rfl) (fun _ => rfl) hs rfl fun x _ => A2s x
 have hle : (l.map ItemR.row).length = l.length := a0a _
 refine Fn0.of Tryz.func132 Tryz.ntmps132 rfl rfl rfl ?_
 simp only [A1]
 repeat' (first|refine W ?_|refine Zc htw ?_|refine V ?_|(refine W2 ?_ ?_<;>intro hc))
 all_goals first
  | exact A4 (by simp) a8s rfl (congrArg Value.bool (decide_eq_false (fun h => by have := h.1;omega)).symm)
  | exact A4 (by simp) a8s rfl (congrArg Value.bool (decide_eq_false (fun h => by have := h.2.1;contradiction)).symm)
  | skip
 have hs40 : l.length <= 40 := by omega
 refine p0d (fun k => k <= l.length /\ okI len (l.take k)) (fun k => l.length - k) (fun k => [(16, .i k), (15, .i (l.map ItemR.row).length), (0, .sl (l.map ItemR.row)), (14, .sl (l.map ItemR.row)), (1, .i len)]) (fun _ => []) 0 ⟨a0n _, by simp [okI]⟩ CV .nil ?_
 rintro k ⟨hk, hok⟩
 by_cases hlt : k < l.length
 ·have h1 : (k : Int) < ((l.map ItemR.row).length : Nat) := by omega
  obtain ⟨x, hx⟩ : ∃ x, l[k]? = some x := ⟨l[k], a0c hlt⟩
  have hb : (l.map ItemR.row)[((k : Nat) : Int).toNat]? = some (ItemR.row x) := by rw [a0s, a0e, hx];rfl
  have hsn : l.take (k + 1) = l.take k ++ [x] := by rw [a0w, hx];rfl
  repeat' (first|refine W ?_|(apply S.indexR;(iterate 3 exact rfl);exact hb;omega;exact rfl)|(apply p0k;(iterate 4 exact rfl))|refine Zc (A4w x) ?_|refine Zc (A2r x len hl) ?_|(apply p1s;(iterate 3 exact rfl);omega;(intro row hr;obtain ⟨z, _, rfl⟩ := a1a.1 hr;rfl))|(apply S.callV;exact rfl;exact Ud hl hs40 hok (by assumption);exact .cons (.one (.lf _)) (.cons (.fn (.cons (.ptr0 rfl) .nil)) .nil);exact rfl;exact rfl)|refine Za ?_|refine V ?_|(refine W2 ?_ ?_<;>intro hc))
  all_goals (try change Next _ _ _ _ _ _)
  all_goals first
   | exact Next.go (k + 1) ⟨by omega, by rw [hsn];exact okI_snoc.2 ⟨hok, ⟨by assumption, by assumption⟩, fun y hy => a3f fun hn => (by assumption : ¬ ∃ y ∈ l.take k, ¬ Fl x y) ⟨y, hy, hn⟩⟩⟩ (by omega) CV .nil
   | exact A4 (by simp) a8s rfl (congrArg Value.bool (decide_eq_false (fun h => by
     have h3 := a6u (k + 1) l
     have h4 := h.2.2
     rw [<- h3, hsn] at h4
     have h5 := (okI_snoc.1 (A3r h4)).2
     first | exact absurd h5.1.1 (by assumption) | exact absurd h5.1.2 (by assumption) | exact (by assumption : ∃ y ∈ l.take k, ¬ Fl x y).elim fun y hy => hy.2 (h5.2 y hy.1))).symm)
 ·have h1 : ¬ (k : Int) < ((l.map ItemR.row).length : Nat) := by omega
  rw [a0h (by omega)] at hok
  repeat' (first|refine W ?_|refine V ?_|(refine W2 ?_ ?_<;>intro hc))
  exact A4 (by simp) a8s rfl (congrArg Value.bool (decide_eq_true ⟨hs40, by first | assumption | exact a3f (by assumption), hok⟩).symm)
/-! ### Bricks -/
def Sb (x : BrickR) : Prop := Cy x.name = true /\ (1 <= x.weight /\ x.weight <= 1048576) /\ 0 <= x.count /\ x.count <= 60
def Kc (l : List BrickR) : Int := (l.map BrickR.count).sum
theorem A87 (l : List BrickR) (x : BrickR) : Kc (l ++ [x]) = Kc l + x.count := by simp [Kc, List.sum_append]
theorem Adn {l : List BrickR} (h : ∀ x ∈ l, Sb x) : 0 <= Kc l /\ Kc l <= 60 * l.length := by
 induction l with
 | nil => simp [Kc]
 | cons x l ih =>
  have h1 := (h x (by simp)).2.2
  have h2 := ih fun y hy => h y (by simp [hy])
  have : Kc (x :: l) = x.count + Kc l := by simp [Kc]
  simp only [a0i]
  omega
def U1 (l : List BrickR) : Prop := l.length <= 8 /\ (l.map BrickR.name).Nodup /\ (∀ x ∈ l, Sb x) /\ Kc l <= 60
noncomputable instance (l : List BrickR) : Decidable (U1 l) := Classical.propDecidable _
theorem A2q (l : List BrickR) (hs : l.length <= 9223372036854775807) : Fn0 Tryz.prog 133 [.sl (l.map BrickR.row)] (.b (decide (U1 l))) := by
 have htw := A4g l BrickR.row BrickR.name 192 [] (fun _ => rfl) (fun _ => rfl) hs rfl fun x _ => Zx x
 have hle : (l.map BrickR.row).length = l.length := a0a _
 refine Fn0.of Tryz.func133 Tryz.ntmps133 rfl rfl rfl ?_
 simp only [A1]
 repeat' (first|refine W ?_|refine Zc htw ?_|refine V ?_|(refine W2 ?_ ?_<;>intro hc))
 all_goals first
  | exact A4 (by simp) a8t rfl (congrArg Value.bool (decide_eq_false (fun h => by have := h.1;omega)).symm)
  | exact A4 (by simp) a8t rfl (congrArg Value.bool (decide_eq_false (fun h => by have := h.2.1;contradiction)).symm)
  | skip
 have hs8 : l.length <= 8 := by omega
 refine p0d (fun k => k <= l.length /\ ∀ x ∈ l.take k, Sb x) (fun k => l.length - k) (fun k => [(15, .i k), (14, .i (l.map BrickR.row).length), (13, .sl (l.map BrickR.row)), (0, .sl (l.map BrickR.row)), (3, .i (Kc (l.take k)))]) (fun _ => []) 0 ⟨a0n _, by simp⟩ CV .nil ?_
 rintro k ⟨hk, hok⟩
 have hsum := Adn hok
 have hlk : (l.take k).length <= 8 := by simp;omega
 by_cases hlt : k < l.length
 ·have h1 : (k : Int) < ((l.map BrickR.row).length : Nat) := by omega
  obtain ⟨x, hx⟩ : ∃ x, l[k]? = some x := ⟨l[k], a0c hlt⟩
  have hb : (l.map BrickR.row)[((k : Nat) : Int).toNat]? = some (BrickR.row x) := by rw [a0s, a0e, hx];rfl
  have hsn : l.take (k + 1) = l.take k ++ [x] := by rw [a0w, hx];rfl
  have hmem : x ∈ l := a0b hx
  repeat' (first|refine W ?_|(apply S.indexR;(iterate 3 exact rfl);exact hb;omega;exact rfl)|(apply p0k;(iterate 4 exact rfl))|refine Zc (Cx _) ?_|refine Zc (F5 _ _ _) ?_|refine Za ?_|refine V ?_|(refine W2 ?_ ?_<;>intro hc))
  all_goals (try change Next _ _ _ _ _ _)
  all_goals first
   | exact Next.go (k + 1) ⟨by omega, by rw [hsn];intro y hy;rcases a0t.1 hy with hy | hy;exact hok y hy;obtain rfl : y = x := (by simpa using hy);exact ⟨by assumption, by assumption, by assumption⟩⟩ (by omega) (.cons rfl rfl (.cons rfl rfl (.cons rfl rfl (.cons rfl rfl (.cons (by rw [hsn, A87];rfl) rfl .nil))))) .nil
   | exact A4 (by simp) a8t rfl (congrArg Value.bool (decide_eq_false (fun h => by
     have h3 := h.2.2.1 x hmem
     unfold Sb at h3
     simp_all)).symm)
 ·have h1 : ¬ (k : Int) < ((l.map BrickR.row).length : Nat) := by omega
  have hk2 : l.take k = l := a0h (by omega)
  rw [hk2] at hok hsum
  rw [hk2]
  repeat' (first|refine W ?_|refine V ?_|(refine W2 ?_ ?_<;>intro hc))
  exact A4 (by simp) a8t rfl (congrArg Value.bool (decide_eq_decide.2 ⟨fun h => ⟨hs8, by first | assumption | exact a3f (by assumption), hok, h⟩, fun h => h.2.2.2⟩))

/-! ### Lift lines -/
def Y4 (l : List Int) (len : Int) : Prop := (2 <= l.length /\ l.length <= 10) /\ (∀ x ∈ l, 0 <= x /\ x <= len) /\ l.Pairwise (· < ·)
noncomputable instance (l : List Int) (len : Int) : Decidable (Y4 l len) := Classical.propDecidable _
theorem Tc {l : List Int} (h : l.Pairwise (· < ·)) {i j : Nat} {a b : Int} (hi : l[i]? = some a) (hj : l[j]? = some b) (hij : i < j) : a < b := by
 rw [a3l] at h
 obtain ⟨h1, rfl⟩ := a0g.1 hi
 obtain ⟨h2, rfl⟩ := a0g.1 hj
 exact h i j h1 h2 hij
theorem Ad7 {l : List Int} {x y : Int} {k : Nat} (h : (l.take (k + 1)).Pairwise (· < ·)) (hy : l[k]? = some y) (hx : l[k + 1]? = some x) : (l.take (k + 2)).Pairwise (· < ·) ↔ y < x := by
 have hsn : l.take (k + 2) = l.take (k + 1) ++ [x] := by rw [a0w, hx];rfl
 have hyk : (l.take (k + 1))[k]? = some y := by rw [a1t (by omega)];exact hy
 rw [hsn, a4k]
 constructor
 ·rintro ⟨_, _, h3⟩
  exact h3 y (a0b hyk) x (by simp)
 ·intro hlt
  refine ⟨h, by simp, fun a ha b hb => ?_⟩
  obtain rfl : b = x := by simpa using hb
  obtain ⟨i, hi⟩ := a3c ha
  have hik : i < k + 1 := by
   have := (a0g.1 hi).1
   simp at this;omega
  rcases a1d i k with h1 | h1
  ·have := Tc h hi hyk h1
   omega
  ·obtain rfl : i = k := by omega
   rw [hi] at hyk
   injection hyk with hyk
   omega
theorem A4z (l : List Int) (len : Int) (hs : l.length <= 9223372036854775807) : Fn0 Tryz.prog 131 [.sl (l.map A3), .i len] (.b (decide (Y4 l len))) := by
 have hle : (l.map A3).length = l.length := a0a _
 by_cases h2 : (2 : Int) <= ((l.map A3).length : Nat) /\ (((l.map A3).length : Nat) : Int) <= 10
 ·obtain ⟨a, ha⟩ : ∃ a, l[0]? = some a := ⟨l[0], a0c (by omega)⟩
  obtain ⟨z, hz⟩ : ∃ z, l[l.length - 1]? = some z := ⟨l[l.length - 1], a0c (by omega)⟩
  have hb0 : (l.map A3)[((0 : Int)).toNat]? = some (A3 a) := by rw [show ((0 : Int)).toNat = 0 from rfl, a0e, ha];rfl
  have hbz : (l.map A3)[((((l.map A3).length : Nat) : Int) - 1).toNat]? = some (A3 z) := by rw [show ((((l.map A3).length : Nat) : Int) - 1).toNat = l.length - 1 by omega, a0e, hz];rfl
  refine Fn0.of Tryz.func131 Tryz.ntmps131 rfl rfl rfl ?_
  simp only [A1]
  repeat' (first|refine W ?_|refine Zc (F5 _ _ _) ?_|(apply S.indexR;(iterate 3 exact rfl);exact hb0;omega;exact rfl)|(apply S.indexR;(iterate 3 exact rfl);exact hbz;omega;exact rfl)|refine Za ?_|refine V ?_|(refine W2 ?_ ?_<;>intro hc))
  all_goals first
   | exact A4 (by simp) a8r rfl (congrArg Value.bool (decide_eq_false (fun h => by
     have h3 := h.2.1 a (a0b ha)
     have h4 := h.2.1 z (a0b hz)
     omega)).symm)
   | skip
  refine p0d (fun k => 1 <= k /\ k <= l.length /\ (l.take k).Pairwise (· < ·)) (fun k => l.length - k) (fun k => [(5, .i k), (0, .sl (l.map A3)), (1, .i len)]) (fun _ => []) 1 ⟨a0m _, by omega, by rw [show (1 : Nat) = 0 + 1 from rfl, a0w, ha];simp⟩ CV .nil ?_
  rintro k ⟨hk0, hk, hok⟩
  by_cases hlt : k < l.length
  ·have h1 : (k : Int) < ((l.map A3).length : Nat) := by omega
   obtain ⟨j, rfl⟩ : ∃ j, k = j + 1 := ⟨k - 1, by omega⟩
   obtain ⟨x, hx⟩ : ∃ x, l[j + 1]? = some x := ⟨l[j + 1], a0c hlt⟩
   obtain ⟨y, hy⟩ : ∃ y, l[j]? = some y := ⟨l[j], a0c (by omega)⟩
   have hb : (l.map A3)[((((j + 1 : Nat)) : Int)).toNat]? = some (A3 x) := by rw [a0s, a0e, hx];rfl
   have hb2 : (l.map A3)[((((j + 1 : Nat)) : Int) - 1).toNat]? = some (A3 y) := by rw [show ((((j + 1 : Nat)) : Int) - 1).toNat = j by omega, a0e, hy];rfl
   have hps := Ad7 hok hy hx
   repeat' (first|refine W ?_|(apply p0a A0 (by kernel_rfl))|(apply S.indexR;(iterate 3 exact rfl);exact hb;omega;exact rfl)|(apply S.indexR;(iterate 3 exact rfl);exact hb2;omega;exact rfl)|refine Za ?_|refine V ?_|(refine W2 ?_ ?_<;>intro hc))
   all_goals (try change Next _ _ _ _ _ _)
   all_goals first
    | exact Next.go (j + 1 + 1) ⟨by omega, by omega, hps.2 (by omega)⟩ (by omega) CV .nil
    | exact A4 (by simp) a8r rfl (congrArg Value.bool (decide_eq_false (fun h => by
      have := Tc h.2.2 hy hx (by omega)
      omega)).symm)
  ·have h1 : ¬ (k : Int) < ((l.map A3).length : Nat) := by omega
   rw [a0h (by omega)] at hok
   repeat' (first|refine W ?_|refine V ?_|(refine W2 ?_ ?_<;>intro hc))
   refine A4 (by simp) a8r rfl (congrArg Value.bool (decide_eq_true ⟨by omega, fun x hx => ?_, hok⟩).symm)
   obtain ⟨i, hi⟩ := a3c hx
   have hil := (a0g.1 hi).1
   have g1 : a <= x := by
    rcases a4e i with e | e
    ·subst e;rw [ha] at hi;injection hi with hi;omega
    ·have := Tc hok ha hi e;omega
   have g2 : x <= z := by
    rcases a1d i (l.length - 1) with e | e
    ·have := Tc hok hi hz e;omega
    ·obtain rfl : i = l.length - 1 := by omega
     rw [hz] at hi;injection hi with hi;omega
   omega
 ·skip
  refine Fn0.of Tryz.func131 Tryz.ntmps131 rfl rfl rfl ?_
  simp only [A1]
  repeat' (first|refine W ?_|refine Zc (F5 _ _ _) ?_|refine V ?_|(refine W2 ?_ ?_<;>intro hc))
  all_goals exact A4 (by simp) a8r rfl (congrArg Value.bool (decide_eq_false (fun h => by have := h.1;omega)).symm)
def Dt (s : SetR) : Prop := Cy s.name = true /\ (0 <= s.depth /\ s.depth <= 1048576) /\ 0 <= s.low /\ s.low <= s.high /\ s.high <= 1048576 /\ (1000 <= s.length /\ s.length <= 1048576) /\ s.length % 1000 = 0 /\ Y4 s.lines s.length /\
 (0 <= s.pipe /\ s.pipe <= 1048576) /\ (0 <= s.arbor /\ s.arbor <= 1048576) /\ (1 <= s.purchase /\ s.purchase <= 2) /\ (1 <= s.most /\ s.most <= 67108864) /\ (0 <= s.brake /\ s.brake <= 67108864) /\ Xz s.items s.length /\ U1 s.bricks
noncomputable instance (s : SetR) : Decidable (Dt s) := Classical.propDecidable _
def SetR.fits (s : SetR) : Prop := s.lines.length <= 9223372036854775807 /\ s.items.length <= 9223372036854775807 /\ s.bricks.length <= 9223372036854775807
theorem Dx (s : SetR) (hf : s.fits) : Fn0 Tryz.prog 83 [A2 s.row] (.b (decide (Dt s))) := by
 refine Fn0.of Tryz.func83 Tryz.ntmps83 rfl rfl rfl ?_
 simp only [A1]
 repeat' (first|refine W ?_|refine Zc (Cx _) ?_|refine Zc (F5 _ _ _) ?_|refine Zc (A4z s.lines s.length hf.1) ?_|(apply S.call;exact rfl;exact rfl;exact A4y s.items s.length (by omega) hf.2.1;exact rfl)|refine Zc (A2q s.bricks hf.2.2) ?_|(apply S.rem;(iterate 3 exact rfl);omega)|refine V ?_|(refine W2 ?_ ?_<;>intro hc))
 all_goals exact A4 (by simp) Tryz.results83 rfl (by simp only [Dt];simp [*])

/-! ### Beams -/
def A42 (x : RoofR) : Prop := Cy x.name = true /\ (0 <= x.from_ /\ x.from_ <= 1048576) /\ (0 <= x.to /\ x.to <= 1048576) /\ x.from_ <= x.to /\ 0 <= x.most /\ x.most <= 67108864
def Th (l : List RoofR) : Prop := l.length <= 20 /\ (∀ x ∈ l, A42 x) /\ (l.map RoofR.name).Nodup
noncomputable instance (l : List RoofR) : Decidable (Th l) := Classical.propDecidable _
theorem A03 (x y : RoofR) : Fn0 Tryz.prog 172 [A2 y.row, .rop x.row] (.b (decide (y.name = x.name))) := by
 refine Fn0.of Tryz.func172 Tryz.ntmps172 rfl rfl rfl ?_
 simp only [A1]
 repeat' (first|refine W ?_|refine V ?_|(refine W2 ?_ ?_<;>intro hc))
 all_goals exact A4 (by simp) Tryz.results172 rfl (by rfl)
theorem Ul (l : List RoofR) (k : Nat) (x : RoofR) (hs : l.length <= 20) :
  Fn0 Tryz.prog 171 [.sl ((l.map RoofR.row).take ((k : Nat) : Int).toNat), .fn (.func 172) [] [.rop x.row]] (.b (decide (∃ y ∈ l.take k, y.name = x.name))) := by
 rw [a0s, <- a8c]
 exact Ri (l.take k) RoofR.row (fun y => y.name = x.name) _ _ (fun _ => rfl) (by simp;omega) rfl fun y hy => A03 x y
theorem Ga {α : Type} (nm : α -> ByteArray) (m : List α) (x : α) : ((m ++ [x]).map nm).Nodup ↔ (m.map nm).Nodup /\ ¬ ∃ y ∈ m, nm y = nm x := by
 rw [a1p, b3i, T0]
 simp
theorem Mq {α : Type} {nm : α -> ByteArray} {l : List α} (h : (l.map nm).Nodup) (k : Nat) : ((l.take k).map nm).Nodup := by
 rw [<- a6u k l, a1p] at h
 unfold List.Nodup at h ⊢
 exact (a4k.1 h).1
theorem A3k (l : List RoofR) (hs : l.length <= 9223372036854775807) : Fn0 Tryz.prog 119 [.sl (l.map RoofR.row)] (.b (decide (Th l))) := by
 have hle : (l.map RoofR.row).length = l.length := a0a _
 refine Fn0.of Tryz.func119 Tryz.ntmps119 rfl rfl rfl ?_
 simp only [A1]
 repeat' (first|refine W ?_|refine V ?_|(refine W2 ?_ ?_<;>intro hc))
 all_goals first
  | exact A4 (by simp) b0i rfl (congrArg Value.bool (decide_eq_false (fun h => by have := h.1;omega)).symm)
  | skip
 have hs20 : l.length <= 20 := by omega
 refine p0d (fun k => k <= l.length /\ (∀ x ∈ l.take k, A42 x) /\ ((l.take k).map RoofR.name).Nodup) (fun k => l.length - k) (fun k => [(10, .i k), (9, .i (l.map RoofR.row).length), (8, .sl (l.map RoofR.row)), (0, .sl (l.map RoofR.row))]) (fun _ => []) 0 ⟨a0n _, by simp⟩ CV .nil ?_
 rintro k ⟨hk, hok, hnd⟩
 by_cases hlt : k < l.length
 ·have h1 : (k : Int) < ((l.map RoofR.row).length : Nat) := by omega
  obtain ⟨x, hx⟩ : ∃ x, l[k]? = some x := ⟨l[k], a0c hlt⟩
  have hb : (l.map RoofR.row)[((k : Nat) : Int).toNat]? = some (RoofR.row x) := by rw [a0s, a0e, hx];rfl
  have hsn : l.take (k + 1) = l.take k ++ [x] := by rw [a0w, hx];rfl
  have hmem : x ∈ l := a0b hx
  repeat' (first|refine W ?_|(apply S.indexR;(iterate 3 exact rfl);exact hb;omega;exact rfl)|(apply p0k;(iterate 4 exact rfl))|refine Zc (A02 _) ?_|refine Zc (A04 _) ?_|(apply p1s;(iterate 3 exact rfl);omega;(intro row hr;obtain ⟨z, _, rfl⟩ := a1a.1 hr;rfl))|(apply S.callV;exact rfl;exact Ul l k x hs20;exact .cons (.one (.lf _)) (.cons (.fn (.cons (.ptr0 rfl) .nil)) .nil);exact rfl;exact rfl)|refine Za ?_|refine V ?_|(refine W2 ?_ ?_<;>intro hc))
  all_goals (try change Next _ _ _ _ _ _)
  all_goals first
   | exact Next.go (k + 1) ⟨by omega, by rw [hsn];intro y hy;rcases a0t.1 hy with hy | hy;exact hok y hy;obtain rfl : y = x := (by simpa using hy);exact ⟨by assumption, by assumption, by assumption, by omega, by omega, by omega⟩, by rw [hsn];exact (Ga _ _ _).2 ⟨hnd, by assumption⟩⟩ (by omega) CV .nil
   | exact A4 (by simp) b0i rfl (congrArg Value.bool (decide_eq_false (fun h => by
     have h3 := h.2.1 x hmem
     have h4 := Mq h.2.2 (k + 1)
     rw [hsn] at h4
     have h5 := ((Ga _ _ _).1 h4).2
     unfold A42 at h3
     first | contradiction | omega|(simp_all;done))).symm)
 ·have h1 : ¬ (k : Int) < ((l.map RoofR.row).length : Nat) := by omega
  have hk2 : l.take k = l := a0h (by omega)
  rw [hk2] at hok hnd
  repeat' (first|refine W ?_|refine V ?_|(refine W2 ?_ ?_<;>intro hc))
  exact A4 (by simp) b0i rfl (congrArg Value.bool (decide_eq_true ⟨hs20, hok, hnd⟩).symm)

/-! ### Houses -/
abbrev Ae (h : HouseR) (n : ByteArray) : Int := idx (fun s : SetR => s.name = n) h.sets
theorem A06 (n : ByteArray) (s : SetR) : Fn0 Tryz.prog 129 [A2 s.row, .rop [.s n]] (.b (decide (s.name = n))) := by
 refine Fn0.of Tryz.func129 Tryz.ntmps129 rfl rfl rfl ?_
 simp only [A1]
 repeat' (first|refine W ?_|refine V ?_|(refine W2 ?_ ?_<;>intro hc))
 all_goals exact A4 (by simp) Tryz.results129 rfl (by rfl)
theorem Ss (h : HouseR) (n : ByteArray) (hs : h.sets.length <= 9223372036854775807) : Fn0 Tryz.prog 82 [A2 h.row, .s n] (.i (Ae h n)) := by
 have hc : Fn0 Tryz.prog 88 [.sl (h.sets.map SetR.row), .fn (.func 129) [] [.rop [.s n]]] (.i (Ae h n)) :=
  K3 h.sets SetR.row (fun s => s.name = n) _ _ (fun _ => rfl) hs rfl fun s _ => A06 n s
 refine Fn0.of Tryz.func82 Tryz.ntmps82 rfl rfl rfl ?_
 simp only [A1]
 repeat' (first|refine W ?_|(apply S.callV;exact rfl;exact hc;exact .cons (.one (.lf _)) (.cons (.fn (.cons (.ptr0 (cs := [.s n]) rfl) .nil)) .nil);exact rfl;exact rfl)|refine V ?_|(refine W2 ?_ ?_<;>intro hc))
 all_goals exact A4 (by simp) Tryz.results82 rfl (by rfl)
theorem A9c (n : ByteArray) (s : SetR) : Fn0 Tryz.prog 218 [A2 s.row, .rop [.s n]] (.b (decide (s.name = n))) := by
 refine Fn0.of Tryz.func218 Tryz.ntmps218 rfl rfl rfl ?_
 simp only [A1]
 repeat' (first|refine W ?_|refine V ?_|(refine W2 ?_ ?_<;>intro hc))
 all_goals exact A4 (by simp) Tryz.results218 rfl (by rfl)
theorem Pk (h : HouseR) (n : ByteArray) (hs : h.sets.length <= 9223372036854775807) : Fn0 Tryz.prog 160 [A2 h.row, .s n] (.i (Ae h n)) := by
 have hc : Fn0 Tryz.prog 88 [.sl (h.sets.map SetR.row), .fn (.func 218) [] [.rop [.s n]]] (.i (Ae h n)) :=
  K3 h.sets SetR.row (fun s => s.name = n) _ _ (fun _ => rfl) hs rfl fun s _ => A9c n s
 refine Fn0.of Tryz.func160 Tryz.ntmps160 rfl rfl rfl ?_
 simp only [A1]
 repeat' (first|refine W ?_|(apply S.callV;exact rfl;exact hc;exact .cons (.one (.lf _)) (.cons (.fn (.cons (.ptr0 (cs := [.s n]) rfl) .nil)) .nil);exact rfl;exact rfl)|refine V ?_|(refine W2 ?_ ?_<;>intro hc))
 all_goals exact A4 (by simp) Tryz.results160 rfl (by rfl)
def Cm (h : HouseR) : Prop := Cy h.name = true /\ 1 <= h.height /\ h.height <= 1048576 /\ h.sets.length <= 60 /\ Th h.roofs /\ (∀ s ∈ h.sets, Dt s /\ s.high <= h.height) /\ (h.sets.map SetR.name).Nodup
noncomputable instance (h : HouseR) : Decidable (Cm h) := Classical.propDecidable _
def HouseR.fits (h : HouseR) : Prop := h.sets.length <= 9223372036854775807 /\ h.roofs.length <= 9223372036854775807 /\ ∀ s ∈ h.sets, s.fits
theorem Mm {α : Type} {p : α -> Prop} [DecidablePred p] {l : List α} {k : Nat} {x : α} (hx : l[k]? = some x) (hp : p x) : idx p l = (k : Int) ↔ ¬ ∃ y ∈ l.take k, p y := by
 constructor
 ·intro h ⟨y, hy, hpy⟩
  obtain ⟨i, hi⟩ := a3c hy
  have hik : i < k := by have := (a0g.1 hi).1;simp at this;omega
  have key : ∀ (l : List α) (i : Nat) (y : α), l[i]? = some y -> p y -> idx p l <= i := fun l => by
   induction l with
   | nil => intro i y h;simp at h
   | cons a l ih =>
    intro i y h hp
    have hn := Bw p l
    rw [idx]
    split
    ·omega
    ·cases i with
     | zero => simp at h;subst h;contradiction
     | succ i =>
      have := ih i y (by simpa using h) hp
      split <;> omega
  have := key l i y (by rw [a1t hik] at hi;exact hi) hpy
  omega
 ·intro h
  exact Gp hx (fun y hy hpy => h ⟨y, hy, hpy⟩) hp
theorem Gn (h : HouseR) (hf : h.fits) : Fn0 Tryz.prog 76 [A2 h.row] (.b (decide (Cm h))) := by
 obtain ⟨hf1, hf2, hf3⟩ := hf
 have hle : (h.sets.map SetR.row).length = h.sets.length := a0a _
 refine Fn0.of Tryz.func76 Tryz.ntmps76 rfl rfl rfl ?_
 simp only [A1]
 repeat' (first|refine W ?_|refine Zc (Cx _) ?_|refine Zc (A3k h.roofs hf2) ?_|refine V ?_|(refine W2 ?_ ?_<;>intro hc))
 all_goals first
  | exact A4 (by simp) b0r rfl (congrArg Value.bool (decide_eq_false (fun hh => by
    obtain ⟨g1, g2, g3, g4, g5, _⟩ := hh
    first | contradiction | omega)).symm)
  | skip
 have hs60 : h.sets.length <= 60 := by omega
 refine p0d (fun k => k <= h.sets.length /\ (∀ s ∈ h.sets.take k, Dt s /\ s.high <= h.height) /\ ((h.sets.take k).map SetR.name).Nodup) (fun k => h.sets.length - k) (fun k => [(34, .i k), (33, .i (h.sets.map SetR.row).length), (32, .sl (h.sets.map SetR.row)), (1, .ptr 0 0)]) (fun _ => [.live (h.row.map .lf)]) 0 ⟨a0n _, by simp⟩ CV (.live rfl .nil) ?_
 rintro k ⟨hk, hok, hnd⟩
 by_cases hlt : k < h.sets.length
 ·have h1 : (k : Int) < ((h.sets.map SetR.row).length : Nat) := by omega
  obtain ⟨x, hx⟩ : ∃ x, h.sets[k]? = some x := ⟨h.sets[k], a0c hlt⟩
  have hb : (h.sets.map SetR.row)[((k : Nat) : Int).toNat]? = some (SetR.row x) := by rw [a0s, a0e, hx];rfl
  have hsn : h.sets.take (k + 1) = h.sets.take k ++ [x] := by rw [a0w, hx];rfl
  have hmem : x ∈ h.sets := a0b hx
  have hidx : Ae h x.name = (k : Int) ↔ _ := Mm (p := fun s : SetR => s.name = x.name) hx rfl
  repeat' (first|refine W ?_|(apply S.indexR;(iterate 3 exact rfl);exact hb;omega;exact rfl)|(apply p0k;(iterate 4 exact rfl))|(apply S.call;exact rfl;exact rfl;exact Dx x (hf3 x hmem);exact rfl)|refine Zc (Ss h x.name hf1) ?_|refine Za ?_|refine V ?_|(refine W2 ?_ ?_<;>intro hc))
  all_goals (try change Next _ _ _ _ _ _)
  all_goals first
   | exact Next.go (k + 1) ⟨by omega, by rw [hsn];intro y hy;rcases a0t.1 hy with hy | hy;exact hok y hy;obtain rfl : y = x := (by simpa using hy);exact ⟨by assumption, by omega⟩, by rw [hsn];exact (Ga _ _ _).2 ⟨hnd, hidx.1 (by assumption)⟩⟩ (by omega) CV (.live rfl .nil)
   | exact A4 (by simp) b0r rfl (congrArg Value.bool (decide_eq_false (fun hh => by
     obtain ⟨_, _, _, _, _, g6, g7⟩ := hh
     have h3 := g6 x hmem
     have h4 := Mq g7 (k + 1)
     rw [hsn] at h4
     have h5 := hidx.2 ((Ga _ _ _).1 h4).2
     first | contradiction | exact absurd h3.1 (by assumption)|(have := h3.2;omega))).symm)
 ·have h1 : ¬ (k : Int) < ((h.sets.map SetR.row).length : Nat) := by omega
  have hk2 : h.sets.take k = h.sets := a0h (by omega)
  rw [hk2] at hok hnd
  repeat' (first|refine W ?_|refine V ?_|(refine W2 ?_ ?_<;>intro hc))
  exact A4 (by simp) b0r rfl (congrArg Value.bool (decide_eq_true ⟨by assumption, by omega, by omega, hs60, by assumption, hok, hnd⟩).symm)
end Go.Proofs.YtlapbaiejnaeiaaGreatDoor
