/- Contracts of the functions that say whether a house is valid: names, beams, items, bricks, line sets (the program's side). No conditions but those of each statement. | Contracts of the functions that say whether a house is valid, continued: lists of items and of bricks, lift lines (the program's side). No conditions but those of each statement. -/
import Derived.Test.YtlncmkafjjomgaaGreatMh
set_option linter.unusedSimpArgs false
namespace Go.Proofs.YtlncmkafjjomgaaGreat
set_option linter.unusedVariables false
open Go.RowKit

/-! ### Names -/
def nameB (s : ByteArray) : Bool := decide (¬ s = ⟨#[]⟩) && decide ((s.size : Int) ≤ 20) && (match s[0]? with | some c => decide (letI' c.toNat) | none => false) && decide ((wordLen s : Int) = s.size)
theorem empty_size {s : ByteArray} (h : ¬ s = ⟨#[]⟩) : 0 < s.size := by
 rcases Nat.eq_zero_or_pos s.size with e | e
 ·exact absurd (by cases s with | mk a => exact congrArg _ (Array.eq_empty_of_size_eq_zero e)) h
 ·exact e
set_option maxHeartbeats 4000000 in
theorem dec_isName (s : ByteArray) : Fn0 Tryz.prog 77 [.s s] (.b (decide (nameB s = true))) := by
 by_cases h0 : s = ⟨#[]⟩
 ·have h0' : ¬ ¬ s = (⟨#[]⟩ : ByteArray) := fun h => h h0
  refine Fn0.of Tryz.func77 Tryz.ntmps77 rfl rfl rfl ?_
  simp only [entryTm]
  repeat' (first|(apply S.move;exact rfl;exact rfl)|(apply S.assign;exact rfl;exact rfl)|(apply S.gCN;(iterate 4 exact rfl))|(apply S.gTF;exact rfl;exact rfl;assumption;exact rfl)|(apply S.pCN;exact rfl;exact rfl;exact rfl)|(apply S.pFp;exact rfl;assumption;exact rfl;exact rfl)|(apply S.strNe;exact rfl;exact rfl;exact rfl) | apply S.nil | apply T.regs|(apply T.ret;change Done _ _ _ _ _))
  all_goals exact doneV (by simp) Tryz.results77 rfl (by simp_all [nameB])
 ·obtain ⟨c, hc, _⟩ := byte_at (empty_size h0)
  have hb : s[((0 : Int)).toNat]? = some c := hc
  by_cases h1 : (s.size : Int) ≤ 20
  ·have hw := dec_word s (by omega)
   refine Fn0.of Tryz.func77 Tryz.ntmps77 rfl rfl rfl ?_
   simp only [entryTm]
   repeat' (first|(apply S.move;exact rfl;exact rfl)|(apply S.assign;exact rfl;exact rfl)|(apply S.gTT;exact rfl;exact rfl;assumption)|(apply S.gTF;exact rfl;exact rfl;assumption;exact rfl)|(apply S.pTp;exact rfl;assumption;exact rfl;exact rfl)|(apply S.pFp;exact rfl;assumption;exact rfl;exact rfl)|(apply S.call;exact rfl;exact rfl;exact dec_letter _;exact rfl)|(apply S.call;exact rfl;exact rfl;exact hw;exact rfl)|(apply S.byteAt;exact rfl;exact rfl;exact rfl;omega;exact hb)|(apply S.cmp;(iterate 4 exact rfl))|(apply S.strNe;exact rfl;exact rfl;exact rfl)|(apply S.lenS;exact rfl;exact rfl)|(apply S.gsT;exact rfl;exact rfl;exact rfl;intro hc;rotate_left;intro hc;rotate_right) | apply S.nil | apply T.regs|(apply T.ret;change Done _ _ _ _ _))
   all_goals exact doneV (by simp) Tryz.results77 rfl (by simp_all [nameB];try omega)
  ·skip
   refine Fn0.of Tryz.func77 Tryz.ntmps77 rfl rfl rfl ?_
   simp only [entryTm]
   repeat' (first|(apply S.move;exact rfl;exact rfl)|(apply S.assign;exact rfl;exact rfl)|(apply S.gCN;(iterate 4 exact rfl))|(apply S.gTT;exact rfl;exact rfl;assumption)|(apply S.gTF;exact rfl;exact rfl;assumption;exact rfl)|(apply S.pCN;exact rfl;exact rfl;exact rfl)|(apply S.pTp;exact rfl;assumption;exact rfl;exact rfl)|(apply S.pFp;exact rfl;assumption;exact rfl;exact rfl)|(apply S.cmp;(iterate 4 exact rfl))|(apply S.strNe;exact rfl;exact rfl;exact rfl)|(apply S.lenS;exact rfl;exact rfl) | apply S.nil | apply T.regs|(apply T.ret;change Done _ _ _ _ _))
   all_goals exact doneV (by simp) Tryz.results77 rfl (by simp_all [nameB];try omega)
theorem bat_between (n lo hi : Int) : Fn0 Tryz.prog 78 [.i n, .i lo, .i hi] (.b (decide (lo ≤ n ∧ n ≤ hi))) := by
 refine Fn0.of Tryz.func78 Tryz.ntmps78 rfl rfl rfl ?_
 simp only [entryTm]
 repeat' (first|(apply S.move;exact rfl;exact rfl)|(apply S.assign;exact rfl;exact rfl)|(apply S.gTT;exact rfl;exact rfl;assumption)|(apply S.gTF;exact rfl;exact rfl;assumption;exact rfl)|(apply S.pTp;exact rfl;assumption;exact rfl;exact rfl)|(apply S.pFp;exact rfl;assumption;exact rfl;exact rfl)|(apply S.cmp;(iterate 4 exact rfl))|(apply S.gsT;exact rfl;exact rfl;exact rfl;intro hc;rotate_left;intro hc;rotate_right) | apply S.nil | apply T.regs|(apply T.ret;change Done _ _ _ _ _))
 all_goals exact doneV (by simp) Tryz.results78 rfl (by simp [*])

/-! ### Data -/
structure ItemR where
 name : ByteArray
 at_ : Int
 width : Int
 weight : Int
 hang : Int
 front : Int
 back : Int
def ItemR.row (x : ItemR) : List Lf := [.s x.name, .i x.at_, .i x.width, .i x.weight, .i x.hang, .i x.front, .i x.back]
structure BrickR where
 name : ByteArray
 weight : Int
 count : Int
def BrickR.row (x : BrickR) : List Lf := [.s x.name, .i x.weight, .i x.count]
structure SetR where
 name : ByteArray
 depth : Int
 low : Int
 high : Int
 length : Int
 lines : List Int
 pipe : Int
 arbor : Int
 purchase : Int
 most : Int
 brake : Int
 items : List ItemR
 bricks : List BrickR
def intRow (n : Int) : List Lf := [.i n]
def SetR.row (s : SetR) : List Lf := [.s s.name, .i s.depth, .i s.low, .i s.high, .i s.length, .sl (s.lines.map intRow), .i s.pipe, .i s.arbor, .i s.purchase, .i s.most, .i s.brake, .sl (s.items.map ItemR.row), .sl (s.bricks.map BrickR.row)]
abbrev rowA (l : List Lf) : AV := .agg (l.map .lf)

/-! ### Items -/
def aloneP (x : ItemR) : Prop := nameB x.name = true ∧ (0 ≤ x.weight ∧ x.weight ≤ 1048576) ∧ (0 ≤ x.hang ∧ x.hang ≤ 1048576) ∧ (0 ≤ x.front ∧ x.front ≤ 1048576) ∧ (0 ≤ x.back ∧ x.back ≤ 1048576)
instance (x : ItemR) : Decidable (aloneP x) := by unfold aloneP;exact inferInstance
def insideP (x : ItemR) (length : Int) : Prop := 0 ≤ x.at_ ∧ (1 ≤ x.width ∧ x.width ≤ 1048576) ∧ x.at_ ≤ length - x.width
instance (x : ItemR) (l : Int) : Decidable (insideP x l) := by unfold insideP;exact inferInstance
def apartP (x y : ItemR) : Prop := x.at_ + x.width ≤ y.at_ ∨ y.at_ + y.width ≤ x.at_
instance (x y : ItemR) : Decidable (apartP x y) := by unfold apartP;exact inferInstance
set_option maxHeartbeats 4000000 in
theorem bat_alone (x : ItemR) : Fn0 Tryz.prog 112 [rowA x.row] (.b (decide (aloneP x))) := by
 refine Fn0.of Tryz.func112 Tryz.ntmps112 rfl rfl rfl ?_
 simp only [entryTm]
 repeat' (first|(apply S.move;exact rfl;exact rfl)|(apply S.assign;exact rfl;exact rfl)|(apply S.gCN;(iterate 4 exact rfl))|(apply S.gTT;exact rfl;exact rfl;assumption)|(apply S.gTF;exact rfl;exact rfl;assumption;exact rfl)|(apply S.fieldP;exact rfl;exact rfl;exact rfl)|(apply S.loadP;(iterate 4 exact rfl))|(apply S.pCN;exact rfl;exact rfl;exact rfl)|(apply S.pTp;exact rfl;assumption;exact rfl;exact rfl)|(apply S.pFp;exact rfl;assumption;exact rfl;exact rfl)|(apply S.call;exact rfl;exact rfl;exact dec_isName _;exact rfl)|(apply S.call;exact rfl;exact rfl;exact bat_between _ _ _;exact rfl)|(apply S.box;(iterate 6 exact rfl))|(apply S.gsT;exact rfl;exact rfl;exact rfl;intro hc;rotate_left;intro hc;rotate_right) | apply S.nil | apply T.regs|(apply T.ret;change Done _ _ _ _ _))
 all_goals exact doneV (by simp) Tryz.results112 rfl (by simp only [aloneP];simp [*])
set_option maxHeartbeats 4000000 in
theorem bat_inside (x : ItemR) (l : Int) (hl : 0 ≤ l ∧ l ≤ 1048576) : Fn0 Tryz.prog 113 [rowA x.row, .i l] (.b (decide (insideP x l))) := by
 refine Fn0.of Tryz.func113 Tryz.ntmps113 rfl rfl rfl ?_
 simp only [entryTm]
 repeat' (first|(apply S.move;exact rfl;exact rfl)|(apply S.assign;exact rfl;exact rfl)|(apply S.gCN;(iterate 4 exact rfl))|(apply S.gTT;exact rfl;exact rfl;assumption)|(apply S.gTF;exact rfl;exact rfl;assumption;exact rfl)|(apply S.fieldP;exact rfl;exact rfl;exact rfl)|(apply S.loadP;(iterate 4 exact rfl))|(apply S.pCN;exact rfl;exact rfl;exact rfl)|(apply S.pTp;exact rfl;assumption;exact rfl;exact rfl)|(apply S.pFp;exact rfl;assumption;exact rfl;exact rfl)|(apply S.call;exact rfl;exact rfl;exact bat_between _ _ _;exact rfl)|(apply S.arith;(iterate 4 exact rfl);omega)|(apply S.box;(iterate 6 exact rfl))|(apply S.cmp;(iterate 4 exact rfl))|(apply S.gsT;exact rfl;exact rfl;exact rfl;intro hc;rotate_left;intro hc;rotate_right) | apply S.nil | apply T.regs|(apply T.ret;change Done _ _ _ _ _))
 all_goals exact doneV (by simp) Tryz.results113 rfl (by simp only [insideP];simp [*])
set_option maxHeartbeats 4000000 in
theorem bat_apart (x y : ItemR) (hx : 0 ≤ x.at_ ∧ x.at_ ≤ 1048576 ∧ 0 ≤ x.width ∧ x.width ≤ 1048576) (hy : 0 ≤ y.at_ ∧ y.at_ ≤ 1048576 ∧ 0 ≤ y.width ∧ y.width ≤ 1048576) : Fn0 Tryz.prog 116 [rowA x.row, rowA y.row] (.b (decide (apartP x y))) := by
 refine Fn0.of Tryz.func116 Tryz.ntmps116 rfl rfl rfl ?_
 simp only [entryTm]
 repeat' (first|(apply S.move;exact rfl;exact rfl)|(apply S.assign;exact rfl;exact rfl)|(apply S.gFF;exact rfl;exact rfl;assumption)|(apply S.gFT;exact rfl;exact rfl;assumption;exact rfl)|(apply S.fieldP;exact rfl;exact rfl;exact rfl)|(apply S.loadP;(iterate 4 exact rfl))|(apply S.pTp;exact rfl;assumption;exact rfl;exact rfl)|(apply S.pFp;exact rfl;assumption;exact rfl;exact rfl)|(apply S.arith;(iterate 4 exact rfl);omega)|(apply S.box;(iterate 6 exact rfl))|(apply S.cmp;(iterate 4 exact rfl))|(apply S.gsF;exact rfl;exact rfl;exact rfl;intro hc;rotate_left;intro hc;rotate_right) | apply S.nil | apply T.regs|(apply T.ret;change Done _ _ _ _ _))
 all_goals exact doneV (by simp) Tryz.results116 rfl (by simp only [apartP];simp [*])
theorem bat_items1 (x : ItemR) : Fn0 Tryz.prog 111 [rowA x.row] (.s x.name) := by
 refine Fn0.of Tryz.func111 Tryz.ntmps111 rfl rfl rfl ?_
 simp only [entryTm]
 repeat' (first|(apply S.assign;exact rfl;exact rfl)|(apply S.fieldP;exact rfl;exact rfl;exact rfl)|(apply S.loadP;(iterate 4 exact rfl))|(apply S.box;(iterate 6 exact rfl)) | apply S.nil | apply T.regs|(apply T.ret;change Done _ _ _ _ _))
 all_goals exact doneV (by simp) Tryz.results111 rfl (by rfl)
theorem bat_bricks1 (x : BrickR) : Fn0 Tryz.prog 118 [rowA x.row] (.s x.name) := by
 refine Fn0.of Tryz.func118 Tryz.ntmps118 rfl rfl rfl ?_
 simp only [entryTm]
 repeat' (first|(apply S.assign;exact rfl;exact rfl)|(apply S.fieldP;exact rfl;exact rfl;exact rfl)|(apply S.loadP;(iterate 4 exact rfl))|(apply S.box;(iterate 6 exact rfl)) | apply S.nil | apply T.regs|(apply T.ret;change Done _ _ _ _ _))
 all_goals exact doneV (by simp) Tryz.results118 rfl (by rfl)
set_option maxHeartbeats 4000000 in
theorem bat_items2 (x y : ItemR) (hx : 0 ≤ x.at_ ∧ x.at_ ≤ 1048576 ∧ 0 ≤ x.width ∧ x.width ≤ 1048576) (hy : 0 ≤ y.at_ ∧ y.at_ ≤ 1048576 ∧ 0 ≤ y.width ∧ y.width ≤ 1048576) : Fn0 Tryz.prog 115 [rowA y.row, .rop x.row] (.b (decide (¬ apartP x y))) := by
 refine Fn0.of Tryz.func115 Tryz.ntmps115 rfl rfl rfl ?_
 simp only [entryTm]
 repeat' (first|(apply S.assign;exact rfl;exact rfl)|(apply S.call;exact rfl;exact rfl;exact bat_apart x y hx hy;exact rfl)|(apply S.loadPA;(iterate 4 exact rfl))|(apply S.loadRA;(iterate 4 exact rfl))|(apply S.box;(iterate 6 exact rfl))|(apply S.notP;exact rfl;exact rfl) | apply S.nil | apply T.regs|(apply T.ret;change Done _ _ _ _ _))
 all_goals exact doneV (by simp) Tryz.results115 rfl (by rfl)
end Go.Proofs.YtlncmkafjjomgaaGreat
set_option linter.unusedSimpArgs false
namespace Go.Proofs.YtlncmkafjjomgaaGreat
set_option linter.unusedVariables false
open Go.RowKit
theorem anyOrder : Tryz.prog.follows .mixedOrders = true := by kernel_rfl

/-! ### Names that occur twice -/
def esOf {α : Type} (nm : α → ByteArray) (l : List α) : List (ByteArray × Value) := l.foldl (fun es x => putM es (nm x) (.agg #[])) []
theorem putM_keys (es : List (ByteArray × Value)) (s : ByteArray) (v : Value) : (∀ k, k ∈ (putM es s v).map (·.1) ↔ k ∈ es.map (·.1) ∨ k = s) ∧ (s ∈ es.map (·.1) → (putM es s v).length = es.length) ∧ (s ∉ es.map (·.1) → (putM es s v).length = es.length + 1) := by
 induction es with
 | nil => simp [putM]
 | cons p es ih =>
  obtain ⟨k, u⟩ := p
  obtain ⟨h1, h2, h3⟩ := ih
  by_cases e : k = s
  ·subst e
   simp only [putM, if_true, List.map_cons, List.mem_cons, List.length_cons]
   exact ⟨fun j => ⟨fun h => .inl h, fun h => h.elim id .inl⟩, fun _ => trivial, fun h => absurd (.inl trivial) h⟩
  ·simp only [putM, if_neg e, List.map_cons, List.mem_cons, List.length_cons]
   refine ⟨fun j => ?_, fun h => ?_, fun h => ?_⟩
   ·rw [h1 j]
    exact ⟨fun h => h.elim (fun h => .inl (.inl h)) fun h => h.elim (fun h => .inl (.inr h)) .inr, fun h => h.elim (fun h => h.elim .inl fun h => .inr (.inl h)) fun h => .inr (.inr h)⟩
   ·rw [h2 (h.resolve_left fun h => e h.symm)]
   ·rw [h3 fun hm => h (.inr hm)]
theorem esOf_snoc {α : Type} (nm : α → ByteArray) (l : List α) (x : α) : esOf nm (l ++ [x]) = putM (esOf nm l) (nm x) (.agg #[]) := by simp [esOf]
theorem nodup_snoc {β : Type} (l : List β) (x : β) : (l ++ [x]).Nodup ↔ l.Nodup ∧ x ∉ l := by
 unfold List.Nodup
 rw [List.pairwise_append]
 constructor
 ·rintro ⟨h1, _, h2⟩
  exact ⟨h1, fun hx => h2 x hx x (by simp) rfl⟩
 ·rintro ⟨h1, h2⟩
  refine ⟨h1, by simp, fun a ha b hb => ?_⟩
  obtain rfl : b = x := by simpa using hb
  exact fun e => h2 (e ▸ ha)
theorem esOf_spec {α : Type} (nm : α → ByteArray) (l : List α) : (∀ k, k ∈ (esOf nm l).map (·.1) ↔ k ∈ l.map nm) ∧ (esOf nm l).length ≤ l.length ∧ ((esOf nm l).length = l.length ↔ (l.map nm).Nodup) := by
 have key : ∀ (m : List α), (∀ k, k ∈ (esOf nm m.reverse).map (·.1) ↔ k ∈ m.reverse.map nm) ∧ (esOf nm m.reverse).length ≤ m.reverse.length ∧ ((esOf nm m.reverse).length = m.reverse.length ↔ (m.reverse.map nm).Nodup) := fun m => by
  induction m with
  | nil => simp [esOf]
  | cons x m ih =>
   obtain ⟨h1, h2, h3⟩ := ih
   obtain ⟨g1, g2, g3⟩ := putM_keys (esOf nm m.reverse) (nm x) (.agg #[])
   rw [List.reverse_cons, esOf_snoc]
   refine ⟨fun k => by rw [g1 k, h1 k];simp, ?_, ?_⟩
   ·rw [List.length_append];simp only [List.length_singleton]
    by_cases hm : nm x ∈ (esOf nm m.reverse).map (·.1)
    ·rw [g2 hm];omega
    ·rw [g3 hm];omega
   ·rw [List.map_append, List.map_singleton, nodup_snoc, List.length_append, ← h3]
    simp only [List.length_singleton]
    by_cases hm : nm x ∈ (esOf nm m.reverse).map (·.1)
    ·rw [g2 hm]
     exact ⟨fun h => by omega, fun ⟨_, h⟩ => absurd ((h1 _).1 hm) h⟩
    ·rw [g3 hm]
     exact ⟨fun h => ⟨by omega, fun h => hm ((h1 _).2 h)⟩, fun ⟨h, _⟩ => by omega⟩
 have := key l.reverse
 rwa [List.reverse_reverse] at this
theorem esOf_lt {α : Type} (nm : α → ByteArray) (l : List α) : decide (((esOf nm l).length : Int) < l.length) = decide (¬ (l.map nm).Nodup) := by
 obtain ⟨_, h2, h3⟩ := esOf_spec nm l
 by_cases h : (l.map nm).Nodup
 ·have e := h3.2 h
  rw [decide_eq_false (by omega), decide_eq_false (fun hn => hn h)]
 ·have e : (esOf nm l).length ≠ l.length := fun e => h (h3.1 e)
  rw [decide_eq_true (by omega), decide_eq_true h]
set_option maxHeartbeats 4000000 in
theorem twiceItem {α : Type} (l : List α) (R : α → List Lf) (nm : α → ByteArray) (g : FuncId) (caps : List AV) (hR : ∀ x, (R x).length = 7) (h1c : ∀ x, ((R x).map AV.lf).all AV.one = true) (hl : l.length ≤ 9223372036854775807) (hcaps : caps.all AV.cap = true) (hg : ∀ x ∈ l, Fn0 Tryz.prog g (.agg ((R x).map .lf) :: caps) (.s (nm x))) :
  Fn0 Tryz.prog 110 [.sl (l.map R), .fn (.func g) [] caps] (.b (decide (¬ (l.map nm).Nodup))) := by
 have hle : (l.map R).length = l.length := List.length_map _
 refine Fn0.of Tryz.func110 Tryz.ntmps110 rfl rfl rfl ?_
 simp only [entryTm]
 repeat' (first|(apply S.move;exact rfl;exact rfl)|(apply S.assign;exact rfl;exact rfl)|(apply S.makeMap;exact rfl;exact rfl)|(apply S.lenR;exact rfl;exact rfl) | apply S.nil | apply T.regs | apply T.seq | apply T.block)
 refine T.loopS (fun k => k ≤ l.length) (fun k => l.length - k) (fun k => [(11, .i k), (10, .i (l.map R).length), (0, .sl (l.map R)), (9, .sl (l.map R)), (5, .mp 0), (1, .fn (.func g) [] caps)]) (fun k => [.map (strM (esOf nm (l.take k)))]) 0 (Nat.zero_le _) (.cons rfl rfl (.cons rfl rfl (.cons rfl rfl (.cons rfl rfl (.cons rfl rfl (.cons rfl (under_caps hcaps) .nil)))))) (.map .nil) ?_
 intro k hk
 by_cases hlt : k < l.length
 ·have h1 : (k : Int) < ((l.map R).length : Nat) := by omega
  obtain ⟨x, hx⟩ : ∃ x, l[k]? = some x := ⟨l[k], List.getElem?_eq_getElem hlt⟩
  have hb : (l.map R)[((k : Nat) : Int).toNat]? = some (R x) := by rw [Int.toNat_natCast, List.getElem?_map, hx];rfl
  have hx2 := hg x (List.mem_of_getElem? hx)
  have hsn : esOf nm (l.take (k + 1)) = putM (esOf nm (l.take k)) (nm x) (.agg #[]) := by rw [List.take_add_one, hx];exact esOf_snoc nm _ x
  obtain ⟨row, hrow⟩ : ∃ row, R x = row := ⟨_, rfl⟩
  have hlen := hR x
  have hone := h1c x
  rw [hrow] at hb hx2 hlen hone
  match row, hlen, hone with
  | [a1, a2, a3, a4, a5, a6, a7], _, hone =>
   repeat' (first|(apply S.move;exact rfl;exact rfl)|(apply S.indexR;exact rfl;exact rfl;exact rfl;exact hb;omega;exact rfl)|(apply S.loadRW;(iterate 4 exact rfl))|(apply S.callF;exact rfl;exact rfl;exact hx2;exact caps_all (row := [a1, a2, a3, a4, a5, a6, a7]) hcaps;exact rfl)|(apply S.store;(iterate 4 exact rfl);exact hone;exact rfl;exact rfl)|(apply S.mapUpdate;(iterate 5 exact rfl))|(apply S.arith;(iterate 4 exact rfl);omega)|(apply S.loadPA;(iterate 4 exact rfl))|(apply S.alloc;(iterate 5 exact rfl))|(apply S.cmp;(iterate 4 exact rfl))|(apply S.build;exact rfl;exact rfl;exact rfl) | apply S.nil | apply T.regs | apply T.reg|(apply T.cT;exact rfl;assumption) | apply T.seq|(apply T.skip;first | change T _ _ _ _ _ | change Done _ _ _ _ _ | change Next _ _ _ _ _ _ | skip) | apply T.block)
   change Next _ _ _ _ _ _
   exact Next.go (k + 1) (by omega) (by omega) (.cons rfl rfl (.cons rfl rfl (.cons rfl rfl (.cons rfl rfl (.cons rfl rfl (.cons rfl (under_caps hcaps) .nil)))))) (by show CovH _ _ [.map (strM (esOf nm (l.take (k + 1))))];rw [hsn];exact .map .nil)
 ·have h1 : ¬ (k : Int) < ((l.map R).length : Nat) := by omega
  have hk2 : l.take k = l := List.take_of_length_le (by omega)
  repeat' (first|(apply S.move;exact rfl;exact rfl)|(apply S.assign;exact rfl;exact rfl)|(apply S.mapLen;exact rfl;exact rfl;exact rfl)|(apply S.cmp;(iterate 4 exact rfl))|(apply S.lenR;exact rfl;exact rfl) | apply S.nil | apply T.regs|(apply T.cF;exact rfl;assumption) | apply T.seq|(apply T.ret;change Done _ _ _ _ _)|(apply T.exit;first | change T _ _ _ _ _ | change Done _ _ _ _ _ | change Next _ _ _ _ _ _ | skip))
  exact doneV (by simp) Tryz.results110 rfl (by rw [hk2, hle, strM_len];exact congrArg Value.bool (esOf_lt nm l))
set_option maxHeartbeats 4000000 in
theorem twiceBrick {α : Type} (l : List α) (R : α → List Lf) (nm : α → ByteArray) (g : FuncId) (caps : List AV) (hR : ∀ x, (R x).length = 3) (h1c : ∀ x, ((R x).map AV.lf).all AV.one = true) (hl : l.length ≤ 9223372036854775807) (hcaps : caps.all AV.cap = true) (hg : ∀ x ∈ l, Fn0 Tryz.prog g (.agg ((R x).map .lf) :: caps) (.s (nm x))) :
  Fn0 Tryz.prog 117 [.sl (l.map R), .fn (.func g) [] caps] (.b (decide (¬ (l.map nm).Nodup))) := by
 have hle : (l.map R).length = l.length := List.length_map _
 refine Fn0.of Tryz.func117 Tryz.ntmps117 rfl rfl rfl ?_
 simp only [entryTm]
 repeat' (first|(apply S.move;exact rfl;exact rfl)|(apply S.assign;exact rfl;exact rfl)|(apply S.makeMap;exact rfl;exact rfl)|(apply S.lenR;exact rfl;exact rfl) | apply S.nil | apply T.regs | apply T.seq | apply T.block)
 refine T.loopS (fun k => k ≤ l.length) (fun k => l.length - k) (fun k => [(11, .i k), (10, .i (l.map R).length), (0, .sl (l.map R)), (9, .sl (l.map R)), (5, .mp 0), (1, .fn (.func g) [] caps)]) (fun k => [.map (strM (esOf nm (l.take k)))]) 0 (Nat.zero_le _) (.cons rfl rfl (.cons rfl rfl (.cons rfl rfl (.cons rfl rfl (.cons rfl rfl (.cons rfl (under_caps hcaps) .nil)))))) (.map .nil) ?_
 intro k hk
 by_cases hlt : k < l.length
 ·have h1 : (k : Int) < ((l.map R).length : Nat) := by omega
  obtain ⟨x, hx⟩ : ∃ x, l[k]? = some x := ⟨l[k], List.getElem?_eq_getElem hlt⟩
  have hb : (l.map R)[((k : Nat) : Int).toNat]? = some (R x) := by rw [Int.toNat_natCast, List.getElem?_map, hx];rfl
  have hx2 := hg x (List.mem_of_getElem? hx)
  have hsn : esOf nm (l.take (k + 1)) = putM (esOf nm (l.take k)) (nm x) (.agg #[]) := by rw [List.take_add_one, hx];exact esOf_snoc nm _ x
  obtain ⟨row, hrow⟩ : ∃ row, R x = row := ⟨_, rfl⟩
  have hlen := hR x
  have hone := h1c x
  rw [hrow] at hb hx2 hlen hone
  match row, hlen, hone with
  | [a1, a2, a3], _, hone =>
   repeat' (first|(apply S.move;exact rfl;exact rfl)|(apply S.indexR;exact rfl;exact rfl;exact rfl;exact hb;omega;exact rfl)|(apply S.loadRW;(iterate 4 exact rfl))|(apply S.callF;exact rfl;exact rfl;exact hx2;exact caps_all (row := [a1, a2, a3]) hcaps;exact rfl)|(apply S.store;(iterate 4 exact rfl);exact hone;exact rfl;exact rfl)|(apply S.mapUpdate;(iterate 5 exact rfl))|(apply S.arith;(iterate 4 exact rfl);omega)|(apply S.loadPA;(iterate 4 exact rfl))|(apply S.alloc;(iterate 5 exact rfl))|(apply S.cmp;(iterate 4 exact rfl))|(apply S.build;exact rfl;exact rfl;exact rfl) | apply S.nil | apply T.regs | apply T.reg|(apply T.cT;exact rfl;assumption) | apply T.seq|(apply T.skip;first | change T _ _ _ _ _ | change Done _ _ _ _ _ | change Next _ _ _ _ _ _ | skip) | apply T.block)
   change Next _ _ _ _ _ _
   exact Next.go (k + 1) (by omega) (by omega) (.cons rfl rfl (.cons rfl rfl (.cons rfl rfl (.cons rfl rfl (.cons rfl rfl (.cons rfl (under_caps hcaps) .nil)))))) (by show CovH _ _ [.map (strM (esOf nm (l.take (k + 1))))];rw [hsn];exact .map .nil)
 ·have h1 : ¬ (k : Int) < ((l.map R).length : Nat) := by omega
  have hk2 : l.take k = l := List.take_of_length_le (by omega)
  repeat' (first|(apply S.move;exact rfl;exact rfl)|(apply S.assign;exact rfl;exact rfl)|(apply S.mapLen;exact rfl;exact rfl;exact rfl)|(apply S.cmp;(iterate 4 exact rfl))|(apply S.lenR;exact rfl;exact rfl) | apply S.nil | apply T.regs|(apply T.cF;exact rfl;assumption) | apply T.seq|(apply T.ret;change Done _ _ _ _ _)|(apply T.exit;first | change T _ _ _ _ _ | change Done _ _ _ _ _ | change Next _ _ _ _ _ _ | skip))
  exact doneV (by simp) Tryz.results117 rfl (by rw [hk2, hle, strM_len];exact congrArg Value.bool (esOf_lt nm l))

/-! ### Lists of items -/
def okI (len : Int) (m : List ItemR) : Prop := (∀ x ∈ m, aloneP x ∧ insideP x len) ∧ m.Pairwise fun y x => apartP x y
def itemsP (l : List ItemR) (len : Int) : Prop := l.length ≤ 40 ∧ (l.map ItemR.name).Nodup ∧ okI len l
noncomputable instance (l : List ItemR) (len : Int) : Decidable (itemsP l len) := Classical.propDecidable _
theorem okI_snoc {len : Int} {m : List ItemR} {x : ItemR} : okI len (m ++ [x]) ↔ okI len m ∧ (aloneP x ∧ insideP x len) ∧ ∀ y ∈ m, apartP x y := by
 unfold okI
 rw [List.pairwise_append]
 constructor
 ·rintro ⟨h1, h2, _, h3⟩
  exact ⟨⟨fun y hy => h1 y (by simp [hy]), h2⟩, h1 x (by simp), fun y hy => h3 y hy x (by simp)⟩
 ·rintro ⟨⟨h1, h2⟩, h3, h4⟩
  refine ⟨fun y hy => ?_, h2, by simp, fun y hy z hz => ?_⟩
  ·rcases List.mem_append.1 hy with h | h
   ·exact h1 y h
   ·obtain rfl : y = x := by simpa using h
    exact h3
  ·obtain rfl : z = x := by simpa using hz
   exact h4 y hy
theorem okI_append {len : Int} {a b : List ItemR} (h : okI len (a ++ b)) : okI len a := by
 unfold okI at h ⊢
 rw [List.pairwise_append] at h
 exact ⟨fun x hx => h.1 x (by simp [hx]), h.2.1⟩
theorem inside_bounds {x : ItemR} {len : Int} (hl : 0 ≤ len ∧ len ≤ 1048576) (h : insideP x len) : 0 ≤ x.at_ ∧ x.at_ ≤ 1048576 ∧ 0 ≤ x.width ∧ x.width ≤ 1048576 := by
 obtain ⟨h1, h2, h3⟩ := h
 omega
theorem items_contains {l : List ItemR} {k : Nat} {x : ItemR} {len : Int} (hl : 0 ≤ len ∧ len ≤ 1048576) (hs : l.length ≤ 40) (hok : okI len (l.take k)) (hx : insideP x len) :
  Fn0 Tryz.prog 114 [.sl ((l.map ItemR.row).take ((k : Nat) : Int).toNat), .fn (.func 115) [] [.rop x.row]] (.b (decide (∃ y ∈ l.take k, ¬ apartP x y))) := by
 rw [Int.toNat_natCast, ← List.map_take]
 refine containsFuncItem (l.take k) ItemR.row (fun y => ¬ apartP x y) _ _ (fun _ => rfl) (by simp;omega) rfl fun y hy => ?_
 exact bat_items2 x y (inside_bounds hl hx) (inside_bounds hl (hok.1 y hy).2)
set_option maxHeartbeats 4000000 in
theorem bat_items (l : List ItemR) (len : Int) (hl : 0 ≤ len ∧ len ≤ 1048576) (hs : l.length ≤ 9223372036854775807) : Fn0 Tryz.prog 80 [.sl (l.map ItemR.row), .i len] (.b (decide (itemsP l len))) := by
 have htw := twiceItem l ItemR.row ItemR.name 111 [] (fun _ => rfl) (fun _ => rfl) hs rfl fun x _ => bat_items1 x
 have hle : (l.map ItemR.row).length = l.length := List.length_map _
 refine Fn0.of Tryz.func80 Tryz.ntmps80 rfl rfl rfl ?_
 simp only [entryTm]
 repeat' (first|(apply S.move;exact rfl;exact rfl)|(apply S.assign;exact rfl;exact rfl)|(apply S.gFF;exact rfl;exact rfl;assumption)|(apply S.gFT;exact rfl;exact rfl;assumption;exact rfl)|(apply S.pTp;exact rfl;assumption;exact rfl;exact rfl)|(apply S.pFp;exact rfl;assumption;exact rfl;exact rfl)|(apply S.call;exact rfl;exact rfl;exact htw;exact rfl)|(apply S.cmp;(iterate 4 exact rfl))|(apply S.lenR;exact rfl;exact rfl)|(apply S.gsF;exact rfl;exact rfl;exact rfl;intro hc;rotate_left;intro hc;rotate_right) | apply S.nil | apply T.regs|(apply T.cC;exact rfl)|(apply T.cSn;exact rfl;intro hc;rotate_left;intro hc;rotate_right) | apply T.seq|(apply T.skip;first | change T _ _ _ _ _ | change Done _ _ _ _ _ | change Next _ _ _ _ _ _ | skip)|(apply T.ret;change Done _ _ _ _ _) | apply T.block)
 all_goals first
  | exact doneV (by simp) Tryz.results80 rfl (congrArg Value.bool (decide_eq_false (fun h => by have := h.1;omega)).symm)
  | exact doneV (by simp) Tryz.results80 rfl (congrArg Value.bool (decide_eq_false (fun h => by have := h.2.1;contradiction)).symm)
  | skip
 have hs40 : l.length ≤ 40 := by omega
 refine T.loopS (fun k => k ≤ l.length ∧ okI len (l.take k)) (fun k => l.length - k) (fun k => [(16, .i k), (15, .i (l.map ItemR.row).length), (0, .sl (l.map ItemR.row)), (14, .sl (l.map ItemR.row)), (1, .i len)]) (fun _ => []) 0 ⟨Nat.zero_le _, by simp [okI]⟩ (.cons rfl rfl (.cons rfl rfl (.cons rfl rfl (.cons rfl rfl (.cons rfl rfl .nil))))) .nil ?_
 rintro k ⟨hk, hok⟩
 by_cases hlt : k < l.length
 ·have h1 : (k : Int) < ((l.map ItemR.row).length : Nat) := by omega
  obtain ⟨x, hx⟩ : ∃ x, l[k]? = some x := ⟨l[k], List.getElem?_eq_getElem hlt⟩
  have hb : (l.map ItemR.row)[((k : Nat) : Int).toNat]? = some (ItemR.row x) := by rw [Int.toNat_natCast, List.getElem?_map, hx];rfl
  have hsn : l.take (k + 1) = l.take k ++ [x] := by rw [List.take_add_one, hx];rfl
  repeat' (first|(apply S.move;exact rfl;exact rfl)|(apply S.assign;exact rfl;exact rfl)|(apply S.gCN;(iterate 4 exact rfl))|(apply S.gFT;exact rfl;exact rfl;assumption;exact rfl)|(apply S.gFFn;exact rfl;exact rfl;assumption)|(apply S.pC;exact rfl;exact rfl;exact rfl)|(apply S.pTp;exact rfl;assumption;exact rfl;exact rfl)|(apply S.pFn;exact rfl;assumption;exact rfl;exact rfl)|(apply S.indexR;exact rfl;exact rfl;exact rfl;exact hb;omega;exact rfl)|(apply S.loadRW;(iterate 4 exact rfl))|(apply S.call;exact rfl;exact rfl;exact bat_alone x;exact rfl)|(apply S.call;exact rfl;exact rfl;exact bat_inside x len hl;exact rfl)|(apply S.sliceTo;exact rfl;exact rfl;exact rfl;omega;(intro row hr;obtain ⟨z, _, rfl⟩ := List.mem_map.1 hr;rfl))|(apply S.callV;exact rfl;exact items_contains hl hs40 hok (by assumption);exact .cons (.one (.lf _)) (.cons (.fn (.cons (.ptr0 rfl) .nil)) .nil);exact rfl;exact rfl)|(apply S.arith;(iterate 4 exact rfl);omega)|(apply S.loadPA;(iterate 4 exact rfl))|(apply S.alloc;(iterate 5 exact rfl))|(apply S.store;(iterate 7 exact rfl))|(apply S.cmp;(iterate 4 exact rfl))|(apply S.notP;exact rfl;exact rfl)|(apply S.makeFunc;exact rfl;exact rfl)|(apply S.gsFn;exact rfl;exact rfl;exact rfl;intro hc;rotate_left;intro hc;rotate_right) | apply S.nil | apply T.regs | apply T.reg|(apply T.cC;exact rfl)|(apply T.cT;exact rfl;assumption)|(apply T.cS;exact rfl;intro hc;rotate_left;intro hc;rotate_right) | apply T.seq|(apply T.skip;first | change T _ _ _ _ _ | change Done _ _ _ _ _ | change Next _ _ _ _ _ _ | skip)|(apply T.ret;change Done _ _ _ _ _) | apply T.block)
  all_goals (try change Next _ _ _ _ _ _)
  all_goals first
   | exact Next.go (k + 1) ⟨by omega, by rw [hsn];exact okI_snoc.2 ⟨hok, ⟨by assumption, by assumption⟩, fun y hy => Classical.byContradiction fun hn => (by assumption : ¬ ∃ y ∈ l.take k, ¬ apartP x y) ⟨y, hy, hn⟩⟩⟩ (by omega) (.cons rfl rfl (.cons rfl rfl (.cons rfl rfl (.cons rfl rfl (.cons rfl rfl .nil))))) .nil
   | exact doneV (by simp) Tryz.results80 rfl (congrArg Value.bool (decide_eq_false (fun h => by
     have h3 := List.take_append_drop (k + 1) l
     have h4 := h.2.2
     rw [← h3, hsn] at h4
     have h5 := (okI_snoc.1 (okI_append h4)).2
     first | exact absurd h5.1.1 (by assumption) | exact absurd h5.1.2 (by assumption) | exact (by assumption : ∃ y ∈ l.take k, ¬ apartP x y).elim fun y hy => hy.2 (h5.2 y hy.1))).symm)
 ·have h1 : ¬ (k : Int) < ((l.map ItemR.row).length : Nat) := by omega
  rw [List.take_of_length_le (by omega)] at hok
  repeat' (first|(apply S.assign;exact rfl;exact rfl)|(apply S.cmp;(iterate 4 exact rfl)) | apply S.nil | apply T.regs|(apply T.cF;exact rfl;assumption) | apply T.seq|(apply T.ret;change Done _ _ _ _ _)|(apply T.exit;first | change T _ _ _ _ _ | change Done _ _ _ _ _ | change Next _ _ _ _ _ _ | skip))
  exact doneV (by simp) Tryz.results80 rfl (congrArg Value.bool (decide_eq_true ⟨hs40, by first | assumption | exact Classical.byContradiction (by assumption), hok⟩).symm)
end Go.Proofs.YtlncmkafjjomgaaGreat
