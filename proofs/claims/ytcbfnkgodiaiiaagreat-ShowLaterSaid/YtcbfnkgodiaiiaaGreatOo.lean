/- Contracts: how far a set reaches, whether two sets are near, how far a set hangs down (the program's side, and the reference's). No conditions but those of each statement. -/
import Derived.Test.YtcbfnkgodiaiiaaGreatPa
import Derived.Test.YtcbfnkgodiaiiaaGreatMm
import Derived.Test.YtcbfnkgodiaiiaaGreatOl
import Derived.Test.YtcbfnkgodiaiiaaGreatMn
set_option linter.unusedSimpArgs false
set_option linter.unusedVariables false
namespace Go.Proofs.YtcbfnkgodiaiiaaGreat
open Go Go.RowKit
theorem Res.tmpE {P : Program} {st : St} {t : Nat} {x y : AV} (h : st.tm.get t = some x) (e : x = y) : Res P st (.tmp t) y := by subst e;exact .tmp h
structure ReachR where
 left : Int
 right : Int
 hang : Int
 front : Int
 back : Int
def ReachR.row (r : ReachR) : List Lf := [.i r.left, .i r.right, .i r.hang, .i r.front, .i r.back]
def F7 (r : ReachR) (x : ItemR) : ReachR := ⟨min r.left x.at_, max r.right (x.at_ + x.width), max r.hang x.hang, max r.front x.front, max r.back x.back⟩
def Cj (s : SetR) : ReachR := if s.items.length = 0 then ⟨0, s.length, 0, 0, 0⟩ else s.items.foldl F7 ⟨s.length, 0, 0, 0, 0⟩
def Da (a b : SetR) : Prop := (Cj a).left < (Cj b).right /\ (Cj b).left < (Cj a).right /\ a.depth - (Cj a).back < b.depth + (Cj b).front /\ b.depth - (Cj b).back < a.depth + (Cj a).front
instance (a b : SetR) : Decidable (Da a b) := by unfold Da;exact inferInstance
def Bv (s : SetR) : Int := s.items.foldl (fun n x => max n x.hang) 0
structure ReachR.ok (r : ReachR) : Prop where
 left : 0 <= r.left /\ r.left <= 2097152
 right : 0 <= r.right /\ r.right <= 2097152
 hang : 0 <= r.hang /\ r.hang <= 1048576
 front : 0 <= r.front /\ r.front <= 1048576
 back : 0 <= r.back /\ r.back <= 1048576
theorem A0v {s : SetR} (hs : De s) {x : ItemR} (hx : x ∈ s.items) : (0 <= x.at_ /\ x.at_ <= 1048576) /\ (1 <= x.width /\ x.width <= 1048576) /\ (0 <= x.hang /\ x.hang <= 1048576) /\ (0 <= x.front /\ x.front <= 1048576) /\ (0 <= x.back /\ x.back <= 1048576) /\ x.at_ + x.width <= 1048576 := by
 obtain ⟨_, _, _, _, _, hl, _, _, _, _, _, _, _, hi, _⟩ := hs
 obtain ⟨h1, h2⟩ := hi.2.2.1 x hx
 obtain ⟨_, _, a1, a2, a3⟩ := h1
 obtain ⟨b1, b2, b3⟩ := h2
 exact ⟨⟨b1, by omega⟩, b2, a1, a2, a3, by omega⟩
theorem A5f {r : ReachR} {x : ItemR} (h : r.ok) (hx : (0 <= x.at_ /\ x.at_ <= 1048576) /\ (1 <= x.width /\ x.width <= 1048576) /\ (0 <= x.hang /\ x.hang <= 1048576) /\ (0 <= x.front /\ x.front <= 1048576) /\ (0 <= x.back /\ x.back <= 1048576) /\ x.at_ + x.width <= 1048576) : (F7 r x).ok := by
 obtain ⟨h1, h2, h3, h4, h5⟩ := h
 obtain ⟨k1, k2, k3, k4, k5, _⟩ := hx
 unfold F7
 exact ⟨by dsimp only;omega, by dsimp only;omega, by dsimp only;omega, by dsimp only;omega, by dsimp only;omega⟩
theorem P8 {s : SetR} (hs : De s) : ∀ k, k <= s.items.length -> ((s.items.take k).foldl F7 ⟨s.length, 0, 0, 0, 0⟩).ok
 | 0, _ => by
  have := hs.2.2.2.2.2.1
  exact ⟨by dsimp only [List.take_zero, List.foldl_nil];omega, by dsimp only [List.take_zero, List.foldl_nil];omega, by dsimp only [List.take_zero, List.foldl_nil];omega, by dsimp only [List.take_zero, List.foldl_nil];omega, by dsimp only [List.take_zero, List.foldl_nil];omega⟩
 | k + 1, hk => by
  obtain ⟨x, hx⟩ := A9 (l := s.items) (k := k) (by omega)
  rw [Bn hx, List.foldl_append]
  exact A5f (P8 hs k (by omega)) (A0v hs (List.mem_of_getElem? hx))
theorem Od {s : SetR} (hs : De s) : (Cj s).ok := by
 unfold Cj
 split
 ·have := hs.2.2.2.2.2.1
  exact ⟨by dsimp only;omega, by dsimp only;omega, by dsimp only;omega, by dsimp only;omega, by dsimp only;omega⟩
 ·have := P8 hs s.items.length (Nat.le_refl _)
  rwa [List.take_length] at this
theorem A2e (s : SetR) : (Cj s).hang = Bv s := by
 have key : ∀ (l : List ItemR) (r : ReachR), (l.foldl F7 r).hang = l.foldl (fun n x => max n x.hang) r.hang := fun l => by
  induction l with
  | nil => intro r;rfl
  | cons x l ih => intro r;rw [List.foldl_cons, List.foldl_cons, ih];rfl
 unfold Cj Bv
 split
 ·rename_i h
  rw [List.eq_nil_of_length_eq_zero h];rfl
 ·exact key _ _
def A4p (s : SetR) : Nat -> List AV
 | 0 => s.row.map .lf
 | k + 1 => match s.items[k]? with | some x => x.row.map .lf | none => []
set_option maxHeartbeats 16000000 in
theorem Yn (s : SetR) (hs : De s) : Fn0 Tryz.prog 96 [A1 s.row] (A1 (Cj s).row) := by
 have h40 : s.items.length <= 40 := hs.2.2.2.2.2.2.2.2.2.2.2.2.2.1.1
 have hle : (s.items.map ItemR.row).length = s.items.length := List.length_map _
 by_cases h0 : s.items.length = 0
 ·have h1 : (((s.items.map ItemR.row).length : Nat) : Int) = 0 := by omega
  have hr : Cj s = ⟨0, s.length, 0, 0, 0⟩ := if_pos h0
  rw [hr]
  refine Fn0.of Tryz.func96 Tryz.ntmps96 rfl rfl rfl ?_
  simp only [A2]
  repeat' (first | refine W ?_|(apply S.buildN;exact rfl;exact rfl;exact rfl)|(apply T.drawAll A0 (by decide +kernel)) | refine V ?_|(refine W2 ?_ ?_ <;> intro hc))
  all_goals exact ⟨.inr rfl, [A1 [.i 0, .i s.length, .i 0, .i 0, .i 0]], .cons (Res.row [.i 0, .i s.length, .i 0, .i 0, .i 0] rfl rfl rfl rfl rfl) .nil, .one (.agg (A7 _))⟩
 ·have h1 : ¬ (((s.items.map ItemR.row).length : Nat) : Int) = 0 := by omega
  have hr : Cj s = s.items.foldl F7 ⟨s.length, 0, 0, 0, 0⟩ := if_neg h0
  rw [hr]
  refine Fn0.of Tryz.func96 Tryz.ntmps96 rfl rfl rfl ?_
  simp only [A2]
  repeat' (first | refine W ?_|(apply S.buildN;exact rfl;exact rfl;exact rfl)|(apply T.drawAll A0 (by decide +kernel)) | refine V ?_|(refine W2 ?_ ?_ <;> intro hc))
  refine T.loopS (fun k => k <= s.items.length) (fun k => s.items.length - k) (fun k => [(19, .i k), (18, .i (s.items.map ItemR.row).length), (17, .sl (s.items.map ItemR.row)), (3, .ptr 2 0), (2, .ptr 1 0)]) (fun k => [.live (A4p s k), .live [.i 0, .i 0, .i 0, .i 0, .i 0], .live (((s.items.take k).foldl F7 ⟨s.length, 0, 0, 0, 0⟩).row.map .lf)]) 0 (Nat.zero_le _) CW CG ?_
  intro k hk
  by_cases hlt : (k : Int) < ((s.items.map ItemR.row).length : Nat)
  ·obtain ⟨x, hx⟩ := A9 (l := s.items) (k := k) (by omega)
   have hb := Ac (R := ItemR.row) hx
   have hok := A0v hs (List.mem_of_getElem? hx)
   have hro := P8 hs k (by omega)
   have hsn : (s.items.take (k + 1)).foldl F7 ⟨s.length, 0, 0, 0, 0⟩ = F7 ((s.items.take k).foldl F7 ⟨s.length, 0, 0, 0, 0⟩) x := by rw [Bn hx, List.foldl_append];rfl
   obtain ⟨r, hrr⟩ : ∃ r, r = (s.items.take k).foldl F7 ⟨s.length, 0, 0, 0, 0⟩ := ⟨_, rfl⟩
   rw [<- hrr] at hsn hro ⊢
   have hbw : x.at_ + x.width <= 1048576 := hok.2.2.2.2.2
   have hba : 0 <= x.at_ := hok.1.1
   have hbv : 1 <= x.width := hok.2.1.1
   have hxx : A4p s (k + 1) = x.row.map .lf := by show (match s.items[k]? with | some x => x.row.map AV.lf | none => []) = _;rw [hx]
   refine T.kill 0 ?_
   repeat' (first | refine W ?_|refine Zi hb ?_|refine Za ?_|(apply S.allocR 0;(iterate 5 exact rfl))|(apply S.max2;exact rfl;exact rfl;exact rfl)|(apply S.min2;exact rfl;exact rfl;exact rfl)|(apply T.drawN 2 17 A0 (by decide +kernel);simp only [td])|(apply T.drawRN 2 17 A0 (by decide +kernel);simp only [td])|(apply T.drawN 2 21 A0 (by decide +kernel);simp only [td])|(apply T.drawRN 2 21 A0 (by decide +kernel);simp only [td])|(apply S.loadL;exact rfl;exact rfl;exact rfl;decide +kernel;exact rfl)|(apply S.fieldL;exact rfl;exact rfl;decide +kernel;exact rfl)|(apply T.drawAll A0 (by decide +kernel)) | refine V ?_|(refine W2 ?_ ?_ <;> intro hc))
   change Next _ _ _ _ _ _
   exact Next.go (k + 1) (by omega) (by omega) CW (by rw [hsn, hxx];exact .live rfl CG)
  ·obtain rfl : k = s.items.length := by omega
   rw [List.take_length]
   repeat' (first | refine W ?_ | refine V ?_|(refine W2 ?_ ?_ <;> intro hc))
   exact ⟨.inr rfl, [A1 (s.items.foldl F7 ⟨s.length, 0, 0, 0, 0⟩).row], .cons (Res.row _ rfl rfl rfl rfl rfl) .nil, .one (.agg (A7 _))⟩
def S8 (a b : SetR) (r s : ReachR) : Prop := r.left < s.right /\ s.left < r.right /\ a.depth - r.back < b.depth + s.front /\ b.depth - s.back < a.depth + r.front
instance (a b : SetR) (r s : ReachR) : Decidable (S8 a b r s) := by unfold S8;exact inferInstance
set_option maxHeartbeats 16000000 in
theorem A03 (a b : SetR) (r s : ReachR) (ha : De a) (hb : De b) (hfa : a.fits) (hfb : b.fits) (ka : r.ok) (kb : s.ok) (oa : Fn0 Tryz.prog 96 [A1 a.row] (A1 r.row)) (ob : Fn0 Tryz.prog 96 [A1 b.row] (A1 s.row)) : Fn0 Tryz.prog 53 [A1 a.row, A1 b.row] (.tup [.b (decide (S8 a b r s)), .i 0]) := by
 have va := Fz a hfa
 have vb := Fz b hfb
 rw [decide_eq_true ha] at va
 rw [decide_eq_true hb] at vb
 have da : 0 <= a.depth /\ a.depth <= 1048576 := ha.2.1
 have db : 0 <= b.depth /\ b.depth <= 1048576 := hb.2.1
 obtain ⟨_, _, _, r4, r5⟩ := ka
 obtain ⟨_, _, _, s4, s5⟩ := kb
 refine Fn0.of Tryz.func53 Tryz.ntmps53 rfl rfl rfl ?_
 simp only [A2]
 repeat' (first | refine W ?_|refine Zc va ?_|refine Zc vb ?_|refine Zc oa ?_|refine Zc ob ?_|refine Za ?_|(apply T.draw 6 A0 (by decide +kernel);simp only [td])|(apply T.draw 4 A0 (by decide +kernel);simp only [td])|(apply T.drawAll A0 (by decide +kernel)) | refine V ?_|(refine W2 ?_ ?_ <;> intro hc))
 all_goals refine ⟨.inr rfl, [.b (decide (S8 a b r s)), .i 0], .cons (Res.tmpE rfl (congrArg (fun q : Bool => AV.val (.bool q)) ?_)) (.cons (.tmp rfl) .nil), .tup (.cons (.one (.lf _)) (.cons (.one (.lf _)) .nil))⟩
 all_goals first
  | exact (decide_eq_false (fun h => by obtain ⟨h1, h2, h3, h4⟩ := h;omega)).symm
  | exact decide_eq_decide.2 ⟨fun h => ⟨by assumption, by assumption, by assumption, h⟩, fun h => h.2.2.2⟩
theorem N5 (a b : SetR) (ha : De a) (hb : De b) (hfa : a.fits) (hfb : b.fits) : Fn0 Tryz.prog 53 [A1 a.row, A1 b.row] (.tup [.b (decide (Da a b)), .i 0]) := by
 have h := A03 a b (Cj a) (Cj b) ha hb hfa hfb (Od ha) (Od hb) (Yn a ha) (Yn b hb)
 rwa [show decide (S8 a b (Cj a) (Cj b)) = decide (Da a b) from decide_eq_decide.2 Iff.rfl] at h
set_option maxHeartbeats 16000000 in
theorem N4 (s : SetR) (hl : s.items.length <= 9223372036854775807) : Fn0 Tryz.prog 54 [A1 s.row] (A1 [.i (Bv s), .i 1]) := by
 have hle : (s.items.map ItemR.row).length = s.items.length := List.length_map _
 refine Fn0.of Tryz.func54 Tryz.ntmps54 rfl rfl rfl ?_
 simp only [A2]
 repeat' (first | refine W ?_|(apply T.drawAll A0 (by decide +kernel)) | refine V ?_|(refine W2 ?_ ?_ <;> intro hc))
 refine T.loopS (fun k => k <= s.items.length) (fun k => s.items.length - k) (fun k => [(9, .i k), (3, .i ((s.items.take k).foldl (fun n x => max n x.hang) 0)), (8, .i (s.items.map ItemR.row).length), (7, .sl (s.items.map ItemR.row)), (2, .ptr 1 0)]) (fun k => [.live (s.row.map .lf), .live [.i 0, .i 0]]) 0 (Nat.zero_le _) CW CG ?_
 intro k hk
 by_cases hlt : (k : Int) < ((s.items.map ItemR.row).length : Nat)
 ·obtain ⟨x, hx⟩ := A9 (l := s.items) (k := k) (by omega)
  have hb := Ac (R := ItemR.row) hx
  have hsn : (s.items.take (k + 1)).foldl (fun n x => max n x.hang) 0 = max ((s.items.take k).foldl (fun n x => max n x.hang) 0) x.hang := by rw [Bn hx, List.foldl_append];rfl
  generalize (s.items.take k).foldl (fun n x => max n x.hang) 0 = n at hsn ⊢
  repeat' (first | refine W ?_|refine Zi hb ?_|refine Za ?_|(apply S.max2;exact rfl;exact rfl;exact rfl)|(apply T.drawAll A0 (by decide +kernel)) | refine V ?_|(refine W2 ?_ ?_ <;> intro hc))
  change Next _ _ _ _ _ _
  exact Next.go (k + 1) (by omega) (by omega) (by rw [hsn];exact .cons rfl rfl CW) CG
 ·obtain rfl : k = s.items.length := by omega
  rw [List.take_length]
  repeat' (first | refine W ?_|(apply S.buildN;exact rfl;exact rfl;exact rfl)|(apply T.drawAll A0 (by decide +kernel)) | refine V ?_|(refine W2 ?_ ?_ <;> intro hc))
  exact ⟨.inr rfl, [A1 [.i (Bv s), .i 1]], .cons (Res.row [.i (Bv s), .i 1] rfl rfl rfl rfl rfl) .nil, .one (.agg (A7 _))⟩
end Go.Proofs.YtcbfnkgodiaiiaaGreat
