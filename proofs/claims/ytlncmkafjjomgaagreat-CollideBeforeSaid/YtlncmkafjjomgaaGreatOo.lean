/- Contracts: how far a set reaches, whether two sets are near, how far a set hangs down (the program's side, and the reference's). No conditions but those of each statement. -/
import Derived.Test.YtlncmkafjjomgaaGreatMm
import Derived.Test.YtlncmkafjjomgaaGreatOl
import Derived.Test.YtlncmkafjjomgaaGreatMn
set_option linter.unusedSimpArgs false
namespace Go.Proofs.YtlncmkafjjomgaaGreat
set_option linter.unusedVariables false
open Go Go.RowKit
theorem Res.tmpE {P : Program} {st : St} {t : Nat} {x y : AV} (h : st.tm.get t = some x) (e : x = y) : Res P st (.tmp t) y := by subst e;exact .tmp h
structure ReachR where
 left : Int
 right : Int
 hang : Int
 front : Int
 back : Int
def ReachR.row (r : ReachR) : List Lf := [.i r.left, .i r.right, .i r.hang, .i r.front, .i r.back]
def rcStep (r : ReachR) (x : ItemR) : ReachR := ⟨min r.left x.at_, max r.right (x.at_ + x.width), max r.hang x.hang, max r.front x.front, max r.back x.back⟩
def reachR (s : SetR) : ReachR := if s.items.length = 0 then ⟨0, s.length, 0, 0, 0⟩ else s.items.foldl rcStep ⟨s.length, 0, 0, 0, 0⟩
def nearP (a b : SetR) : Prop := (reachR a).left < (reachR b).right ∧ (reachR b).left < (reachR a).right ∧ a.depth - (reachR a).back < b.depth + (reachR b).front ∧ b.depth - (reachR b).back < a.depth + (reachR a).front
instance (a b : SetR) : Decidable (nearP a b) := by unfold nearP;exact inferInstance
def hangI (s : SetR) : Int := s.items.foldl (fun n x => max n x.hang) 0
structure ReachR.ok (r : ReachR) : Prop where
 left : 0 ≤ r.left ∧ r.left ≤ 2097152
 right : 0 ≤ r.right ∧ r.right ≤ 2097152
 hang : 0 ≤ r.hang ∧ r.hang ≤ 1048576
 front : 0 ≤ r.front ∧ r.front ≤ 1048576
 back : 0 ≤ r.back ∧ r.back ≤ 1048576
theorem item_ok {s : SetR} (hs : setP s) {x : ItemR} (hx : x ∈ s.items) : (0 ≤ x.at_ ∧ x.at_ ≤ 1048576) ∧ (1 ≤ x.width ∧ x.width ≤ 1048576) ∧ (0 ≤ x.hang ∧ x.hang ≤ 1048576) ∧ (0 ≤ x.front ∧ x.front ≤ 1048576) ∧ (0 ≤ x.back ∧ x.back ≤ 1048576) ∧ x.at_ + x.width ≤ 1048576 := by
 obtain ⟨_, _, _, _, _, hl, _, _, _, _, _, _, _, hi, _⟩ := hs
 obtain ⟨h1, h2⟩ := hi.2.2.1 x hx
 obtain ⟨_, _, a1, a2, a3⟩ := h1
 obtain ⟨b1, b2, b3⟩ := h2
 exact ⟨⟨b1, by omega⟩, b2, a1, a2, a3, by omega⟩
theorem rcStep_ok {r : ReachR} {x : ItemR} (h : r.ok) (hx : (0 ≤ x.at_ ∧ x.at_ ≤ 1048576) ∧ (1 ≤ x.width ∧ x.width ≤ 1048576) ∧ (0 ≤ x.hang ∧ x.hang ≤ 1048576) ∧ (0 ≤ x.front ∧ x.front ≤ 1048576) ∧ (0 ≤ x.back ∧ x.back ≤ 1048576) ∧ x.at_ + x.width ≤ 1048576) : (rcStep r x).ok := by
 obtain ⟨h1, h2, h3, h4, h5⟩ := h
 obtain ⟨k1, k2, k3, k4, k5, _⟩ := hx
 unfold rcStep
 exact ⟨by dsimp only;omega, by dsimp only;omega, by dsimp only;omega, by dsimp only;omega, by dsimp only;omega⟩
theorem rcFold_ok {s : SetR} (hs : setP s) : ∀ k, k ≤ s.items.length → ((s.items.take k).foldl rcStep ⟨s.length, 0, 0, 0, 0⟩).ok
 | 0, _ => by
  have := hs.2.2.2.2.2.1
  exact ⟨by dsimp only [List.take_zero, List.foldl_nil];omega, by dsimp only [List.take_zero, List.foldl_nil];omega, by dsimp only [List.take_zero, List.foldl_nil];omega, by dsimp only [List.take_zero, List.foldl_nil];omega, by dsimp only [List.take_zero, List.foldl_nil];omega⟩
 | k + 1, hk => by
  obtain ⟨x, hx⟩ := get_at (l := s.items) (k := k) (by omega)
  rw [snoc_at hx, List.foldl_append]
  exact rcStep_ok (rcFold_ok hs k (by omega)) (item_ok hs (List.mem_of_getElem? hx))
theorem reachR_ok {s : SetR} (hs : setP s) : (reachR s).ok := by
 unfold reachR
 split
 ·have := hs.2.2.2.2.2.1
  exact ⟨by dsimp only;omega, by dsimp only;omega, by dsimp only;omega, by dsimp only;omega, by dsimp only;omega⟩
 ·have := rcFold_ok hs s.items.length (Nat.le_refl _)
  rwa [List.take_length] at this
theorem hang_reach (s : SetR) : (reachR s).hang = hangI s := by
 have key : ∀ (l : List ItemR) (r : ReachR), (l.foldl rcStep r).hang = l.foldl (fun n x => max n x.hang) r.hang := fun l => by
  induction l with
  | nil => intro r;rfl
  | cons x l ih => intro r;rw [List.foldl_cons, List.foldl_cons, ih];rfl
 unfold reachR hangI
 split
 ·rename_i h
  rw [List.eq_nil_of_length_eq_zero h];rfl
 ·exact key _ _
def reachX (s : SetR) : Nat → List AV
 | 0 => s.row.map .lf
 | k + 1 => match s.items[k]? with | some x => x.row.map .lf | none => []
set_option maxHeartbeats 16000000 in
theorem sweep_of (s : SetR) (hs : setP s) : Fn0 Tryz.prog 54 [rowA s.row] (rowA (reachR s).row) := by
 have h40 : s.items.length ≤ 40 := hs.2.2.2.2.2.2.2.2.2.2.2.2.2.1.1
 have hle : (s.items.map ItemR.row).length = s.items.length := List.length_map _
 by_cases h0 : s.items.length = 0
 ·have h1 : (((s.items.map ItemR.row).length : Nat) : Int) = 0 := by omega
  have hr : reachR s = ⟨0, s.length, 0, 0, 0⟩ := if_pos h0
  rw [hr]
  refine Fn0.of Tryz.func54 Tryz.ntmps54 rfl rfl rfl ?_
  simp only [entryTm]
  repeat' (first|(apply S.fieldP;exact rfl;exact rfl;exact rfl)|(apply S.loadP;(iterate 4 exact rfl))|(apply S.buildN;exact rfl;exact rfl;exact rfl)|(apply S.box;(iterate 6 exact rfl))|(apply S.alloc;(iterate 5 exact rfl))|(apply S.store;(iterate 7 exact rfl))|(apply S.cmp;(iterate 4 exact rfl))|(apply S.lenR;exact rfl;exact rfl) | apply S.nil | apply T.regs|(apply T.cT;exact rfl;assumption) | apply T.seq|(apply T.ret;change Done _ _ _ _ _))
  all_goals exact ⟨.inr rfl, [rowA [.i 0, .i s.length, .i 0, .i 0, .i 0]], .cons (Res.row [.i 0, .i s.length, .i 0, .i 0, .i 0] rfl rfl rfl rfl rfl) .nil, .one (.agg (outL_refl _))⟩
 ·have h1 : ¬ (((s.items.map ItemR.row).length : Nat) : Int) = 0 := by omega
  have hr : reachR s = s.items.foldl rcStep ⟨s.length, 0, 0, 0, 0⟩ := if_neg h0
  rw [hr]
  refine Fn0.of Tryz.func54 Tryz.ntmps54 rfl rfl rfl ?_
  simp only [entryTm]
  repeat' (first|(apply S.move;exact rfl;exact rfl)|(apply S.fieldP;exact rfl;exact rfl;exact rfl)|(apply S.loadP;(iterate 4 exact rfl))|(apply S.buildN;exact rfl;exact rfl;exact rfl)|(apply S.box;(iterate 6 exact rfl))|(apply S.alloc;(iterate 5 exact rfl))|(apply S.store;(iterate 7 exact rfl))|(apply S.cmp;(iterate 4 exact rfl))|(apply S.lenR;exact rfl;exact rfl) | apply S.nil | apply T.regs|(apply T.cF;exact rfl;assumption) | apply T.seq|(apply T.skip;first | change T _ _ _ _ _ | change Done _ _ _ _ _ | change Next _ _ _ _ _ _ | skip) | apply T.block)
  refine T.loopS (fun k => k ≤ s.items.length) (fun k => s.items.length - k) (fun k => [(19, .i k), (18, .i (s.items.map ItemR.row).length), (17, .sl (s.items.map ItemR.row)), (3, .ptr 2 0), (2, .ptr 1 0)]) (fun k => [.live (reachX s k), .live [.i 0, .i 0, .i 0, .i 0, .i 0], .live (((s.items.take k).foldl rcStep ⟨s.length, 0, 0, 0, 0⟩).row.map .lf)]) 0 (Nat.zero_le _) (.cons rfl rfl (.cons rfl rfl (.cons rfl rfl (.cons rfl rfl (.cons rfl rfl .nil))))) (.live rfl (.live rfl (.live rfl .nil))) ?_
  intro k hk
  by_cases hlt : (k : Int) < ((s.items.map ItemR.row).length : Nat)
  ·obtain ⟨x, hx⟩ := get_at (l := s.items) (k := k) (by omega)
   have hb := row_at (R := ItemR.row) hx
   have hok := item_ok hs (List.mem_of_getElem? hx)
   have hro := rcFold_ok hs k (by omega)
   have hsn : (s.items.take (k + 1)).foldl rcStep ⟨s.length, 0, 0, 0, 0⟩ = rcStep ((s.items.take k).foldl rcStep ⟨s.length, 0, 0, 0, 0⟩) x := by rw [snoc_at hx, List.foldl_append];rfl
   obtain ⟨r, hrr⟩ : ∃ r, r = (s.items.take k).foldl rcStep ⟨s.length, 0, 0, 0, 0⟩ := ⟨_, rfl⟩
   rw [← hrr] at hsn hro ⊢
   have hbw : x.at_ + x.width ≤ 1048576 := hok.2.2.2.2.2
   have hba : 0 ≤ x.at_ := hok.1.1
   have hbv : 1 ≤ x.width := hok.2.1.1
   have hxx : reachX s (k + 1) = x.row.map .lf := by show (match s.items[k]? with | some x => x.row.map AV.lf | none => []) = _;rw [hx]
   refine T.kill 0 ?_
   repeat' (first|(apply S.move;exact rfl;exact rfl)|(apply S.fieldP;exact rfl;exact rfl;exact rfl)|(apply S.loadP;(iterate 4 exact rfl))|(apply S.indexR;exact rfl;exact rfl;exact rfl;exact hb;omega;exact rfl)|(apply S.arith;(iterate 4 exact rfl);omega)|(apply S.allocR 0;(iterate 5 exact rfl))|(apply S.max2;exact rfl;exact rfl;exact rfl)|(apply S.min2;exact rfl;exact rfl;exact rfl)|(apply T.drawN 2 17 anyOrder (by decide +kernel);simp only [List.take_succ_cons, List.take_zero, List.drop_succ_cons, List.drop_zero])|(apply T.drawRN 2 21 anyOrder (by decide +kernel);simp only [List.take_succ_cons, List.take_zero, List.drop_succ_cons, List.drop_zero])|(apply S.loadL;exact rfl;exact rfl;exact rfl;decide +kernel;exact rfl)|(apply S.fieldL;exact rfl;exact rfl;decide +kernel;exact rfl)|(apply S.loadRA;(iterate 4 exact rfl))|(apply S.store;(iterate 7 exact rfl))|(apply S.storeD;(iterate 8 exact rfl))|(apply S.cmp;(iterate 4 exact rfl)) | apply S.nil | apply T.regs | apply T.reg|(apply T.cT;exact rfl;assumption) | apply T.seq|(apply T.skip;first | change T _ _ _ _ _ | change Done _ _ _ _ _ | change Next _ _ _ _ _ _ | skip) | apply T.block)
   change Next _ _ _ _ _ _
   exact Next.go (k + 1) (by omega) (by omega) (.cons rfl rfl (.cons rfl rfl (.cons rfl rfl (.cons rfl rfl (.cons rfl rfl .nil))))) (by rw [hsn, hxx];exact .live rfl (.live rfl (.live rfl .nil)))
  ·obtain rfl : k = s.items.length := by omega
   rw [List.take_length]
   repeat' (first|(apply S.loadPA;(iterate 4 exact rfl))|(apply S.store;(iterate 7 exact rfl))|(apply S.cmp;(iterate 4 exact rfl)) | apply S.nil | apply T.regs|(apply T.cF;exact rfl;assumption) | apply T.seq|(apply T.ret;change Done _ _ _ _ _)|(apply T.exit;first | change T _ _ _ _ _ | change Done _ _ _ _ _ | change Next _ _ _ _ _ _ | skip))
   exact ⟨.inr rfl, [rowA (s.items.foldl rcStep ⟨s.length, 0, 0, 0, 0⟩).row], .cons (Res.row _ rfl rfl rfl rfl rfl) .nil, .one (.agg (outL_refl _))⟩
def nearR (a b : SetR) (r s : ReachR) : Prop := r.left < s.right ∧ s.left < r.right ∧ a.depth - r.back < b.depth + s.front ∧ b.depth - s.back < a.depth + r.front
instance (a b : SetR) (r s : ReachR) : Decidable (nearR a b r s) := by unfold nearR;exact inferInstance
set_option maxHeartbeats 16000000 in
theorem sweep_nearR (a b : SetR) (r s : ReachR) (ha : setP a) (hb : setP b) (hfa : a.fits) (hfb : b.fits) (ka : r.ok) (kb : s.ok) (oa : Fn0 Tryz.prog 54 [rowA a.row] (rowA r.row)) (ob : Fn0 Tryz.prog 54 [rowA b.row] (rowA s.row)) : Fn0 Tryz.prog 19 [rowA a.row, rowA b.row] (.tup [.b (decide (nearR a b r s)), .i 0]) := by
 have va := bat_valid a hfa
 have vb := bat_valid b hfb
 rw [decide_eq_true ha] at va
 rw [decide_eq_true hb] at vb
 have da : 0 ≤ a.depth ∧ a.depth ≤ 1048576 := ha.2.1
 have db : 0 ≤ b.depth ∧ b.depth ≤ 1048576 := hb.2.1
 obtain ⟨_, _, _, r4, r5⟩ := ka
 obtain ⟨_, _, _, s4, s5⟩ := kb
 refine Fn0.of Tryz.func19 Tryz.ntmps19 rfl rfl rfl ?_
 simp only [entryTm]
 repeat' (first|(apply S.move;exact rfl;exact rfl)|(apply S.assign;exact rfl;exact rfl)|(apply S.gC;exact rfl;exact rfl;exact rfl)|(apply S.gCN;(iterate 4 exact rfl))|(apply S.gTT;exact rfl;exact rfl;assumption)|(apply S.gTF;exact rfl;exact rfl;assumption;exact rfl)|(apply S.fieldP;exact rfl;exact rfl;exact rfl)|(apply S.loadP;(iterate 4 exact rfl))|(apply S.pCN;exact rfl;exact rfl;exact rfl)|(apply S.pTp;exact rfl;assumption;exact rfl;exact rfl)|(apply S.pFp;exact rfl;assumption;exact rfl;exact rfl)|(apply S.call;exact rfl;exact rfl;exact va;exact rfl)|(apply S.call;exact rfl;exact rfl;exact vb;exact rfl)|(apply S.call;exact rfl;exact rfl;exact oa;exact rfl)|(apply S.call;exact rfl;exact rfl;exact ob;exact rfl)|(apply S.arith;(iterate 4 exact rfl);omega)|(apply T.draw 6 anyOrder (by decide +kernel);simp only [List.take_succ_cons, List.take_zero, List.drop_succ_cons, List.drop_zero])|(apply S.loadPA;(iterate 4 exact rfl))|(apply S.box;(iterate 6 exact rfl))|(apply S.alloc;(iterate 5 exact rfl))|(apply S.store;(iterate 7 exact rfl))|(apply S.cmp;(iterate 4 exact rfl))|(apply S.not;exact rfl;exact rfl;exact rfl)|(apply S.gsT;exact rfl;exact rfl;exact rfl;intro hc;rotate_left;intro hc;rotate_right) | apply S.nil | apply T.regs|(apply T.cCN;exact rfl) | apply T.seq|(apply T.skip;first | change T _ _ _ _ _ | change Done _ _ _ _ _ | change Next _ _ _ _ _ _ | skip)|(apply T.ret;change Done _ _ _ _ _))
 all_goals refine ⟨.inr rfl, [.b (decide (nearR a b r s)), .i 0], .cons (Res.tmpE rfl (congrArg (fun q : Bool => AV.val (.bool q)) ?_)) (.cons (.tmp rfl) .nil), .tup (.cons (.one (.lf _)) (.cons (.one (.lf _)) .nil))⟩
 all_goals first
  | exact (decide_eq_false (fun h => by obtain ⟨h1, h2, h3, h4⟩ := h;omega)).symm
  | exact decide_eq_decide.2 ⟨fun h => ⟨by assumption, by assumption, by assumption, h⟩, fun h => h.2.2.2⟩
theorem sweep_near (a b : SetR) (ha : setP a) (hb : setP b) (hfa : a.fits) (hfb : b.fits) : Fn0 Tryz.prog 19 [rowA a.row, rowA b.row] (.tup [.b (decide (nearP a b)), .i 0]) := by
 have h := sweep_nearR a b (reachR a) (reachR b) ha hb hfa hfb (reachR_ok ha) (reachR_ok hb) (sweep_of a ha) (sweep_of b hb)
 rwa [show decide (nearR a b (reachR a) (reachR b)) = decide (nearP a b) from decide_eq_decide.2 Iff.rfl] at h
set_option maxHeartbeats 16000000 in
theorem col_hang (s : SetR) (hl : s.items.length ≤ 9223372036854775807) : Fn0 Tryz.prog 27 [rowA s.row] (rowA [.i (hangI s), .i 1]) := by
 have hle : (s.items.map ItemR.row).length = s.items.length := List.length_map _
 refine Fn0.of Tryz.func27 Tryz.ntmps27 rfl rfl rfl ?_
 simp only [entryTm]
 repeat' (first|(apply S.move;exact rfl;exact rfl)|(apply S.assign;exact rfl;exact rfl)|(apply S.fieldP;exact rfl;exact rfl;exact rfl)|(apply S.loadP;(iterate 4 exact rfl))|(apply S.box;(iterate 6 exact rfl))|(apply S.alloc;(iterate 5 exact rfl))|(apply S.lenR;exact rfl;exact rfl) | apply S.nil | apply T.regs | apply T.seq | apply T.block)
 refine T.loopS (fun k => k ≤ s.items.length) (fun k => s.items.length - k) (fun k => [(9, .i k), (3, .i ((s.items.take k).foldl (fun n x => max n x.hang) 0)), (8, .i (s.items.map ItemR.row).length), (7, .sl (s.items.map ItemR.row)), (2, .ptr 1 0)]) (fun k => [.live (s.row.map .lf), .live [.i 0, .i 0]]) 0 (Nat.zero_le _) (.cons rfl rfl (.cons rfl rfl (.cons rfl rfl (.cons rfl rfl (.cons rfl rfl .nil))))) (.live rfl (.live rfl .nil)) ?_
 intro k hk
 by_cases hlt : (k : Int) < ((s.items.map ItemR.row).length : Nat)
 ·obtain ⟨x, hx⟩ := get_at (l := s.items) (k := k) (by omega)
  have hb := row_at (R := ItemR.row) hx
  have hsn : (s.items.take (k + 1)).foldl (fun n x => max n x.hang) 0 = max ((s.items.take k).foldl (fun n x => max n x.hang) 0) x.hang := by rw [snoc_at hx, List.foldl_append];rfl
  generalize (s.items.take k).foldl (fun n x => max n x.hang) 0 = n at hsn ⊢
  repeat' (first|(apply S.move;exact rfl;exact rfl)|(apply S.assign;exact rfl;exact rfl)|(apply S.fieldP;exact rfl;exact rfl;exact rfl)|(apply S.loadP;(iterate 4 exact rfl))|(apply S.indexR;exact rfl;exact rfl;exact rfl;exact hb;omega;exact rfl)|(apply S.arith;(iterate 4 exact rfl);omega)|(apply S.max2;exact rfl;exact rfl;exact rfl)|(apply S.loadRA;(iterate 4 exact rfl))|(apply S.alloc;(iterate 5 exact rfl))|(apply S.store;(iterate 7 exact rfl))|(apply S.cmp;(iterate 4 exact rfl)) | apply S.nil | apply T.regs | apply T.reg|(apply T.cT;exact rfl;assumption) | apply T.seq|(apply T.skip;first | change T _ _ _ _ _ | change Done _ _ _ _ _ | change Next _ _ _ _ _ _ | skip) | apply T.block)
  change Next _ _ _ _ _ _
  exact Next.go (k + 1) (by omega) (by omega) (by rw [hsn];exact .cons rfl rfl (.cons rfl rfl (.cons rfl rfl (.cons rfl rfl (.cons rfl rfl .nil))))) (.live rfl (.live rfl .nil))
 ·obtain rfl : k = s.items.length := by omega
  rw [List.take_length]
  repeat' (first|(apply S.move;exact rfl;exact rfl)|(apply S.buildN;exact rfl;exact rfl;exact rfl)|(apply S.store;(iterate 7 exact rfl))|(apply S.cmp;(iterate 4 exact rfl)) | apply S.nil | apply T.regs|(apply T.cF;exact rfl;assumption) | apply T.seq|(apply T.ret;change Done _ _ _ _ _)|(apply T.exit;first | change T _ _ _ _ _ | change Done _ _ _ _ _ | change Next _ _ _ _ _ _ | skip))
  exact ⟨.inr rfl, [rowA [.i (hangI s), .i 1]], .cons (Res.row [.i (hangI s), .i 1] rfl rfl rfl rfl rfl) .nil, .one (.agg (outL_refl _))⟩
end Go.Proofs.YtlncmkafjjomgaaGreat
