/- Contracts: the references of layers 2 and 8 on fractions and curves: Valid, All, the operations, Piece, Value, Rate. No conditions but those of each statement. | Contracts: the reference's At, Slope, Smooth of layer 8. No conditions but those of each statement. | Plain facts: the sticky error of the program's sums, and the reference's early exits;contract: the reference's Smooth. No conditions but those of each statement. -/
import Derived.Test.YtlncmkafjjomgaaGreatNh
import Derived.Test.YtlncmkafjjomgaaGreatNi
set_option linter.unusedSimpArgs false
namespace Go.Proofs.YtlncmkafjjomgaaGreat
set_option linter.unusedVariables false
open Go.RowKit
theorem r02_valid (n d : Int) : Fn0 Tryz.prog 60 [rowA [.i n, .i d]] (.b (decide (vF n d))) := by
 refine Fn0.of_calls (us := [.agg #[.int .i64 n, .int .i64 d]]) ⟨_, Tryz.func60, rfl, rfl⟩ rfl (fun w L => relV_val _) fun w => ?_
 have := rvalid_any n d w
 rw [show decide (vF n d) = validB n d by unfold vF;exact Bool.decide_eq_true]
 exact this
abbrev intR2 (p : Int × Int) : List Lf := [.i p.1, .i p.2]
set_option maxHeartbeats 4000000 in
theorem r02_all (l : List (Int × Int)) (hn : l.length ≤ 1000000) : Fn0 Tryz.prog 97 [.sl (l.map intR2)] (.b (decide (∀ p ∈ l, vF p.1 p.2))) := by
 have hle : (l.map intR2).length = l.length := List.length_map _
 refine Fn0.of Tryz.func97 Tryz.ntmps97 rfl rfl rfl ?_
 simp only [entryTm]
 repeat' (first|(apply S.assign;exact rfl;exact rfl) | apply S.nil | apply T.regs | apply T.seq | apply T.block)
 refine T.loopS (fun k => k ≤ l.length ∧ ∀ p ∈ l.take k, vF p.1 p.2) (fun k => l.length - k) (fun k => [(3, .i (k : Int)), (0, .sl (l.map intR2))]) (fun _ => []) 0 ⟨Nat.zero_le _, by simp⟩ (.cons rfl rfl (.cons rfl rfl .nil)) .nil ?_
 rintro k ⟨hk, hp⟩
 by_cases hlt : k < l.length
 ·have h1 : (k : Int) < ((l.map intR2).length : Nat) := by omega
  obtain ⟨x, hx⟩ := get_at hlt
  have hb := row_at (R := intR2) hx
  have c := r02_valid x.1 x.2
  by_cases hv : vF x.1 x.2
  ·have hv' : ¬ ¬ vF x.1 x.2 := fun h => h hv
   repeat' (first|(apply S.move;exact rfl;exact rfl)|(apply S.assign;exact rfl;exact rfl)|(apply S.arith;(iterate 4 exact rfl);omega)|(apply S.call;exact rfl;exact rfl;exact c;exact rfl)|(apply S.indexR;exact rfl;exact rfl;exact rfl;exact hb;omega;exact rfl)|(apply S.loadRW;(iterate 4 exact rfl))|(apply S.cmp;(iterate 4 exact rfl))|(apply S.notP;exact rfl;exact rfl)|(apply S.lenR;exact rfl;exact rfl) | apply S.nil | apply T.regs | apply T.reg|(apply T.cT;exact rfl;assumption)|(apply T.cF;exact rfl;assumption) | apply T.seq|(apply T.skip;first | change T _ _ _ _ _ | change Done _ _ _ _ _ | change Next _ _ _ _ _ _ | skip) | apply T.block)
   change Next _ _ _ _ _ _
   refine Next.go (k + 1) ⟨by omega, fun p hm => ?_⟩ (by omega) (.cons rfl rfl (.cons rfl rfl .nil)) .nil
   rw [List.take_add_one, hx] at hm
   rcases List.mem_append.1 hm with hm | hm
   ·exact hp p hm
   ·obtain rfl : p = x := by simpa using hm
    exact hv
  ·skip
   repeat' (first|(apply S.move;exact rfl;exact rfl)|(apply S.assign;exact rfl;exact rfl)|(apply S.call;exact rfl;exact rfl;exact c;exact rfl)|(apply S.indexR;exact rfl;exact rfl;exact rfl;exact hb;omega;exact rfl)|(apply S.loadRW;(iterate 4 exact rfl))|(apply S.cmp;(iterate 4 exact rfl))|(apply S.notP;exact rfl;exact rfl)|(apply S.lenR;exact rfl;exact rfl) | apply S.nil | apply T.regs|(apply T.cT;exact rfl;assumption) | apply T.seq|(apply T.skip;first | change T _ _ _ _ _ | change Done _ _ _ _ _ | change Next _ _ _ _ _ _ | skip)|(apply T.ret;change Done _ _ _ _ _) | apply T.block)
   exact doneV (by simp) Tryz.results97 rfl (congrArg Value.bool (decide_eq_false fun h => hv (h x (List.mem_of_getElem? hx))).symm)
 ·have h1 : ¬ (k : Int) < ((l.map intR2).length : Nat) := by omega
  repeat' (first|(apply S.move;exact rfl;exact rfl)|(apply S.assign;exact rfl;exact rfl)|(apply S.cmp;(iterate 4 exact rfl))|(apply S.lenR;exact rfl;exact rfl) | apply S.nil | apply T.regs|(apply T.cF;exact rfl;assumption) | apply T.seq|(apply T.ret;change Done _ _ _ _ _)|(apply T.exit;first | change T _ _ _ _ _ | change Done _ _ _ _ _ | change Next _ _ _ _ _ _ | skip))
  exact doneV (by simp) Tryz.results97 rfl (congrArg Value.bool (decide_eq_true (by rw [List.take_of_length_le (by omega)] at hp;exact hp)).symm)
set_option maxHeartbeats 16000000 in
theorem rq_valid (l : List PieceR) (hn : l.length ≤ 1000000) : Fn0 Tryz.prog 59 [.sl (l.map PieceR.row)] (.b (decide (curveP l))) := by
 have hle : (l.map PieceR.row).length = l.length := List.length_map _
 by_cases h1 : (((l.map PieceR.row).length : Nat) : Int) < 1
 ·skip
  refine Fn0.of Tryz.func59 Tryz.ntmps59 rfl rfl rfl ?_
  simp only [entryTm]
  repeat' (first|(apply S.move;exact rfl;exact rfl)|(apply S.assign;exact rfl;exact rfl)|(apply S.gFT;exact rfl;exact rfl;assumption;exact rfl)|(apply S.pTp;exact rfl;assumption;exact rfl;exact rfl)|(apply S.cmp;(iterate 4 exact rfl))|(apply S.lenR;exact rfl;exact rfl) | apply S.nil | apply T.regs|(apply T.cC;exact rfl) | apply T.seq|(apply T.ret;change Done _ _ _ _ _))
  exact doneV (by simp) Tryz.results59 rfl (congrArg Value.bool (decide_eq_false fun h => by have := h.1.1;omega).symm)
 by_cases h2 : 200 < (((l.map PieceR.row).length : Nat) : Int)
 ·skip
  refine Fn0.of Tryz.func59 Tryz.ntmps59 rfl rfl rfl ?_
  simp only [entryTm]
  repeat' (first|(apply S.move;exact rfl;exact rfl)|(apply S.assign;exact rfl;exact rfl)|(apply S.gFF;exact rfl;exact rfl;assumption)|(apply S.pFp;exact rfl;assumption;exact rfl;exact rfl)|(apply S.cmp;(iterate 4 exact rfl))|(apply S.lenR;exact rfl;exact rfl) | apply S.nil | apply T.regs|(apply T.cT;exact rfl;assumption) | apply T.seq|(apply T.ret;change Done _ _ _ _ _))
  exact doneV (by simp) Tryz.results59 rfl (congrArg Value.bool (decide_eq_false fun h => by have := h.1.2;omega).symm)
 refine Fn0.of Tryz.func59 Tryz.ntmps59 rfl rfl rfl ?_
 simp only [entryTm]
 repeat' (first|(apply S.move;exact rfl;exact rfl)|(apply S.assign;exact rfl;exact rfl)|(apply S.gFF;exact rfl;exact rfl;assumption)|(apply S.pFp;exact rfl;assumption;exact rfl;exact rfl)|(apply S.cmp;(iterate 4 exact rfl))|(apply S.lenR;exact rfl;exact rfl) | apply S.nil | apply T.regs|(apply T.cF;exact rfl;assumption) | apply T.seq|(apply T.skip;first | change T _ _ _ _ _ | change Done _ _ _ _ _ | change Next _ _ _ _ _ _ | skip) | apply T.block)
 refine T.loopS (fun k => k ≤ l.length ∧ (∀ p ∈ l.take k, pieceP p) ∧ ∀ i, i + 1 < k → fromK l i < fromK l (i + 1)) (fun k => l.length - k) (fun k => [(3, .i (k : Int)), (0, .sl (l.map PieceR.row))]) (fun k => []) 0 ⟨Nat.zero_le _, by simp, fun i hi => by omega⟩ (.cons rfl rfl (.cons rfl rfl .nil)) .nil ?_
 rintro k ⟨hk, hp, hs⟩
 by_cases hlt : k < l.length
 ·have h3 : (k : Int) < ((l.map PieceR.row).length : Nat) := by omega
  obtain ⟨x, hx⟩ := get_at hlt
  have hb := row_at (R := PieceR.row) hx
  have hmem := List.mem_of_getElem? hx
  have v1 : Fn0 Tryz.prog 97 [.sl [[.i x.f1, .i x.f2], [.i x.a1, .i x.a2], [.i x.b1, .i x.b2], [.i x.c1, .i x.c2]]] (.b (decide (pieceP x))) := by
   have := r02_all [(x.f1, x.f2), (x.a1, x.a2), (x.b1, x.b2), (x.c1, x.c2)] (by simp)
   rw [show (decide (∀ p ∈ [(x.f1, x.f2), (x.a1, x.a2), (x.b1, x.b2), (x.c1, x.c2)], vF p.1 p.2)) = decide (pieceP x) from decide_eq_decide.2 (by
    constructor
    ·intro h
     exact ⟨h (x.f1, x.f2) (by simp), h (x.a1, x.a2) (by simp), h (x.b1, x.b2) (by simp), h (x.c1, x.c2) (by simp)⟩
    ·intro h p hm
     simp only [List.mem_cons, List.not_mem_nil, or_false] at hm
     rcases hm with rfl | rfl | rfl | rfl
     ·exact h.f
     ·exact h.a
     ·exact h.b
     ·exact h.c)] at this
   exact this
  by_cases hpx : pieceP x
  ·have hp' : ∀ p ∈ l.take (k + 1), pieceP p := by
    intro p hm
    rw [List.take_add_one, hx] at hm
    rcases List.mem_append.1 hm with hm | hm
    ·exact hp p hm
    ·obtain rfl : p = x := by simpa using hm
     exact hpx
   have n1 : ¬ ¬ pieceP x := fun h => h hpx
   cases k with
   | zero =>
    have h5 : ¬ (0 : Int) < ((0 : Nat) : Int) := by omega
    repeat' (first|(apply S.move;exact rfl;exact rfl)|(apply S.assign;exact rfl;exact rfl)|(apply S.gCN;(iterate 4 exact rfl))|(apply S.gFF;exact rfl;exact rfl;assumption)|(apply S.fieldR;exact rfl;exact rfl)|(apply S.pCN;exact rfl;exact rfl;exact rfl)|(apply S.pFp;exact rfl;assumption;exact rfl;exact rfl)|(apply S.arith;(iterate 4 exact rfl);omega)|(apply S.call;exact rfl;exact rfl;exact v1;exact rfl)|(apply S.indexR;exact rfl;exact rfl;exact rfl;exact hb;omega;exact rfl)|(apply S.buildSliceF;(iterate 8 exact rfl))|(apply T.drawAll anyOrder (by decide +kernel))|(apply S.loadRA;(iterate 4 exact rfl))|(apply S.cmp;(iterate 4 exact rfl))|(apply S.notP;exact rfl;exact rfl)|(apply S.lenR;exact rfl;exact rfl) | apply S.nil | apply T.regs | apply T.reg|(apply T.cCN;exact rfl)|(apply T.cT;exact rfl;assumption) | apply T.seq|(apply T.skip;first | change T _ _ _ _ _ | change Done _ _ _ _ _ | change Next _ _ _ _ _ _ | skip) | apply T.block)
    change Next _ _ _ _ _ _
    exact Next.go 1 ⟨by omega, hp', fun i hi => by omega⟩ (by omega) (.cons rfl rfl (.cons rfl rfl .nil)) .nil
   | succ k =>
    have h5 : (0 : Int) < ((k + 1 : Nat) : Int) := by omega
    obtain ⟨y, hy⟩ := get_prev hlt
    have hpy : pieceP y := hp y (List.mem_of_getElem? (by rw [List.getElem?_take_of_lt (Nat.lt_succ_self k)];exact hy))
    have hby : (l.map PieceR.row)[(((k + 1 : Nat) : Int) - 1).toNat]? = some y.row := by rw [show (((k + 1 : Nat) : Int) - 1).toNat = k by omega, List.getElem?_map, hy];rfl
    have hcmp : Fn0 Tryz.prog 9 [rowA [.i y.f1, .i y.f2], rowA [.i x.f1, .i x.f2]] (.i (cmpQ (toQ y).f (toQ x).f)) := by
     have := r02_cmp (toQ y).f (toQ x).f hpy.ok.1.f hpx.ok.1.f
     obtain ⟨_, e1, e2⟩ := vF_fits hpy.f
     obtain ⟨_, e3, e4⟩ := vF_fits hpx.f
     simp only [toQ, frR, e1, e2, e3, e4] at this ⊢
     exact this
    by_cases hc : (toQ y).f < (toQ x).f
    ·have hc' : ¬ 0 ≤ cmpQ (toQ y).f (toQ x).f := fun e => by have := (cmpQ_lt _ _).2 hc;omega
     repeat' (first|(apply S.move;exact rfl;exact rfl)|(apply S.assign;exact rfl;exact rfl)|(apply S.gTT;exact rfl;exact rfl;assumption)|(apply S.gFF;exact rfl;exact rfl;assumption)|(apply S.fieldR;exact rfl;exact rfl)|(apply S.pTp;exact rfl;assumption;exact rfl;exact rfl)|(apply S.pFp;exact rfl;assumption;exact rfl;exact rfl)|(apply S.arith;(iterate 4 exact rfl);omega)|(apply S.call;exact rfl;exact rfl;exact v1;exact rfl)|(apply S.call;exact rfl;exact rfl;exact hcmp;exact rfl)|(apply S.indexR;exact rfl;exact rfl;exact rfl;exact hb;omega;exact rfl)|(apply S.indexR;exact rfl;exact rfl;exact rfl;exact hby;omega;exact rfl)|(apply S.buildSliceF;(iterate 8 exact rfl))|(apply T.drawAll anyOrder (by decide +kernel))|(apply S.loadRA;(iterate 4 exact rfl))|(apply S.cmp;(iterate 4 exact rfl))|(apply S.notP;exact rfl;exact rfl)|(apply S.lenR;exact rfl;exact rfl) | apply S.nil | apply T.regs | apply T.reg|(apply T.cT;exact rfl;assumption)|(apply T.cF;exact rfl;assumption) | apply T.seq|(apply T.skip;first | change T _ _ _ _ _ | change Done _ _ _ _ _ | change Next _ _ _ _ _ _ | skip) | apply T.block)
     change Next _ _ _ _ _ _
     refine Next.go (k + 2) ⟨by omega, hp', fun i hi => ?_⟩ (by omega) (.cons rfl rfl (.cons rfl rfl .nil)) .nil
     by_cases hik : i = k
     ·subst hik
      rw [fromK_of hy, fromK_of hx];exact hc
     ·exact hs i (by omega)
    ·have hc' : 0 ≤ cmpQ (toQ y).f (toQ x).f := by
      rcases Int.lt_or_le (cmpQ (toQ y).f (toQ x).f) 0 with h | h
      ·exact absurd ((cmpQ_lt _ _).1 h) hc
      ·exact h
     repeat' (first|(apply S.move;exact rfl;exact rfl)|(apply S.assign;exact rfl;exact rfl)|(apply S.gTT;exact rfl;exact rfl;assumption)|(apply S.gFF;exact rfl;exact rfl;assumption)|(apply S.fieldR;exact rfl;exact rfl)|(apply S.pTp;exact rfl;assumption;exact rfl;exact rfl)|(apply S.pFp;exact rfl;assumption;exact rfl;exact rfl)|(apply S.arith;(iterate 4 exact rfl);omega)|(apply S.call;exact rfl;exact rfl;exact v1;exact rfl)|(apply S.call;exact rfl;exact rfl;exact hcmp;exact rfl)|(apply S.indexR;exact rfl;exact rfl;exact rfl;exact hb;omega;exact rfl)|(apply S.indexR;exact rfl;exact rfl;exact rfl;exact hby;omega;exact rfl)|(apply S.buildSliceF;(iterate 8 exact rfl))|(apply T.drawAll anyOrder (by decide +kernel))|(apply S.loadRA;(iterate 4 exact rfl))|(apply S.cmp;(iterate 4 exact rfl))|(apply S.notP;exact rfl;exact rfl)|(apply S.lenR;exact rfl;exact rfl) | apply S.nil | apply T.regs|(apply T.cT;exact rfl;assumption) | apply T.seq|(apply T.skip;first | change T _ _ _ _ _ | change Done _ _ _ _ _ | change Next _ _ _ _ _ _ | skip)|(apply T.ret;change Done _ _ _ _ _) | apply T.block)
     exact doneV (by simp) Tryz.results59 rfl (congrArg Value.bool (decide_eq_false fun h => hc (by have := h.2.2 k (by omega);rwa [fromK_of hy, fromK_of hx] at this)).symm)
  ·skip
   repeat' (first|(apply S.move;exact rfl;exact rfl)|(apply S.assign;exact rfl;exact rfl)|(apply S.gU;exact rfl;exact rfl;exact rfl)|(apply S.gFT;exact rfl;exact rfl;assumption;exact rfl)|(apply S.fieldR;exact rfl;exact rfl)|(apply S.pTp;exact rfl;assumption;exact rfl;exact rfl)|(apply S.call;exact rfl;exact rfl;exact v1;exact rfl)|(apply S.indexR;exact rfl;exact rfl;exact rfl;exact hb;omega;exact rfl)|(apply S.buildSliceF;(iterate 8 exact rfl))|(apply T.drawAll anyOrder (by decide +kernel))|(apply S.loadRA;(iterate 4 exact rfl))|(apply S.cmp;(iterate 4 exact rfl))|(apply S.notP;exact rfl;exact rfl)|(apply S.lenR;exact rfl;exact rfl) | apply S.nil | apply T.regs|(apply T.cC;exact rfl)|(apply T.cT;exact rfl;assumption) | apply T.seq|(apply T.skip;first | change T _ _ _ _ _ | change Done _ _ _ _ _ | change Next _ _ _ _ _ _ | skip)|(apply T.ret;change Done _ _ _ _ _) | apply T.block)
   exact doneV (by simp) Tryz.results59 rfl (congrArg Value.bool (decide_eq_false fun h => hpx (h.2.1 x hmem)).symm)
 ·have h3 : ¬ (k : Int) < ((l.map PieceR.row).length : Nat) := by omega
  repeat' (first|(apply S.move;exact rfl;exact rfl)|(apply S.assign;exact rfl;exact rfl)|(apply S.cmp;(iterate 4 exact rfl))|(apply S.lenR;exact rfl;exact rfl) | apply S.nil | apply T.regs|(apply T.cF;exact rfl;assumption) | apply T.seq|(apply T.ret;change Done _ _ _ _ _)|(apply T.exit;first | change T _ _ _ _ _ | change Done _ _ _ _ _ | change Next _ _ _ _ _ _ | skip))
  exact doneV (by simp) Tryz.results59 rfl (congrArg Value.bool (decide_eq_true ⟨⟨by omega, by omega⟩, by rw [List.take_of_length_le (by omega)] at hp;exact hp, fun i hi => hs i (by omega)⟩).symm)
/-! ### Pieces, values -/
def okV (p : PcQ) (u : Rat) : Prop := Fits (p.c * u) ∧ Fits (p.b + p.c * u) ∧ Fits ((p.b + p.c * u) * u) ∧ Fits (p.a + (p.b + p.c * u) * u)
instance (p : PcQ) (u : Rat) : Decidable (okV p u) := by unfold okV;exact inferInstance
def valR (p : PcQ) (u : Rat) : Rat := p.a + (p.b + p.c * u) * u
def okS (p : PcQ) (u : Rat) : Prop := Fits (p.c * u) ∧ Fits (2 * (p.c * u)) ∧ Fits (p.b + 2 * (p.c * u))
instance (p : PcQ) (u : Rat) : Decidable (okS p u) := by unfold okS;exact inferInstance
def sloR (p : PcQ) (u : Rat) : Rat := p.b + 2 * (p.c * u)
end Go.Proofs.YtlncmkafjjomgaaGreat
set_option linter.unusedSimpArgs false
namespace Go.Proofs.YtlncmkafjjomgaaGreat
set_option linter.unusedVariables false
open Go.RowKit
end Go.Proofs.YtlncmkafjjomgaaGreat
set_option linter.unusedSimpArgs false
namespace Go.Proofs.YtlncmkafjjomgaaGreat
set_option linter.unusedVariables false
open Go.RowKit
theorem kQ_ok {r : Rat} (h : Fits r) : kQ r = r := if_pos h
theorem kE_ok {r : Rat} {e : Int} (h : Fits r) : kE r e = e := if_pos h
theorem kE_bad {r : Rat} (h : ¬ Fits r) : kE r 0 = 5 := by unfold kE;rw [if_neg h, if_pos rfl]
theorem kE_five (r : Rat) : kE r 5 = 5 := by
 unfold kE
 split
 ·rfl
 ·rw [if_neg (by decide)]
theorem valE_five (p : PcQ) (u : Rat) : valE p u 5 = 5 := by simp only [valE, kE_five]
theorem sloE_five (p : PcQ) (u : Rat) : sloE p u 5 = 5 := by simp only [sloE, kE_five]
theorem val_okV {p : PcQ} {u : Rat} (h : okV p u) (e : Int) : valQ p u = valR p u ∧ valE p u e = e := by
 obtain ⟨h1, h2, h3, h4⟩ := h
 unfold valQ valE val4 val3 val2 val1 valR
 rw [kQ_ok h1, kQ_ok h2, kQ_ok h3, kQ_ok h4, kE_ok h4, kE_ok h3, kE_ok h2, kE_ok h1]
 exact ⟨rfl, rfl⟩
theorem val_bad {p : PcQ} {u : Rat} (h : ¬ okV p u) : valE p u 0 = 5 := by
 unfold valE val4 val3 val2 val1
 by_cases h1 : Fits (p.c * u)
 ·rw [kE_ok h1, kQ_ok h1]
  by_cases h2 : Fits (p.b + p.c * u)
  ·rw [kE_ok h2, kQ_ok h2]
   by_cases h3 : Fits ((p.b + p.c * u) * u)
   ·rw [kE_ok h3, kQ_ok h3]
    exact kE_bad fun h4 => h ⟨h1, h2, h3, h4⟩
   ·rw [kE_bad h3, kE_five]
  ·rw [kE_bad h2, kE_five, kE_five]
 ·rw [kE_bad h1, kE_five, kE_five, kE_five]
theorem slo_okS {p : PcQ} {u : Rat} (h : okS p u) (e : Int) : sloQ p u = sloR p u ∧ sloE p u e = e := by
 obtain ⟨h1, h2, h3⟩ := h
 unfold sloQ sloE slo3 slo2 val1 sloR
 rw [kQ_ok h1, kQ_ok h2, kQ_ok h3, kE_ok h3, kE_ok h2, kE_ok h1]
 exact ⟨rfl, rfl⟩
theorem slo_bad {p : PcQ} {u : Rat} (h : ¬ okS p u) : sloE p u 0 = 5 := by
 unfold sloE slo3 slo2 val1
 by_cases h1 : Fits (p.c * u)
 ·rw [kE_ok h1, kQ_ok h1]
  by_cases h2 : Fits (2 * (p.c * u))
  ·rw [kE_ok h2, kQ_ok h2]
   exact kE_bad fun h3 => h ⟨h1, h2, h3⟩
  ·rw [kE_bad h2, kE_five]
 ·rw [kE_bad h1, kE_five, kE_five]
end Go.Proofs.YtlncmkafjjomgaaGreat
