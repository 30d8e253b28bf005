/- Contracts: the reference's First. No conditions but those of each statement. | Contract: the reference's First, the search. No conditions but those of each statement. -/
import Derived.Test.YtgegcgfdffmoeaaGreatNr
import Derived.Test.YtgegcgfdffmoeaaGreatNe
import Derived.Test.YtgegcgfdffmoeaaGreatNj
set_option linter.unusedSimpArgs false
namespace Go.Proofs.YtgegcgfdffmoeaaGreat
set_option linter.unusedVariables false
open Go.RowKit
theorem r02_neg (q : Rat) (h : Fits q) : Fn0 Tryz.prog 55 [rowA (frR q)] (rowA (frR (-q))) := by
  obtain ⟨h1, h2⟩ := h
  refine Fn0.of_calls (us := [.agg #[.int .i64 q.num, .int .i64 q.den]]) ⟨_, Tryz.func55, rfl, rfl⟩ rfl (fun w L => RelV.agg _ [.int .i64 (-q).num, .int .i64 (-q).den] rfl fun i x v hx hv => ?_) fun w => ?_
  · match i with
    | 0 => simp at hx hv; subst hx hv; exact relV_val _
    | 1 => simp at hx hv; subst hx hv; exact relV_val _
    | i + 2 => simp at hv
  · have := rneg_any q.num q.den (by omega) (by omega) w
    exact this
def rfP (l : List PcQ) (fr : Rat) (k : Int) : PcQ := if k < 0 then ⟨fr, (pcAt l 0).a, 0, 0⟩ else pcAt l k.toNat
def rfB (l : List PcQ) (fr : Rat) (k : Int) : Rat := if 0 ≤ k ∧ fr < (pcAt l k.toNat).f then (pcAt l k.toNat).f else fr
def rfE (l : List PcQ) (te : Rat) (k : Int) : Rat := if k + 1 < l.length ∧ (pcAt l (k + 1).toNat).f < te then (pcAt l (k + 1).toNat).f else te
/-- The lowest point of a piece. -/
def lowX (p : PcQ) : Rat := p.f + -p.b / (2 * p.c)
def rfS (p : PcQ) (b e : Rat) : Option (List Lf) :=
  if vR p b < 0 ∨ vR p b = 0 ∧ falR p b ∧ b < e then some (encR p b e true) else if vR p e < 0 then some (encR p b e false) else if p.c.num ≤ 0 then none
  else if b < lowX p ∧ lowX p < e ∧ vR p (lowX p) < 0 then some (encR p b (lowX p) false) else none
def rfStep (l : List PcQ) (fr te : Rat) (k : Int) : Option (List Lf) := rfS (rfP l fr k) (rfB l fr k) (rfE l te k)
def rfScan (l : List PcQ) (fr te : Rat) : Nat → Option (List Lf)
  | 0 => none
  | j + 1 => match rfScan l fr te j with
    | some r => some r
    | none => rfStep l fr te (rpI l fr + j)
def rfN (l : List PcQ) (fr te : Rat) : Nat := (rpI l te - rpI l fr + 1).toNat
def rfFirst (l : List PcQ) (fr te : Rat) : AV := match rfScan l fr te (rfN l fr te) with
  | some r => .tup [rowA r, .i 0]
  | none => spE 12
theorem rfScan_up {l : List PcQ} {fr te : Rat} {k : Nat} {r : List Lf} (h : rfScan l fr te k = some r) : ∀ n, k ≤ n → rfScan l fr te n = some r := by
  intro n hn
  induction n with
  | zero => obtain rfl : k = 0 := by omega
            exact h
  | succ n ih =>
    by_cases e : k = n + 1
    · subst e; exact h
    · rw [rfScan, ih (by omega)]
theorem encR_sp (p : PcQ) (x y : Rat) (bg : Bool) : sp2 (encR p x y bg) := by unfold encR; split <;> exact ⟨_, _, rfl⟩
def lowN (p : PcQ) : XN := (XN.ofQ p.f).plus ((XN.mk (0 - p.b.num) p.b.den).over ((XN.ofQ 2).times (XN.ofQ p.c)))
theorem lowN_bd {p : PcQ} (hp : p.ok) (hc : 0 < p.c.num) : (lowN p).bd 20 := by
  have h1 := XN.bd_times (XN.bd_ofQ (by decide : Fits 2)) (XN.bd_ofQ hp.c)
  have h0 : (XN.mk (0 - p.b.num) p.b.den).bd 3 := by
    obtain ⟨a1, a2, a3⟩ := XN.bd_ofQ hp.b
    refine ⟨?_, a2, a3⟩
    have := a1.neg
    rwa [show -(XN.ofQ p.b).n = 0 - p.b.num by show -p.b.num = 0 - p.b.num; omega] at this
  have h2 := XN.bd_over h0 h1 (show 0 < (2 : Rat).num * p.c.num from Int.mul_pos (by decide) hc)
  exact (XN.bd_plus (XN.bd_ofQ hp.f) h2).mono (by omega)
theorem lowN_val {p : PcQ} (hp : p.ok) (hc : 0 < p.c.num) : (lowN p).val = lowX p := by
  have h1 := XN.bd_times (XN.bd_ofQ (by decide : Fits 2)) (XN.bd_ofQ hp.c)
  have h0 : (XN.mk (0 - p.b.num) p.b.den).bd 3 := by
    obtain ⟨a1, a2, a3⟩ := XN.bd_ofQ hp.b
    refine ⟨?_, a2, a3⟩
    have := a1.neg
    rwa [show -(XN.ofQ p.b).n = 0 - p.b.num by show -p.b.num = 0 - p.b.num; omega] at this
  have h2 := XN.bd_over h0 h1 (show 0 < (2 : Rat).num * p.c.num from Int.mul_pos (by decide) hc)
  unfold lowN lowX
  rw [XN.val_plus (XN.bd_ofQ hp.f).p h2.p, XN.val_over, XN.val_times, XN.val_ofQ, XN.val_ofQ, XN.val_ofQ]
  congr 2
  unfold XN.val
  show Rat.divInt (0 - p.b.num) p.b.den = -p.b
  rw [show (0 : Int) - p.b.num = -p.b.num by omega, ← Rat.neg_divInt, Rat.divInt_ofNat, Rat.mkRat_self]
theorem XN.cmp_gt {x y : XN} {j k : Nat} (hx : x.bd j) (hy : y.bd k) : 0 < (x.less y).sgn ↔ y.val < x.val := by
  rw [← Int.not_le, XN.cmp_le hx hy, Rat.not_le]
set_option maxHeartbeats 8000000 in
theorem rf_first_range (rows : List (List Lf)) (fr te : Rat) (hf : Fits fr) (ht : Fits te) (hb : ¬ (fr ≤ te ∧ rangP fr ∧ rangP te)) : Fn0 Tryz.prog 13 [.sl rows, rowA (frR fr), rowA (frR te)] (spE 2) := by
  have o1 : Fn0 Tryz.prog 54 [.i 1099511627776] (rowA (frR 1099511627776)) := r02_of 1099511627776
  have o2 : Fn0 Tryz.prog 55 [rowA (frR 1099511627776)] (rowA (frR (-1099511627776))) := r02_neg 1099511627776 (by decide)
  have c1 := r02_cmp fr te hf ht
  have c2 := r02_cmp fr (-1099511627776) hf (by decide)
  have c3 := r02_cmp te 1099511627776 ht (by decide)
  have hbad : 0 < cmpQ fr te ∨ cmpQ fr (-1099511627776) < 0 ∨ 0 < cmpQ te 1099511627776 := by
    rw [cmpQ_gt, cmpQ_lt, cmpQ_gt]
    by_cases h1 : te < fr
    · exact .inl h1
    · by_cases h2 : fr < -1099511627776
      · exact .inr (.inl h2)
      · by_cases h3 : 1099511627776 < te
        · exact .inr (.inr h3)
        · exfalso
          refine hb ⟨Rat.not_lt.1 h1, ⟨Rat.not_lt.1 h2, ?_⟩, ⟨?_, Rat.not_lt.1 h3⟩⟩
          · exact Rat.le_trans (Rat.not_lt.1 h1) (Rat.not_lt.1 h3)
          · exact Rat.le_trans (Rat.not_lt.1 h2) (Rat.not_lt.1 h1)
  refine Fn0.of Tryz.func13 Tryz.ntmps13 rfl rfl rfl ?_
  simp only [entryTm]
  repeat' (first | (apply S.move; exact rfl; exact rfl) | (apply S.assign; exact rfl; exact rfl) | (apply S.gCN; (iterate 4 exact rfl)) | (apply S.gFF; exact rfl; exact rfl; assumption) | (apply S.gFT; exact rfl; exact rfl; assumption; exact rfl) | (apply S.pC; exact rfl; exact rfl; exact rfl) | (apply S.pTp; exact rfl; assumption; exact rfl; exact rfl) | (apply S.pFp; exact rfl; assumption; exact rfl; exact rfl) | (apply S.call; exact rfl; exact rfl; exact o1; exact rfl) | (apply S.call; exact rfl; exact rfl; exact o2; exact rfl) | (apply S.call; exact rfl; exact rfl; exact c1; exact rfl) | (apply S.call; exact rfl; exact rfl; exact c2; exact rfl) | (apply S.call; exact rfl; exact rfl; exact c3; exact rfl) | (apply T.drawAll anyOrder (by decide +kernel)) | (apply S.loadPA; (iterate 4 exact rfl)) | (apply S.box; (iterate 6 exact rfl)) | (apply S.alloc; (iterate 5 exact rfl)) | (apply S.store; (iterate 7 exact rfl)) | (apply S.cmp; (iterate 4 exact rfl)) | (apply S.build; exact rfl; exact rfl; exact rfl) | (apply S.gsF; exact rfl; exact rfl; exact rfl; intro hc; rotate_left; intro hc; rotate_right) | apply S.nil | apply T.regs | (apply T.cC; exact rfl) | (apply T.cS; exact rfl; intro hc; rotate_left; intro hc; rotate_right) | apply T.seq | (apply T.skip; first | change T _ _ _ _ _ | change Done _ _ _ _ _ | change Next _ _ _ _ _ _ | skip) | (apply T.ret; change Done _ _ _ _ _))
  all_goals first
    | exact ⟨.inr rfl, [rowA [.i 0, .i 0], .i 2], .cons (Res.row [.i 0, .i 0] rfl rfl rfl rfl rfl) (.cons (.tmp rfl) .nil), .tup (.cons (.agg (outL_refl [.i 0, .i 0])) (.cons (.one (.lf _)) .nil))⟩
    | (exfalso; omega)
end Go.Proofs.YtgegcgfdffmoeaaGreat
set_option linter.unusedSimpArgs false
namespace Go.Proofs.YtgegcgfdffmoeaaGreat
set_option linter.unusedVariables false
open Go.RowKit
theorem pcAt_ok {l : List PcQ} (hl : okC l) (k : Nat) : (pcAt l k).ok := by
  cases h : l[k]? with
  | some x => rw [pcAt_of h]; exact hl x (List.mem_of_getElem? h)
  | none =>
    have : pcAt l k = default := by unfold pcAt; rw [List.getD_eq_getElem?_getD, h]; rfl
    rw [this]
    exact ⟨by decide, by decide, by decide, by decide⟩
theorem pcAt_get {l : List PcQ} {k : Nat} (h : k < l.length) : l[k]? = some (pcAt l k) := by
  rw [List.getElem?_eq_getElem h]
  congr 1
  exact (pcAt_of (List.getElem?_eq_getElem h)).symm
theorem rpI_range (l : List PcQ) (t : Rat) : -1 ≤ rpI l t ∧ rpI l t < l.length := by
  have := rpN_le l t l.length
  unfold rpI
  omega
theorem rfP_ok {l : List PcQ} (hl : okC l) {fr : Rat} (hf : Fits fr) (k : Int) : (rfP l fr k).ok := by
  unfold rfP
  split
  · exact ⟨hf, (pcAt_ok hl 0).a, Fits.zero, Fits.zero⟩
  · exact pcAt_ok hl _
theorem rfB_fits {l : List PcQ} (hl : okC l) {fr : Rat} (hf : Fits fr) (k : Int) : Fits (rfB l fr k) := by
  unfold rfB
  split
  · exact (pcAt_ok hl _).f
  · exact hf
theorem rfE_fits {l : List PcQ} (hl : okC l) {te : Rat} (ht : Fits te) (k : Int) : Fits (rfE l te k) := by
  unfold rfE
  split
  · exact (pcAt_ok hl _).f
  · exact ht
set_option maxHeartbeats 64000000 in
theorem rf_first (l : List PcQ) (fr te : Rat) (hl : okC l) (h0 : l ≠ []) (hn : l.length ≤ 1000) (hf : Fits fr) (ht : Fits te) (hle : fr ≤ te) (hr1 : rangP fr) (hr2 : rangP te) :
    Fn0 Tryz.prog 13 [.sl (l.map PcQ.row), rowA (frR fr), rowA (frR te)] (rfFirst l fr te) := by
  have o1 : Fn0 Tryz.prog 54 [.i 1099511627776] (rowA (frR 1099511627776)) := r02_of 1099511627776
  have o2 : Fn0 Tryz.prog 55 [rowA (frR 1099511627776)] (rowA (frR (-1099511627776))) := r02_neg 1099511627776 (by decide)
  have c1 := r02_cmp fr te hf ht
  have c2 := r02_cmp fr (-1099511627776) hf (by decide)
  have c3 := r02_cmp te 1099511627776 ht (by decide)
  have n1 : ¬ 0 < cmpQ fr te := fun h => Rat.not_lt.2 hle ((cmpQ_gt _ _).1 h)
  have n2 : ¬ cmpQ fr (-1099511627776) < 0 := fun h => Rat.not_lt.2 hr1.1 ((cmpQ_lt _ _).1 h)
  have n3 : ¬ 0 < cmpQ te 1099511627776 := fun h => Rat.not_lt.2 hr2.2 ((cmpQ_gt _ _).1 h)
  have p1 := rq_piece l fr hl hn hf
  have p2 := rq_piece l te hl hn ht
  have hll : (l.map PcQ.row).length = l.length := List.length_map _
  have hpos : 0 < l.length := List.length_pos_iff.2 h0
  have hb0 : (l.map PcQ.row)[(0 : Int).toNat]? = some (pcAt l 0).row := by rw [show (0 : Int).toNat = 0 from rfl, List.getElem?_map, pcAt_get hpos]; rfl
  refine Fn0.of Tryz.func13 Tryz.ntmps13 rfl rfl rfl ?_
  simp only [entryTm]
  repeat' (first | (apply S.move; exact rfl; exact rfl) | (apply S.assign; exact rfl; exact rfl) | (apply S.gFF; exact rfl; exact rfl; assumption) | (apply S.pFp; exact rfl; assumption; exact rfl; exact rfl) | (apply S.call; exact rfl; exact rfl; exact o1; exact rfl) | (apply S.call; exact rfl; exact rfl; exact o2; exact rfl) | (apply S.call; exact rfl; exact rfl; exact c1; exact rfl) | (apply S.call; exact rfl; exact rfl; exact c2; exact rfl) | (apply S.call; exact rfl; exact rfl; exact c3; exact rfl) | (apply S.call; exact rfl; exact rfl; exact p1; exact rfl) | (apply T.drawAll anyOrder (by decide +kernel)) | (apply S.loadPA; (iterate 4 exact rfl)) | (apply S.box; (iterate 6 exact rfl)) | (apply S.alloc; (iterate 5 exact rfl)) | (apply S.store; (iterate 7 exact rfl)) | (apply S.cmp; (iterate 4 exact rfl)) | apply S.nil | apply T.regs | (apply T.cF; exact rfl; assumption) | apply T.seq | (apply T.skip; first | change T _ _ _ _ _ | change Done _ _ _ _ _ | change Next _ _ _ _ _ _ | skip) | apply T.block)
  refine T.loopS (fun j => j ≤ rfN l fr te ∧ rfScan l fr te j = none) (fun j => rfN l fr te - j) (fun j => [(9, .i (rpI l fr + (j : Int))), (0, .sl (l.map PcQ.row)), (4, .ptr 0 0), (5, .ptr 1 0), (6, .ptr 2 0)]) (fun _ => [.live ((frR fr).map .lf), .live ((frR te).map .lf), .live [.i 0, .i 0], .live ((frR 1099511627776).map .lf)]) 0 ⟨Nat.zero_le _, rfl⟩ (.cons (by rw [show rpI l fr + ((0 : Nat) : Int) = rpI l fr by omega]; rfl) rfl (.cons rfl rfl (.cons rfl rfl (.cons rfl rfl (.cons rfl rfl .nil))))) (.live rfl (.live rfl (.live rfl (.live rfl .nil)))) ?_
  rintro j ⟨hj, hsc⟩
  clear o1 o2 c1 c2 c3 n1 n2 n3 p1
  obtain ⟨r1, r2⟩ := rpI_range l fr
  obtain ⟨r3, r4⟩ := rpI_range l te
  have hsn : rfScan l fr te (j + 1) = rfStep l fr te (rpI l fr + j) := by rw [rfScan, hsc]
  have hN : rfN l fr te = (rpI l te - rpI l fr + 1).toNat := rfl
  obtain ⟨kk, hkk⟩ : ∃ kk, kk = rpI l fr + (j : Int) := ⟨_, rfl⟩
  rw [← hkk] at hsn ⊢
  by_cases hlt : kk ≤ rpI l te
  · have o0 : Fn0 Tryz.prog 54 [.i 0] (rowA (frR 0)) := r02_of 0
    have u1 := rf_ofQ fr hf
    have u2 := rf_ofQ te ht
    have okx := pcAt_ok hl kk.toNat
    have oky := pcAt_ok hl (kk + 1).toNat
    have hbx : 0 ≤ kk → (l.map PcQ.row)[kk.toNat]? = some (pcAt l kk.toNat).row := fun h => by rw [List.getElem?_map, pcAt_get (by omega)]; rfl
    have hby : kk + 1 < (((l.map PcQ.row).length : Nat) : Int) → (l.map PcQ.row)[(kk + 1).toNat]? = some (pcAt l (kk + 1).toNat).row := fun h => by rw [List.getElem?_map, pcAt_get (by omega)]; rfl
    have cx := r02_cmp (pcAt l kk.toNat).f fr okx.f hf
    have cy := r02_cmp (pcAt l (kk + 1).toNat).f te oky.f ht
    have u3 := rf_ofQ _ okx.f
    have u4 := rf_ofQ _ oky.f
    obtain ⟨p, hp⟩ : ∃ p, p = rfP l fr kk := ⟨_, rfl⟩
    obtain ⟨b, hb⟩ : ∃ b, b = rfB l fr kk := ⟨_, rfl⟩
    obtain ⟨e, he⟩ : ∃ e, e = rfE l te kk := ⟨_, rfl⟩
    have okp : p.ok := hp ▸ rfP_ok hl hf kk
    have fb : Fits b := hb ▸ rfB_fits hl hf kk
    have fe : Fits e := he ▸ rfE_fits hl ht kk
    have hst : rfStep l fr te kk = rfS p b e := by rw [rfStep, ← hp, ← hb, ← he]
    have hP1 : ¬ 0 ≤ kk → p = ⟨fr, (pcAt l 0).a, 0, 0⟩ := fun h => by rw [hp, rfP, if_pos (by omega)]
    have hP2 : 0 ≤ kk → p = pcAt l kk.toNat := fun h => by rw [hp, rfP, if_neg (by omega)]
    have hB1 : ¬ 0 ≤ kk → b = fr := fun h => by rw [hb, rfB, if_neg (fun q => h q.1)]
    have hB2 : 0 ≤ kk → 0 < cmpQ (pcAt l kk.toNat).f fr → b = (pcAt l kk.toNat).f := fun h q => by rw [hb, rfB, if_pos ⟨h, (cmpQ_gt _ _).1 q⟩]
    have hB3 : ¬ 0 < cmpQ (pcAt l kk.toNat).f fr → b = fr := fun q => by rw [hb, rfB, if_neg (fun r => q ((cmpQ_gt _ _).2 r.2))]
    have hE1 : kk + 1 < (((l.map PcQ.row).length : Nat) : Int) → cmpQ (pcAt l (kk + 1).toNat).f te < 0 → e = (pcAt l (kk + 1).toNat).f := fun h q => by rw [he, rfE, if_pos ⟨by omega, (cmpQ_lt _ _).1 q⟩]
    have hE2 : ¬ kk + 1 < (((l.map PcQ.row).length : Nat) : Int) → e = te := fun h => by rw [he, rfE, if_neg (fun q => h (by omega))]
    have hE3 : ¬ cmpQ (pcAt l (kk + 1).toNat).f te < 0 → e = te := fun q => by rw [he, rfE, if_neg (fun r => q ((cmpQ_lt _ _).2 r.2))]
    repeat' (first | (apply S.move; exact rfl; exact rfl) | (apply S.gTT; exact rfl; exact rfl; assumption) | (apply S.gTF; exact rfl; exact rfl; assumption; exact rfl) | (apply S.fieldP; exact rfl; exact rfl; exact rfl) | (apply S.fieldR; exact rfl; exact rfl) | (apply S.pTp; exact rfl; assumption; exact rfl; exact rfl) | (apply S.pFp; exact rfl; assumption; exact rfl; exact rfl) | (apply S.arith; (iterate 4 exact rfl); omega) | (apply S.call; exact rfl; exact rfl; exact p2; exact rfl) | (apply S.call; exact rfl; exact rfl; exact o0; exact rfl) | (apply S.call; exact rfl; exact rfl; exact u1; exact rfl) | (apply S.call; exact rfl; exact rfl; exact u2; exact rfl) | (apply S.call; exact rfl; exact rfl; exact cx; exact rfl) | (apply S.call; exact rfl; exact rfl; exact cy; exact rfl) | (apply S.call; exact rfl; exact rfl; exact u3; exact rfl) | (apply S.call; exact rfl; exact rfl; exact u4; exact rfl) | (apply S.indexR; exact rfl; exact rfl; exact rfl; exact hb0; omega; exact rfl) | (apply S.indexR; exact rfl; exact rfl; exact rfl; exact hbx (by assumption); omega; exact rfl) | (apply S.indexR; exact rfl; exact rfl; exact rfl; exact hby (by assumption); omega; exact rfl) | (apply S.loadRW; (iterate 4 exact rfl)) | (refine T.meetR 9 ([(10, .ptr 4 0), (11, .ptr 5 0), (12, .ptr 6 0), (9, .i kk), (0, .sl (l.map PcQ.row)), (4, .ptr 0 0), (5, .ptr 1 0), (6, .ptr 2 0)]) ([.live ((frR fr).map .lf), .live ((frR te).map .lf), .live [.i 0, .i 0], .live ((frR 1099511627776).map .lf), .live (p.row.map .lf), .live ((XN.ofQ b).row.map .lf), .live ((XN.ofQ te).row.map .lf)]) ?_ ?_) | (refine T.meetS 13 ([(10, .ptr 4 0), (11, .ptr 5 0), (12, .ptr 6 0), (9, .i kk), (0, .sl (l.map PcQ.row)), (4, .ptr 0 0), (5, .ptr 1 0), (6, .ptr 2 0)]) ([.live ((frR fr).map .lf), .live ((frR te).map .lf), .live [.i 0, .i 0], .live ((frR 1099511627776).map .lf), .live (p.row.map .lf), .live ((XN.ofQ b).row.map .lf), .live ((XN.ofQ e).row.map .lf)]) ?_ ?_) | (apply T.draw 10 anyOrder (by decide +kernel); simp only [List.take_succ_cons, List.take_zero, List.drop_succ_cons, List.drop_zero]) | (apply T.drawAll anyOrder (by decide +kernel)) | (apply S.loadPA; (iterate 4 exact rfl)) | (apply S.loadRA; (iterate 4 exact rfl)) | (apply S.alloc; (iterate 5 exact rfl)) | (apply S.store; (iterate 7 exact rfl)) | (apply S.storeD; (iterate 8 exact rfl)) | (apply S.cmp; (iterate 4 exact rfl)) | (apply S.lenR; exact rfl; exact rfl) | (apply S.build; exact rfl; exact rfl; exact rfl) | (apply S.gsT; exact rfl; exact rfl; exact rfl; intro hc; rotate_left; intro hc; rotate_right) | apply S.nil | apply T.regs | apply T.reg | (apply T.cCN; exact rfl) | (apply T.cT; exact rfl; assumption) | (apply T.cS; exact rfl; intro hc; rotate_left; intro hc; rotate_right) | apply T.seq | (apply T.skip; first | change T _ _ _ _ _ | change Done _ _ _ _ _ | change Next _ _ _ _ _ _ | skip) | apply T.block)
    all_goals try first
      | exact T.met (.cons rfl rfl (.cons rfl rfl (.cons rfl rfl (.cons rfl rfl (.cons rfl rfl (.cons rfl rfl (.cons rfl rfl (.cons rfl rfl .nil)))))))) (by rw [hP1 (by assumption), hB1 (by assumption)]; exact (.live rfl (.live rfl (.live rfl (.live rfl (.live rfl (.live rfl (.live rfl .nil))))))))
      | exact T.met (.cons rfl rfl (.cons rfl rfl (.cons rfl rfl (.cons rfl rfl (.cons rfl rfl (.cons rfl rfl (.cons rfl rfl (.cons rfl rfl .nil)))))))) (by rw [hP2 (by assumption), hB2 (by assumption) (by assumption)]; exact (.live rfl (.live rfl (.live rfl (.live rfl (.live rfl (.live rfl (.live rfl .nil))))))))
      | exact T.met (.cons rfl rfl (.cons rfl rfl (.cons rfl rfl (.cons rfl rfl (.cons rfl rfl (.cons rfl rfl (.cons rfl rfl (.cons rfl rfl .nil)))))))) (by rw [hP2 (by assumption), hB3 (by assumption)]; exact (.live rfl (.live rfl (.live rfl (.live rfl (.live rfl (.live rfl (.live rfl .nil))))))))
      | exact T.met (.cons rfl rfl (.cons rfl rfl (.cons rfl rfl (.cons rfl rfl (.cons rfl rfl (.cons rfl rfl (.cons rfl rfl (.cons rfl rfl .nil)))))))) (by rw [hE1 (by assumption) (by assumption)]; exact (.live rfl (.live rfl (.live rfl (.live rfl (.live rfl (.live rfl (.live rfl .nil))))))))
      | exact T.met (.cons rfl rfl (.cons rfl rfl (.cons rfl rfl (.cons rfl rfl (.cons rfl rfl (.cons rfl rfl (.cons rfl rfl (.cons rfl rfl .nil)))))))) (by rw [hE2 (by assumption)]; exact (.live rfl (.live rfl (.live rfl (.live rfl (.live rfl (.live rfl (.live rfl .nil))))))))
      | exact T.met (.cons rfl rfl (.cons rfl rfl (.cons rfl rfl (.cons rfl rfl (.cons rfl rfl (.cons rfl rfl (.cons rfl rfl (.cons rfl rfl .nil)))))))) (by rw [hE3 (by assumption)]; exact (.live rfl (.live rfl (.live rfl (.live rfl (.live rfl (.live rfl (.live rfl .nil))))))))
    refine ⟨?_⟩
    clear hP1 hP2 hB1 hB2 hB3 hE1 hE2 hE3 hbx hby cx cy u3 u4 okx oky u1 u2 o0 p2 hb0
    have bb := XN.bd_ofQ fb
    have be := XN.bd_ofQ fe
    have x1 := rf_exact p (XN.ofQ b) okp bb (by decide)
    have x2 := rf_exact p (XN.ofQ e) okp be (by decide)
    have s1 := rf_xsign (exV p (XN.ofQ b))
    have s2 := rf_xsign (exV p (XN.ofQ e))
    have w1 := rf_fall p (XN.ofQ b) okp bb (by decide)
    have m1 := rf_xcmp bb be (by decide)
    have g1 := rf_enclosed p (XN.ofQ b) (XN.ofQ e) true okp bb be (by decide) (by decide)
    have g2 := rf_enclosed p (XN.ofQ b) (XN.ofQ e) false okp bb be (by decide) (by decide)
    have k1 := XN.sgn_neg (exV_bd okp bb).p
    have k2 := XN.sgn_zero (exV_bd okp bb).p
    have k3 := XN.sgn_neg (exV_bd okp be).p
    have k4 := XN.cmp_neg bb be
    rw [exV_val okp bb, XN.val_ofQ] at k1 k2
    rw [exV_val okp be, XN.val_ofQ] at k3
    rw [XN.val_ofQ] at w1
    rw [XN.val_ofQ, XN.val_ofQ] at g1 g2 k4
    obtain ⟨a1, a2, ha⟩ := encR_sp p b e true
    obtain ⟨a3, a4, ha'⟩ := encR_sp p b e false
    rw [ha] at g1
    rw [ha'] at g2
    generalize (exV p (XN.ofQ b)).sgn = z1 at s1 k1 k2
    generalize (exV p (XN.ofQ e)).sgn = z2 at s2 k3
    generalize ((XN.ofQ b).less (XN.ofQ e)).sgn = z3 at m1 k4
    by_cases hc : p.c.num ≤ 0
    · have hS : rfS p b e = if z1 < 0 ∨ z1 = 0 ∧ falR p b ∧ z3 < 0 then some [.i a1, .i a2] else if z2 < 0 then some [.i a3, .i a4] else none := by
        unfold rfS
        rw [ha, ha', if_pos hc]
        simp only [k1, k2, k3, k4]
      repeat' (first | (apply S.move; exact rfl; exact rfl) | (apply S.assign; exact rfl; exact rfl) | (apply S.gCN; (iterate 4 exact rfl)) | (apply S.gU; exact rfl; exact rfl; exact rfl) | (apply S.gTT; exact rfl; exact rfl; assumption) | (apply S.gTF; exact rfl; exact rfl; assumption; exact rfl) | (apply S.gFF; exact rfl; exact rfl; assumption) | (apply S.gFT; exact rfl; exact rfl; assumption; exact rfl) | (apply S.fieldP; exact rfl; exact rfl; exact rfl) | (apply S.loadP; (iterate 4 exact rfl)) | (apply S.pCN; exact rfl; exact rfl; exact rfl) | (apply S.pTp; exact rfl; assumption; exact rfl; exact rfl) | (apply S.pFp; exact rfl; assumption; exact rfl; exact rfl) | (apply S.arith; (iterate 4 exact rfl); omega) | (apply S.call; exact rfl; exact rfl; exact x1; exact rfl) | (apply S.call; exact rfl; exact rfl; exact x2; exact rfl) | (apply S.call; exact rfl; exact rfl; exact s1; exact rfl) | (apply S.call; exact rfl; exact rfl; exact s2; exact rfl) | (apply S.call; exact rfl; exact rfl; exact w1; exact rfl) | (apply S.call; exact rfl; exact rfl; exact m1; exact rfl) | (apply S.call; exact rfl; exact rfl; exact g1; exact rfl) | (apply S.call; exact rfl; exact rfl; exact g2; exact rfl) | (apply S.loadPA; (iterate 4 exact rfl)) | (apply S.store; (iterate 7 exact rfl)) | (apply S.cmp; (iterate 4 exact rfl)) | (apply S.gsT; exact rfl; exact rfl; exact rfl; intro hc; rotate_left; intro hc; rotate_right) | (apply S.gsF; exact rfl; exact rfl; exact rfl; intro hc; rotate_left; intro hc; rotate_right) | apply S.nil | apply T.regs | apply T.reg | (apply T.cC; exact rfl) | (apply T.cCN; exact rfl) | (apply T.cT; exact rfl; assumption) | (apply T.cS; exact rfl; intro hc; rotate_left; intro hc; rotate_right) | apply T.seq | (apply T.skip; first | change T _ _ _ _ _ | change Done _ _ _ _ _ | change Next _ _ _ _ _ _ | skip) | (apply T.ret; change Done _ _ _ _ _) | (apply T.exit; first | change T _ _ _ _ _ | change Done _ _ _ _ _ | change Next _ _ _ _ _ _ | skip))
      all_goals first
        | (rw [show rfFirst l fr te = .tup [rowA [.i a1, .i a2], .i 0] by unfold rfFirst; rw [rfScan_up (k := j + 1) (by rw [hsn, hst, hS]; exact if_pos (.inl (by omega))) _ (by omega)]]; exact ⟨.inr rfl, [rowA [.i a1, .i a2], .i 0], .cons (Res.row [.i a1, .i a2] rfl rfl rfl rfl rfl) (.cons (.tmp rfl) .nil), .tup (.cons (.agg (outL_refl [.i a1, .i a2])) (.cons (.one (.lf _)) .nil))⟩)
        | (rw [show rfFirst l fr te = .tup [rowA [.i a1, .i a2], .i 0] by unfold rfFirst; rw [rfScan_up (k := j + 1) (by rw [hsn, hst, hS]; exact if_pos (.inr ⟨by omega, by assumption, by omega⟩)) _ (by omega)]]; exact ⟨.inr rfl, [rowA [.i a1, .i a2], .i 0], .cons (Res.row [.i a1, .i a2] rfl rfl rfl rfl rfl) (.cons (.tmp rfl) .nil), .tup (.cons (.agg (outL_refl [.i a1, .i a2])) (.cons (.one (.lf _)) .nil))⟩)
        | (rw [show rfFirst l fr te = .tup [rowA [.i a3, .i a4], .i 0] by unfold rfFirst; rw [rfScan_up (k := j + 1) (by rw [hsn, hst, hS]; exact (if_neg (fun h => by rcases h with h | ⟨h, h2, h3⟩ <;> first | omega | exact absurd h2 (by assumption))).trans (if_pos (by omega))) _ (by omega)]]; exact ⟨.inr rfl, [rowA [.i a3, .i a4], .i 0], .cons (Res.row [.i a3, .i a4] rfl rfl rfl rfl rfl) (.cons (.tmp rfl) .nil), .tup (.cons (.agg (outL_refl [.i a3, .i a4])) (.cons (.one (.lf _)) .nil))⟩)
        | (change Next _ _ _ _ _ _; exact Next.go (j + 1) ⟨by omega, by rw [hsn, hst, hS]; exact (if_neg (fun h => by rcases h with h | ⟨h, h2, h3⟩ <;> first | omega | exact absurd h2 (by assumption))).trans (if_neg (by omega))⟩ (by omega) (.cons (by rw [show rpI l fr + ((j + 1 : Nat) : Int) = kk + 1 by omega]; rfl) rfl (.cons rfl rfl (.cons rfl rfl (.cons rfl rfl (.cons rfl rfl .nil))))) (.live rfl (.live rfl (.live rfl (.live rfl .nil)))))
        | (exfalso; omega)
    · have hc' : 0 < p.c.num := by omega
      have bl := lowN_bd okp hc'
      have lv := lowN_val okp hc'
      have h1 := XN.bd_times (XN.bd_ofQ (by decide : Fits 2)) (XN.bd_ofQ okp.c)
      have h0' : (XN.mk (0 - p.b.num) p.b.den).bd 3 := by
        obtain ⟨a1, a2, a3⟩ := XN.bd_ofQ okp.b
        refine ⟨?_, a2, a3⟩
        have := a1.neg
        rwa [show -(XN.ofQ p.b).n = 0 - p.b.num by show -p.b.num = 0 - p.b.num; omega] at this
      have hbn := okp.b.1
      have hbd := okp.b.2
      have t1 := rf_ofQ p.f okp.f
      have t2 := rf_int (0 - p.b.num) (by omega) (by omega)
      have t3 := rf_int (p.b.den : Int) (by omega) (by omega)
      have t4 : Fn0 Tryz.prog 54 [.i 2] (rowA (frR 2)) := r02_of 2
      have t5 := rf_ofQ 2 (by decide)
      have t6 := rf_ofQ p.c okp.c
      have t7 := rf_xtimes (XN.bd_ofQ (by decide : Fits 2)) (XN.bd_ofQ okp.c) (by decide)
      have t8 := rf_xover h0' h1 (by decide)
      have t9 := rf_xplus (XN.bd_ofQ okp.f) (XN.bd_over h0' h1 (show 0 < (2 : Rat).num * p.c.num from Int.mul_pos (by decide) hc')) (by decide)
      have m2 := rf_xcmp bl bb (by decide)
      have m3 := rf_xcmp bl be (by decide)
      have x3 := rf_exact p (lowN p) okp bl (by decide)
      have s3 := rf_xsign (exV p (lowN p))
      have g3 := rf_enclosed p (XN.ofQ b) (lowN p) false okp bb bl (by decide) (by decide)
      have k5 := XN.cmp_gt bl bb
      have k6 := XN.cmp_neg bl be
      have k7 := XN.sgn_neg (exV_bd okp bl).p
      rw [exV_val okp bl, lv] at k7
      rw [lv, XN.val_ofQ] at k5 k6
      rw [lv, XN.val_ofQ] at g3
      obtain ⟨a5, a6, ha2⟩ := encR_sp p b (lowX p) false
      rw [ha2] at g3
      generalize ((lowN p).less (XN.ofQ b)).sgn = z4 at m2 k5
      generalize ((lowN p).less (XN.ofQ e)).sgn = z5 at m3 k6
      generalize (exV p (lowN p)).sgn = z6 at s3 k7
      have hS : rfS p b e = if z1 < 0 ∨ z1 = 0 ∧ falR p b ∧ z3 < 0 then some [.i a1, .i a2] else if z2 < 0 then some [.i a3, .i a4] else if 0 < z4 ∧ z5 < 0 ∧ z6 < 0 then some [.i a5, .i a6] else none := by
        unfold rfS
        rw [ha, ha', if_neg hc, ha2]
        simp only [k1, k2, k3, k4, k5, k6, k7]
      repeat' (first | (apply S.move; exact rfl; exact rfl) | (apply S.assign; exact rfl; exact rfl) | (apply S.gCN; (iterate 4 exact rfl)) | (apply S.gU; exact rfl; exact rfl; exact rfl) | (apply S.gTT; exact rfl; exact rfl; assumption) | (apply S.gTF; exact rfl; exact rfl; assumption; exact rfl) | (apply S.gFF; exact rfl; exact rfl; assumption) | (apply S.gFT; exact rfl; exact rfl; assumption; exact rfl) | (apply S.fieldP; exact rfl; exact rfl; exact rfl) | (apply S.loadP; (iterate 4 exact rfl)) | (apply S.pCN; exact rfl; exact rfl; exact rfl) | (apply S.pTp; exact rfl; assumption; exact rfl; exact rfl) | (apply S.pFp; exact rfl; assumption; exact rfl; exact rfl) | (apply S.arith; (iterate 4 exact rfl); omega) | (apply S.call; exact rfl; exact rfl; exact x1; exact rfl) | (apply S.call; exact rfl; exact rfl; exact x2; exact rfl) | (apply S.call; exact rfl; exact rfl; exact s1; exact rfl) | (apply S.call; exact rfl; exact rfl; exact s2; exact rfl) | (apply S.call; exact rfl; exact rfl; exact w1; exact rfl) | (apply S.call; exact rfl; exact rfl; exact m1; exact rfl) | (apply S.call; exact rfl; exact rfl; exact g1; exact rfl) | (apply S.call; exact rfl; exact rfl; exact g2; exact rfl) | (apply S.call; exact rfl; exact rfl; exact t1; exact rfl) | (apply S.call; exact rfl; exact rfl; exact t2; exact rfl) | (apply S.call; exact rfl; exact rfl; exact t3; exact rfl) | (apply S.call; exact rfl; exact rfl; exact t4; exact rfl) | (apply S.call; exact rfl; exact rfl; exact t5; exact rfl) | (apply S.call; exact rfl; exact rfl; exact t6; exact rfl) | (apply S.call; exact rfl; exact rfl; exact t7; exact rfl) | (apply S.call; exact rfl; exact rfl; exact t8; exact rfl) | (apply S.call; exact rfl; exact rfl; exact t9; exact rfl) | (apply S.call; exact rfl; exact rfl; exact m2; exact rfl) | (apply S.call; exact rfl; exact rfl; exact m3; exact rfl) | (apply S.call; exact rfl; exact rfl; exact x3; exact rfl) | (apply S.call; exact rfl; exact rfl; exact s3; exact rfl) | (apply S.call; exact rfl; exact rfl; exact g3; exact rfl) | (apply T.draw 22 anyOrder (by decide +kernel); simp only [List.take_succ_cons, List.take_zero, List.drop_succ_cons, List.drop_zero]) | (apply S.loadPA; (iterate 4 exact rfl)) | (apply S.alloc; (iterate 5 exact rfl)) | (apply S.store; (iterate 7 exact rfl)) | (apply S.cmp; (iterate 4 exact rfl)) | (apply S.build; exact rfl; exact rfl; exact rfl) | (apply S.gsT; exact rfl; exact rfl; exact rfl; intro hc; rotate_left; intro hc; rotate_right) | (apply S.gsF; exact rfl; exact rfl; exact rfl; intro hc; rotate_left; intro hc; rotate_right) | apply S.nil | apply T.regs | apply T.reg | (apply T.cC; exact rfl) | (apply T.cCN; exact rfl) | (apply T.cF; exact rfl; assumption) | (apply T.cS; exact rfl; intro hc; rotate_left; intro hc; rotate_right) | apply T.seq | (apply T.skip; first | change T _ _ _ _ _ | change Done _ _ _ _ _ | change Next _ _ _ _ _ _ | skip) | (apply T.ret; change Done _ _ _ _ _))
      all_goals first
        | (rw [show rfFirst l fr te = .tup [rowA [.i a1, .i a2], .i 0] by unfold rfFirst; rw [rfScan_up (k := j + 1) (by rw [hsn, hst, hS]; exact if_pos (.inl (by omega))) _ (by omega)]]; exact ⟨.inr rfl, [rowA [.i a1, .i a2], .i 0], .cons (Res.row [.i a1, .i a2] rfl rfl rfl rfl rfl) (.cons (.tmp rfl) .nil), .tup (.cons (.agg (outL_refl [.i a1, .i a2])) (.cons (.one (.lf _)) .nil))⟩)
        | (rw [show rfFirst l fr te = .tup [rowA [.i a1, .i a2], .i 0] by unfold rfFirst; rw [rfScan_up (k := j + 1) (by rw [hsn, hst, hS]; exact if_pos (.inr ⟨by omega, by assumption, by omega⟩)) _ (by omega)]]; exact ⟨.inr rfl, [rowA [.i a1, .i a2], .i 0], .cons (Res.row [.i a1, .i a2] rfl rfl rfl rfl rfl) (.cons (.tmp rfl) .nil), .tup (.cons (.agg (outL_refl [.i a1, .i a2])) (.cons (.one (.lf _)) .nil))⟩)
        | (rw [show rfFirst l fr te = .tup [rowA [.i a3, .i a4], .i 0] by unfold rfFirst; rw [rfScan_up (k := j + 1) (by rw [hsn, hst, hS]; exact (if_neg (fun h => by rcases h with h | ⟨h, h2, h3⟩ <;> first | omega | exact absurd h2 (by assumption))).trans (if_pos (by omega))) _ (by omega)]]; exact ⟨.inr rfl, [rowA [.i a3, .i a4], .i 0], .cons (Res.row [.i a3, .i a4] rfl rfl rfl rfl rfl) (.cons (.tmp rfl) .nil), .tup (.cons (.agg (outL_refl [.i a3, .i a4])) (.cons (.one (.lf _)) .nil))⟩)
        | (rw [show rfFirst l fr te = .tup [rowA [.i a5, .i a6], .i 0] by unfold rfFirst; rw [rfScan_up (k := j + 1) (by rw [hsn, hst, hS]; exact (if_neg (fun h => by rcases h with h | ⟨h, h2, h3⟩ <;> first | omega | exact absurd h2 (by assumption))).trans ((if_neg (by omega)).trans (if_pos ⟨by omega, by omega, by omega⟩))) _ (by omega)]]; exact ⟨.inr rfl, [rowA [.i a5, .i a6], .i 0], .cons (Res.row [.i a5, .i a6] rfl rfl rfl rfl rfl) (.cons (.tmp rfl) .nil), .tup (.cons (.agg (outL_refl [.i a5, .i a6])) (.cons (.one (.lf _)) .nil))⟩)
        | (change Next _ _ _ _ _ _; exact Next.go (j + 1) ⟨by omega, by rw [hsn, hst, hS]; exact (if_neg (fun h => by rcases h with h | ⟨h, h2, h3⟩ <;> first | omega | exact absurd h2 (by assumption))).trans ((if_neg (by omega)).trans (if_neg (fun h => by omega)))⟩ (by omega) (.cons (by rw [show rpI l fr + ((j + 1 : Nat) : Int) = kk + 1 by omega]; rfl) rfl (.cons rfl rfl (.cons rfl rfl (.cons rfl rfl (.cons rfl rfl .nil))))) (.live rfl (.live rfl (.live rfl (.live rfl .nil)))))
        | (exfalso; omega)
  · have hjN : j = rfN l fr te := by omega
    repeat' (first | (apply S.move; exact rfl; exact rfl) | (apply S.assign; exact rfl; exact rfl) | (apply S.call; exact rfl; exact rfl; exact p2; exact rfl) | (apply S.loadPA; (iterate 4 exact rfl)) | (apply S.store; (iterate 7 exact rfl)) | (apply S.cmp; (iterate 4 exact rfl)) | (apply S.build; exact rfl; exact rfl; exact rfl) | apply S.nil | apply T.regs | (apply T.cF; exact rfl; assumption) | apply T.seq | (apply T.ret; change Done _ _ _ _ _) | (apply T.exit; first | change T _ _ _ _ _ | change Done _ _ _ _ _ | change Next _ _ _ _ _ _ | skip))
    rw [show rfFirst l fr te = spE 12 by unfold rfFirst; rw [← hjN, hsc]]
    exact ⟨.inr rfl, [rowA [.i 0, .i 0], .i 12], .cons (Res.row [.i 0, .i 0] rfl rfl rfl rfl rfl) (.cons (.tmp rfl) .nil), .tup (.cons (.agg (outL_refl [.i 0, .i 0])) (.cons (.one (.lf _)) .nil))⟩
end Go.Proofs.YtgegcgfdffmoeaaGreat
