/- Plain facts: errors. Contracts: loftblockref08's From, Shift. No conditions but those of each statement. | Plain facts: the errors of sums and of moved curves. Contract: loftblockref08's Shift. No conditions but those of each statement. -/
import Derived.Test.YtgegcgfdffmoeaaGreatOc
set_option linter.unusedSimpArgs false
namespace Go.Proofs.YtgegcgfdffmoeaaGreat
set_option linter.unusedVariables false
open Go Go.RowKit
theorem kE_or (r : Rat) {e : Int} (h : e = 0 ∨ e = 5) : kE r e = 0 ∨ kE r e = 5 := by
  rcases h with rfl | rfl
  · by_cases hf : Fits r
    · exact .inl (kE_ok hf)
    · exact .inr (kE_bad hf)
  · exact .inr (kE_five r)
theorem valE_or (p : PcQ) (u : Rat) {e : Int} (h : e = 0 ∨ e = 5) : valE p u e = 0 ∨ valE p u e = 5 := kE_or _ (kE_or _ (kE_or _ (kE_or _ h)))
theorem sloE_or (p : PcQ) (u : Rat) {e : Int} (h : e = 0 ∨ e = 5) : sloE p u e = 0 ∨ sloE p u e = 5 := kE_or _ (kE_or _ (kE_or _ h))
theorem atE_or (l : List PcQ) (t : Rat) : atE l t 0 = 0 ∨ atE l t 0 = 5 := by
  unfold atE
  split
  · exact .inl rfl
  · exact valE_or _ _ (kE_or _ (.inl rfl))
theorem atSE_or (l : List PcQ) (t : Rat) : atSE l t 0 = 0 ∨ atSE l t 0 = 5 := by
  unfold atSE
  split
  · exact .inl rfl
  · exact sloE_or _ _ (kE_or _ (.inl rfl))
theorem atPE_five (l : List PcQ) (t : Rat) : atPE l t 5 = 5 := by
  unfold atPE
  split
  · rfl
  · rw [kE_five, valE_five, sloE_five]
theorem atPE_eq (l : List PcQ) (t : Rat) : atPE l t 0 = if atE l t 0 = 0 then atSE l t 0 else 5 := by
  unfold atPE atE atSE
  by_cases h : pcI l t < 0
  · rw [if_pos h, if_pos h, if_pos h, if_pos rfl]
  · rw [if_neg h, if_neg h, if_neg h]
    generalize pcAt l (pcI l t).toNat = p
    rcases kE_or (t - p.f) (.inl rfl) with e0 | e0 <;> rw [e0]
    · rcases valE_or p (kQ (t - p.f)) (.inl rfl) with e1 | e1 <;> rw [e1]
      · rw [if_pos rfl]
      · rw [if_neg (by decide), sloE_five]
    · rw [valE_five, sloE_five, if_neg (by decide)]
theorem atPE_or (l : List PcQ) (t : Rat) : atPE l t 0 = 0 ∨ atPE l t 0 = 5 := by
  rw [atPE_eq]
  split
  · exact atSE_or l t
  · exact .inr rfl
def atC (l : List PcQ) (t : Rat) : Rat := if pcI l t < 0 then 0 else (pcAt l (pcI l t).toNat).c
theorem atP_eq (l : List PcQ) (t : Rat) : atP l t = ⟨t, atQ l t, atS l t, atC l t⟩ := by
  unfold atP atC
  by_cases h : pcI l t < 0
  · rw [if_pos h, if_pos h]
    unfold atQ atS
    rw [if_pos h, if_pos h]
  · rw [if_neg h, if_neg h]
theorem resA_ok {q : Rat} {e : Int} (h : e = 0) : resA q e = frE q 0 := if_pos h
set_option maxHeartbeats 16000000 in
theorem rq_from (l : List PcQ) (t : Rat) (hl : okC l) (h0 : l ≠ []) (hs : sortC l) (hn : l.length ≤ 1000) (ht : Fits t) : ∃ y : PieceR, Fn0 Tryz.prog 79 [.sl (l.map PcQ.row), rowA (frR t)] (.tup [rowA y.row, .i (atPE l t 0)]) ∧ (atPE l t 0 = 0 → y.row = (atP l t).row) := by
  have cp := rq_piece l t hl hn ht
  have c1 := rq_at l t hl h0 hs ht
  have c2 := rq_slope l t hl h0 hs ht
  have co := r02_of 0
  rw [← pcI_rpI hs t] at cp c1 c2
  rw [atPE_eq, atP_eq]
  have hC : ∀ k : Int, pcI l t = k → 0 ≤ k → l[k.toNat]? = some (pcAt l (pcI l t).toNat) := fun k hk h => by subst hk;exact pc_get (by omega)
  have hCv : 0 ≤ pcI l t → atC l t = (pcAt l (pcI l t).toNat).c := fun h => if_neg (by omega)
  have hCn : pcI l t < 0 → atC l t = 0 := fun h => if_pos h
  have hSn : pcI l t < 0 → atSE l t 0 = 0 := fun h => by unfold atSE;rw [if_pos h]
  have hAn : pcI l t < 0 → atE l t 0 = 0 := fun h => by unfold atE;rw [if_pos h]
  generalize pcAt l (pcI l t).toNat = x at hC hCv
  generalize pcI l t = k at cp c1 c2 hC hCv hCn hSn hAn
  replace hC := hC k rfl
  rcases atE_or l t with e1 | e1
  · rw [e1, if_pos rfl]
    rw [e1, resA_ok rfl] at c1
    rcases atSE_or l t with e2 | e2
    · rw [e2, resA_ok rfl] at c2
      rw [e2]
      generalize atQ l t = q at c1 ⊢
      generalize atS l t = s at c2 ⊢
      refine ⟨⟨t.num, t.den, q.num, q.den, s.num, s.den, (atC l t).num, (atC l t).den⟩, ?_, fun _ => rfl⟩
      by_cases hk : 0 ≤ k
      · have hb : (l.map PcQ.row)[k.toNat]? = some x.row := by rw [List.getElem?_map, hC hk];rfl
        have hkl : k.toNat < (l.map PcQ.row).length := (List.getElem?_eq_some_iff.1 hb).1
        rw [hCv hk]
        refine Fn0.of Tryz.func79 Tryz.ntmps79 rfl rfl rfl ?_
        simp only [entryTm]
        repeat' (first|(apply S.move;exact rfl;exact rfl)|(apply S.assign;exact rfl;exact rfl)|(apply S.fieldP;exact rfl;exact rfl;exact rfl)|(apply S.fieldR;exact rfl;exact rfl)|(apply S.call;exact rfl;exact rfl;exact cp;exact rfl)|(apply S.call;exact rfl;exact rfl;exact c1;exact rfl)|(apply S.call;exact rfl;exact rfl;exact c2;exact rfl)|(apply S.call;exact rfl;exact rfl;exact co;exact rfl)|(apply S.indexR;exact rfl;exact rfl;exact rfl;exact hb;omega;exact rfl)|(apply T.drawAll anyOrder (by decide +kernel))|(apply S.loadPA;(iterate 4 exact rfl))|(apply S.loadRA;(iterate 4 exact rfl))|(apply S.box;(iterate 6 exact rfl))|(apply S.alloc;(iterate 5 exact rfl))|(apply S.store;(iterate 7 exact rfl))|(apply S.storeD;(iterate 8 exact rfl))|(apply S.cmp;(iterate 4 exact rfl))|(apply S.extract;exact rfl;exact rfl;exact rfl)|(apply S.build;exact rfl;exact rfl;exact rfl) | apply S.nil | apply T.regs | apply T.reg|(apply T.cCN;exact rfl)|(apply T.cT;exact rfl;assumption) | apply T.seq|(apply T.skip;first | change T _ _ _ _ _ | change Done _ _ _ _ _ | change Next _ _ _ _ _ _ | skip)|(apply T.ret;change Done _ _ _ _ _))
        exact ⟨.inr rfl, [rowA _, .i 0], .cons (Res.row [.i t.num, .i t.den, .i q.num, .i q.den, .i s.num, .i s.den, .i x.c.num, .i x.c.den] rfl rfl rfl rfl rfl) (.cons (.tmp rfl) .nil), .tup (.cons (.agg (outL_refl _)) (.cons (.one (.lf _)) .nil))⟩
      · have hk' : ¬ ¬ ¬ 0 ≤ k := fun h => h hk
        rw [hCn (by omega)]
        refine Fn0.of Tryz.func79 Tryz.ntmps79 rfl rfl rfl ?_
        simp only [entryTm]
        repeat' (first|(apply S.move;exact rfl;exact rfl)|(apply S.assign;exact rfl;exact rfl)|(apply S.fieldP;exact rfl;exact rfl;exact rfl)|(apply S.call;exact rfl;exact rfl;exact cp;exact rfl)|(apply S.call;exact rfl;exact rfl;exact c1;exact rfl)|(apply S.call;exact rfl;exact rfl;exact c2;exact rfl)|(apply S.call;exact rfl;exact rfl;exact co;exact rfl)|(apply T.drawAll anyOrder (by decide +kernel))|(apply S.loadPA;(iterate 4 exact rfl))|(apply S.box;(iterate 6 exact rfl))|(apply S.alloc;(iterate 5 exact rfl))|(apply S.store;(iterate 7 exact rfl))|(apply S.storeD;(iterate 8 exact rfl))|(apply S.cmp;(iterate 4 exact rfl))|(apply S.extract;exact rfl;exact rfl;exact rfl)|(apply S.build;exact rfl;exact rfl;exact rfl) | apply S.nil | apply T.regs|(apply T.cCN;exact rfl)|(apply T.cF;exact rfl;assumption) | apply T.seq|(apply T.skip;first | change T _ _ _ _ _ | change Done _ _ _ _ _ | change Next _ _ _ _ _ _ | skip)|(apply T.ret;change Done _ _ _ _ _))
        exact ⟨.inr rfl, [rowA _, .i 0], .cons (Res.row [.i t.num, .i t.den, .i q.num, .i q.den, .i s.num, .i s.den, .i 0, .i 1] rfl rfl rfl rfl rfl) (.cons (.tmp rfl) .nil), .tup (.cons (.agg (outL_refl _)) (.cons (.one (.lf _)) .nil))⟩
    · rw [e2, resA_five] at c2
      unfold big at c2
      rw [e2]
      have hk : 0 ≤ k := by
        rcases Int.lt_or_le k 0 with h | h
        · rw [hSn h] at e2;cases e2
        · exact h
      generalize atQ l t = q at c1 ⊢
      have hb : (l.map PcQ.row)[k.toNat]? = some x.row := by rw [List.getElem?_map, hC hk];rfl
      have hkl : k.toNat < (l.map PcQ.row).length := (List.getElem?_eq_some_iff.1 hb).1
      refine ⟨⟨t.num, t.den, q.num, q.den, 0, 0, x.c.num, x.c.den⟩, ?_, fun h => by cases h⟩
      skip
      refine Fn0.of Tryz.func79 Tryz.ntmps79 rfl rfl rfl ?_
      simp only [entryTm]
      repeat' (first|(apply S.move;exact rfl;exact rfl)|(apply S.assign;exact rfl;exact rfl)|(apply S.fieldP;exact rfl;exact rfl;exact rfl)|(apply S.fieldR;exact rfl;exact rfl)|(apply S.call;exact rfl;exact rfl;exact cp;exact rfl)|(apply S.call;exact rfl;exact rfl;exact c1;exact rfl)|(apply S.call;exact rfl;exact rfl;exact c2;exact rfl)|(apply S.call;exact rfl;exact rfl;exact co;exact rfl)|(apply S.indexR;exact rfl;exact rfl;exact rfl;exact hb;omega;exact rfl)|(apply T.drawAll anyOrder (by decide +kernel))|(apply S.loadPA;(iterate 4 exact rfl))|(apply S.loadRA;(iterate 4 exact rfl))|(apply S.box;(iterate 6 exact rfl))|(apply S.alloc;(iterate 5 exact rfl))|(apply S.store;(iterate 7 exact rfl))|(apply S.storeD;(iterate 8 exact rfl))|(apply S.cmp;(iterate 4 exact rfl))|(apply S.extract;exact rfl;exact rfl;exact rfl)|(apply S.build;exact rfl;exact rfl;exact rfl) | apply S.nil | apply T.regs | apply T.reg|(apply T.cCN;exact rfl)|(apply T.cT;exact rfl;assumption) | apply T.seq|(apply T.skip;first | change T _ _ _ _ _ | change Done _ _ _ _ _ | change Next _ _ _ _ _ _ | skip)|(apply T.ret;change Done _ _ _ _ _))
      exact ⟨.inr rfl, [rowA _, .i 5], .cons (Res.row [.i t.num, .i t.den, .i q.num, .i q.den, .i 0, .i 0, .i x.c.num, .i x.c.den] rfl rfl rfl rfl rfl) (.cons (.tmp rfl) .nil), .tup (.cons (.agg (outL_refl _)) (.cons (.one (.lf _)) .nil))⟩
  · rw [e1, resA_five] at c1
    unfold big at c1
    rw [e1, if_neg (by decide)]
    have hk : 0 ≤ k := by
      rcases Int.lt_or_le k 0 with h | h
      · rw [hAn h] at e1;cases e1
      · exact h
    have hb : (l.map PcQ.row)[k.toNat]? = some x.row := by rw [List.getElem?_map, hC hk];rfl
    have hkl : k.toNat < (l.map PcQ.row).length := (List.getElem?_eq_some_iff.1 hb).1
    refine ⟨⟨t.num, t.den, 0, 0, 0, 0, x.c.num, x.c.den⟩, ?_, fun h => by cases h⟩
    skip
    refine Fn0.of Tryz.func79 Tryz.ntmps79 rfl rfl rfl ?_
    simp only [entryTm]
    repeat' (first|(apply S.move;exact rfl;exact rfl)|(apply S.assign;exact rfl;exact rfl)|(apply S.fieldP;exact rfl;exact rfl;exact rfl)|(apply S.fieldR;exact rfl;exact rfl)|(apply S.call;exact rfl;exact rfl;exact cp;exact rfl)|(apply S.call;exact rfl;exact rfl;exact c1;exact rfl)|(apply S.call;exact rfl;exact rfl;exact co;exact rfl)|(apply S.indexR;exact rfl;exact rfl;exact rfl;exact hb;omega;exact rfl)|(apply T.drawAll anyOrder (by decide +kernel))|(apply S.loadPA;(iterate 4 exact rfl))|(apply S.loadRA;(iterate 4 exact rfl))|(apply S.box;(iterate 6 exact rfl))|(apply S.alloc;(iterate 5 exact rfl))|(apply S.store;(iterate 7 exact rfl))|(apply S.storeD;(iterate 8 exact rfl))|(apply S.cmp;(iterate 4 exact rfl))|(apply S.extract;exact rfl;exact rfl;exact rfl)|(apply S.build;exact rfl;exact rfl;exact rfl) | apply S.nil | apply T.regs | apply T.reg|(apply T.cC;exact rfl)|(apply T.cT;exact rfl;assumption) | apply T.seq|(apply T.ret;change Done _ _ _ _ _))
    exact ⟨.inr rfl, [rowA _, .i 5], .cons (Res.row [.i t.num, .i t.den, .i 0, .i 0, .i 0, .i 0, .i x.c.num, .i x.c.den] rfl rfl rfl rfl rfl) (.cons (.tmp rfl) .nil), .tup (.cons (.agg (outL_refl _)) (.cons (.one (.lf _)) .nil))⟩
end Go.Proofs.YtgegcgfdffmoeaaGreat
set_option linter.unusedSimpArgs false
namespace Go.Proofs.YtgegcgfdffmoeaaGreat
set_option linter.unusedVariables false
open Go Go.RowKit
theorem jE_five (op : Rat → Rat → Rat) (a b : List PcQ) (t : Rat) : jE op a b t 5 = 5 := by simp only [jE, atPE_five, kE_five]
theorem jEs_five (op : Rat → Rat → Rat) (a b : List PcQ) (l : List Rat) : l.foldl (fun e t => jE op a b t e) 5 = 5 := by
  induction l with
  | nil => rfl
  | cons t l ih => rw [List.foldl_cons, jE_five];exact ih
theorem shEs_five (by_ : Rat) (l : List PcQ) : l.foldl (fun e p => kE (p.f + by_) e) 5 = 5 := by
  induction l with
  | nil => rfl
  | cons t l ih => rw [List.foldl_cons, kE_five];exact ih
theorem jEs_at (op : Rat → Rat → Rat) (a b : List PcQ) (l : List Rat) (i : Nat) (t : Rat) (h : l[i]? = some t) (h0 : jEs op a b (l.take i) = 0) (h5 : jE op a b t 0 = 5) : jEs op a b l = 5 := by
  have hi := (List.getElem?_eq_some_iff.1 h).1
  have he : l = l.take i ++ t :: l.drop (i + 1) := by
    have := List.take_append_drop i l
    rw [List.drop_eq_getElem_cons hi] at this
    rw [List.getElem?_eq_getElem hi] at h
    injection h with h
    rw [h] at this
    exact this.symm
  rw [he, jEs, List.foldl_append, List.foldl_cons]
  unfold jEs at h0
  rw [h0, h5]
  exact jEs_five op a b _
theorem shEs_at (by_ : Rat) (l : List PcQ) (i : Nat) (p : PcQ) (h : l[i]? = some p) (h0 : shEs by_ (l.take i) = 0) (h5 : kE (p.f + by_) 0 = 5) : shEs by_ l = 5 := by
  have hi := (List.getElem?_eq_some_iff.1 h).1
  have he : l = l.take i ++ p :: l.drop (i + 1) := by
    have := List.take_append_drop i l
    rw [List.drop_eq_getElem_cons hi] at this
    rw [List.getElem?_eq_getElem hi] at h
    injection h with h
    rw [h] at this
    exact this.symm
  rw [he, shEs, List.foldl_append, List.foldl_cons]
  unfold shEs at h0
  rw [h0, h5]
  exact shEs_five by_ _
set_option maxHeartbeats 16000000 in
theorem rq_shift (c : List PcQ) (by_ : Rat) (hc : okC c) (hf : Fits by_) (h0 : c ≠ []) (hn : c.length ≤ 1000) :
    Fn0 Tryz.prog 19 [.sl (c.map PcQ.row), rowA (frR by_)] (.tup [.sl ((if shEs by_ c = 0 then c.map (shP by_) else []).map PcQ.row), .i (shEs by_ c)]) := by
  have hle : (c.map PcQ.row).length = c.length := List.length_map _
  have hpos : 0 < c.length := List.length_pos_iff.2 h0
  refine Fn0.of Tryz.func19 Tryz.ntmps19 rfl rfl rfl ?_
  simp only [entryTm]
  repeat' (first|(apply S.assign;exact rfl;exact rfl)|(apply S.box;(iterate 6 exact rfl)) | apply S.nil | apply T.regs | apply T.seq | apply T.block)
  refine T.kill 1 ?_
  refine T.loopS (fun i => i ≤ c.length ∧ shEs by_ (c.take i) = 0) (fun i => c.length - i) (fun i => [(7, .i i), (6, rT 1 8 i), (3, .ptr 0 0), (0, .sl (c.map PcQ.row))]) (fun i => [.live [.i by_.num, .i by_.den], rB (cellsP ((c.take i).map (shP by_))) i]) 0 ⟨Nat.zero_le _, rfl⟩ (.cons rfl rfl (.cons rfl rfl (.cons rfl rfl (.cons rfl rfl .nil)))) (.live rfl (.dead .nil)) ?_
  rintro i ⟨hi, he0⟩
  by_cases hlt : (i : Int) < ((c.map PcQ.row).length : Nat)
  · obtain ⟨x, hx⟩ : ∃ x, c[i]? = some x := ⟨c[i]'(by omega), List.getElem?_eq_getElem _⟩
    have hb : (c.map PcQ.row)[((i : Nat) : Int).toNat]? = some x.row := by rw [Int.toNat_natCast, List.getElem?_map, hx];rfl
    have ca := r02_add x.f by_ (hc x (List.mem_of_getElem? hx)).f hf
    have hts1 : c.take (i + 1) = c.take i ++ [x] := by rw [List.take_add_one, hx];rfl
    have hE : shEs by_ (c.take (i + 1)) = kE (x.f + by_) 0 := by rw [hts1, shEs, List.foldl_append];unfold shEs at he0;rw [he0];rfl
    by_cases hF : Fits (x.f + by_)
    · rw [kE_ok hF] at hE
      have hP : cellsP ((c.take (i + 1)).map (shP by_)) = cellsP ((c.take i).map (shP by_)) ++ [.i (x.f + by_).num, .i (x.f + by_).den, .i x.a.num, .i x.a.den, .i x.b.num, .i x.b.den, .i x.c.num, .i x.c.den] := by
        rw [hts1, List.map_append, cellsP_append]
        show _ ++ cellsP [shP by_ x] = _
        rw [shP, kQ_ok hF];rfl
      have hPl : ((c.take i).map (shP by_)).length = i := by rw [List.length_map, List.length_take];omega
      rw [outA, if_pos hF] at ca
      generalize x.f + by_ = q at ca hP
      cases i with
      | zero =>
        repeat' (first|(apply S.move;exact rfl;exact rfl)|(apply S.assign;exact rfl;exact rfl)|(apply S.fieldP;exact rfl;exact rfl;exact rfl)|(apply S.arith;(iterate 4 exact rfl);omega)|(apply S.call;exact rfl;exact rfl;exact ca;exact rfl)|(apply S.indexR;exact rfl;exact rfl;exact rfl;exact hb;omega;exact rfl)|(apply S.buildSlice1;(iterate 7 exact rfl))|(apply S.appendN 1 (rows := []);(iterate 8 exact rfl);exact rows_one rfl;exact rfl;exact Nat.le_of_ble_eq_true rfl;exact Nat.le_of_ble_eq_true rfl)|(apply S.loadPA;(iterate 4 exact rfl))|(apply S.loadRA;(iterate 4 exact rfl))|(apply S.alloc;(iterate 5 exact rfl))|(apply S.store;(iterate 7 exact rfl))|(apply S.cmp;(iterate 4 exact rfl))|(apply S.extract;exact rfl;exact rfl;exact rfl)|(apply S.lenR;exact rfl;exact rfl) | apply S.nil | apply T.regs | apply T.reg|(apply T.cCN;exact rfl)|(apply T.cT;exact rfl;assumption) | apply T.seq|(apply T.skip;first | change T _ _ _ _ _ | change Done _ _ _ _ _ | change Next _ _ _ _ _ _ | skip) | apply T.block)
        change Next _ _ _ _ _ _
        exact Next.go 1 ⟨by omega, hE⟩ (by omega) (.cons rfl rfl (.cons rfl rfl (.cons rfl rfl (.cons rfl rfl .nil)))) (by rw [show (1 : Nat) = 0 + 1 from rfl, hP];exact .live rfl (.live rfl .nil))
      | succ i =>
        repeat' (first|(apply S.move;exact rfl;exact rfl)|(apply S.assign;exact rfl;exact rfl)|(apply S.fieldP;exact rfl;exact rfl;exact rfl)|(apply S.arith;(iterate 4 exact rfl);omega)|(apply S.call;exact rfl;exact rfl;exact ca;exact rfl)|(apply S.indexR;exact rfl;exact rfl;exact rfl;exact hb;omega;exact rfl)|(apply S.buildSlice1;(iterate 7 exact rfl))|(apply S.appendO;(iterate 8 exact rfl);(rw [cellsP_len, hPl]);exact rows_one rfl;exact rfl;exact clear_lf _ _;simp only [List.length_cons, List.length_nil];omega;simp only [List.length_cons, List.length_nil];omega)|(apply S.loadPA;(iterate 4 exact rfl))|(apply S.loadRA;(iterate 4 exact rfl))|(apply S.alloc;(iterate 5 exact rfl))|(apply S.store;(iterate 7 exact rfl))|(apply S.cmp;(iterate 4 exact rfl))|(apply S.extract;exact rfl;exact rfl;exact rfl)|(apply S.lenR;exact rfl;exact rfl) | apply S.nil | apply T.regs | apply T.reg|(apply T.cCN;exact rfl)|(apply T.cT;exact rfl;assumption) | apply T.seq|(apply T.skip;first | change T _ _ _ _ _ | change Done _ _ _ _ _ | change Next _ _ _ _ _ _ | skip) | apply T.block)
        change Next _ _ _ _ _ _
        exact Next.go (i + 1 + 1) ⟨by omega, hE⟩ (by omega) (.cons (by rw [show (((i + 1 + 1 : Nat) : Int)) = ((i + 1 : Nat) : Int) + 1 by omega];rfl) rfl (.cons rfl rfl (.cons rfl rfl (.cons rfl rfl .nil)))) (by rw [hP];exact .live rfl (.live (by rw [List.all_append, under_pcs];rfl) .nil))
    · rw [shEs_at by_ c i x hx he0 (kE_bad hF), if_neg (by decide)]
      rw [outA, if_neg hF] at ca
      unfold big at ca
      repeat' (first|(apply S.move;exact rfl;exact rfl)|(apply S.assign;exact rfl;exact rfl)|(apply S.fieldP;exact rfl;exact rfl;exact rfl)|(apply S.call;exact rfl;exact rfl;exact ca;exact rfl)|(apply S.indexR;exact rfl;exact rfl;exact rfl;exact hb;omega;exact rfl)|(refine T.nilU 4 rfl ?_;apply T.ret;change Done _ _ _ _ _)|(apply S.loadPA;(iterate 4 exact rfl))|(apply S.loadRA;(iterate 4 exact rfl))|(apply S.alloc;(iterate 5 exact rfl))|(apply S.store;(iterate 7 exact rfl))|(apply S.cmp;(iterate 4 exact rfl))|(apply S.extract;exact rfl;exact rfl;exact rfl)|(apply S.lenR;exact rfl;exact rfl) | apply S.nil | apply T.regs|(apply T.cC;exact rfl)|(apply T.cT;exact rfl;assumption) | apply T.seq|(apply T.skip;first | change T _ _ _ _ _ | change Done _ _ _ _ _ | change Next _ _ _ _ _ _ | skip) | apply T.block)
      exact ⟨.inr rfl, [.sl [], .i 5], .cons (.tmp rfl) (.cons (.tmp rfl) .nil), .tup (.cons (.one (.lf _)) (.cons (.one (.lf _)) .nil))⟩
  · obtain rfl : i = c.length := by omega
    rw [List.take_length] at he0
    have hown := own_pcs (c.map (shP by_))
    rw [List.length_map] at hown
    rw [rT_pos hpos, rB_pos hpos, List.take_length, he0, if_pos rfl]
    repeat' (first|(apply S.move;exact rfl;exact rfl)|(apply S.assign;exact rfl;exact rfl)|(refine T.freeze 6 rfl rfl hown ?_)|(apply S.cmp;(iterate 4 exact rfl))|(apply S.lenR;exact rfl;exact rfl) | apply S.nil | apply T.regs|(apply T.cF;exact rfl;assumption) | apply T.seq|(apply T.ret;change Done _ _ _ _ _)|(apply T.exit;first | change T _ _ _ _ _ | change Done _ _ _ _ _ | change Next _ _ _ _ _ _ | skip))
    exact ⟨.inr rfl, [.sl ((c.map (shP by_)).map PcQ.row), .i 0], .cons (.tmp rfl) (.cons (.tmp rfl) .nil), .tup (.cons (.one (.lf _)) (.cons (.one (.lf _)) .nil))⟩
end Go.Proofs.YtgegcgfdffmoeaaGreat
