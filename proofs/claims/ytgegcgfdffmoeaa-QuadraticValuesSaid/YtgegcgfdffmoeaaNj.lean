/- Contracts: First. No conditions but those of each statement. | Contracts: First of a valid curve and times in range. No conditions but those of each statement. -/
import Derived.Test.YtgegcgfdffmoeaaNi
set_option linter.unusedSimpArgs false
namespace Go.Proofs.Ytgegcgfdffmoeaa
set_option linter.unusedVariables false
open Go.RowKit
abbrev spE (e : Int) : AV := .tup [rowA [.i 0, .i 0], .i e]
theorem cmpQ_gt (p q : Rat) : 0 < cmpQ p q ↔ q < p := by
  have := cmpQ_le p q
  rw [← Rat.not_le, ← this]; omega
theorem cmpQ_ge (p q : Rat) : 0 ≤ cmpQ p q ↔ q ≤ p := by
  have := cmpQ_lt p q
  rw [← Rat.not_lt, ← this]; omega
end Go.Proofs.Ytgegcgfdffmoeaa
set_option linter.unusedSimpArgs false
namespace Go.Proofs.Ytgegcgfdffmoeaa
set_option linter.unusedVariables false
open Go.RowKit
/-- The part of piece i between both times. -/
def ptA (A : List PcQ) (fr : Rat) (i : Nat) : Rat := if 0 < i ∧ fr < (pcAt A i).f then (pcAt A i).f else fr
def ptB (A : List PcQ) (te : Rat) (i : Nat) : Rat := if i + 1 < A.length ∧ (pcAt A (i + 1)).f < te then (pcAt A (i + 1)).f else te
def ptOut (A : List PcQ) (fr te : Rat) (i : Nat) : Prop := te < ptA A fr i ∨ i + 1 < A.length ∧ (pcAt A (i + 1)).f ≤ ptA A fr i
instance (A : List PcQ) (fr te : Rat) (i : Nat) : Decidable (ptOut A fr te i) := by unfold ptOut; exact inferInstance
def stepF (A : List PcQ) (fr te : Rat) (i : Nat) : Option (List Lf) :=
  if ptOut A fr te i then none else if vR (pcAt A i) (ptA A fr i) < 0 then some (enQ (ptA A fr i)) else if belR (pcAt A i) (ptA A fr i) (ptB A te i) then some (firR (pcAt A i) (ptA A fr i) (ptB A te i)) else none
def scanF (A : List PcQ) (fr te : Rat) : Nat → Option (List Lf)
  | 0 => none
  | k + 1 => match scanF A fr te k with
    | some r => some r
    | none => stepF A fr te k
theorem scanF_up {A : List PcQ} {fr te : Rat} {k : Nat} {r : List Lf} (h : scanF A fr te k = some r) : ∀ n, k ≤ n → scanF A fr te n = some r := by
  intro n hn
  induction n with
  | zero => obtain rfl : k = 0 := by omega
            exact h
  | succ n ih =>
    by_cases e : k = n + 1
    · subst e; exact h
    · rw [scanF, ih (by omega)]
def allQ (l : List PcQ) (fr : Rat) : List PcQ := ⟨fr, (pcAt l 0).a, 0, 0⟩ :: l
def firstA (l : List PcQ) (fr te : Rat) : AV := match scanF (allQ l fr) fr te (allQ l fr).length with
  | some r => .tup [rowA r, .i 0]
  | none => spE 12
def sp2 (r : List Lf) : Prop := ∃ x y, r = [.i x, .i y]
theorem enQ_sp (q : Rat) : sp2 (enQ q) := by unfold enQ; split <;> exact ⟨_, _, rfl⟩
theorem firR_sp (p : PcQ) (a b : Rat) : sp2 (firR p a b) := by unfold firR; split <;> exact ⟨_, _, rfl⟩
theorem allQ_rows (l : List PcQ) (fr : Rat) : (allQ l fr).map PcQ.row = PcQ.row ⟨fr, (pcAt l 0).a, 0, 0⟩ :: l.map PcQ.row := rfl
theorem pcq_one (l : List PcQ) : (l.map PcQ.row).flatten.all Lf.one = true := by
  rw [List.all_eq_true]
  intro x hx
  obtain ⟨r, hr, hx⟩ := List.mem_flatten.1 hx
  obtain ⟨p, _, rfl⟩ := List.mem_map.1 hr
  simp only [PcQ.row, List.mem_cons, List.not_mem_nil, or_false] at hx
  rcases hx with rfl | rfl | rfl | rfl | rfl | rfl | rfl | rfl <;> rfl
theorem all_own (l : List PcQ) (fr : Rat) : OwnRows ((PcQ.row ⟨fr, (pcAt l 0).a, 0, 0⟩).map AV.lf ++ (l.map PcQ.row).flatten.map AV.lf) 0 (1 + (l.map PcQ.row).length) 8 ((allQ l fr).map PcQ.row) := by
  have := OwnRows.of ((allQ l fr).map PcQ.row).flatten (pcq_len (allQ l fr)) rfl
  rw [show ((allQ l fr).map PcQ.row).length = 1 + (l.map PcQ.row).length by rw [allQ_rows, List.length_cons]; omega, allQ_rows, List.flatten_cons, List.map_append] at this
  exact this
set_option maxHeartbeats 64000000 in
theorem qua_first (l : List PcQ) (fr te : Rat) (hl : okC l) (h0 : l ≠ []) (hn : l.length ≤ 200) (hf : Fits fr) (ht : Fits te) (hv : Fn0 Try.prog 10 [.sl (l.map PcQ.row)] (.b true)) (hle : fr ≤ te) (hr1 : rangP fr) (hr2 : rangP te) :
    Fn0 Try.prog 19 [.sl (l.map PcQ.row), rowA (frR fr), rowA (frR te)] (firstA l fr te) := by
  have v1 : Fn0 Try.prog 22 [rowA (frR fr)] (.b true) := by
    have := ratio_valid fr.num fr.den
    rwa [hf.valid] at this
  have v2 : Fn0 Try.prog 22 [rowA (frR te)] (.b true) := by
    have := ratio_valid te.num te.den
    rwa [ht.valid] at this
  have c := qua_compare fr te hf ht
  have r1 := qua_ranged fr hf
  have r2 := qua_ranged te ht
  have z := qua_zero
  have k0 : ¬ 0 < cmpQ fr te := fun h => Rat.not_lt.2 hle ((cmpQ_gt _ _).1 h)
  have n1 : ¬ ¬ rangP fr := fun h => h hr1
  have n2 : ¬ ¬ rangP te := fun h => h hr2
  have hll : (l.map PcQ.row).length = l.length := List.length_map _
  have hpos : 0 < l.length := List.length_pos_iff.2 h0
  obtain ⟨x0, hx0⟩ : ∃ x, l[0]? = some x := ⟨l[0]'hpos, List.getElem?_eq_getElem _⟩
  have hb0 : (l.map PcQ.row)[(0 : Int).toNat]? = some x0.row := by rw [show (0 : Int).toNat = 0 from rfl, List.getElem?_map, hx0]; rfl
  have hp0 : pcAt l 0 = x0 := pcAt_of hx0
  have hA : okC (allQ l fr) := by
    intro p hp
    rcases List.mem_cons.1 hp with rfl | hp
    · exact ⟨hf, by rw [hp0]; exact (hl x0 (List.mem_of_getElem? hx0)).a, Fits.zero, Fits.zero⟩
    · exact hl p hp
  have hlen : (allQ l fr).length = l.length + 1 := rfl
  refine Fn0.of Try.func19 Try.ntmps19 rfl rfl rfl ?_
  simp only [entryTm]
  repeat' (first
    | (apply S.move; exact rfl; exact rfl)
    | (apply S.assign; exact rfl; exact rfl)
    | (apply S.gC; exact rfl; exact rfl; exact rfl)
    | (apply S.gFF; exact rfl; exact rfl; assumption)
    | (apply S.fieldR; exact rfl; exact rfl)
    | (apply S.pCN; exact rfl; exact rfl; exact rfl)
    | (apply S.pFp; exact rfl; assumption; exact rfl; exact rfl)
    | (apply S.call; exact rfl; exact rfl; exact hv; exact rfl)
    | (apply S.call; exact rfl; exact rfl; exact v1; exact rfl)
    | (apply S.call; exact rfl; exact rfl; exact v2; exact rfl)
    | (apply S.call; exact rfl; exact rfl; exact c; exact rfl)
    | (apply S.call; exact rfl; exact rfl; exact r1; exact rfl)
    | (apply S.call; exact rfl; exact rfl; exact r2; exact rfl)
    | (apply S.call; exact rfl; exact rfl; exact z; exact rfl)
    | (apply S.indexR; exact rfl; exact rfl; exact rfl; exact hb0; omega; exact rfl)
    | (apply T.draw 10 anyOrder (by decide +kernel); simp only [List.take_succ_cons, List.take_zero, List.drop_succ_cons, List.drop_zero])
    | (apply S.buildSliceO; exact rfl; exact rfl; exact rfl; exact rfl; exact rfl; exact rfl)
    | (apply S.appendO; exact rfl; exact rfl; exact rfl; exact rfl; exact rfl; exact rfl; exact rfl; exact rfl; exact rfl; exact pcq_len l; exact pcq_one l; exact rfl; (rw [hll]; omega); (rw [hll]; omega))
    | (refine T.freeze 8 rfl rfl (hp0 ▸ all_own l fr) ?_)
    | (apply S.loadPA; exact rfl; exact rfl; exact rfl; exact rfl)
    | (apply S.loadRA; exact rfl; exact rfl; exact rfl; exact rfl)
    | (apply S.box; exact rfl; exact rfl; exact rfl; exact rfl; exact rfl; exact rfl)
    | (apply S.alloc; exact rfl; exact rfl; exact rfl; exact rfl; exact rfl)
    | (apply S.cmp; exact rfl; exact rfl; exact rfl; exact rfl)
    | (apply S.notP; exact rfl; exact rfl)
    | (apply S.not; exact rfl; exact rfl; exact rfl)
    | (apply S.lenR; exact rfl; exact rfl)
    | (apply S.build; exact rfl; exact rfl; exact rfl)
    | apply S.nil
    | apply T.regs
    | (apply T.cCN; exact rfl)
    | (apply T.cF; exact rfl; assumption)
    | apply T.seq
    | (apply T.skip; first | change T _ _ _ _ _ | change Done _ _ _ _ _ | change Next _ _ _ _ _ _ | skip)
    | apply T.block)
  refine T.loopS (fun i => i ≤ (allQ l fr).length ∧ scanF (allQ l fr) fr te i = none) (fun i => (allQ l fr).length - i) (fun i => [(58, .i (i : Int)), (57, .i ((((allQ l fr).map PcQ.row).length : Nat) : Int)), (56, .sl ((allQ l fr).map PcQ.row)), (8, .sl ((allQ l fr).map PcQ.row)), (4, .ptr 0 0), (5, .ptr 1 0), (6, .ptr 2 0)]) (fun i => [.live ((frR fr).map .lf), .live ((frR te).map .lf), .live [.i 0, .i 0], .dead]) 0 ⟨Nat.zero_le _, rfl⟩ (.cons rfl rfl (.cons rfl rfl (.cons rfl rfl (.cons rfl rfl (.cons rfl rfl (.cons rfl rfl (.cons rfl rfl .nil))))))) (.live rfl (.live rfl (.live rfl (.dead .nil)))) ?_
  rintro i ⟨hi, hsc⟩
  have hlr : ((allQ l fr).map PcQ.row).length = (allQ l fr).length := List.length_map _
  by_cases hlt : i < (allQ l fr).length
  · have h1 : (i : Int) < ((((allQ l fr).map PcQ.row).length : Nat) : Int) := by omega
    obtain ⟨x, hx⟩ := get_at hlt
    have hbx := row_at (R := PcQ.row) hx
    have okx := hA x (List.mem_of_getElem? hx)
    have px : pcAt (allQ l fr) i = x := pcAt_of hx
    have ca := qua_compare x.f fr okx.f hf
    have ka := cmpQ_gt x.f fr
    have hsn : scanF (allQ l fr) fr te (i + 1) = stepF (allQ l fr) fr te i := by rw [scanF, hsc]
    obtain ⟨a, ha⟩ : ∃ a, a = ptA (allQ l fr) fr i := ⟨_, rfl⟩
    obtain ⟨b, hb⟩ : ∃ b, b = ptB (allQ l fr) te i := ⟨_, rfl⟩
    have hfa : Fits a := by
      rw [ha]; unfold ptA; split
      · rw [px]; exact okx.f
      · exact hf
    have hage : fr ≤ a := by
      rw [ha]; unfold ptA; split
      · rename_i h; exact Rat.le_of_lt h.2
      · exact Rat.le_refl
    have cta := qua_compare a te hfa ht
    have kta := cmpQ_gt a te
    have oa := ex_of a hfa
    have cp := pt_of x.f x.a x.b x.c okx.f okx.a okx.b okx.c
    have cv := pt_value x.pt (Ex.ofQ a) okx.pt (bd_ofQ hfa)
    have cs : Fn0 Try.prog 45 [rowA (exR (x.pt.value (Ex.ofQ a)))] (.i (sgQ (x.pt.value (Ex.ofQ a)).val)) := ex_sign (bd_value okx.pt (bd_ofQ hfa))
    have kv : sgQ (x.pt.value (Ex.ofQ a)).val < 0 ↔ vR x a < 0 := by rw [sgQ_neg, pt_valV (bd_ofQ hfa).2.2, Ex.val_ofQ]
    generalize sgQ (x.pt.value (Ex.ofQ a)).val = sv at cs kv
    by_cases hi0 : (0 : Int) < (i : Int)
    · have hAx : ∀ h : fr < x.f, a = x.f := fun h => by rw [ha, ptA, if_pos ⟨by omega, by rw [px]; exact h⟩, px]
      have hAx' : ∀ h : ¬ fr < x.f, a = fr := fun h => by rw [ha, ptA, if_neg fun e => h (by rw [← px]; exact e.2)]
      by_cases hlast : i + 1 < (allQ l fr).length
      · have h2 : (i : Int) + 1 < ((((allQ l fr).map PcQ.row).length : Nat) : Int) := by omega
        obtain ⟨y, hy⟩ := get_at hlast
        have hby : ((allQ l fr).map PcQ.row)[((i : Int) + 1).toNat]? = some y.row := by rw [show ((i : Int) + 1).toNat = i + 1 by omega, List.getElem?_map, hy]; rfl
        have oky := hA y (List.mem_of_getElem? hy)
        have py : pcAt (allQ l fr) (i + 1) = y := pcAt_of hy
        have cb := qua_compare y.f te oky.f ht
        have kb := cmpQ_lt y.f te
        have cay := qua_compare a y.f hfa oky.f
        have kay := cmpQ_ge a y.f
        have hfb : Fits b := by
          rw [hb]; unfold ptB; split
          · rw [py]; exact oky.f
          · exact ht
        have hB : ∀ h : y.f < te, b = y.f := fun h => by rw [hb, ptB, if_pos ⟨hlast, by rw [py]; exact h⟩, py]
        have hB' : ∀ h : ¬ y.f < te, b = te := fun h => by rw [hb, ptB, if_neg fun e => h (by rw [← py]; exact e.2)]
        have hO : ptOut (allQ l fr) fr te i ↔ te < a ∨ y.f ≤ a := by rw [ptOut, ← ha, py]; exact ⟨fun h => h.imp_right And.right, fun h => h.imp_right fun e => ⟨hlast, e⟩⟩
        have hrg : ¬ ptOut (allQ l fr) fr te i → a ≤ te := fun h => Rat.not_lt.1 fun e => h (hO.2 (.inl e))
        have hab : ¬ ptOut (allQ l fr) fr te i → a ≤ b := fun h => by
          by_cases e : y.f < te
          · rw [hB e]; exact Rat.le_of_lt (Rat.not_le.1 fun e2 => h (hO.2 (.inr e2)))
          · rw [hB' e]; exact hrg h
        have hbt : b ≤ te := by
          by_cases e : y.f < te
          · rw [hB e]; exact Rat.le_of_lt e
          · rw [hB' e]; exact Rat.le_refl
        have ob := ex_of b hfb
        have cbl := pt_below x.pt (Ex.ofQ a) (Ex.ofQ b) okx.pt (bd_ofQ hfa) (bd_ofQ hfb)
        have kbl : x.pt.belowS (Ex.ofQ a) (Ex.ofQ b) ↔ belR x a b := by rw [belowS_iff (bd_ofQ hfa).2.2 (bd_ofQ hfb).2.2, Ex.val_ofQ, Ex.val_ofQ]
        have hst : ¬ ptOut (allQ l fr) fr te i → stepF (allQ l fr) fr te i = if vR x a < 0 then some (enQ a) else if belR x a b then some (firR x a b) else none := fun h => by rw [stepF, if_neg h, px, ← ha, ← hb]
        have hout : ptOut (allQ l fr) fr te i → stepF (allQ l fr) fr te i = none := fun h => by rw [stepF, if_pos h]
        have hm : ¬ ptOut (allQ l fr) fr te i → Mid a ∧ Mid b := fun h => ⟨rang_mid hfa ⟨Rat.le_trans hr1.1 hage, Rat.le_trans (hrg h) hr2.2⟩, rang_mid hfb ⟨Rat.le_trans hr1.1 (Rat.le_trans hage (hab h)), Rat.le_trans hbt hr2.2⟩⟩
        by_cases hO1 : ptOut (allQ l fr) fr te i
        · skip
          repeat' (first
            | (apply S.move; exact rfl; exact rfl)
            | (apply S.assign; exact rfl; exact rfl)
            | (apply S.gU; exact rfl; exact rfl; exact rfl)
            | (apply S.gTT; exact rfl; exact rfl; assumption)
            | (apply S.gFF; exact rfl; exact rfl; assumption)
            | (apply S.gFT; exact rfl; exact rfl; assumption; exact rfl)
            | (apply S.fieldP; exact rfl; exact rfl; exact rfl)
            | (apply S.fieldR; exact rfl; exact rfl)
            | (apply S.pTp; exact rfl; assumption; exact rfl; exact rfl)
            | (apply S.pFp; exact rfl; assumption; exact rfl; exact rfl)
            | (apply S.arith; exact rfl; exact rfl; exact rfl; exact rfl; omega)
            | (apply S.call; exact rfl; exact rfl; exact ca; exact rfl)
            | (apply S.call; exact rfl; exact rfl; exact cta; exact rfl)
            | (apply S.indexR; exact rfl; exact rfl; exact rfl; exact hbx; omega; exact rfl)
            | (apply S.indexR; exact rfl; exact rfl; exact rfl; exact hby; omega; exact rfl)
            | (apply S.call; exact rfl; exact rfl; exact cb; exact rfl)
            | (apply S.call; exact rfl; exact rfl; exact cay; exact rfl)
            | (apply S.loadRW; exact rfl; exact rfl; exact rfl; exact rfl)
            | (refine T.meetR 10 ([(9, .i (i : Int)), (10, .ptr 4 0), (11, .ptr 5 0), (12, .ptr 6 0), (58, .i (i : Int)), (57, .i ((((allQ l fr).map PcQ.row).length : Nat) : Int)), (56, .sl ((allQ l fr).map PcQ.row)), (8, .sl ((allQ l fr).map PcQ.row)), (4, .ptr 0 0), (5, .ptr 1 0), (6, .ptr 2 0)]) ([.live ((frR fr).map .lf), .live ((frR te).map .lf), .live [.i 0, .i 0], .dead, .live (x.row.map .lf), .live ((frR (a)).map .lf), .live ((frR (te)).map .lf)]) ?_ ?_)
            | (refine T.meetR 12 ([(9, .i (i : Int)), (10, .ptr 4 0), (11, .ptr 5 0), (12, .ptr 6 0), (58, .i (i : Int)), (57, .i ((((allQ l fr).map PcQ.row).length : Nat) : Int)), (56, .sl ((allQ l fr).map PcQ.row)), (8, .sl ((allQ l fr).map PcQ.row)), (4, .ptr 0 0), (5, .ptr 1 0), (6, .ptr 2 0)]) ([.live ((frR fr).map .lf), .live ((frR te).map .lf), .live [.i 0, .i 0], .dead, .live (x.row.map .lf), .live ((frR (a)).map .lf), .live ((frR (b)).map .lf)]) ?_ ?_)
            | (apply T.drawAll anyOrder (by decide +kernel))
            | (apply S.loadPA; exact rfl; exact rfl; exact rfl; exact rfl)
            | (apply S.loadRA; exact rfl; exact rfl; exact rfl; exact rfl)
            | (apply S.alloc; exact rfl; exact rfl; exact rfl; exact rfl; exact rfl)
            | (apply S.store; exact rfl; exact rfl; exact rfl; exact rfl; exact rfl; exact rfl; exact rfl)
            | (apply S.storeD; exact rfl; exact rfl; exact rfl; exact rfl; exact rfl; exact rfl; exact rfl; exact rfl)
            | (apply S.cmp; exact rfl; exact rfl; exact rfl; exact rfl)
            | (apply S.lenR; exact rfl; exact rfl)
            | (apply S.gsF; exact rfl; exact rfl; exact rfl; intro hc; rotate_left; intro hc; rotate_right)
            | apply S.nil
            | apply T.regs
            | apply T.reg
            | (apply T.cC; exact rfl)
            | (apply T.cT; exact rfl; assumption)
            | (apply T.cS; exact rfl; intro hc; rotate_left; intro hc; rotate_right)
            | apply T.seq
            | (apply T.skip; first | change T _ _ _ _ _ | change Done _ _ _ _ _ | change Next _ _ _ _ _ _ | skip)
            | (apply T.exit; first | change T _ _ _ _ _ | change Done _ _ _ _ _ | change Next _ _ _ _ _ _ | skip)
            | apply T.block)
          all_goals first
            | exact T.met (.cons rfl rfl (.cons rfl rfl (.cons rfl rfl (.cons rfl rfl (.cons rfl rfl (.cons rfl rfl (.cons rfl rfl (.cons rfl rfl (.cons rfl rfl (.cons rfl rfl (.cons rfl rfl .nil))))))))))) (by rw [hAx (ka.1 (by assumption))]; exact (.live rfl (.live rfl (.live rfl (.dead (.live rfl (.live rfl (.live rfl .nil))))))))
            | exact T.met (.cons rfl rfl (.cons rfl rfl (.cons rfl rfl (.cons rfl rfl (.cons rfl rfl (.cons rfl rfl (.cons rfl rfl (.cons rfl rfl (.cons rfl rfl (.cons rfl rfl (.cons rfl rfl .nil))))))))))) (by rw [hAx' (fun e => absurd (ka.2 e) (by assumption))]; exact (.live rfl (.live rfl (.live rfl (.dead (.live rfl (.live rfl (.live rfl .nil))))))))
            | exact T.met (.cons rfl rfl (.cons rfl rfl (.cons rfl rfl (.cons rfl rfl (.cons rfl rfl (.cons rfl rfl (.cons rfl rfl (.cons rfl rfl (.cons rfl rfl (.cons rfl rfl (.cons rfl rfl .nil))))))))))) (by rw [hB (kb.1 (by assumption))]; exact (.live rfl (.live rfl (.live rfl (.dead (.live rfl (.live rfl (.live rfl .nil))))))))
            | exact T.met (.cons rfl rfl (.cons rfl rfl (.cons rfl rfl (.cons rfl rfl (.cons rfl rfl (.cons rfl rfl (.cons rfl rfl (.cons rfl rfl (.cons rfl rfl (.cons rfl rfl (.cons rfl rfl .nil))))))))))) (by rw [hB' (fun e => absurd (kb.2 e) (by assumption))]; exact (.live rfl (.live rfl (.live rfl (.dead (.live rfl (.live rfl (.live rfl .nil))))))))
            | (change Next _ _ _ _ _ _; exact Next.go (i + 1) ⟨by omega, by rw [hsn, hout hO1]⟩ (by omega) (.cons rfl rfl (.cons rfl rfl (.cons rfl rfl (.cons rfl rfl (.cons rfl rfl (.cons rfl rfl (.cons rfl rfl .nil))))))) (.live rfl (.live rfl (.live rfl (.dead .nil)))))
            | (exfalso; rcases hO.1 hO1 with e | e; exact absurd (kta.2 e) (by assumption); exact absurd (kay.2 e) (by assumption))
        · have q1 : ¬ 0 < cmpQ a te := fun e => hO1 (hO.2 (.inl (kta.1 e)))
          have q2 : ¬ 0 ≤ cmpQ a y.f := fun e => hO1 (hO.2 (.inr (kay.1 e)))
          obtain ⟨ma, mb⟩ := hm hO1
          have cen := qua_enclosed a ma
          have cf := pt_first x a b okx ma mb (hab hO1)
          obtain ⟨u1, u2, hu⟩ := enQ_sp a
          obtain ⟨w1, w2, hw⟩ := firR_sp x a b
          have hs := hst hO1
          rw [hu] at cen hs
          rw [hw] at cf hs
          by_cases hv0 : vR x a < 0
          · have hv0' := kv.2 hv0
            repeat' (first
              | (apply S.move; exact rfl; exact rfl)
              | (apply S.assign; exact rfl; exact rfl)
              | (apply S.gTT; exact rfl; exact rfl; assumption)
              | (apply S.gFF; exact rfl; exact rfl; assumption)
              | (apply S.fieldP; exact rfl; exact rfl; exact rfl)
              | (apply S.fieldR; exact rfl; exact rfl)
              | (apply S.pTp; exact rfl; assumption; exact rfl; exact rfl)
              | (apply S.pFp; exact rfl; assumption; exact rfl; exact rfl)
              | (apply S.arith; exact rfl; exact rfl; exact rfl; exact rfl; omega)
              | (apply S.call; exact rfl; exact rfl; exact ca; exact rfl)
              | (apply S.call; exact rfl; exact rfl; exact cta; exact rfl)
              | (apply S.indexR; exact rfl; exact rfl; exact rfl; exact hbx; omega; exact rfl)
              | (apply S.indexR; exact rfl; exact rfl; exact rfl; exact hby; omega; exact rfl)
              | (apply S.call; exact rfl; exact rfl; exact cb; exact rfl)
              | (apply S.call; exact rfl; exact rfl; exact cay; exact rfl)
              | (apply S.loadRW; exact rfl; exact rfl; exact rfl; exact rfl)
              | (refine T.meetR 10 ([(9, .i (i : Int)), (10, .ptr 4 0), (11, .ptr 5 0), (12, .ptr 6 0), (58, .i (i : Int)), (57, .i ((((allQ l fr).map PcQ.row).length : Nat) : Int)), (56, .sl ((allQ l fr).map PcQ.row)), (8, .sl ((allQ l fr).map PcQ.row)), (4, .ptr 0 0), (5, .ptr 1 0), (6, .ptr 2 0)]) ([.live ((frR fr).map .lf), .live ((frR te).map .lf), .live [.i 0, .i 0], .dead, .live (x.row.map .lf), .live ((frR (a)).map .lf), .live ((frR (te)).map .lf)]) ?_ ?_)
              | (refine T.meetR 12 ([(9, .i (i : Int)), (10, .ptr 4 0), (11, .ptr 5 0), (12, .ptr 6 0), (58, .i (i : Int)), (57, .i ((((allQ l fr).map PcQ.row).length : Nat) : Int)), (56, .sl ((allQ l fr).map PcQ.row)), (8, .sl ((allQ l fr).map PcQ.row)), (4, .ptr 0 0), (5, .ptr 1 0), (6, .ptr 2 0)]) ([.live ((frR fr).map .lf), .live ((frR te).map .lf), .live [.i 0, .i 0], .dead, .live (x.row.map .lf), .live ((frR (a)).map .lf), .live ((frR (b)).map .lf)]) ?_ ?_)
              | (apply T.drawAll anyOrder (by decide +kernel))
              | (apply S.call; exact rfl; exact rfl; exact cp; exact rfl)
              | (apply S.call; exact rfl; exact rfl; exact oa; exact rfl)
              | (apply S.call; exact rfl; exact rfl; exact cv; exact rfl)
              | (apply S.call; exact rfl; exact rfl; exact cs; exact rfl)
              | (apply S.call; exact rfl; exact rfl; exact cen; exact rfl)
              | (apply S.loadPA; exact rfl; exact rfl; exact rfl; exact rfl)
              | (apply S.loadRA; exact rfl; exact rfl; exact rfl; exact rfl)
              | (apply S.alloc; exact rfl; exact rfl; exact rfl; exact rfl; exact rfl)
              | (apply S.store; exact rfl; exact rfl; exact rfl; exact rfl; exact rfl; exact rfl; exact rfl)
              | (apply S.storeD; exact rfl; exact rfl; exact rfl; exact rfl; exact rfl; exact rfl; exact rfl; exact rfl)
              | (apply S.cmp; exact rfl; exact rfl; exact rfl; exact rfl)
              | (apply S.lenR; exact rfl; exact rfl)
              | apply S.nil
              | apply T.regs
              | apply T.reg
              | (apply T.cT; exact rfl; assumption)
              | (apply T.cF; exact rfl; assumption)
              | (apply T.cS; exact rfl; intro hc; rotate_left; intro hc; rotate_right)
              | apply T.seq
              | (apply T.skip; first | change T _ _ _ _ _ | change Done _ _ _ _ _ | change Next _ _ _ _ _ _ | skip)
              | (apply T.ret; change Done _ _ _ _ _)
              | apply T.block)
            all_goals first
              | exact T.met (.cons rfl rfl (.cons rfl rfl (.cons rfl rfl (.cons rfl rfl (.cons rfl rfl (.cons rfl rfl (.cons rfl rfl (.cons rfl rfl (.cons rfl rfl (.cons rfl rfl (.cons rfl rfl .nil))))))))))) (by rw [hAx (ka.1 (by assumption))]; exact (.live rfl (.live rfl (.live rfl (.dead (.live rfl (.live rfl (.live rfl .nil))))))))
              | exact T.met (.cons rfl rfl (.cons rfl rfl (.cons rfl rfl (.cons rfl rfl (.cons rfl rfl (.cons rfl rfl (.cons rfl rfl (.cons rfl rfl (.cons rfl rfl (.cons rfl rfl (.cons rfl rfl .nil))))))))))) (by rw [hAx' (fun e => absurd (ka.2 e) (by assumption))]; exact (.live rfl (.live rfl (.live rfl (.dead (.live rfl (.live rfl (.live rfl .nil))))))))
              | exact T.met (.cons rfl rfl (.cons rfl rfl (.cons rfl rfl (.cons rfl rfl (.cons rfl rfl (.cons rfl rfl (.cons rfl rfl (.cons rfl rfl (.cons rfl rfl (.cons rfl rfl (.cons rfl rfl .nil))))))))))) (by rw [hB (kb.1 (by assumption))]; exact (.live rfl (.live rfl (.live rfl (.dead (.live rfl (.live rfl (.live rfl .nil))))))))
              | exact T.met (.cons rfl rfl (.cons rfl rfl (.cons rfl rfl (.cons rfl rfl (.cons rfl rfl (.cons rfl rfl (.cons rfl rfl (.cons rfl rfl (.cons rfl rfl (.cons rfl rfl (.cons rfl rfl .nil))))))))))) (by rw [hB' (fun e => absurd (kb.2 e) (by assumption))]; exact (.live rfl (.live rfl (.live rfl (.dead (.live rfl (.live rfl (.live rfl .nil))))))))
              | (rw [show firstA l fr te = .tup [rowA [.i u1, .i u2], .i 0] by unfold firstA; rw [scanF_up (k := i + 1) (by rw [hsn, hs, if_pos hv0]) _ (by omega)]]; exact ⟨.inr rfl, [rowA [.i u1, .i u2], .i 0], .cons (Res.row [.i u1, .i u2] rfl rfl rfl rfl rfl) (.cons (.tmp rfl) .nil), .tup (.cons (.agg (outL_refl [.i u1, .i u2])) (.cons (.one (.lf _)) .nil))⟩)
          · have hv0' : ¬ sv < 0 := fun e => hv0 (kv.1 e)
            by_cases hbl : belR x a b
            · have hbl' := kbl.2 hbl
              repeat' (first
                | (apply S.move; exact rfl; exact rfl)
                | (apply S.assign; exact rfl; exact rfl)
                | (apply S.gTT; exact rfl; exact rfl; assumption)
                | (apply S.gFF; exact rfl; exact rfl; assumption)
                | (apply S.fieldP; exact rfl; exact rfl; exact rfl)
                | (apply S.fieldR; exact rfl; exact rfl)
                | (apply S.pTp; exact rfl; assumption; exact rfl; exact rfl)
                | (apply S.pFp; exact rfl; assumption; exact rfl; exact rfl)
                | (apply S.arith; exact rfl; exact rfl; exact rfl; exact rfl; omega)
                | (apply S.call; exact rfl; exact rfl; exact ca; exact rfl)
                | (apply S.call; exact rfl; exact rfl; exact cta; exact rfl)
                | (apply S.indexR; exact rfl; exact rfl; exact rfl; exact hbx; omega; exact rfl)
                | (apply S.indexR; exact rfl; exact rfl; exact rfl; exact hby; omega; exact rfl)
                | (apply S.call; exact rfl; exact rfl; exact cb; exact rfl)
                | (apply S.call; exact rfl; exact rfl; exact cay; exact rfl)
                | (apply S.loadRW; exact rfl; exact rfl; exact rfl; exact rfl)
                | (refine T.meetR 10 ([(9, .i (i : Int)), (10, .ptr 4 0), (11, .ptr 5 0), (12, .ptr 6 0), (58, .i (i : Int)), (57, .i ((((allQ l fr).map PcQ.row).length : Nat) : Int)), (56, .sl ((allQ l fr).map PcQ.row)), (8, .sl ((allQ l fr).map PcQ.row)), (4, .ptr 0 0), (5, .ptr 1 0), (6, .ptr 2 0)]) ([.live ((frR fr).map .lf), .live ((frR te).map .lf), .live [.i 0, .i 0], .dead, .live (x.row.map .lf), .live ((frR (a)).map .lf), .live ((frR (te)).map .lf)]) ?_ ?_)
                | (refine T.meetR 12 ([(9, .i (i : Int)), (10, .ptr 4 0), (11, .ptr 5 0), (12, .ptr 6 0), (58, .i (i : Int)), (57, .i ((((allQ l fr).map PcQ.row).length : Nat) : Int)), (56, .sl ((allQ l fr).map PcQ.row)), (8, .sl ((allQ l fr).map PcQ.row)), (4, .ptr 0 0), (5, .ptr 1 0), (6, .ptr 2 0)]) ([.live ((frR fr).map .lf), .live ((frR te).map .lf), .live [.i 0, .i 0], .dead, .live (x.row.map .lf), .live ((frR (a)).map .lf), .live ((frR (b)).map .lf)]) ?_ ?_)
                | (apply T.drawAll anyOrder (by decide +kernel))
                | (apply S.call; exact rfl; exact rfl; exact cp; exact rfl)
                | (apply S.call; exact rfl; exact rfl; exact oa; exact rfl)
                | (apply S.call; exact rfl; exact rfl; exact ob; exact rfl)
                | (apply S.call; exact rfl; exact rfl; exact cv; exact rfl)
                | (apply S.call; exact rfl; exact rfl; exact cs; exact rfl)
                | (apply S.call; exact rfl; exact rfl; exact cbl; exact rfl)
                | (apply S.call; exact rfl; exact rfl; exact cf; exact rfl)
                | (apply S.loadPA; exact rfl; exact rfl; exact rfl; exact rfl)
                | (apply S.loadRA; exact rfl; exact rfl; exact rfl; exact rfl)
                | (apply S.alloc; exact rfl; exact rfl; exact rfl; exact rfl; exact rfl)
                | (apply S.store; exact rfl; exact rfl; exact rfl; exact rfl; exact rfl; exact rfl; exact rfl)
                | (apply S.storeD; exact rfl; exact rfl; exact rfl; exact rfl; exact rfl; exact rfl; exact rfl; exact rfl)
                | (apply S.cmp; exact rfl; exact rfl; exact rfl; exact rfl)
                | (apply S.lenR; exact rfl; exact rfl)
                | apply S.nil
                | apply T.regs
                | apply T.reg
                | (apply T.cT; exact rfl; assumption)
                | (apply T.cF; exact rfl; assumption)
                | (apply T.cS; exact rfl; intro hc; rotate_left; intro hc; rotate_right)
                | apply T.seq
                | (apply T.skip; first | change T _ _ _ _ _ | change Done _ _ _ _ _ | change Next _ _ _ _ _ _ | skip)
                | (apply T.ret; change Done _ _ _ _ _)
                | apply T.block)
              all_goals first
                | exact T.met (.cons rfl rfl (.cons rfl rfl (.cons rfl rfl (.cons rfl rfl (.cons rfl rfl (.cons rfl rfl (.cons rfl rfl (.cons rfl rfl (.cons rfl rfl (.cons rfl rfl (.cons rfl rfl .nil))))))))))) (by rw [hAx (ka.1 (by assumption))]; exact (.live rfl (.live rfl (.live rfl (.dead (.live rfl (.live rfl (.live rfl .nil))))))))
                | exact T.met (.cons rfl rfl (.cons rfl rfl (.cons rfl rfl (.cons rfl rfl (.cons rfl rfl (.cons rfl rfl (.cons rfl rfl (.cons rfl rfl (.cons rfl rfl (.cons rfl rfl (.cons rfl rfl .nil))))))))))) (by rw [hAx' (fun e => absurd (ka.2 e) (by assumption))]; exact (.live rfl (.live rfl (.live rfl (.dead (.live rfl (.live rfl (.live rfl .nil))))))))
                | exact T.met (.cons rfl rfl (.cons rfl rfl (.cons rfl rfl (.cons rfl rfl (.cons rfl rfl (.cons rfl rfl (.cons rfl rfl (.cons rfl rfl (.cons rfl rfl (.cons rfl rfl (.cons rfl rfl .nil))))))))))) (by rw [hB (kb.1 (by assumption))]; exact (.live rfl (.live rfl (.live rfl (.dead (.live rfl (.live rfl (.live rfl .nil))))))))
                | exact T.met (.cons rfl rfl (.cons rfl rfl (.cons rfl rfl (.cons rfl rfl (.cons rfl rfl (.cons rfl rfl (.cons rfl rfl (.cons rfl rfl (.cons rfl rfl (.cons rfl rfl (.cons rfl rfl .nil))))))))))) (by rw [hB' (fun e => absurd (kb.2 e) (by assumption))]; exact (.live rfl (.live rfl (.live rfl (.dead (.live rfl (.live rfl (.live rfl .nil))))))))
                | (rw [show firstA l fr te = .tup [rowA [.i w1, .i w2], .i 0] by unfold firstA; rw [scanF_up (k := i + 1) (by rw [hsn, hs, if_neg hv0, if_pos hbl]) _ (by omega)]]; exact ⟨.inr rfl, [rowA [.i w1, .i w2], .i 0], .cons (Res.row [.i w1, .i w2] rfl rfl rfl rfl rfl) (.cons (.tmp rfl) .nil), .tup (.cons (.agg (outL_refl [.i w1, .i w2])) (.cons (.one (.lf _)) .nil))⟩)
            · have hbl' : ¬ x.pt.belowS (Ex.ofQ a) (Ex.ofQ b) := fun e => hbl (kbl.1 e)
              repeat' (first
                | (apply S.move; exact rfl; exact rfl)
                | (apply S.assign; exact rfl; exact rfl)
                | (apply S.gTT; exact rfl; exact rfl; assumption)
                | (apply S.gFF; exact rfl; exact rfl; assumption)
                | (apply S.fieldP; exact rfl; exact rfl; exact rfl)
                | (apply S.fieldR; exact rfl; exact rfl)
                | (apply S.pTp; exact rfl; assumption; exact rfl; exact rfl)
                | (apply S.pFp; exact rfl; assumption; exact rfl; exact rfl)
                | (apply S.arith; exact rfl; exact rfl; exact rfl; exact rfl; omega)
                | (apply S.call; exact rfl; exact rfl; exact ca; exact rfl)
                | (apply S.call; exact rfl; exact rfl; exact cta; exact rfl)
                | (apply S.indexR; exact rfl; exact rfl; exact rfl; exact hbx; omega; exact rfl)
                | (apply S.indexR; exact rfl; exact rfl; exact rfl; exact hby; omega; exact rfl)
                | (apply S.call; exact rfl; exact rfl; exact cb; exact rfl)
                | (apply S.call; exact rfl; exact rfl; exact cay; exact rfl)
                | (apply S.loadRW; exact rfl; exact rfl; exact rfl; exact rfl)
                | (refine T.meetR 10 ([(9, .i (i : Int)), (10, .ptr 4 0), (11, .ptr 5 0), (12, .ptr 6 0), (58, .i (i : Int)), (57, .i ((((allQ l fr).map PcQ.row).length : Nat) : Int)), (56, .sl ((allQ l fr).map PcQ.row)), (8, .sl ((allQ l fr).map PcQ.row)), (4, .ptr 0 0), (5, .ptr 1 0), (6, .ptr 2 0)]) ([.live ((frR fr).map .lf), .live ((frR te).map .lf), .live [.i 0, .i 0], .dead, .live (x.row.map .lf), .live ((frR (a)).map .lf), .live ((frR (te)).map .lf)]) ?_ ?_)
                | (refine T.meetR 12 ([(9, .i (i : Int)), (10, .ptr 4 0), (11, .ptr 5 0), (12, .ptr 6 0), (58, .i (i : Int)), (57, .i ((((allQ l fr).map PcQ.row).length : Nat) : Int)), (56, .sl ((allQ l fr).map PcQ.row)), (8, .sl ((allQ l fr).map PcQ.row)), (4, .ptr 0 0), (5, .ptr 1 0), (6, .ptr 2 0)]) ([.live ((frR fr).map .lf), .live ((frR te).map .lf), .live [.i 0, .i 0], .dead, .live (x.row.map .lf), .live ((frR (a)).map .lf), .live ((frR (b)).map .lf)]) ?_ ?_)
                | (apply T.drawAll anyOrder (by decide +kernel))
                | (apply S.call; exact rfl; exact rfl; exact cp; exact rfl)
                | (apply S.call; exact rfl; exact rfl; exact oa; exact rfl)
                | (apply S.call; exact rfl; exact rfl; exact ob; exact rfl)
                | (apply S.call; exact rfl; exact rfl; exact cv; exact rfl)
                | (apply S.call; exact rfl; exact rfl; exact cs; exact rfl)
                | (apply S.call; exact rfl; exact rfl; exact cbl; exact rfl)
                | (apply S.loadPA; exact rfl; exact rfl; exact rfl; exact rfl)
                | (apply S.loadRA; exact rfl; exact rfl; exact rfl; exact rfl)
                | (apply S.alloc; exact rfl; exact rfl; exact rfl; exact rfl; exact rfl)
                | (apply S.store; exact rfl; exact rfl; exact rfl; exact rfl; exact rfl; exact rfl; exact rfl)
                | (apply S.storeD; exact rfl; exact rfl; exact rfl; exact rfl; exact rfl; exact rfl; exact rfl; exact rfl)
                | (apply S.cmp; exact rfl; exact rfl; exact rfl; exact rfl)
                | (apply S.lenR; exact rfl; exact rfl)
                | apply S.nil
                | apply T.regs
                | apply T.reg
                | (apply T.cT; exact rfl; assumption)
                | (apply T.cF; exact rfl; assumption)
                | (apply T.cS; exact rfl; intro hc; rotate_left; intro hc; rotate_right)
                | apply T.seq
                | (apply T.skip; first | change T _ _ _ _ _ | change Done _ _ _ _ _ | change Next _ _ _ _ _ _ | skip)
                | apply T.block)
              all_goals first
                | exact T.met (.cons rfl rfl (.cons rfl rfl (.cons rfl rfl (.cons rfl rfl (.cons rfl rfl (.cons rfl rfl (.cons rfl rfl (.cons rfl rfl (.cons rfl rfl (.cons rfl rfl (.cons rfl rfl .nil))))))))))) (by rw [hAx (ka.1 (by assumption))]; exact (.live rfl (.live rfl (.live rfl (.dead (.live rfl (.live rfl (.live rfl .nil))))))))
                | exact T.met (.cons rfl rfl (.cons rfl rfl (.cons rfl rfl (.cons rfl rfl (.cons rfl rfl (.cons rfl rfl (.cons rfl rfl (.cons rfl rfl (.cons rfl rfl (.cons rfl rfl (.cons rfl rfl .nil))))))))))) (by rw [hAx' (fun e => absurd (ka.2 e) (by assumption))]; exact (.live rfl (.live rfl (.live rfl (.dead (.live rfl (.live rfl (.live rfl .nil))))))))
                | exact T.met (.cons rfl rfl (.cons rfl rfl (.cons rfl rfl (.cons rfl rfl (.cons rfl rfl (.cons rfl rfl (.cons rfl rfl (.cons rfl rfl (.cons rfl rfl (.cons rfl rfl (.cons rfl rfl .nil))))))))))) (by rw [hB (kb.1 (by assumption))]; exact (.live rfl (.live rfl (.live rfl (.dead (.live rfl (.live rfl (.live rfl .nil))))))))
                | exact T.met (.cons rfl rfl (.cons rfl rfl (.cons rfl rfl (.cons rfl rfl (.cons rfl rfl (.cons rfl rfl (.cons rfl rfl (.cons rfl rfl (.cons rfl rfl (.cons rfl rfl (.cons rfl rfl .nil))))))))))) (by rw [hB' (fun e => absurd (kb.2 e) (by assumption))]; exact (.live rfl (.live rfl (.live rfl (.dead (.live rfl (.live rfl (.live rfl .nil))))))))
                | (change Next _ _ _ _ _ _; exact Next.go (i + 1) ⟨by omega, by rw [hsn, hs, if_neg hv0, if_neg hbl]⟩ (by omega) (.cons rfl rfl (.cons rfl rfl (.cons rfl rfl (.cons rfl rfl (.cons rfl rfl (.cons rfl rfl (.cons rfl rfl .nil))))))) (.live rfl (.live rfl (.live rfl (.dead .nil)))))
      · have h2 : ¬ (i : Int) + 1 < ((((allQ l fr).map PcQ.row).length : Nat) : Int) := by omega
        have hB' : b = te := by rw [hb, ptB, if_neg fun e => hlast e.1]
        have hfb : Fits b := by rw [hB']; exact ht
        have hO : ptOut (allQ l fr) fr te i ↔ te < a := by rw [ptOut, ← ha]; exact ⟨fun h => h.elim id fun e => absurd e.1 hlast, .inl⟩
        have hrg : ¬ ptOut (allQ l fr) fr te i → a ≤ te := fun h => Rat.not_lt.1 fun e => h (hO.2 e)
        have hab : ¬ ptOut (allQ l fr) fr te i → a ≤ b := fun h => by rw [hB']; exact hrg h
        have hbt : b ≤ te := by rw [hB']; exact Rat.le_refl
        have ob := ex_of b hfb
        have cbl := pt_below x.pt (Ex.ofQ a) (Ex.ofQ b) okx.pt (bd_ofQ hfa) (bd_ofQ hfb)
        have kbl : x.pt.belowS (Ex.ofQ a) (Ex.ofQ b) ↔ belR x a b := by rw [belowS_iff (bd_ofQ hfa).2.2 (bd_ofQ hfb).2.2, Ex.val_ofQ, Ex.val_ofQ]
        have hst : ¬ ptOut (allQ l fr) fr te i → stepF (allQ l fr) fr te i = if vR x a < 0 then some (enQ a) else if belR x a b then some (firR x a b) else none := fun h => by rw [stepF, if_neg h, px, ← ha, ← hb]
        have hout : ptOut (allQ l fr) fr te i → stepF (allQ l fr) fr te i = none := fun h => by rw [stepF, if_pos h]
        have hm : ¬ ptOut (allQ l fr) fr te i → Mid a ∧ Mid b := fun h => ⟨rang_mid hfa ⟨Rat.le_trans hr1.1 hage, Rat.le_trans (hrg h) hr2.2⟩, rang_mid hfb ⟨Rat.le_trans hr1.1 (Rat.le_trans hage (hab h)), Rat.le_trans hbt hr2.2⟩⟩
        by_cases hO1 : ptOut (allQ l fr) fr te i
        · skip
          repeat' (first
            | (apply S.move; exact rfl; exact rfl)
            | (apply S.assign; exact rfl; exact rfl)
            | (apply S.gU; exact rfl; exact rfl; exact rfl)
            | (apply S.gTT; exact rfl; exact rfl; assumption)
            | (apply S.gTF; exact rfl; exact rfl; assumption; exact rfl)
            | (apply S.gFF; exact rfl; exact rfl; assumption)
            | (apply S.gFT; exact rfl; exact rfl; assumption; exact rfl)
            | (apply S.fieldP; exact rfl; exact rfl; exact rfl)
            | (apply S.pTp; exact rfl; assumption; exact rfl; exact rfl)
            | (apply S.pFp; exact rfl; assumption; exact rfl; exact rfl)
            | (apply S.arith; exact rfl; exact rfl; exact rfl; exact rfl; omega)
            | (apply S.call; exact rfl; exact rfl; exact ca; exact rfl)
            | (apply S.call; exact rfl; exact rfl; exact cta; exact rfl)
            | (apply S.indexR; exact rfl; exact rfl; exact rfl; exact hbx; omega; exact rfl)
            | (apply S.loadRW; exact rfl; exact rfl; exact rfl; exact rfl)
            | (refine T.meetR 10 ([(9, .i (i : Int)), (10, .ptr 4 0), (11, .ptr 5 0), (12, .ptr 6 0), (58, .i (i : Int)), (57, .i ((((allQ l fr).map PcQ.row).length : Nat) : Int)), (56, .sl ((allQ l fr).map PcQ.row)), (8, .sl ((allQ l fr).map PcQ.row)), (4, .ptr 0 0), (5, .ptr 1 0), (6, .ptr 2 0)]) ([.live ((frR fr).map .lf), .live ((frR te).map .lf), .live [.i 0, .i 0], .dead, .live (x.row.map .lf), .live ((frR (a)).map .lf), .live ((frR (te)).map .lf)]) ?_ ?_)
            | (refine T.meetR 12 ([(9, .i (i : Int)), (10, .ptr 4 0), (11, .ptr 5 0), (12, .ptr 6 0), (58, .i (i : Int)), (57, .i ((((allQ l fr).map PcQ.row).length : Nat) : Int)), (56, .sl ((allQ l fr).map PcQ.row)), (8, .sl ((allQ l fr).map PcQ.row)), (4, .ptr 0 0), (5, .ptr 1 0), (6, .ptr 2 0)]) ([.live ((frR fr).map .lf), .live ((frR te).map .lf), .live [.i 0, .i 0], .dead, .live (x.row.map .lf), .live ((frR (a)).map .lf), .live ((frR (b)).map .lf)]) ?_ ?_)
            | (apply T.drawAll anyOrder (by decide +kernel))
            | (apply S.loadPA; exact rfl; exact rfl; exact rfl; exact rfl)
            | (apply S.alloc; exact rfl; exact rfl; exact rfl; exact rfl; exact rfl)
            | (apply S.store; exact rfl; exact rfl; exact rfl; exact rfl; exact rfl; exact rfl; exact rfl)
            | (apply S.storeD; exact rfl; exact rfl; exact rfl; exact rfl; exact rfl; exact rfl; exact rfl; exact rfl)
            | (apply S.cmp; exact rfl; exact rfl; exact rfl; exact rfl)
            | (apply S.lenR; exact rfl; exact rfl)
            | (apply S.gsF; exact rfl; exact rfl; exact rfl; intro hc; rotate_left; intro hc; rotate_right)
            | apply S.nil
            | apply T.regs
            | apply T.reg
            | (apply T.cC; exact rfl)
            | (apply T.cCN; exact rfl)
            | (apply T.cT; exact rfl; assumption)
            | (apply T.cS; exact rfl; intro hc; rotate_left; intro hc; rotate_right)
            | apply T.seq
            | (apply T.skip; first | change T _ _ _ _ _ | change Done _ _ _ _ _ | change Next _ _ _ _ _ _ | skip)
            | (apply T.exit; first | change T _ _ _ _ _ | change Done _ _ _ _ _ | change Next _ _ _ _ _ _ | skip)
            | apply T.block)
          all_goals first
            | exact T.met (.cons rfl rfl (.cons rfl rfl (.cons rfl rfl (.cons rfl rfl (.cons rfl rfl (.cons rfl rfl (.cons rfl rfl (.cons rfl rfl (.cons rfl rfl (.cons rfl rfl (.cons rfl rfl .nil))))))))))) (by rw [hAx (ka.1 (by assumption))]; exact (.live rfl (.live rfl (.live rfl (.dead (.live rfl (.live rfl (.live rfl .nil))))))))
            | exact T.met (.cons rfl rfl (.cons rfl rfl (.cons rfl rfl (.cons rfl rfl (.cons rfl rfl (.cons rfl rfl (.cons rfl rfl (.cons rfl rfl (.cons rfl rfl (.cons rfl rfl (.cons rfl rfl .nil))))))))))) (by rw [hAx' (fun e => absurd (ka.2 e) (by assumption))]; exact (.live rfl (.live rfl (.live rfl (.dead (.live rfl (.live rfl (.live rfl .nil))))))))
            | exact T.met (.cons rfl rfl (.cons rfl rfl (.cons rfl rfl (.cons rfl rfl (.cons rfl rfl (.cons rfl rfl (.cons rfl rfl (.cons rfl rfl (.cons rfl rfl (.cons rfl rfl (.cons rfl rfl .nil))))))))))) (by rw [hB']; exact (.live rfl (.live rfl (.live rfl (.dead (.live rfl (.live rfl (.live rfl .nil))))))))
            | (change Next _ _ _ _ _ _; exact Next.go (i + 1) ⟨by omega, by rw [hsn, hout hO1]⟩ (by omega) (.cons rfl rfl (.cons rfl rfl (.cons rfl rfl (.cons rfl rfl (.cons rfl rfl (.cons rfl rfl (.cons rfl rfl .nil))))))) (.live rfl (.live rfl (.live rfl (.dead .nil)))))
            | exact absurd (kta.2 (hO.1 hO1)) (by assumption)
        · have q1 : ¬ 0 < cmpQ a te := fun e => hO1 (hO.2 (kta.1 e))
          obtain ⟨ma, mb⟩ := hm hO1
          have cen := qua_enclosed a ma
          have cf := pt_first x a b okx ma mb (hab hO1)
          obtain ⟨u1, u2, hu⟩ := enQ_sp a
          obtain ⟨w1, w2, hw⟩ := firR_sp x a b
          have hs := hst hO1
          rw [hu] at cen hs
          rw [hw] at cf hs
          by_cases hv0 : vR x a < 0
          · have hv0' := kv.2 hv0
            repeat' (first
              | (apply S.move; exact rfl; exact rfl)
              | (apply S.assign; exact rfl; exact rfl)
              | (apply S.gTT; exact rfl; exact rfl; assumption)
              | (apply S.gTF; exact rfl; exact rfl; assumption; exact rfl)
              | (apply S.gFF; exact rfl; exact rfl; assumption)
              | (apply S.fieldP; exact rfl; exact rfl; exact rfl)
              | (apply S.pTp; exact rfl; assumption; exact rfl; exact rfl)
              | (apply S.pFp; exact rfl; assumption; exact rfl; exact rfl)
              | (apply S.arith; exact rfl; exact rfl; exact rfl; exact rfl; omega)
              | (apply S.call; exact rfl; exact rfl; exact ca; exact rfl)
              | (apply S.call; exact rfl; exact rfl; exact cta; exact rfl)
              | (apply S.indexR; exact rfl; exact rfl; exact rfl; exact hbx; omega; exact rfl)
              | (apply S.loadRW; exact rfl; exact rfl; exact rfl; exact rfl)
              | (refine T.meetR 10 ([(9, .i (i : Int)), (10, .ptr 4 0), (11, .ptr 5 0), (12, .ptr 6 0), (58, .i (i : Int)), (57, .i ((((allQ l fr).map PcQ.row).length : Nat) : Int)), (56, .sl ((allQ l fr).map PcQ.row)), (8, .sl ((allQ l fr).map PcQ.row)), (4, .ptr 0 0), (5, .ptr 1 0), (6, .ptr 2 0)]) ([.live ((frR fr).map .lf), .live ((frR te).map .lf), .live [.i 0, .i 0], .dead, .live (x.row.map .lf), .live ((frR (a)).map .lf), .live ((frR (te)).map .lf)]) ?_ ?_)
              | (refine T.meetR 12 ([(9, .i (i : Int)), (10, .ptr 4 0), (11, .ptr 5 0), (12, .ptr 6 0), (58, .i (i : Int)), (57, .i ((((allQ l fr).map PcQ.row).length : Nat) : Int)), (56, .sl ((allQ l fr).map PcQ.row)), (8, .sl ((allQ l fr).map PcQ.row)), (4, .ptr 0 0), (5, .ptr 1 0), (6, .ptr 2 0)]) ([.live ((frR fr).map .lf), .live ((frR te).map .lf), .live [.i 0, .i 0], .dead, .live (x.row.map .lf), .live ((frR (a)).map .lf), .live ((frR (b)).map .lf)]) ?_ ?_)
              | (apply T.drawAll anyOrder (by decide +kernel))
              | (apply S.call; exact rfl; exact rfl; exact cp; exact rfl)
              | (apply S.call; exact rfl; exact rfl; exact oa; exact rfl)
              | (apply S.call; exact rfl; exact rfl; exact cv; exact rfl)
              | (apply S.call; exact rfl; exact rfl; exact cs; exact rfl)
              | (apply S.call; exact rfl; exact rfl; exact cen; exact rfl)
              | (apply S.loadPA; exact rfl; exact rfl; exact rfl; exact rfl)
              | (apply S.alloc; exact rfl; exact rfl; exact rfl; exact rfl; exact rfl)
              | (apply S.store; exact rfl; exact rfl; exact rfl; exact rfl; exact rfl; exact rfl; exact rfl)
              | (apply S.storeD; exact rfl; exact rfl; exact rfl; exact rfl; exact rfl; exact rfl; exact rfl; exact rfl)
              | (apply S.cmp; exact rfl; exact rfl; exact rfl; exact rfl)
              | (apply S.lenR; exact rfl; exact rfl)
              | apply S.nil
              | apply T.regs
              | apply T.reg
              | (apply T.cCN; exact rfl)
              | (apply T.cT; exact rfl; assumption)
              | (apply T.cS; exact rfl; intro hc; rotate_left; intro hc; rotate_right)
              | apply T.seq
              | (apply T.skip; first | change T _ _ _ _ _ | change Done _ _ _ _ _ | change Next _ _ _ _ _ _ | skip)
              | (apply T.ret; change Done _ _ _ _ _)
              | apply T.block)
            all_goals first
              | exact T.met (.cons rfl rfl (.cons rfl rfl (.cons rfl rfl (.cons rfl rfl (.cons rfl rfl (.cons rfl rfl (.cons rfl rfl (.cons rfl rfl (.cons rfl rfl (.cons rfl rfl (.cons rfl rfl .nil))))))))))) (by rw [hAx (ka.1 (by assumption))]; exact (.live rfl (.live rfl (.live rfl (.dead (.live rfl (.live rfl (.live rfl .nil))))))))
              | exact T.met (.cons rfl rfl (.cons rfl rfl (.cons rfl rfl (.cons rfl rfl (.cons rfl rfl (.cons rfl rfl (.cons rfl rfl (.cons rfl rfl (.cons rfl rfl (.cons rfl rfl (.cons rfl rfl .nil))))))))))) (by rw [hAx' (fun e => absurd (ka.2 e) (by assumption))]; exact (.live rfl (.live rfl (.live rfl (.dead (.live rfl (.live rfl (.live rfl .nil))))))))
              | exact T.met (.cons rfl rfl (.cons rfl rfl (.cons rfl rfl (.cons rfl rfl (.cons rfl rfl (.cons rfl rfl (.cons rfl rfl (.cons rfl rfl (.cons rfl rfl (.cons rfl rfl (.cons rfl rfl .nil))))))))))) (by rw [hB']; exact (.live rfl (.live rfl (.live rfl (.dead (.live rfl (.live rfl (.live rfl .nil))))))))
              | (rw [show firstA l fr te = .tup [rowA [.i u1, .i u2], .i 0] by unfold firstA; rw [scanF_up (k := i + 1) (by rw [hsn, hs, if_pos hv0]) _ (by omega)]]; exact ⟨.inr rfl, [rowA [.i u1, .i u2], .i 0], .cons (Res.row [.i u1, .i u2] rfl rfl rfl rfl rfl) (.cons (.tmp rfl) .nil), .tup (.cons (.agg (outL_refl [.i u1, .i u2])) (.cons (.one (.lf _)) .nil))⟩)
          · have hv0' : ¬ sv < 0 := fun e => hv0 (kv.1 e)
            by_cases hbl : belR x a b
            · have hbl' := kbl.2 hbl
              repeat' (first
                | (apply S.move; exact rfl; exact rfl)
                | (apply S.assign; exact rfl; exact rfl)
                | (apply S.gTT; exact rfl; exact rfl; assumption)
                | (apply S.gTF; exact rfl; exact rfl; assumption; exact rfl)
                | (apply S.gFF; exact rfl; exact rfl; assumption)
                | (apply S.fieldP; exact rfl; exact rfl; exact rfl)
                | (apply S.pTp; exact rfl; assumption; exact rfl; exact rfl)
                | (apply S.pFp; exact rfl; assumption; exact rfl; exact rfl)
                | (apply S.arith; exact rfl; exact rfl; exact rfl; exact rfl; omega)
                | (apply S.call; exact rfl; exact rfl; exact ca; exact rfl)
                | (apply S.call; exact rfl; exact rfl; exact cta; exact rfl)
                | (apply S.indexR; exact rfl; exact rfl; exact rfl; exact hbx; omega; exact rfl)
                | (apply S.loadRW; exact rfl; exact rfl; exact rfl; exact rfl)
                | (refine T.meetR 10 ([(9, .i (i : Int)), (10, .ptr 4 0), (11, .ptr 5 0), (12, .ptr 6 0), (58, .i (i : Int)), (57, .i ((((allQ l fr).map PcQ.row).length : Nat) : Int)), (56, .sl ((allQ l fr).map PcQ.row)), (8, .sl ((allQ l fr).map PcQ.row)), (4, .ptr 0 0), (5, .ptr 1 0), (6, .ptr 2 0)]) ([.live ((frR fr).map .lf), .live ((frR te).map .lf), .live [.i 0, .i 0], .dead, .live (x.row.map .lf), .live ((frR (a)).map .lf), .live ((frR (te)).map .lf)]) ?_ ?_)
                | (refine T.meetR 12 ([(9, .i (i : Int)), (10, .ptr 4 0), (11, .ptr 5 0), (12, .ptr 6 0), (58, .i (i : Int)), (57, .i ((((allQ l fr).map PcQ.row).length : Nat) : Int)), (56, .sl ((allQ l fr).map PcQ.row)), (8, .sl ((allQ l fr).map PcQ.row)), (4, .ptr 0 0), (5, .ptr 1 0), (6, .ptr 2 0)]) ([.live ((frR fr).map .lf), .live ((frR te).map .lf), .live [.i 0, .i 0], .dead, .live (x.row.map .lf), .live ((frR (a)).map .lf), .live ((frR (b)).map .lf)]) ?_ ?_)
                | (apply T.drawAll anyOrder (by decide +kernel))
                | (apply S.call; exact rfl; exact rfl; exact cp; exact rfl)
                | (apply S.call; exact rfl; exact rfl; exact oa; exact rfl)
                | (apply S.call; exact rfl; exact rfl; exact ob; exact rfl)
                | (apply S.call; exact rfl; exact rfl; exact cv; exact rfl)
                | (apply S.call; exact rfl; exact rfl; exact cs; exact rfl)
                | (apply S.call; exact rfl; exact rfl; exact cbl; exact rfl)
                | (apply S.call; exact rfl; exact rfl; exact cf; exact rfl)
                | (apply S.loadPA; exact rfl; exact rfl; exact rfl; exact rfl)
                | (apply S.alloc; exact rfl; exact rfl; exact rfl; exact rfl; exact rfl)
                | (apply S.store; exact rfl; exact rfl; exact rfl; exact rfl; exact rfl; exact rfl; exact rfl)
                | (apply S.storeD; exact rfl; exact rfl; exact rfl; exact rfl; exact rfl; exact rfl; exact rfl; exact rfl)
                | (apply S.cmp; exact rfl; exact rfl; exact rfl; exact rfl)
                | (apply S.lenR; exact rfl; exact rfl)
                | apply S.nil
                | apply T.regs
                | apply T.reg
                | (apply T.cCN; exact rfl)
                | (apply T.cT; exact rfl; assumption)
                | (apply T.cF; exact rfl; assumption)
                | (apply T.cS; exact rfl; intro hc; rotate_left; intro hc; rotate_right)
                | apply T.seq
                | (apply T.skip; first | change T _ _ _ _ _ | change Done _ _ _ _ _ | change Next _ _ _ _ _ _ | skip)
                | (apply T.ret; change Done _ _ _ _ _)
                | apply T.block)
              all_goals first
                | exact T.met (.cons rfl rfl (.cons rfl rfl (.cons rfl rfl (.cons rfl rfl (.cons rfl rfl (.cons rfl rfl (.cons rfl rfl (.cons rfl rfl (.cons rfl rfl (.cons rfl rfl (.cons rfl rfl .nil))))))))))) (by rw [hAx (ka.1 (by assumption))]; exact (.live rfl (.live rfl (.live rfl (.dead (.live rfl (.live rfl (.live rfl .nil))))))))
                | exact T.met (.cons rfl rfl (.cons rfl rfl (.cons rfl rfl (.cons rfl rfl (.cons rfl rfl (.cons rfl rfl (.cons rfl rfl (.cons rfl rfl (.cons rfl rfl (.cons rfl rfl (.cons rfl rfl .nil))))))))))) (by rw [hAx' (fun e => absurd (ka.2 e) (by assumption))]; exact (.live rfl (.live rfl (.live rfl (.dead (.live rfl (.live rfl (.live rfl .nil))))))))
                | exact T.met (.cons rfl rfl (.cons rfl rfl (.cons rfl rfl (.cons rfl rfl (.cons rfl rfl (.cons rfl rfl (.cons rfl rfl (.cons rfl rfl (.cons rfl rfl (.cons rfl rfl (.cons rfl rfl .nil))))))))))) (by rw [hB']; exact (.live rfl (.live rfl (.live rfl (.dead (.live rfl (.live rfl (.live rfl .nil))))))))
                | (rw [show firstA l fr te = .tup [rowA [.i w1, .i w2], .i 0] by unfold firstA; rw [scanF_up (k := i + 1) (by rw [hsn, hs, if_neg hv0, if_pos hbl]) _ (by omega)]]; exact ⟨.inr rfl, [rowA [.i w1, .i w2], .i 0], .cons (Res.row [.i w1, .i w2] rfl rfl rfl rfl rfl) (.cons (.tmp rfl) .nil), .tup (.cons (.agg (outL_refl [.i w1, .i w2])) (.cons (.one (.lf _)) .nil))⟩)
            · have hbl' : ¬ x.pt.belowS (Ex.ofQ a) (Ex.ofQ b) := fun e => hbl (kbl.1 e)
              repeat' (first
                | (apply S.move; exact rfl; exact rfl)
                | (apply S.assign; exact rfl; exact rfl)
                | (apply S.gTT; exact rfl; exact rfl; assumption)
                | (apply S.gTF; exact rfl; exact rfl; assumption; exact rfl)
                | (apply S.gFF; exact rfl; exact rfl; assumption)
                | (apply S.fieldP; exact rfl; exact rfl; exact rfl)
                | (apply S.pTp; exact rfl; assumption; exact rfl; exact rfl)
                | (apply S.pFp; exact rfl; assumption; exact rfl; exact rfl)
                | (apply S.arith; exact rfl; exact rfl; exact rfl; exact rfl; omega)
                | (apply S.call; exact rfl; exact rfl; exact ca; exact rfl)
                | (apply S.call; exact rfl; exact rfl; exact cta; exact rfl)
                | (apply S.indexR; exact rfl; exact rfl; exact rfl; exact hbx; omega; exact rfl)
                | (apply S.loadRW; exact rfl; exact rfl; exact rfl; exact rfl)
                | (refine T.meetR 10 ([(9, .i (i : Int)), (10, .ptr 4 0), (11, .ptr 5 0), (12, .ptr 6 0), (58, .i (i : Int)), (57, .i ((((allQ l fr).map PcQ.row).length : Nat) : Int)), (56, .sl ((allQ l fr).map PcQ.row)), (8, .sl ((allQ l fr).map PcQ.row)), (4, .ptr 0 0), (5, .ptr 1 0), (6, .ptr 2 0)]) ([.live ((frR fr).map .lf), .live ((frR te).map .lf), .live [.i 0, .i 0], .dead, .live (x.row.map .lf), .live ((frR (a)).map .lf), .live ((frR (te)).map .lf)]) ?_ ?_)
                | (refine T.meetR 12 ([(9, .i (i : Int)), (10, .ptr 4 0), (11, .ptr 5 0), (12, .ptr 6 0), (58, .i (i : Int)), (57, .i ((((allQ l fr).map PcQ.row).length : Nat) : Int)), (56, .sl ((allQ l fr).map PcQ.row)), (8, .sl ((allQ l fr).map PcQ.row)), (4, .ptr 0 0), (5, .ptr 1 0), (6, .ptr 2 0)]) ([.live ((frR fr).map .lf), .live ((frR te).map .lf), .live [.i 0, .i 0], .dead, .live (x.row.map .lf), .live ((frR (a)).map .lf), .live ((frR (b)).map .lf)]) ?_ ?_)
                | (apply T.drawAll anyOrder (by decide +kernel))
                | (apply S.call; exact rfl; exact rfl; exact cp; exact rfl)
                | (apply S.call; exact rfl; exact rfl; exact oa; exact rfl)
                | (apply S.call; exact rfl; exact rfl; exact ob; exact rfl)
                | (apply S.call; exact rfl; exact rfl; exact cv; exact rfl)
                | (apply S.call; exact rfl; exact rfl; exact cs; exact rfl)
                | (apply S.call; exact rfl; exact rfl; exact cbl; exact rfl)
                | (apply S.loadPA; exact rfl; exact rfl; exact rfl; exact rfl)
                | (apply S.alloc; exact rfl; exact rfl; exact rfl; exact rfl; exact rfl)
                | (apply S.store; exact rfl; exact rfl; exact rfl; exact rfl; exact rfl; exact rfl; exact rfl)
                | (apply S.storeD; exact rfl; exact rfl; exact rfl; exact rfl; exact rfl; exact rfl; exact rfl; exact rfl)
                | (apply S.cmp; exact rfl; exact rfl; exact rfl; exact rfl)
                | (apply S.lenR; exact rfl; exact rfl)
                | apply S.nil
                | apply T.regs
                | apply T.reg
                | (apply T.cCN; exact rfl)
                | (apply T.cT; exact rfl; assumption)
                | (apply T.cF; exact rfl; assumption)
                | (apply T.cS; exact rfl; intro hc; rotate_left; intro hc; rotate_right)
                | apply T.seq
                | (apply T.skip; first | change T _ _ _ _ _ | change Done _ _ _ _ _ | change Next _ _ _ _ _ _ | skip)
                | apply T.block)
              all_goals first
                | exact T.met (.cons rfl rfl (.cons rfl rfl (.cons rfl rfl (.cons rfl rfl (.cons rfl rfl (.cons rfl rfl (.cons rfl rfl (.cons rfl rfl (.cons rfl rfl (.cons rfl rfl (.cons rfl rfl .nil))))))))))) (by rw [hAx (ka.1 (by assumption))]; exact (.live rfl (.live rfl (.live rfl (.dead (.live rfl (.live rfl (.live rfl .nil))))))))
                | exact T.met (.cons rfl rfl (.cons rfl rfl (.cons rfl rfl (.cons rfl rfl (.cons rfl rfl (.cons rfl rfl (.cons rfl rfl (.cons rfl rfl (.cons rfl rfl (.cons rfl rfl (.cons rfl rfl .nil))))))))))) (by rw [hAx' (fun e => absurd (ka.2 e) (by assumption))]; exact (.live rfl (.live rfl (.live rfl (.dead (.live rfl (.live rfl (.live rfl .nil))))))))
                | exact T.met (.cons rfl rfl (.cons rfl rfl (.cons rfl rfl (.cons rfl rfl (.cons rfl rfl (.cons rfl rfl (.cons rfl rfl (.cons rfl rfl (.cons rfl rfl (.cons rfl rfl (.cons rfl rfl .nil))))))))))) (by rw [hB']; exact (.live rfl (.live rfl (.live rfl (.dead (.live rfl (.live rfl (.live rfl .nil))))))))
                | (change Next _ _ _ _ _ _; exact Next.go (i + 1) ⟨by omega, by rw [hsn, hs, if_neg hv0, if_neg hbl]⟩ (by omega) (.cons rfl rfl (.cons rfl rfl (.cons rfl rfl (.cons rfl rfl (.cons rfl rfl (.cons rfl rfl (.cons rfl rfl .nil))))))) (.live rfl (.live rfl (.live rfl (.dead .nil)))))
    · have hAx' : a = fr := by rw [ha, ptA, if_neg fun e => hi0 (by have := e.1; omega)]
      by_cases hlast : i + 1 < (allQ l fr).length
      · have h2 : (i : Int) + 1 < ((((allQ l fr).map PcQ.row).length : Nat) : Int) := by omega
        obtain ⟨y, hy⟩ := get_at hlast
        have hby : ((allQ l fr).map PcQ.row)[((i : Int) + 1).toNat]? = some y.row := by rw [show ((i : Int) + 1).toNat = i + 1 by omega, List.getElem?_map, hy]; rfl
        have oky := hA y (List.mem_of_getElem? hy)
        have py : pcAt (allQ l fr) (i + 1) = y := pcAt_of hy
        have cb := qua_compare y.f te oky.f ht
        have kb := cmpQ_lt y.f te
        have cay := qua_compare a y.f hfa oky.f
        have kay := cmpQ_ge a y.f
        have hfb : Fits b := by
          rw [hb]; unfold ptB; split
          · rw [py]; exact oky.f
          · exact ht
        have hB : ∀ h : y.f < te, b = y.f := fun h => by rw [hb, ptB, if_pos ⟨hlast, by rw [py]; exact h⟩, py]
        have hB' : ∀ h : ¬ y.f < te, b = te := fun h => by rw [hb, ptB, if_neg fun e => h (by rw [← py]; exact e.2)]
        have hO : ptOut (allQ l fr) fr te i ↔ te < a ∨ y.f ≤ a := by rw [ptOut, ← ha, py]; exact ⟨fun h => h.imp_right And.right, fun h => h.imp_right fun e => ⟨hlast, e⟩⟩
        have hrg : ¬ ptOut (allQ l fr) fr te i → a ≤ te := fun h => Rat.not_lt.1 fun e => h (hO.2 (.inl e))
        have hab : ¬ ptOut (allQ l fr) fr te i → a ≤ b := fun h => by
          by_cases e : y.f < te
          · rw [hB e]; exact Rat.le_of_lt (Rat.not_le.1 fun e2 => h (hO.2 (.inr e2)))
          · rw [hB' e]; exact hrg h
        have hbt : b ≤ te := by
          by_cases e : y.f < te
          · rw [hB e]; exact Rat.le_of_lt e
          · rw [hB' e]; exact Rat.le_refl
        have ob := ex_of b hfb
        have cbl := pt_below x.pt (Ex.ofQ a) (Ex.ofQ b) okx.pt (bd_ofQ hfa) (bd_ofQ hfb)
        have kbl : x.pt.belowS (Ex.ofQ a) (Ex.ofQ b) ↔ belR x a b := by rw [belowS_iff (bd_ofQ hfa).2.2 (bd_ofQ hfb).2.2, Ex.val_ofQ, Ex.val_ofQ]
        have hst : ¬ ptOut (allQ l fr) fr te i → stepF (allQ l fr) fr te i = if vR x a < 0 then some (enQ a) else if belR x a b then some (firR x a b) else none := fun h => by rw [stepF, if_neg h, px, ← ha, ← hb]
        have hout : ptOut (allQ l fr) fr te i → stepF (allQ l fr) fr te i = none := fun h => by rw [stepF, if_pos h]
        have hm : ¬ ptOut (allQ l fr) fr te i → Mid a ∧ Mid b := fun h => ⟨rang_mid hfa ⟨Rat.le_trans hr1.1 hage, Rat.le_trans (hrg h) hr2.2⟩, rang_mid hfb ⟨Rat.le_trans hr1.1 (Rat.le_trans hage (hab h)), Rat.le_trans hbt hr2.2⟩⟩
        by_cases hO1 : ptOut (allQ l fr) fr te i
        · skip
          repeat' (first
            | (apply S.move; exact rfl; exact rfl)
            | (apply S.assign; exact rfl; exact rfl)
            | (apply S.gU; exact rfl; exact rfl; exact rfl)
            | (apply S.gTT; exact rfl; exact rfl; assumption)
            | (apply S.gTF; exact rfl; exact rfl; assumption; exact rfl)
            | (apply S.gFF; exact rfl; exact rfl; assumption)
            | (apply S.gFT; exact rfl; exact rfl; assumption; exact rfl)
            | (apply S.fieldR; exact rfl; exact rfl)
            | (apply S.pTp; exact rfl; assumption; exact rfl; exact rfl)
            | (apply S.pFp; exact rfl; assumption; exact rfl; exact rfl)
            | (apply S.arith; exact rfl; exact rfl; exact rfl; exact rfl; omega)
            | (apply S.call; exact rfl; exact rfl; exact cta; exact rfl)
            | (apply S.indexR; exact rfl; exact rfl; exact rfl; exact hbx; omega; exact rfl)
            | (apply S.indexR; exact rfl; exact rfl; exact rfl; exact hby; omega; exact rfl)
            | (apply S.call; exact rfl; exact rfl; exact cb; exact rfl)
            | (apply S.call; exact rfl; exact rfl; exact cay; exact rfl)
            | (apply S.loadRW; exact rfl; exact rfl; exact rfl; exact rfl)
            | (refine T.meetR 10 ([(9, .i (i : Int)), (10, .ptr 4 0), (11, .ptr 5 0), (12, .ptr 6 0), (58, .i (i : Int)), (57, .i ((((allQ l fr).map PcQ.row).length : Nat) : Int)), (56, .sl ((allQ l fr).map PcQ.row)), (8, .sl ((allQ l fr).map PcQ.row)), (4, .ptr 0 0), (5, .ptr 1 0), (6, .ptr 2 0)]) ([.live ((frR fr).map .lf), .live ((frR te).map .lf), .live [.i 0, .i 0], .dead, .live (x.row.map .lf), .live ((frR (a)).map .lf), .live ((frR (te)).map .lf)]) ?_ ?_)
            | (refine T.meetR 12 ([(9, .i (i : Int)), (10, .ptr 4 0), (11, .ptr 5 0), (12, .ptr 6 0), (58, .i (i : Int)), (57, .i ((((allQ l fr).map PcQ.row).length : Nat) : Int)), (56, .sl ((allQ l fr).map PcQ.row)), (8, .sl ((allQ l fr).map PcQ.row)), (4, .ptr 0 0), (5, .ptr 1 0), (6, .ptr 2 0)]) ([.live ((frR fr).map .lf), .live ((frR te).map .lf), .live [.i 0, .i 0], .dead, .live (x.row.map .lf), .live ((frR (a)).map .lf), .live ((frR (b)).map .lf)]) ?_ ?_)
            | (apply T.drawAll anyOrder (by decide +kernel))
            | (apply S.loadPA; exact rfl; exact rfl; exact rfl; exact rfl)
            | (apply S.loadRA; exact rfl; exact rfl; exact rfl; exact rfl)
            | (apply S.alloc; exact rfl; exact rfl; exact rfl; exact rfl; exact rfl)
            | (apply S.store; exact rfl; exact rfl; exact rfl; exact rfl; exact rfl; exact rfl; exact rfl)
            | (apply S.storeD; exact rfl; exact rfl; exact rfl; exact rfl; exact rfl; exact rfl; exact rfl; exact rfl)
            | (apply S.cmp; exact rfl; exact rfl; exact rfl; exact rfl)
            | (apply S.lenR; exact rfl; exact rfl)
            | (apply S.gsF; exact rfl; exact rfl; exact rfl; intro hc; rotate_left; intro hc; rotate_right)
            | apply S.nil
            | apply T.regs
            | apply T.reg
            | (apply T.cC; exact rfl)
            | (apply T.cCN; exact rfl)
            | (apply T.cT; exact rfl; assumption)
            | (apply T.cS; exact rfl; intro hc; rotate_left; intro hc; rotate_right)
            | apply T.seq
            | (apply T.skip; first | change T _ _ _ _ _ | change Done _ _ _ _ _ | change Next _ _ _ _ _ _ | skip)
            | (apply T.exit; first | change T _ _ _ _ _ | change Done _ _ _ _ _ | change Next _ _ _ _ _ _ | skip)
            | apply T.block)
          all_goals first
            | exact T.met (.cons rfl rfl (.cons rfl rfl (.cons rfl rfl (.cons rfl rfl (.cons rfl rfl (.cons rfl rfl (.cons rfl rfl (.cons rfl rfl (.cons rfl rfl (.cons rfl rfl (.cons rfl rfl .nil))))))))))) (by rw [hAx']; exact (.live rfl (.live rfl (.live rfl (.dead (.live rfl (.live rfl (.live rfl .nil))))))))
            | exact T.met (.cons rfl rfl (.cons rfl rfl (.cons rfl rfl (.cons rfl rfl (.cons rfl rfl (.cons rfl rfl (.cons rfl rfl (.cons rfl rfl (.cons rfl rfl (.cons rfl rfl (.cons rfl rfl .nil))))))))))) (by rw [hB (kb.1 (by assumption))]; exact (.live rfl (.live rfl (.live rfl (.dead (.live rfl (.live rfl (.live rfl .nil))))))))
            | exact T.met (.cons rfl rfl (.cons rfl rfl (.cons rfl rfl (.cons rfl rfl (.cons rfl rfl (.cons rfl rfl (.cons rfl rfl (.cons rfl rfl (.cons rfl rfl (.cons rfl rfl (.cons rfl rfl .nil))))))))))) (by rw [hB' (fun e => absurd (kb.2 e) (by assumption))]; exact (.live rfl (.live rfl (.live rfl (.dead (.live rfl (.live rfl (.live rfl .nil))))))))
            | (change Next _ _ _ _ _ _; exact Next.go (i + 1) ⟨by omega, by rw [hsn, hout hO1]⟩ (by omega) (.cons rfl rfl (.cons rfl rfl (.cons rfl rfl (.cons rfl rfl (.cons rfl rfl (.cons rfl rfl (.cons rfl rfl .nil))))))) (.live rfl (.live rfl (.live rfl (.dead .nil)))))
            | (exfalso; rcases hO.1 hO1 with e | e; exact absurd (kta.2 e) (by assumption); exact absurd (kay.2 e) (by assumption))
        · have q1 : ¬ 0 < cmpQ a te := fun e => hO1 (hO.2 (.inl (kta.1 e)))
          have q2 : ¬ 0 ≤ cmpQ a y.f := fun e => hO1 (hO.2 (.inr (kay.1 e)))
          obtain ⟨ma, mb⟩ := hm hO1
          have cen := qua_enclosed a ma
          have cf := pt_first x a b okx ma mb (hab hO1)
          obtain ⟨u1, u2, hu⟩ := enQ_sp a
          obtain ⟨w1, w2, hw⟩ := firR_sp x a b
          have hs := hst hO1
          rw [hu] at cen hs
          rw [hw] at cf hs
          by_cases hv0 : vR x a < 0
          · have hv0' := kv.2 hv0
            repeat' (first
              | (apply S.move; exact rfl; exact rfl)
              | (apply S.assign; exact rfl; exact rfl)
              | (apply S.gTT; exact rfl; exact rfl; assumption)
              | (apply S.gTF; exact rfl; exact rfl; assumption; exact rfl)
              | (apply S.gFF; exact rfl; exact rfl; assumption)
              | (apply S.fieldR; exact rfl; exact rfl)
              | (apply S.pTp; exact rfl; assumption; exact rfl; exact rfl)
              | (apply S.pFp; exact rfl; assumption; exact rfl; exact rfl)
              | (apply S.arith; exact rfl; exact rfl; exact rfl; exact rfl; omega)
              | (apply S.call; exact rfl; exact rfl; exact cta; exact rfl)
              | (apply S.indexR; exact rfl; exact rfl; exact rfl; exact hbx; omega; exact rfl)
              | (apply S.indexR; exact rfl; exact rfl; exact rfl; exact hby; omega; exact rfl)
              | (apply S.call; exact rfl; exact rfl; exact cb; exact rfl)
              | (apply S.call; exact rfl; exact rfl; exact cay; exact rfl)
              | (apply S.loadRW; exact rfl; exact rfl; exact rfl; exact rfl)
              | (refine T.meetR 10 ([(9, .i (i : Int)), (10, .ptr 4 0), (11, .ptr 5 0), (12, .ptr 6 0), (58, .i (i : Int)), (57, .i ((((allQ l fr).map PcQ.row).length : Nat) : Int)), (56, .sl ((allQ l fr).map PcQ.row)), (8, .sl ((allQ l fr).map PcQ.row)), (4, .ptr 0 0), (5, .ptr 1 0), (6, .ptr 2 0)]) ([.live ((frR fr).map .lf), .live ((frR te).map .lf), .live [.i 0, .i 0], .dead, .live (x.row.map .lf), .live ((frR (a)).map .lf), .live ((frR (te)).map .lf)]) ?_ ?_)
              | (refine T.meetR 12 ([(9, .i (i : Int)), (10, .ptr 4 0), (11, .ptr 5 0), (12, .ptr 6 0), (58, .i (i : Int)), (57, .i ((((allQ l fr).map PcQ.row).length : Nat) : Int)), (56, .sl ((allQ l fr).map PcQ.row)), (8, .sl ((allQ l fr).map PcQ.row)), (4, .ptr 0 0), (5, .ptr 1 0), (6, .ptr 2 0)]) ([.live ((frR fr).map .lf), .live ((frR te).map .lf), .live [.i 0, .i 0], .dead, .live (x.row.map .lf), .live ((frR (a)).map .lf), .live ((frR (b)).map .lf)]) ?_ ?_)
              | (apply T.drawAll anyOrder (by decide +kernel))
              | (apply S.call; exact rfl; exact rfl; exact cp; exact rfl)
              | (apply S.call; exact rfl; exact rfl; exact oa; exact rfl)
              | (apply S.call; exact rfl; exact rfl; exact cv; exact rfl)
              | (apply S.call; exact rfl; exact rfl; exact cs; exact rfl)
              | (apply S.call; exact rfl; exact rfl; exact cen; exact rfl)
              | (apply S.loadPA; exact rfl; exact rfl; exact rfl; exact rfl)
              | (apply S.loadRA; exact rfl; exact rfl; exact rfl; exact rfl)
              | (apply S.alloc; exact rfl; exact rfl; exact rfl; exact rfl; exact rfl)
              | (apply S.store; exact rfl; exact rfl; exact rfl; exact rfl; exact rfl; exact rfl; exact rfl)
              | (apply S.storeD; exact rfl; exact rfl; exact rfl; exact rfl; exact rfl; exact rfl; exact rfl; exact rfl)
              | (apply S.cmp; exact rfl; exact rfl; exact rfl; exact rfl)
              | (apply S.lenR; exact rfl; exact rfl)
              | apply S.nil
              | apply T.regs
              | apply T.reg
              | (apply T.cCN; exact rfl)
              | (apply T.cT; exact rfl; assumption)
              | (apply T.cF; exact rfl; assumption)
              | (apply T.cS; exact rfl; intro hc; rotate_left; intro hc; rotate_right)
              | apply T.seq
              | (apply T.skip; first | change T _ _ _ _ _ | change Done _ _ _ _ _ | change Next _ _ _ _ _ _ | skip)
              | (apply T.ret; change Done _ _ _ _ _)
              | apply T.block)
            all_goals first
              | exact T.met (.cons rfl rfl (.cons rfl rfl (.cons rfl rfl (.cons rfl rfl (.cons rfl rfl (.cons rfl rfl (.cons rfl rfl (.cons rfl rfl (.cons rfl rfl (.cons rfl rfl (.cons rfl rfl .nil))))))))))) (by rw [hAx']; exact (.live rfl (.live rfl (.live rfl (.dead (.live rfl (.live rfl (.live rfl .nil))))))))
              | exact T.met (.cons rfl rfl (.cons rfl rfl (.cons rfl rfl (.cons rfl rfl (.cons rfl rfl (.cons rfl rfl (.cons rfl rfl (.cons rfl rfl (.cons rfl rfl (.cons rfl rfl (.cons rfl rfl .nil))))))))))) (by rw [hB (kb.1 (by assumption))]; exact (.live rfl (.live rfl (.live rfl (.dead (.live rfl (.live rfl (.live rfl .nil))))))))
              | exact T.met (.cons rfl rfl (.cons rfl rfl (.cons rfl rfl (.cons rfl rfl (.cons rfl rfl (.cons rfl rfl (.cons rfl rfl (.cons rfl rfl (.cons rfl rfl (.cons rfl rfl (.cons rfl rfl .nil))))))))))) (by rw [hB' (fun e => absurd (kb.2 e) (by assumption))]; exact (.live rfl (.live rfl (.live rfl (.dead (.live rfl (.live rfl (.live rfl .nil))))))))
              | (rw [show firstA l fr te = .tup [rowA [.i u1, .i u2], .i 0] by unfold firstA; rw [scanF_up (k := i + 1) (by rw [hsn, hs, if_pos hv0]) _ (by omega)]]; exact ⟨.inr rfl, [rowA [.i u1, .i u2], .i 0], .cons (Res.row [.i u1, .i u2] rfl rfl rfl rfl rfl) (.cons (.tmp rfl) .nil), .tup (.cons (.agg (outL_refl [.i u1, .i u2])) (.cons (.one (.lf _)) .nil))⟩)
          · have hv0' : ¬ sv < 0 := fun e => hv0 (kv.1 e)
            by_cases hbl : belR x a b
            · have hbl' := kbl.2 hbl
              repeat' (first
                | (apply S.move; exact rfl; exact rfl)
                | (apply S.assign; exact rfl; exact rfl)
                | (apply S.gTT; exact rfl; exact rfl; assumption)
                | (apply S.gTF; exact rfl; exact rfl; assumption; exact rfl)
                | (apply S.gFF; exact rfl; exact rfl; assumption)
                | (apply S.fieldR; exact rfl; exact rfl)
                | (apply S.pTp; exact rfl; assumption; exact rfl; exact rfl)
                | (apply S.pFp; exact rfl; assumption; exact rfl; exact rfl)
                | (apply S.arith; exact rfl; exact rfl; exact rfl; exact rfl; omega)
                | (apply S.call; exact rfl; exact rfl; exact cta; exact rfl)
                | (apply S.indexR; exact rfl; exact rfl; exact rfl; exact hbx; omega; exact rfl)
                | (apply S.indexR; exact rfl; exact rfl; exact rfl; exact hby; omega; exact rfl)
                | (apply S.call; exact rfl; exact rfl; exact cb; exact rfl)
                | (apply S.call; exact rfl; exact rfl; exact cay; exact rfl)
                | (apply S.loadRW; exact rfl; exact rfl; exact rfl; exact rfl)
                | (refine T.meetR 10 ([(9, .i (i : Int)), (10, .ptr 4 0), (11, .ptr 5 0), (12, .ptr 6 0), (58, .i (i : Int)), (57, .i ((((allQ l fr).map PcQ.row).length : Nat) : Int)), (56, .sl ((allQ l fr).map PcQ.row)), (8, .sl ((allQ l fr).map PcQ.row)), (4, .ptr 0 0), (5, .ptr 1 0), (6, .ptr 2 0)]) ([.live ((frR fr).map .lf), .live ((frR te).map .lf), .live [.i 0, .i 0], .dead, .live (x.row.map .lf), .live ((frR (a)).map .lf), .live ((frR (te)).map .lf)]) ?_ ?_)
                | (refine T.meetR 12 ([(9, .i (i : Int)), (10, .ptr 4 0), (11, .ptr 5 0), (12, .ptr 6 0), (58, .i (i : Int)), (57, .i ((((allQ l fr).map PcQ.row).length : Nat) : Int)), (56, .sl ((allQ l fr).map PcQ.row)), (8, .sl ((allQ l fr).map PcQ.row)), (4, .ptr 0 0), (5, .ptr 1 0), (6, .ptr 2 0)]) ([.live ((frR fr).map .lf), .live ((frR te).map .lf), .live [.i 0, .i 0], .dead, .live (x.row.map .lf), .live ((frR (a)).map .lf), .live ((frR (b)).map .lf)]) ?_ ?_)
                | (apply T.drawAll anyOrder (by decide +kernel))
                | (apply S.call; exact rfl; exact rfl; exact cp; exact rfl)
                | (apply S.call; exact rfl; exact rfl; exact oa; exact rfl)
                | (apply S.call; exact rfl; exact rfl; exact ob; exact rfl)
                | (apply S.call; exact rfl; exact rfl; exact cv; exact rfl)
                | (apply S.call; exact rfl; exact rfl; exact cs; exact rfl)
                | (apply S.call; exact rfl; exact rfl; exact cbl; exact rfl)
                | (apply S.call; exact rfl; exact rfl; exact cf; exact rfl)
                | (apply S.loadPA; exact rfl; exact rfl; exact rfl; exact rfl)
                | (apply S.loadRA; exact rfl; exact rfl; exact rfl; exact rfl)
                | (apply S.alloc; exact rfl; exact rfl; exact rfl; exact rfl; exact rfl)
                | (apply S.store; exact rfl; exact rfl; exact rfl; exact rfl; exact rfl; exact rfl; exact rfl)
                | (apply S.storeD; exact rfl; exact rfl; exact rfl; exact rfl; exact rfl; exact rfl; exact rfl; exact rfl)
                | (apply S.cmp; exact rfl; exact rfl; exact rfl; exact rfl)
                | (apply S.lenR; exact rfl; exact rfl)
                | apply S.nil
                | apply T.regs
                | apply T.reg
                | (apply T.cCN; exact rfl)
                | (apply T.cT; exact rfl; assumption)
                | (apply T.cF; exact rfl; assumption)
                | (apply T.cS; exact rfl; intro hc; rotate_left; intro hc; rotate_right)
                | apply T.seq
                | (apply T.skip; first | change T _ _ _ _ _ | change Done _ _ _ _ _ | change Next _ _ _ _ _ _ | skip)
                | (apply T.ret; change Done _ _ _ _ _)
                | apply T.block)
              all_goals first
                | exact T.met (.cons rfl rfl (.cons rfl rfl (.cons rfl rfl (.cons rfl rfl (.cons rfl rfl (.cons rfl rfl (.cons rfl rfl (.cons rfl rfl (.cons rfl rfl (.cons rfl rfl (.cons rfl rfl .nil))))))))))) (by rw [hAx']; exact (.live rfl (.live rfl (.live rfl (.dead (.live rfl (.live rfl (.live rfl .nil))))))))
                | exact T.met (.cons rfl rfl (.cons rfl rfl (.cons rfl rfl (.cons rfl rfl (.cons rfl rfl (.cons rfl rfl (.cons rfl rfl (.cons rfl rfl (.cons rfl rfl (.cons rfl rfl (.cons rfl rfl .nil))))))))))) (by rw [hB (kb.1 (by assumption))]; exact (.live rfl (.live rfl (.live rfl (.dead (.live rfl (.live rfl (.live rfl .nil))))))))
                | exact T.met (.cons rfl rfl (.cons rfl rfl (.cons rfl rfl (.cons rfl rfl (.cons rfl rfl (.cons rfl rfl (.cons rfl rfl (.cons rfl rfl (.cons rfl rfl (.cons rfl rfl (.cons rfl rfl .nil))))))))))) (by rw [hB' (fun e => absurd (kb.2 e) (by assumption))]; exact (.live rfl (.live rfl (.live rfl (.dead (.live rfl (.live rfl (.live rfl .nil))))))))
                | (rw [show firstA l fr te = .tup [rowA [.i w1, .i w2], .i 0] by unfold firstA; rw [scanF_up (k := i + 1) (by rw [hsn, hs, if_neg hv0, if_pos hbl]) _ (by omega)]]; exact ⟨.inr rfl, [rowA [.i w1, .i w2], .i 0], .cons (Res.row [.i w1, .i w2] rfl rfl rfl rfl rfl) (.cons (.tmp rfl) .nil), .tup (.cons (.agg (outL_refl [.i w1, .i w2])) (.cons (.one (.lf _)) .nil))⟩)
            · have hbl' : ¬ x.pt.belowS (Ex.ofQ a) (Ex.ofQ b) := fun e => hbl (kbl.1 e)
              repeat' (first
                | (apply S.move; exact rfl; exact rfl)
                | (apply S.assign; exact rfl; exact rfl)
                | (apply S.gTT; exact rfl; exact rfl; assumption)
                | (apply S.gTF; exact rfl; exact rfl; assumption; exact rfl)
                | (apply S.gFF; exact rfl; exact rfl; assumption)
                | (apply S.fieldR; exact rfl; exact rfl)
                | (apply S.pTp; exact rfl; assumption; exact rfl; exact rfl)
                | (apply S.pFp; exact rfl; assumption; exact rfl; exact rfl)
                | (apply S.arith; exact rfl; exact rfl; exact rfl; exact rfl; omega)
                | (apply S.call; exact rfl; exact rfl; exact cta; exact rfl)
                | (apply S.indexR; exact rfl; exact rfl; exact rfl; exact hbx; omega; exact rfl)
                | (apply S.indexR; exact rfl; exact rfl; exact rfl; exact hby; omega; exact rfl)
                | (apply S.call; exact rfl; exact rfl; exact cb; exact rfl)
                | (apply S.call; exact rfl; exact rfl; exact cay; exact rfl)
                | (apply S.loadRW; exact rfl; exact rfl; exact rfl; exact rfl)
                | (refine T.meetR 10 ([(9, .i (i : Int)), (10, .ptr 4 0), (11, .ptr 5 0), (12, .ptr 6 0), (58, .i (i : Int)), (57, .i ((((allQ l fr).map PcQ.row).length : Nat) : Int)), (56, .sl ((allQ l fr).map PcQ.row)), (8, .sl ((allQ l fr).map PcQ.row)), (4, .ptr 0 0), (5, .ptr 1 0), (6, .ptr 2 0)]) ([.live ((frR fr).map .lf), .live ((frR te).map .lf), .live [.i 0, .i 0], .dead, .live (x.row.map .lf), .live ((frR (a)).map .lf), .live ((frR (te)).map .lf)]) ?_ ?_)
                | (refine T.meetR 12 ([(9, .i (i : Int)), (10, .ptr 4 0), (11, .ptr 5 0), (12, .ptr 6 0), (58, .i (i : Int)), (57, .i ((((allQ l fr).map PcQ.row).length : Nat) : Int)), (56, .sl ((allQ l fr).map PcQ.row)), (8, .sl ((allQ l fr).map PcQ.row)), (4, .ptr 0 0), (5, .ptr 1 0), (6, .ptr 2 0)]) ([.live ((frR fr).map .lf), .live ((frR te).map .lf), .live [.i 0, .i 0], .dead, .live (x.row.map .lf), .live ((frR (a)).map .lf), .live ((frR (b)).map .lf)]) ?_ ?_)
                | (apply T.drawAll anyOrder (by decide +kernel))
                | (apply S.call; exact rfl; exact rfl; exact cp; exact rfl)
                | (apply S.call; exact rfl; exact rfl; exact oa; exact rfl)
                | (apply S.call; exact rfl; exact rfl; exact ob; exact rfl)
                | (apply S.call; exact rfl; exact rfl; exact cv; exact rfl)
                | (apply S.call; exact rfl; exact rfl; exact cs; exact rfl)
                | (apply S.call; exact rfl; exact rfl; exact cbl; exact rfl)
                | (apply S.loadPA; exact rfl; exact rfl; exact rfl; exact rfl)
                | (apply S.loadRA; exact rfl; exact rfl; exact rfl; exact rfl)
                | (apply S.alloc; exact rfl; exact rfl; exact rfl; exact rfl; exact rfl)
                | (apply S.store; exact rfl; exact rfl; exact rfl; exact rfl; exact rfl; exact rfl; exact rfl)
                | (apply S.storeD; exact rfl; exact rfl; exact rfl; exact rfl; exact rfl; exact rfl; exact rfl; exact rfl)
                | (apply S.cmp; exact rfl; exact rfl; exact rfl; exact rfl)
                | (apply S.lenR; exact rfl; exact rfl)
                | apply S.nil
                | apply T.regs
                | apply T.reg
                | (apply T.cCN; exact rfl)
                | (apply T.cT; exact rfl; assumption)
                | (apply T.cF; exact rfl; assumption)
                | (apply T.cS; exact rfl; intro hc; rotate_left; intro hc; rotate_right)
                | apply T.seq
                | (apply T.skip; first | change T _ _ _ _ _ | change Done _ _ _ _ _ | change Next _ _ _ _ _ _ | skip)
                | apply T.block)
              all_goals first
                | exact T.met (.cons rfl rfl (.cons rfl rfl (.cons rfl rfl (.cons rfl rfl (.cons rfl rfl (.cons rfl rfl (.cons rfl rfl (.cons rfl rfl (.cons rfl rfl (.cons rfl rfl (.cons rfl rfl .nil))))))))))) (by rw [hAx']; exact (.live rfl (.live rfl (.live rfl (.dead (.live rfl (.live rfl (.live rfl .nil))))))))
                | exact T.met (.cons rfl rfl (.cons rfl rfl (.cons rfl rfl (.cons rfl rfl (.cons rfl rfl (.cons rfl rfl (.cons rfl rfl (.cons rfl rfl (.cons rfl rfl (.cons rfl rfl (.cons rfl rfl .nil))))))))))) (by rw [hB (kb.1 (by assumption))]; exact (.live rfl (.live rfl (.live rfl (.dead (.live rfl (.live rfl (.live rfl .nil))))))))
                | exact T.met (.cons rfl rfl (.cons rfl rfl (.cons rfl rfl (.cons rfl rfl (.cons rfl rfl (.cons rfl rfl (.cons rfl rfl (.cons rfl rfl (.cons rfl rfl (.cons rfl rfl (.cons rfl rfl .nil))))))))))) (by rw [hB' (fun e => absurd (kb.2 e) (by assumption))]; exact (.live rfl (.live rfl (.live rfl (.dead (.live rfl (.live rfl (.live rfl .nil))))))))
                | (change Next _ _ _ _ _ _; exact Next.go (i + 1) ⟨by omega, by rw [hsn, hs, if_neg hv0, if_neg hbl]⟩ (by omega) (.cons rfl rfl (.cons rfl rfl (.cons rfl rfl (.cons rfl rfl (.cons rfl rfl (.cons rfl rfl (.cons rfl rfl .nil))))))) (.live rfl (.live rfl (.live rfl (.dead .nil)))))
      · have h2 : ¬ (i : Int) + 1 < ((((allQ l fr).map PcQ.row).length : Nat) : Int) := by omega
        have hB' : b = te := by rw [hb, ptB, if_neg fun e => hlast e.1]
        have hfb : Fits b := by rw [hB']; exact ht
        have hO : ptOut (allQ l fr) fr te i ↔ te < a := by rw [ptOut, ← ha]; exact ⟨fun h => h.elim id fun e => absurd e.1 hlast, .inl⟩
        have hrg : ¬ ptOut (allQ l fr) fr te i → a ≤ te := fun h => Rat.not_lt.1 fun e => h (hO.2 e)
        have hab : ¬ ptOut (allQ l fr) fr te i → a ≤ b := fun h => by rw [hB']; exact hrg h
        have hbt : b ≤ te := by rw [hB']; exact Rat.le_refl
        have ob := ex_of b hfb
        have cbl := pt_below x.pt (Ex.ofQ a) (Ex.ofQ b) okx.pt (bd_ofQ hfa) (bd_ofQ hfb)
        have kbl : x.pt.belowS (Ex.ofQ a) (Ex.ofQ b) ↔ belR x a b := by rw [belowS_iff (bd_ofQ hfa).2.2 (bd_ofQ hfb).2.2, Ex.val_ofQ, Ex.val_ofQ]
        have hst : ¬ ptOut (allQ l fr) fr te i → stepF (allQ l fr) fr te i = if vR x a < 0 then some (enQ a) else if belR x a b then some (firR x a b) else none := fun h => by rw [stepF, if_neg h, px, ← ha, ← hb]
        have hout : ptOut (allQ l fr) fr te i → stepF (allQ l fr) fr te i = none := fun h => by rw [stepF, if_pos h]
        have hm : ¬ ptOut (allQ l fr) fr te i → Mid a ∧ Mid b := fun h => ⟨rang_mid hfa ⟨Rat.le_trans hr1.1 hage, Rat.le_trans (hrg h) hr2.2⟩, rang_mid hfb ⟨Rat.le_trans hr1.1 (Rat.le_trans hage (hab h)), Rat.le_trans hbt hr2.2⟩⟩
        by_cases hO1 : ptOut (allQ l fr) fr te i
        · skip
          repeat' (first
            | (apply S.move; exact rfl; exact rfl)
            | (apply S.assign; exact rfl; exact rfl)
            | (apply S.gU; exact rfl; exact rfl; exact rfl)
            | (apply S.gTF; exact rfl; exact rfl; assumption; exact rfl)
            | (apply S.gFF; exact rfl; exact rfl; assumption)
            | (apply S.gFT; exact rfl; exact rfl; assumption; exact rfl)
            | (apply S.pTp; exact rfl; assumption; exact rfl; exact rfl)
            | (apply S.pFp; exact rfl; assumption; exact rfl; exact rfl)
            | (apply S.arith; exact rfl; exact rfl; exact rfl; exact rfl; omega)
            | (apply S.call; exact rfl; exact rfl; exact cta; exact rfl)
            | (apply S.indexR; exact rfl; exact rfl; exact rfl; exact hbx; omega; exact rfl)
            | (apply S.loadRW; exact rfl; exact rfl; exact rfl; exact rfl)
            | (refine T.meetR 10 ([(9, .i (i : Int)), (10, .ptr 4 0), (11, .ptr 5 0), (12, .ptr 6 0), (58, .i (i : Int)), (57, .i ((((allQ l fr).map PcQ.row).length : Nat) : Int)), (56, .sl ((allQ l fr).map PcQ.row)), (8, .sl ((allQ l fr).map PcQ.row)), (4, .ptr 0 0), (5, .ptr 1 0), (6, .ptr 2 0)]) ([.live ((frR fr).map .lf), .live ((frR te).map .lf), .live [.i 0, .i 0], .dead, .live (x.row.map .lf), .live ((frR (a)).map .lf), .live ((frR (te)).map .lf)]) ?_ ?_)
            | (refine T.meetR 12 ([(9, .i (i : Int)), (10, .ptr 4 0), (11, .ptr 5 0), (12, .ptr 6 0), (58, .i (i : Int)), (57, .i ((((allQ l fr).map PcQ.row).length : Nat) : Int)), (56, .sl ((allQ l fr).map PcQ.row)), (8, .sl ((allQ l fr).map PcQ.row)), (4, .ptr 0 0), (5, .ptr 1 0), (6, .ptr 2 0)]) ([.live ((frR fr).map .lf), .live ((frR te).map .lf), .live [.i 0, .i 0], .dead, .live (x.row.map .lf), .live ((frR (a)).map .lf), .live ((frR (b)).map .lf)]) ?_ ?_)
            | (apply T.drawAll anyOrder (by decide +kernel))
            | (apply S.loadPA; exact rfl; exact rfl; exact rfl; exact rfl)
            | (apply S.alloc; exact rfl; exact rfl; exact rfl; exact rfl; exact rfl)
            | (apply S.store; exact rfl; exact rfl; exact rfl; exact rfl; exact rfl; exact rfl; exact rfl)
            | (apply S.storeD; exact rfl; exact rfl; exact rfl; exact rfl; exact rfl; exact rfl; exact rfl; exact rfl)
            | (apply S.cmp; exact rfl; exact rfl; exact rfl; exact rfl)
            | (apply S.lenR; exact rfl; exact rfl)
            | (apply S.gsF; exact rfl; exact rfl; exact rfl; intro hc; rotate_left; intro hc; rotate_right)
            | apply S.nil
            | apply T.regs
            | apply T.reg
            | (apply T.cC; exact rfl)
            | (apply T.cCN; exact rfl)
            | (apply T.cT; exact rfl; assumption)
            | apply T.seq
            | (apply T.skip; first | change T _ _ _ _ _ | change Done _ _ _ _ _ | change Next _ _ _ _ _ _ | skip)
            | (apply T.exit; first | change T _ _ _ _ _ | change Done _ _ _ _ _ | change Next _ _ _ _ _ _ | skip)
            | apply T.block)
          all_goals first
            | exact T.met (.cons rfl rfl (.cons rfl rfl (.cons rfl rfl (.cons rfl rfl (.cons rfl rfl (.cons rfl rfl (.cons rfl rfl (.cons rfl rfl (.cons rfl rfl (.cons rfl rfl (.cons rfl rfl .nil))))))))))) (by rw [hAx']; exact (.live rfl (.live rfl (.live rfl (.dead (.live rfl (.live rfl (.live rfl .nil))))))))
            | exact T.met (.cons rfl rfl (.cons rfl rfl (.cons rfl rfl (.cons rfl rfl (.cons rfl rfl (.cons rfl rfl (.cons rfl rfl (.cons rfl rfl (.cons rfl rfl (.cons rfl rfl (.cons rfl rfl .nil))))))))))) (by rw [hB']; exact (.live rfl (.live rfl (.live rfl (.dead (.live rfl (.live rfl (.live rfl .nil))))))))
            | (change Next _ _ _ _ _ _; exact Next.go (i + 1) ⟨by omega, by rw [hsn, hout hO1]⟩ (by omega) (.cons rfl rfl (.cons rfl rfl (.cons rfl rfl (.cons rfl rfl (.cons rfl rfl (.cons rfl rfl (.cons rfl rfl .nil))))))) (.live rfl (.live rfl (.live rfl (.dead .nil)))))
            | exact absurd (kta.2 (hO.1 hO1)) (by assumption)
        · have q1 : ¬ 0 < cmpQ a te := fun e => hO1 (hO.2 (kta.1 e))
          obtain ⟨ma, mb⟩ := hm hO1
          have cen := qua_enclosed a ma
          have cf := pt_first x a b okx ma mb (hab hO1)
          obtain ⟨u1, u2, hu⟩ := enQ_sp a
          obtain ⟨w1, w2, hw⟩ := firR_sp x a b
          have hs := hst hO1
          rw [hu] at cen hs
          rw [hw] at cf hs
          by_cases hv0 : vR x a < 0
          · have hv0' := kv.2 hv0
            repeat' (first
              | (apply S.move; exact rfl; exact rfl)
              | (apply S.assign; exact rfl; exact rfl)
              | (apply S.gTF; exact rfl; exact rfl; assumption; exact rfl)
              | (apply S.gFF; exact rfl; exact rfl; assumption)
              | (apply S.pFp; exact rfl; assumption; exact rfl; exact rfl)
              | (apply S.arith; exact rfl; exact rfl; exact rfl; exact rfl; omega)
              | (apply S.call; exact rfl; exact rfl; exact cta; exact rfl)
              | (apply S.indexR; exact rfl; exact rfl; exact rfl; exact hbx; omega; exact rfl)
              | (apply S.loadRW; exact rfl; exact rfl; exact rfl; exact rfl)
              | (refine T.meetR 10 ([(9, .i (i : Int)), (10, .ptr 4 0), (11, .ptr 5 0), (12, .ptr 6 0), (58, .i (i : Int)), (57, .i ((((allQ l fr).map PcQ.row).length : Nat) : Int)), (56, .sl ((allQ l fr).map PcQ.row)), (8, .sl ((allQ l fr).map PcQ.row)), (4, .ptr 0 0), (5, .ptr 1 0), (6, .ptr 2 0)]) ([.live ((frR fr).map .lf), .live ((frR te).map .lf), .live [.i 0, .i 0], .dead, .live (x.row.map .lf), .live ((frR (a)).map .lf), .live ((frR (te)).map .lf)]) ?_ ?_)
              | (refine T.meetR 12 ([(9, .i (i : Int)), (10, .ptr 4 0), (11, .ptr 5 0), (12, .ptr 6 0), (58, .i (i : Int)), (57, .i ((((allQ l fr).map PcQ.row).length : Nat) : Int)), (56, .sl ((allQ l fr).map PcQ.row)), (8, .sl ((allQ l fr).map PcQ.row)), (4, .ptr 0 0), (5, .ptr 1 0), (6, .ptr 2 0)]) ([.live ((frR fr).map .lf), .live ((frR te).map .lf), .live [.i 0, .i 0], .dead, .live (x.row.map .lf), .live ((frR (a)).map .lf), .live ((frR (b)).map .lf)]) ?_ ?_)
              | (apply T.drawAll anyOrder (by decide +kernel))
              | (apply S.call; exact rfl; exact rfl; exact cp; exact rfl)
              | (apply S.call; exact rfl; exact rfl; exact oa; exact rfl)
              | (apply S.call; exact rfl; exact rfl; exact cv; exact rfl)
              | (apply S.call; exact rfl; exact rfl; exact cs; exact rfl)
              | (apply S.call; exact rfl; exact rfl; exact cen; exact rfl)
              | (apply S.loadPA; exact rfl; exact rfl; exact rfl; exact rfl)
              | (apply S.alloc; exact rfl; exact rfl; exact rfl; exact rfl; exact rfl)
              | (apply S.store; exact rfl; exact rfl; exact rfl; exact rfl; exact rfl; exact rfl; exact rfl)
              | (apply S.storeD; exact rfl; exact rfl; exact rfl; exact rfl; exact rfl; exact rfl; exact rfl; exact rfl)
              | (apply S.cmp; exact rfl; exact rfl; exact rfl; exact rfl)
              | (apply S.lenR; exact rfl; exact rfl)
              | apply S.nil
              | apply T.regs
              | (apply T.cCN; exact rfl)
              | (apply T.cT; exact rfl; assumption)
              | apply T.seq
              | (apply T.skip; first | change T _ _ _ _ _ | change Done _ _ _ _ _ | change Next _ _ _ _ _ _ | skip)
              | (apply T.ret; change Done _ _ _ _ _)
              | apply T.block)
            all_goals first
              | exact T.met (.cons rfl rfl (.cons rfl rfl (.cons rfl rfl (.cons rfl rfl (.cons rfl rfl (.cons rfl rfl (.cons rfl rfl (.cons rfl rfl (.cons rfl rfl (.cons rfl rfl (.cons rfl rfl .nil))))))))))) (by rw [hAx']; exact (.live rfl (.live rfl (.live rfl (.dead (.live rfl (.live rfl (.live rfl .nil))))))))
              | exact T.met (.cons rfl rfl (.cons rfl rfl (.cons rfl rfl (.cons rfl rfl (.cons rfl rfl (.cons rfl rfl (.cons rfl rfl (.cons rfl rfl (.cons rfl rfl (.cons rfl rfl (.cons rfl rfl .nil))))))))))) (by rw [hB']; exact (.live rfl (.live rfl (.live rfl (.dead (.live rfl (.live rfl (.live rfl .nil))))))))
              | (rw [show firstA l fr te = .tup [rowA [.i u1, .i u2], .i 0] by unfold firstA; rw [scanF_up (k := i + 1) (by rw [hsn, hs, if_pos hv0]) _ (by omega)]]; exact ⟨.inr rfl, [rowA [.i u1, .i u2], .i 0], .cons (Res.row [.i u1, .i u2] rfl rfl rfl rfl rfl) (.cons (.tmp rfl) .nil), .tup (.cons (.agg (outL_refl [.i u1, .i u2])) (.cons (.one (.lf _)) .nil))⟩)
          · have hv0' : ¬ sv < 0 := fun e => hv0 (kv.1 e)
            by_cases hbl : belR x a b
            · have hbl' := kbl.2 hbl
              repeat' (first
                | (apply S.move; exact rfl; exact rfl)
                | (apply S.assign; exact rfl; exact rfl)
                | (apply S.gTF; exact rfl; exact rfl; assumption; exact rfl)
                | (apply S.gFF; exact rfl; exact rfl; assumption)
                | (apply S.pFp; exact rfl; assumption; exact rfl; exact rfl)
                | (apply S.arith; exact rfl; exact rfl; exact rfl; exact rfl; omega)
                | (apply S.call; exact rfl; exact rfl; exact cta; exact rfl)
                | (apply S.indexR; exact rfl; exact rfl; exact rfl; exact hbx; omega; exact rfl)
                | (apply S.loadRW; exact rfl; exact rfl; exact rfl; exact rfl)
                | (refine T.meetR 10 ([(9, .i (i : Int)), (10, .ptr 4 0), (11, .ptr 5 0), (12, .ptr 6 0), (58, .i (i : Int)), (57, .i ((((allQ l fr).map PcQ.row).length : Nat) : Int)), (56, .sl ((allQ l fr).map PcQ.row)), (8, .sl ((allQ l fr).map PcQ.row)), (4, .ptr 0 0), (5, .ptr 1 0), (6, .ptr 2 0)]) ([.live ((frR fr).map .lf), .live ((frR te).map .lf), .live [.i 0, .i 0], .dead, .live (x.row.map .lf), .live ((frR (a)).map .lf), .live ((frR (te)).map .lf)]) ?_ ?_)
                | (refine T.meetR 12 ([(9, .i (i : Int)), (10, .ptr 4 0), (11, .ptr 5 0), (12, .ptr 6 0), (58, .i (i : Int)), (57, .i ((((allQ l fr).map PcQ.row).length : Nat) : Int)), (56, .sl ((allQ l fr).map PcQ.row)), (8, .sl ((allQ l fr).map PcQ.row)), (4, .ptr 0 0), (5, .ptr 1 0), (6, .ptr 2 0)]) ([.live ((frR fr).map .lf), .live ((frR te).map .lf), .live [.i 0, .i 0], .dead, .live (x.row.map .lf), .live ((frR (a)).map .lf), .live ((frR (b)).map .lf)]) ?_ ?_)
                | (apply T.drawAll anyOrder (by decide +kernel))
                | (apply S.call; exact rfl; exact rfl; exact cp; exact rfl)
                | (apply S.call; exact rfl; exact rfl; exact oa; exact rfl)
                | (apply S.call; exact rfl; exact rfl; exact ob; exact rfl)
                | (apply S.call; exact rfl; exact rfl; exact cv; exact rfl)
                | (apply S.call; exact rfl; exact rfl; exact cs; exact rfl)
                | (apply S.call; exact rfl; exact rfl; exact cbl; exact rfl)
                | (apply S.call; exact rfl; exact rfl; exact cf; exact rfl)
                | (apply S.loadPA; exact rfl; exact rfl; exact rfl; exact rfl)
                | (apply S.alloc; exact rfl; exact rfl; exact rfl; exact rfl; exact rfl)
                | (apply S.store; exact rfl; exact rfl; exact rfl; exact rfl; exact rfl; exact rfl; exact rfl)
                | (apply S.storeD; exact rfl; exact rfl; exact rfl; exact rfl; exact rfl; exact rfl; exact rfl; exact rfl)
                | (apply S.cmp; exact rfl; exact rfl; exact rfl; exact rfl)
                | (apply S.lenR; exact rfl; exact rfl)
                | apply S.nil
                | apply T.regs
                | (apply T.cCN; exact rfl)
                | (apply T.cT; exact rfl; assumption)
                | (apply T.cF; exact rfl; assumption)
                | apply T.seq
                | (apply T.skip; first | change T _ _ _ _ _ | change Done _ _ _ _ _ | change Next _ _ _ _ _ _ | skip)
                | (apply T.ret; change Done _ _ _ _ _)
                | apply T.block)
              all_goals first
                | exact T.met (.cons rfl rfl (.cons rfl rfl (.cons rfl rfl (.cons rfl rfl (.cons rfl rfl (.cons rfl rfl (.cons rfl rfl (.cons rfl rfl (.cons rfl rfl (.cons rfl rfl (.cons rfl rfl .nil))))))))))) (by rw [hAx']; exact (.live rfl (.live rfl (.live rfl (.dead (.live rfl (.live rfl (.live rfl .nil))))))))
                | exact T.met (.cons rfl rfl (.cons rfl rfl (.cons rfl rfl (.cons rfl rfl (.cons rfl rfl (.cons rfl rfl (.cons rfl rfl (.cons rfl rfl (.cons rfl rfl (.cons rfl rfl (.cons rfl rfl .nil))))))))))) (by rw [hB']; exact (.live rfl (.live rfl (.live rfl (.dead (.live rfl (.live rfl (.live rfl .nil))))))))
                | (rw [show firstA l fr te = .tup [rowA [.i w1, .i w2], .i 0] by unfold firstA; rw [scanF_up (k := i + 1) (by rw [hsn, hs, if_neg hv0, if_pos hbl]) _ (by omega)]]; exact ⟨.inr rfl, [rowA [.i w1, .i w2], .i 0], .cons (Res.row [.i w1, .i w2] rfl rfl rfl rfl rfl) (.cons (.tmp rfl) .nil), .tup (.cons (.agg (outL_refl [.i w1, .i w2])) (.cons (.one (.lf _)) .nil))⟩)
            · have hbl' : ¬ x.pt.belowS (Ex.ofQ a) (Ex.ofQ b) := fun e => hbl (kbl.1 e)
              repeat' (first
                | (apply S.move; exact rfl; exact rfl)
                | (apply S.assign; exact rfl; exact rfl)
                | (apply S.gTF; exact rfl; exact rfl; assumption; exact rfl)
                | (apply S.gFF; exact rfl; exact rfl; assumption)
                | (apply S.pFp; exact rfl; assumption; exact rfl; exact rfl)
                | (apply S.arith; exact rfl; exact rfl; exact rfl; exact rfl; omega)
                | (apply S.call; exact rfl; exact rfl; exact cta; exact rfl)
                | (apply S.indexR; exact rfl; exact rfl; exact rfl; exact hbx; omega; exact rfl)
                | (apply S.loadRW; exact rfl; exact rfl; exact rfl; exact rfl)
                | (refine T.meetR 10 ([(9, .i (i : Int)), (10, .ptr 4 0), (11, .ptr 5 0), (12, .ptr 6 0), (58, .i (i : Int)), (57, .i ((((allQ l fr).map PcQ.row).length : Nat) : Int)), (56, .sl ((allQ l fr).map PcQ.row)), (8, .sl ((allQ l fr).map PcQ.row)), (4, .ptr 0 0), (5, .ptr 1 0), (6, .ptr 2 0)]) ([.live ((frR fr).map .lf), .live ((frR te).map .lf), .live [.i 0, .i 0], .dead, .live (x.row.map .lf), .live ((frR (a)).map .lf), .live ((frR (te)).map .lf)]) ?_ ?_)
                | (refine T.meetR 12 ([(9, .i (i : Int)), (10, .ptr 4 0), (11, .ptr 5 0), (12, .ptr 6 0), (58, .i (i : Int)), (57, .i ((((allQ l fr).map PcQ.row).length : Nat) : Int)), (56, .sl ((allQ l fr).map PcQ.row)), (8, .sl ((allQ l fr).map PcQ.row)), (4, .ptr 0 0), (5, .ptr 1 0), (6, .ptr 2 0)]) ([.live ((frR fr).map .lf), .live ((frR te).map .lf), .live [.i 0, .i 0], .dead, .live (x.row.map .lf), .live ((frR (a)).map .lf), .live ((frR (b)).map .lf)]) ?_ ?_)
                | (apply T.drawAll anyOrder (by decide +kernel))
                | (apply S.call; exact rfl; exact rfl; exact cp; exact rfl)
                | (apply S.call; exact rfl; exact rfl; exact oa; exact rfl)
                | (apply S.call; exact rfl; exact rfl; exact ob; exact rfl)
                | (apply S.call; exact rfl; exact rfl; exact cv; exact rfl)
                | (apply S.call; exact rfl; exact rfl; exact cs; exact rfl)
                | (apply S.call; exact rfl; exact rfl; exact cbl; exact rfl)
                | (apply S.loadPA; exact rfl; exact rfl; exact rfl; exact rfl)
                | (apply S.alloc; exact rfl; exact rfl; exact rfl; exact rfl; exact rfl)
                | (apply S.store; exact rfl; exact rfl; exact rfl; exact rfl; exact rfl; exact rfl; exact rfl)
                | (apply S.storeD; exact rfl; exact rfl; exact rfl; exact rfl; exact rfl; exact rfl; exact rfl; exact rfl)
                | (apply S.cmp; exact rfl; exact rfl; exact rfl; exact rfl)
                | (apply S.lenR; exact rfl; exact rfl)
                | apply S.nil
                | apply T.regs
                | apply T.reg
                | (apply T.cCN; exact rfl)
                | (apply T.cT; exact rfl; assumption)
                | (apply T.cF; exact rfl; assumption)
                | apply T.seq
                | (apply T.skip; first | change T _ _ _ _ _ | change Done _ _ _ _ _ | change Next _ _ _ _ _ _ | skip)
                | apply T.block)
              all_goals first
                | exact T.met (.cons rfl rfl (.cons rfl rfl (.cons rfl rfl (.cons rfl rfl (.cons rfl rfl (.cons rfl rfl (.cons rfl rfl (.cons rfl rfl (.cons rfl rfl (.cons rfl rfl (.cons rfl rfl .nil))))))))))) (by rw [hAx']; exact (.live rfl (.live rfl (.live rfl (.dead (.live rfl (.live rfl (.live rfl .nil))))))))
                | exact T.met (.cons rfl rfl (.cons rfl rfl (.cons rfl rfl (.cons rfl rfl (.cons rfl rfl (.cons rfl rfl (.cons rfl rfl (.cons rfl rfl (.cons rfl rfl (.cons rfl rfl (.cons rfl rfl .nil))))))))))) (by rw [hB']; exact (.live rfl (.live rfl (.live rfl (.dead (.live rfl (.live rfl (.live rfl .nil))))))))
                | (change Next _ _ _ _ _ _; exact Next.go (i + 1) ⟨by omega, by rw [hsn, hs, if_neg hv0, if_neg hbl]⟩ (by omega) (.cons rfl rfl (.cons rfl rfl (.cons rfl rfl (.cons rfl rfl (.cons rfl rfl (.cons rfl rfl (.cons rfl rfl .nil))))))) (.live rfl (.live rfl (.live rfl (.dead .nil)))))
  · have h1 : ¬ (i : Int) < ((((allQ l fr).map PcQ.row).length : Nat) : Int) := by omega
    obtain rfl : i = (allQ l fr).length := by omega
    repeat' (first
      | (apply S.assign; exact rfl; exact rfl)
      | (apply S.store; exact rfl; exact rfl; exact rfl; exact rfl; exact rfl; exact rfl; exact rfl)
      | (apply S.cmp; exact rfl; exact rfl; exact rfl; exact rfl)
      | (apply S.build; exact rfl; exact rfl; exact rfl)
      | apply S.nil
      | apply T.regs
      | (apply T.cF; exact rfl; assumption)
      | apply T.seq
      | (apply T.ret; change Done _ _ _ _ _)
      | (apply T.exit; first | change T _ _ _ _ _ | change Done _ _ _ _ _ | change Next _ _ _ _ _ _ | skip))
    rw [show firstA l fr te = spE 12 by unfold firstA; rw [hsc]]
    exact ⟨.inr rfl, [rowA [.i 0, .i 0], .i 12], .cons (Res.row [.i 0, .i 0] rfl rfl rfl rfl rfl) (.cons (.tmp rfl) .nil), .tup (.cons (.agg (outL_refl [.i 0, .i 0])) (.cons (.one (.lf _)) .nil))⟩
end Go.Proofs.Ytgegcgfdffmoeaa
