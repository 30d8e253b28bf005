/- Contracts: show's Clearance. No conditions but those of each statement. -/
import Derived.Test.YtocoehahhohpgaaGreatPm
set_option linter.unusedSimpArgs false
set_option linter.unusedVariables false
namespace Go.Proofs.YtocoehahhohpgaaGreat
open Go Go.RowKit
def A1i : Option Rat -> List AV
 | none => [.i 0, .i 0]
 | some b => [.i b.num, .i b.den]
theorem Mt (o : Option Rat) (n : Nat) : (A1i o).all (AV.under n) = true := by cases o <;> rfl
set_option maxHeartbeats 64000000 in
theorem U6 (h : HouseR) (c : SheetR) (hf : h.fits) (hc : c.fits) (G : List Int) (hG : G.length <= 4611686018427387904) (e0 : alE h c G = 0) : Fn0 Tryz.prog 27 [A1 h.row, A1 c.row, .sl (G.map A3)] (D1 (crQ h c G) (crE h c G)) := by
 have p := (He e0).1
 have hp := p.v.1
 have ce := X8 h c hf hc G hG e0
 obtain ⟨ft, t0, t1⟩ := Xq h c G p
 have he := p.endI
 have cm := H3 (endI h c G) 1000 (by decide) (by omega) (by omega) (by decide) (by decide) ft
 have cp := Vi h hf hp
 have hlen : (Ba h).length <= 3600 := A6y hp
 have hle : ((Ba h).map Ab).length = (Ba h).length := List.length_map _
 have hcr : crE h c G = if Ir h c G (Ba h) = 0 then (if (Ba h).length = 0 then 12 else 0) else Ir h c G (Ba h) := if_pos e0
 have hbad : ∀ k q, (Ba h)[k]? = some q -> (∀ j, j < k -> ∀ q, (Ba h)[j]? = some q -> (Bs h c G q).2 = 0) -> ¬ (Bs h c G q).2 = 0 -> D1 (crQ h c G) (crE h c G) = .tup [A1 [.i 0, .i 0], .i (Bs h c G q).2] := fun k q hk hj hn => by
  rw [hcr, Yn hk hj hn, if_neg hn]
  exact if_neg hn
 have hmemp : ∀ q ∈ Ba h, ¬ Af h q.1 < 0 /\ ¬ Af h q.2 < 0 := fun q hq => Qw hq
 have hfit : ∀ q ∈ Ba h, (Bs h c G q).2 = 0 -> Fits (Bs h c G q).1 := fun q hq e => A3s hp hf p hq e
 have hbf : ∀ (l : List (ByteArray × ByteArray)) (b : Rat), (∀ q ∈ l, q ∈ Ba h /\ (Bs h c G q).2 = 0) -> H7 h c G l = some b -> Fits b := fun l b hl hb => by
  by_cases hn : l = []
  ·rw [hn] at hb;cases hb
  ·obtain ⟨r, h1, ⟨q, hq, h2⟩, _⟩ := O2 (h := h) (c := c) (G := G) hn
   rw [hb] at h1
   injection h1 with h1
   rw [h1, h2]
   exact hfit q (hl q hq).1 (hl q hq).2
 have hcq : crQ h c G = (H7 h c G (Ba h)).getD 0 := rfl
 change Fn0 _ _ _ (.tup [_, .i 0]) at cm
 change Fn0 _ _ _ (.tup [.sl ((Ba h).map Ab), .i 0]) at cp
 generalize hprs : Ba h = prs at *
 have hT : Di h c G = Aa (endI h c G) 1000 := rfl
 rw [<- hT] at cm
 refine Fn0.of Tryz.func27 Tryz.ntmps27 rfl rfl rfl ?_
 simp only [A2]
 repeat' (first
  | refine W ?_
  | refine Y ?_|(refine S.inline [(6, .ptr 2 0), (8, .ptr 3 0), (9, .ptr 4 0)] Tryz.func36 Tryz.ntmps36 rfl rfl rfl rfl rfl rfl rfl CW rfl ?_;intro vs;simp only [A2, List.cons_append, List.nil_append])
  | refine V ?_
  | (refine W2 ?_ ?_ <;> intro hc))
 refine T.loopS (fun j => j <= prs.length /\ ∀ i, i < j -> ∀ q, prs[i]? = some q -> (Bs h c G q).2 = 0) (fun j => prs.length - j) (fun j => [(49, .i j), (48, .i (prs.map Ab).length), (47, .sl (prs.map Ab)), (3, .fn (.func 62) [] [.ptr 3 0, .ptr 4 0]), (4, .ptr 6 0), (5, .ptr 7 0), (11, .ptr 8 0), (2, .sl (G.map A3))]) (fun j => [.live (h.row.map .lf), .live (c.row.map .lf), .live [.i 0, .i 0], .live (A1i (H7 h c G (prs.take j))), .live [.b (H7 h c G (prs.take j)).isSome], .gho [.ptr 2 0, .ptr 3 0, .ptr 4 0] vs, .live (h.row.map .lf), .live (c.row.map .lf), .live [.i (Di h c G).num, .i (Di h c G).den]]) 0 ⟨Nat.zero_le _, by intro i hi;omega⟩ CW (.live rfl (.live rfl (.live rfl (.live (by first | exact Mt _ _ | rfl) (.live rfl (.gho rfl CH)))))) ?_
 rintro j ⟨hj, hgo⟩
 by_cases hlt : j < prs.length
 ·have h1 : (j : Int) < ((prs.map Ab).length : Nat) := by omega
  obtain ⟨q, hq⟩ := A9 hlt
  have hb := Ac (R := Ab) hq
  have hqm := List.mem_of_getElem? hq
  obtain ⟨n1, n2⟩ := hmemp q hqm
  obtain ⟨a, ha⟩ : ∃ a, h.sets[(Af h q.1).toNat]? = some a := Gy n1
  obtain ⟨b, hbb⟩ : ∃ b, h.sets[(Af h q.2).toNat]? = some b := Gy n2
  have hsa : Fo h q.1 = some a := ha
  have hsb : Fo h q.2 = some b := hbb
  have rha : (h.sets.map SetR.row)[(Af h q.1).toNat]? = some a.row := I6 ha
  have rhb : (h.sets.map SetR.row)[(Af h q.2).toNat]? = some b.row := I6 hbb
  have f1 := Iw h hf hp q.1 n1
  have f2 := Iw h hf hp q.2 n2
  have p1 := Lw h c hf hc G hG e0 q.1 n1
  have p2 := Lw h c hf hc G hG e0 q.2 n2
  have hct : Bs h c G q = if Bk h c G q.1 = 0 then (if Bk h c G q.2 = 0 then Is a b (Bl h c G q.1) (Bl h c G q.2) (Di h c G) else (0, Bk h c G q.2)) else (0, Bk h c G q.1) := by unfold Bs;rw [hsa, hsb]
  have hbd := hbad j q hq hgo
  have htk : prs.take (j + 1) = prs.take j ++ [q] := by rw [List.take_add_one, hq];rfl
  have hK : H7 h c G (prs.take (j + 1)) = some (Tu (H7 h c G (prs.take j)) (Bs h c G q).1) := by rw [htk];exact A5k h c G _ _
  have hob : ∀ b, H7 h c G (prs.take j) = some b -> Fits b := fun b => hbf _ b fun q' hq' => by
   obtain ⟨i, hi⟩ := List.getElem?_of_mem hq'
   have hij : i < j := by have := (List.getElem?_eq_some_iff.1 hi).1;rw [List.length_take] at this;omega
   rw [List.getElem?_take_of_lt hij] at hi
   exact ⟨List.mem_of_getElem? hi, hgo i hij q' hi⟩
  have hgo2 : (Bs h c G q).2 = 0 -> ∀ i, i < j + 1 -> ∀ q, prs[i]? = some q -> (Bs h c G q).2 = 0 := fun g i hi q' hq' => by
   by_cases e : i = j
   ·subst e
    rw [hq] at hq'
    injection hq' with hq'
    subst hq'
    exact g
   ·exact hgo i (by omega) q' hq'
  have hfq := hfit q hqm
  generalize Af h q.1 = i1 at *
  generalize Af h q.2 = i2 at *
  generalize H7 h c G (prs.take j) = o at *
  repeat' (first
   | refine W ?_
   | refine Y ?_
   | refine V ?_
   | (refine W2 ?_ ?_ <;> intro hc))
  refine T.loopS (fun i => i <= 2 /\ (1 <= i -> Bk h c G q.1 = 0) /\ (2 <= i -> Bk h c G q.2 = 0)) (fun i => 2 - i) (fun i => [(56, .i i), (55, .agg [.s q.1, .s q.2]), (14, .ptr 9 0), (15, .ptr 10 0), (49, .i j), (48, .i (prs.map Ab).length), (47, .sl (prs.map Ab)), (3, .fn (.func 62) [] [.ptr 3 0, .ptr 4 0]), (4, .ptr 6 0), (5, .ptr 7 0), (11, .ptr 8 0), (2, .sl (G.map A3))]) (fun i => [.live (h.row.map .lf), .live (c.row.map .lf), .live [.i 0, .i 0], .live (A1i (o)), .live [.b (o).isSome], .gho [.ptr 2 0, .ptr 3 0, .ptr 4 0] vs, .live (h.row.map .lf), .live (c.row.map .lf), .live [.i (Di h c G).num, .i (Di h c G).den], .live [.s q.1, .s q.2], .live (pcC q a b (Bl h c G q.1) (Bl h c G q.2) i)]) 0 ⟨by omega, fun k => absurd k (by omega), fun k => absurd k (by omega)⟩ CW (.live rfl (.live rfl (.live rfl (.live (by first | exact Mt _ _ | rfl) (.live rfl (.gho rfl CH)))))) ?_
  rintro i ⟨hi, hi1, hi2⟩
  obtain rfl | rfl | rfl : i = 0 \/ i = 1 \/ i = 2 := by omega
  ·have z0 : ((0 : Nat) : Int) < 2 := by decide
   by_cases pe : Bk h c G q.1 = 0
   ·rw [show Kl h c G q.1 = Bl h c G q.1 from if_pos pe, pe] at p1
    repeat' (first
     | refine W ?_
     | refine Y ?_|(apply S.idxV;exact rfl;exact rfl;exact rfl;exact ⟨by decide, by decide⟩;exact rfl;exact rfl)|(apply S.idxAP;(iterate 4 exact rfl);exact ⟨by decide, by decide⟩;exact rfl)
     | refine V ?_
     | (refine W2 ?_ ?_ <;> intro hc))
    all_goals (first|(change Next _ _ _ _ _ _)|(trace_state;fail))
    all_goals exact Next.go 1 ⟨by omega, fun _ => pe, fun k => absurd k (by omega)⟩ (by omega) CW (.live rfl (.live rfl (.live rfl (.live (by first | exact Mt _ _ | rfl) (.live rfl (.gho rfl CH))))))
   ·rw [show Kl h c G q.1 = [] from if_neg pe] at p1
    rw [if_neg pe] at hct
    rw [hct] at hbd
    rw [hbd pe]
    dsimp only
    generalize Bk h c G q.1 = e at *
    repeat' (first
     | refine W ?_
     | refine Y ?_|(apply S.idxV;exact rfl;exact rfl;exact rfl;exact ⟨by decide, by decide⟩;exact rfl;exact rfl)|(apply S.idxAP;(iterate 4 exact rfl);exact ⟨by decide, by decide⟩;exact rfl)|(apply T.ret;(first | change Aw Tryz.prog Tryz.f36 _ _ _ _ _ _|(dsimp only [Ar, Bd];change Aw Tryz.prog Tryz.f36 _ _ _ _ _ _));refine ⟨.inr rfl, [_], .cons (.tmp rfl) .nil, rfl, ?_⟩;show Reg none _ _ _ _ _ _ _)
     | refine V ?_
     | (refine W2 ?_ ?_ <;> intro hc))
    all_goals exact ⟨.inr rfl, [A1 [.i 0, .i 0], .i e], by rw [Tryz.results27];exact .cons (Res.row [.i 0, .i 0] rfl rfl rfl rfl rfl) (.cons (.tmp rfl) .nil), .tup (.cons (.agg (A7 [.i 0, .i 0])) (.cons (.one (.lf _)) .nil))⟩
  ·have z0 : ((1 : Nat) : Int) < 2 := by decide
   have pe1 := hi1 (Nat.le_refl _)
   by_cases pe : Bk h c G q.2 = 0
   ·rw [show Kl h c G q.2 = Bl h c G q.2 from if_pos pe, pe] at p2
    repeat' (first
     | refine W ?_
     | refine Y ?_|(apply S.idxV;exact rfl;exact rfl;exact rfl;exact ⟨by decide, by decide⟩;exact rfl;exact rfl)|(apply S.idxAP;(iterate 4 exact rfl);exact ⟨by decide, by decide⟩;exact rfl)
     | refine V ?_
     | (refine W2 ?_ ?_ <;> intro hc))
    all_goals (first|(change Next _ _ _ _ _ _)|(trace_state;fail))
    all_goals exact Next.go 2 ⟨by omega, fun _ => pe1, fun _ => pe⟩ (by omega) CW (.live rfl (.live rfl (.live rfl (.live (by first | exact Mt _ _ | rfl) (.live rfl (.gho rfl CH))))))
   ·rw [show Kl h c G q.2 = [] from if_neg pe] at p2
    rw [if_pos pe1, if_neg pe] at hct
    rw [hct] at hbd
    rw [hbd pe]
    dsimp only
    generalize Bk h c G q.2 = e at *
    repeat' (first
     | refine W ?_
     | refine Y ?_|(apply S.idxV;exact rfl;exact rfl;exact rfl;exact ⟨by decide, by decide⟩;exact rfl;exact rfl)|(apply S.idxAP;(iterate 4 exact rfl);exact ⟨by decide, by decide⟩;exact rfl)|(apply T.ret;(first | change Aw Tryz.prog Tryz.f36 _ _ _ _ _ _|(dsimp only [Ar, Bd];change Aw Tryz.prog Tryz.f36 _ _ _ _ _ _));refine ⟨.inr rfl, [_], .cons (.tmp rfl) .nil, rfl, ?_⟩;show Reg none _ _ _ _ _ _ _)
     | refine V ?_
     | (refine W2 ?_ ?_ <;> intro hc))
    all_goals exact ⟨.inr rfl, [A1 [.i 0, .i 0], .i e], by rw [Tryz.results27];exact .cons (Res.row [.i 0, .i 0] rfl rfl rfl rfl rfl) (.cons (.tmp rfl) .nil), .tup (.cons (.agg (A7 [.i 0, .i 0])) (.cons (.one (.lf _)) .nil))⟩
  ·have z0 : ¬ ((2 : Nat) : Int) < 2 := by decide
   have pe1 := hi1 (by omega)
   have pe2 := hi2 (by omega)
   obtain ⟨ox, x0, nx⟩ := L0 p hsa pe1
   obtain ⟨oy, y0, ny⟩ := L0 p hsb pe2
   rw [if_pos pe1, if_pos pe2] at hct
   have ma := List.mem_of_getElem? ha
   have mb := List.mem_of_getElem? hbb
   have cf := Yt a b (Bl h c G q.1) (Bl h c G q.2) ⟨(hp.2.2.2.2.2.1 a ma).1, (hp.2.2.2.2.2.1 b mb).1, hf.2.2 a ma, hf.2.2 b mb, ox, oy, x0, y0, nx, ny⟩ (Di h c G) ft t0 t1
   rw [Ab9] at cf
   rw [hct] at hK hbd hgo2 hfq
   generalize Is a b (Bl h c G q.1) (Bl h c G q.2) (Di h c G) = r at *
   obtain ⟨v, e⟩ := r
   dsimp only at *
   generalize Bl h c G q.1 = xa at *
   generalize Bl h c G q.2 = xb at *
   by_cases ez : e = 0
   ·subst ez
    have fv := hfq rfl
    change Fn0 _ _ _ (.tup [A1 (frR v), .i 0]) at cf
    cases o with
    | none =>
     have ck := A17 v fv
     repeat' (first
      | refine W ?_
      | refine Y ?_|(apply S.idxAP;(iterate 4 exact rfl);exact ⟨by decide, by decide⟩;exact rfl)|(apply T.ret;(first | change Aw Tryz.prog Tryz.f36 _ _ _ _ _ _|(dsimp only [Ar, Bd];change Aw Tryz.prog Tryz.f36 _ _ _ _ _ _));refine ⟨.inr rfl, [_], .cons (.tmp rfl) .nil, rfl, ?_⟩;show Reg none _ _ _ _ _ _ _)|(apply T.ret;(first | change Aw Tryz.prog Tryz.f62 _ _ _ _ _ _|(dsimp only [Ar, Bd];change Aw Tryz.prog Tryz.f62 _ _ _ _ _ _));refine ⟨.inr rfl, [_], .cons (.tmp rfl) .nil, rfl, ?_⟩;show Reg none _ _ _ _ _ _ _)|(refine S.inline [(49, .i j), (48, .i (prs.map Ab).length), (47, .sl (prs.map Ab)), (3, .fn (.func 62) [] [.ptr 3 0, .ptr 4 0]), (4, .ptr 6 0), (5, .ptr 7 0), (11, .ptr 8 0), (2, .sl (G.map A3))] Tryz.func62 Tryz.ntmps62 rfl rfl rfl rfl rfl rfl rfl CW rfl ?_;intro vs2;simp only [A2, List.cons_append, List.nil_append])
      | refine V ?_
      | (refine W2 ?_ ?_ <;> intro hc))
     all_goals (first|(change Next _ _ _ _ _ _)|(trace_state;fail))
     all_goals exact Next.go (j + 1) ⟨by omega, hgo2 rfl⟩ (by omega) (by rw [show (((j + 1 : Nat) : Int)) = (j : Int) + 1 by omega];exact CW) (by rw [hK];exact .live rfl (.live rfl (.live rfl (.live (by first | exact Mt _ _ | rfl) (.live rfl (.gho rfl CH))))))
    | some b0 =>
     have ck := Ki v b0 fv (hob b0 rfl)
     have kl := Cx v b0
     by_cases kk : Ao v b0 < 0
     ·have hm : Tu (some b0) v = v := if_pos (kl.1 kk)
      rw [hm] at hK
      repeat' (first
       | refine W ?_
       | refine Y ?_|(apply S.idxAP;(iterate 4 exact rfl);exact ⟨by decide, by decide⟩;exact rfl)|(apply T.ret;(first | change Aw Tryz.prog Tryz.f36 _ _ _ _ _ _|(dsimp only [Ar, Bd];change Aw Tryz.prog Tryz.f36 _ _ _ _ _ _));refine ⟨.inr rfl, [_], .cons (.tmp rfl) .nil, rfl, ?_⟩;show Reg none _ _ _ _ _ _ _)|(apply T.ret;(first | change Aw Tryz.prog Tryz.f62 _ _ _ _ _ _|(dsimp only [Ar, Bd];change Aw Tryz.prog Tryz.f62 _ _ _ _ _ _));refine ⟨.inr rfl, [_], .cons (.tmp rfl) .nil, rfl, ?_⟩;show Reg none _ _ _ _ _ _ _)|(refine S.inline [(49, .i j), (48, .i (prs.map Ab).length), (47, .sl (prs.map Ab)), (3, .fn (.func 62) [] [.ptr 3 0, .ptr 4 0]), (4, .ptr 6 0), (5, .ptr 7 0), (11, .ptr 8 0), (2, .sl (G.map A3))] Tryz.func62 Tryz.ntmps62 rfl rfl rfl rfl rfl rfl rfl CW rfl ?_;intro vs2;simp only [A2, List.cons_append, List.nil_append])
       | refine V ?_
       | (refine W2 ?_ ?_ <;> intro hc))
      all_goals (first|(change Next _ _ _ _ _ _)|(trace_state;fail))
      all_goals exact Next.go (j + 1) ⟨by omega, hgo2 rfl⟩ (by omega) (by rw [show (((j + 1 : Nat) : Int)) = (j : Int) + 1 by omega];exact CW) (by rw [hK];exact .live rfl (.live rfl (.live rfl (.live (by first | exact Mt _ _ | rfl) (.live rfl (.gho rfl CH))))))
     ·have hm : Tu (some b0) v = b0 := if_neg fun q => kk (kl.2 q)
      rw [hm] at hK
      repeat' (first
       | refine W ?_
       | refine Y ?_|(apply S.idxAP;(iterate 4 exact rfl);exact ⟨by decide, by decide⟩;exact rfl)|(apply T.ret;(first | change Aw Tryz.prog Tryz.f36 _ _ _ _ _ _|(dsimp only [Ar, Bd];change Aw Tryz.prog Tryz.f36 _ _ _ _ _ _));refine ⟨.inr rfl, [_], .cons (.tmp rfl) .nil, rfl, ?_⟩;show Reg none _ _ _ _ _ _ _)|(apply T.ret;(first | change Aw Tryz.prog Tryz.f62 _ _ _ _ _ _|(dsimp only [Ar, Bd];change Aw Tryz.prog Tryz.f62 _ _ _ _ _ _));refine ⟨.inr rfl, [_], .cons (.tmp rfl) .nil, rfl, ?_⟩;show Reg none _ _ _ _ _ _ _)|(refine S.inline [(49, .i j), (48, .i (prs.map Ab).length), (47, .sl (prs.map Ab)), (3, .fn (.func 62) [] [.ptr 3 0, .ptr 4 0]), (4, .ptr 6 0), (5, .ptr 7 0), (11, .ptr 8 0), (2, .sl (G.map A3))] Tryz.func62 Tryz.ntmps62 rfl rfl rfl rfl rfl rfl rfl CW rfl ?_;intro vs2;simp only [A2, List.cons_append, List.nil_append])
       | refine V ?_
       | (refine W2 ?_ ?_ <;> intro hc))
      all_goals (first|(change Next _ _ _ _ _ _)|(trace_state;fail))
      all_goals exact Next.go (j + 1) ⟨by omega, hgo2 rfl⟩ (by omega) (by rw [show (((j + 1 : Nat) : Int)) = (j : Int) + 1 by omega];exact CW) (by rw [hK];exact .live rfl (.live rfl (.live rfl (.live (by first | exact Mt _ _ | rfl) (.live rfl (.gho rfl CH))))))
   ·rw [hbd ez]
    rw [show D1 v e = .tup [A1 [.i 0, .i 0], .i e] from if_neg ez] at cf
    repeat' (first
     | refine W ?_
     | refine Y ?_|(apply S.idxAP;(iterate 4 exact rfl);exact ⟨by decide, by decide⟩;exact rfl)|(apply T.ret;(first | change Aw Tryz.prog Tryz.f36 _ _ _ _ _ _|(dsimp only [Ar, Bd];change Aw Tryz.prog Tryz.f36 _ _ _ _ _ _));refine ⟨.inr rfl, [_], .cons (.tmp rfl) .nil, rfl, ?_⟩;show Reg none _ _ _ _ _ _ _)|(apply T.ret;(first | change Aw Tryz.prog Tryz.f62 _ _ _ _ _ _|(dsimp only [Ar, Bd];change Aw Tryz.prog Tryz.f62 _ _ _ _ _ _));refine ⟨.inr rfl, [_], .cons (.tmp rfl) .nil, rfl, ?_⟩;show Reg none _ _ _ _ _ _ _)|(refine S.inline [(49, .i j), (48, .i (prs.map Ab).length), (47, .sl (prs.map Ab)), (3, .fn (.func 62) [] [.ptr 3 0, .ptr 4 0]), (4, .ptr 6 0), (5, .ptr 7 0), (11, .ptr 8 0), (2, .sl (G.map A3))] Tryz.func62 Tryz.ntmps62 rfl rfl rfl rfl rfl rfl rfl CW rfl ?_;intro vs2;simp only [A2, List.cons_append, List.nil_append])
     | refine V ?_
     | (refine W2 ?_ ?_ <;> intro hc))
    all_goals exact ⟨.inr rfl, [A1 [.i 0, .i 0], .i e], by rw [Tryz.results27];exact .cons (Res.row [.i 0, .i 0] rfl rfl rfl rfl rfl) (.cons (.tmp rfl) .nil), .tup (.cons (.agg (A7 [.i 0, .i 0])) (.cons (.one (.lf _)) .nil))⟩
 ·have h1 : ¬ (j : Int) < ((prs.map Ab).length : Nat) := by omega
  rw [List.take_of_length_le (by omega)]
  have hall : ∀ q ∈ prs, (Bs h c G q).2 = 0 := fun q hq => by
   obtain ⟨i, hi⟩ := List.getElem?_of_mem hq
   exact hgo i (by have := (List.getElem?_eq_some_iff.1 hi).1;omega) q hi
  rw [Zw hall, if_pos rfl] at hcr
  rw [hcr, hcq]
  by_cases hn : prs = []
  ·subst hn
   rw [show H7 h c G [] = none from rfl]
   repeat' (first
    | refine W ?_
    | refine Y ?_|(apply T.ret;(first | change Aw Tryz.prog Tryz.f36 _ _ _ _ _ _|(dsimp only [Ar, Bd];change Aw Tryz.prog Tryz.f36 _ _ _ _ _ _));refine ⟨.inr rfl, [_], .cons (.tmp rfl) .nil, rfl, ?_⟩;show Reg none _ _ _ _ _ _ _)
    | refine V ?_
    | (refine W2 ?_ ?_ <;> intro hc))
   all_goals exact ⟨.inr rfl, [A1 [.i 0, .i 0], .i 12], by rw [Tryz.results27];exact .cons (Res.row [.i 0, .i 0] rfl rfl rfl rfl rfl) (.cons (.tmp rfl) .nil), .tup (.cons (.agg (A7 [.i 0, .i 0])) (.cons (.one (.lf _)) .nil))⟩
  ·obtain ⟨r, hr, _⟩ := O2 (h := h) (c := c) (G := G) hn
   rw [hr, if_neg fun k => hn (List.eq_nil_of_length_eq_zero k)]
   rw [show D1 ((some r).getD 0) 0 = .tup [A1 [.i r.num, .i r.den], .i 0] from rfl]
   repeat' (first
    | refine W ?_
    | refine Y ?_|(apply T.ret;(first | change Aw Tryz.prog Tryz.f36 _ _ _ _ _ _|(dsimp only [Ar, Bd];change Aw Tryz.prog Tryz.f36 _ _ _ _ _ _));refine ⟨.inr rfl, [_], .cons (.tmp rfl) .nil, rfl, ?_⟩;show Reg none _ _ _ _ _ _ _)
    | refine V ?_
    | (refine W2 ?_ ?_ <;> intro hc))
   all_goals exact ⟨.inr rfl, [A1 [.i r.num, .i r.den], .i 0], by rw [Tryz.results27];exact .cons (Res.row [.i r.num, .i r.den] rfl rfl rfl rfl rfl) (.cons (.tmp rfl) .nil), .tup (.cons (.agg (A7 [.i r.num, .i r.den])) (.cons (.one (.lf _)) .nil))⟩
theorem Oe (h : HouseR) (c : SheetR) (hf : h.fits) (hc : c.fits) (G : List Int) (hG : G.length <= 4611686018427387904) (e0 : ¬ alE h c G = 0) : Fn0 Tryz.prog 27 [A1 h.row, A1 c.row, .sl (G.map A3)] (D1 (crQ h c G) (crE h c G)) := by
 have ce := Ot h c hf hc G hG e0
 rw [show crE h c G = alE h c G from if_neg e0, show D1 (crQ h c G) (alE h c G) = .tup [A1 [.i 0, .i 0], .i (alE h c G)] from if_neg e0]
 generalize alE h c G = e at *
 refine Fn0.of Tryz.func27 Tryz.ntmps27 rfl rfl rfl ?_
 simp only [A2]
 repeat' (first
  | refine W ?_
  | refine Y ?_|(refine S.inline [(6, .ptr 2 0), (8, .ptr 3 0), (9, .ptr 4 0)] Tryz.func36 Tryz.ntmps36 rfl rfl rfl rfl rfl rfl rfl CW rfl ?_;intro vs;simp only [A2, List.cons_append, List.nil_append])|(apply T.ret;(first | change Aw Tryz.prog Tryz.f36 _ _ _ _ _ _|(dsimp only [Ar, Bd];change Aw Tryz.prog Tryz.f36 _ _ _ _ _ _));refine ⟨.inr rfl, [_], .cons (.tmp rfl) .nil, rfl, ?_⟩;show Reg none _ _ _ _ _ _ _)
  | refine V ?_
  | (refine W2 ?_ ?_ <;> intro hc))
 all_goals exact ⟨.inr rfl, [A1 [.i 0, .i 0], .i e], by rw [Tryz.results27];exact .cons (Res.row [.i 0, .i 0] rfl rfl rfl rfl rfl) (.cons (.tmp rfl) .nil), .tup (.cons (.agg (A7 [.i 0, .i 0])) (.cons (.one (.lf _)) .nil))⟩
theorem Sz (h : HouseR) (c : SheetR) (hf : h.fits) (hc : c.fits) (G : List Int) (hG : G.length <= 4611686018427387904) : Fn0 Tryz.prog 27 [A1 h.row, A1 c.row, .sl (G.map A3)] (D1 (crQ h c G) (crE h c G)) := by
 by_cases e0 : alE h c G = 0
 ·exact U6 h c hf hc G hG e0
 ·exact Oe h c hf hc G hG e0
end Go.Proofs.YtocoehahhohpgaaGreat
