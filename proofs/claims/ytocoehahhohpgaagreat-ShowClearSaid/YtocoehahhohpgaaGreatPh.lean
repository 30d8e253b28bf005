/- Contracts: show's Check. No conditions but those of each statement. -/
import Derived.Test.YtocoehahhohpgaaGreatPa
import Derived.Test.YtocoehahhohpgaaGreatPf
set_option linter.unusedSimpArgs false
set_option linter.unusedVariables false
namespace Go.Proofs.YtocoehahhohpgaaGreat
open Go Go.RowKit
abbrev Ba (h : HouseR) : List (ByteArray × ByteArray) := Cr h.sets h.sets.length
open Classical in
noncomputable def H5 (h : HouseR) (c : SheetR) (G : List Int) : List (ByteArray × ByteArray) -> Int
 | [] => 0
 | p :: r => if Dn h c G p then H5 h c G r else (ctR h c G p).2.2
theorem L6 {h : HouseR} {c : SheetR} {G : List Int} : ∀ {l : List (ByteArray × ByteArray)}, (∀ p ∈ l, Dn h c G p) -> H5 h c G l = 0
 | [], _ => rfl
 | p :: r, hg => by rw [H5, if_pos (hg p (by simp))];exact L6 fun q hq => hg q (by simp [hq])
theorem Xc {h : HouseR} {c : SheetR} {G : List Int} : ∀ {l : List (ByteArray × ByteArray)} {k : Nat} {p}, l[k]? = some p -> (∀ j, j < k -> ∀ q, l[j]? = some q -> Dn h c G q) -> ¬ Dn h c G p -> H5 h c G l = (ctR h c G p).2.2
 | [], k, p, hk, _, _ => by simp at hk
 | x :: r, 0, p, hk, _, hn => by
  obtain rfl : x = p := by simpa using hk
  rw [H5, if_neg hn]
 | x :: r, k + 1, p, hk, hj, hn => by
  rw [H5, if_pos (hj 0 (by omega) x rfl)]
  exact Xc (k := k) (by simpa using hk) (fun j hjk q hq => hj (j + 1) (by omega) q (by simpa using hq)) hn
noncomputable def Mz (h : HouseR) (c : SheetR) (G : List Int) : List ConR := if H5 h c G (Ba h) = 0 then Cy h c G (Ba h) else []
theorem Vf {h : HouseR} {n : ByteArray} {s : SetR} (hs : s ∈ h.sets) (hn : s.name = n) : ¬ Af h n < 0 := by
 have h1 : ¬ Af h n = -1 := Qy ⟨s, hs, hn⟩
 have h2 : -1 <= Af h n := G1 _ _
 omega
theorem Qw {h : HouseR} {p : ByteArray × ByteArray} (hm : p ∈ Ba h) : ¬ Af h p.1 < 0 /\ ¬ Af h p.2 < 0 := by
 obtain ⟨k, _, a, ha, hx⟩ := mem_prsK.1 hm
 obtain ⟨j, _, b, hb, _, rfl⟩ := mem_innN.1 hx
 exact ⟨Vf (List.mem_of_getElem? ha) rfl, Vf (List.mem_of_getElem? hb) rfl⟩
theorem L0 {h : HouseR} {c : SheetR} {G : List Int} (p : PlanOk h c G) {n : ByteArray} {s : SetR} (hs : Fo h n = some s) (he : Bk h c G n = 0) : okC (Bl h c G n) /\ Bl h c G n ≠ [] /\ (Bl h c G n).length <= 200 := by
 have hmem : s ∈ h.sets := List.mem_of_getElem? hs
 obtain ⟨⟨_, _, s1, s2, s3, _⟩, _⟩ := p.v.1.2.2.2.2.2.1 s hmem
 unfold Bk at he
 unfold Bl
 rw [hs] at he ⊢
 dsimp only at he ⊢
 split at he
 ·unfold Hx at he
  split at he
  ·cases he
  ·rename_i hb
   split at he
   ·cases he
   ·rename_i hl
    exact ⟨A14 (Cu (by omega) (by omega)) hb _ (Nat.le_refl _), Tn _ _ _ _ _ _, by omega⟩
 ·cases he
abbrev L5 (l : List ConR) : List AV := (l.map ConR.row).flatten.map .lf
theorem A0c (l : List ConR) : ∀ r ∈ l.map ConR.row, r.length = 4 := by
 intro r hr
 obtain ⟨n, _, rfl⟩ := List.mem_map.1 hr
 rfl
theorem A1c (l : List ConR) : (L5 l).length = l.length * 4 := by
 rw [List.length_map, B8 _ (A0c l), List.length_map]
theorem Zj (l : List ConR) (x : ConR) : L5 (l ++ [x]) = L5 l ++ ([x.row].flatten).map AV.lf := by simp [L5]
abbrev A8b : List AV := [.s ⟨#[]⟩, .i 0, .i 0, .i 0, .i 0, .sl [], .i 0, .i 0, .i 0, .i 0, .i 0, .sl [], .sl []]
noncomputable def pcC (p : ByteArray × ByteArray) (a b : SetR) (x y : List PcQ) : Nat -> List AV
 | 0 => [.s p.1, .s p.2] ++ A8b ++ A8b ++ [.sl [], .sl []]
 | 1 => [.s p.1, .s p.2] ++ a.row.map .lf ++ A8b ++ [.sl (x.map PcQ.row), .sl []]
 | _ => [.s p.1, .s p.2] ++ a.row.map .lf ++ b.row.map .lf ++ [.sl (x.map PcQ.row), .sl (y.map PcQ.row)]
theorem Xq (h : HouseR) (c : SheetR) (G : List Int) (p : PlanOk h c G) : Fits (Di h c G) /\ 0 <= Di h c G /\ Di h c G <= 1099511627776 := by
 have he := p.endI
 have hm := A9q (endI h c G)
 have h0 : (0 : Rat) <= (endI h c G : Rat) := Rat.intCast_nonneg.2 he.1
 have h1 : (endI h c G : Rat) <= ((259845521408 : Int) : Rat) := Rat.intCast_le_intCast.2 he.2
 rw [show ((259845521408 : Int) : Rat) = 259845521408 from rfl] at h1
 have hu : Di h c G = mil (endI h c G) := rfl
 have hf : Fits (Aa (endI h c G) 1000) := Bv (by omega) (by omega) (by omega) (by omega)
 refine ⟨hf, ?_, ?_⟩
 ·rw [hu];grind
 ·rw [hu];grind
theorem K7 (b st n k : Nat) (h : b < n) : ([rT b st k] : List AV).all (AV.under n) = true := by rw [List.all_cons, Eg _ _ _ _ h];rfl
theorem A0j (h : HouseR) (c : SheetR) (G : List Int) (n : ByteArray) : ¬ Bk h c G n = 12 := by
 unfold Bk
 split
 ·split
  ·unfold Hx
   split
   ·decide
   ·split <;> decide
  ·decide
 ·decide
set_option maxHeartbeats 64000000 in
theorem A2s (h : HouseR) (c : SheetR) (hf : h.fits) (hc : c.fits) (G : List Int) (hG : G.length <= 4611686018427387904) (e0 : alE h c G = 0) : Fn0 Tryz.prog 10 [A1 h.row, A1 c.row, .sl (G.map A3)] (.tup [.sl ((Mz h c G).map ConR.row), .i (H5 h c G (Ba h))]) := by
 have p := (He e0).1
 have hp := p.v.1
 have ce := X8 h c hf hc G hG e0
 obtain ⟨ft, t0, t1⟩ := Xq h c G p
 have he := p.endI
 have cm := H3 (endI h c G) 1000 (by decide) (by omega) (by omega) (by decide) (by decide) ft
 have cp := Vi h hf hp
 have hs60 := hp.2.2.2.1
 have hlen : (Ba h).length <= 3600 := Nat.le_trans (Ml h.sets h.sets.length) (Nat.le_trans (Nat.mul_le_mul hs60 hs60) (by decide))
 have hle : ((Ba h).map Ab).length = (Ba h).length := List.length_map _
 have hbad : ∀ k q, (Ba h)[k]? = some q -> (∀ j, j < k -> ∀ q, (Ba h)[j]? = some q -> Dn h c G q) -> ¬ Dn h c G q -> Mz h c G = [] /\ H5 h c G (Ba h) = (ctR h c G q).2.2 := fun k q hk hj hn => by
  have e := Xc hk hj hn
  refine ⟨?_, e⟩
  unfold Mz
  rw [e]
  exact if_neg fun k => hn (.inl k)
 have hmemp : ∀ q ∈ Ba h, ¬ Af h q.1 < 0 /\ ¬ Af h q.2 < 0 := fun q hq => Qw hq
 change Fn0 _ _ _ (.tup [_, .i 0]) at cm
 change Fn0 _ _ _ (.tup [.sl ((Ba h).map Ab), .i 0]) at cp
 generalize hprs : Ba h = prs at *
 have hT : Di h c G = Aa (endI h c G) 1000 := rfl
 rw [<- hT] at cm
 refine Fn0.of Tryz.func10 Tryz.ntmps10 rfl rfl rfl ?_
 simp only [A2]
 repeat' (first
  | refine W ?_
  | refine Y ?_|(refine S.inline [(8, .ptr 2 0)] Tryz.func36 Tryz.ntmps36 rfl rfl rfl rfl rfl rfl rfl CW rfl ?_;intro vs;simp only [A2, List.cons_append, List.nil_append])
  | refine V ?_
  | (refine W2 ?_ ?_ <;> intro hc))
 refine T.kill 7 ?_
 refine T.kill 8 ?_
 refine T.loopS (fun j => j <= prs.length /\ ∀ i, i < j -> ∀ q, prs[i]? = some q -> Dn h c G q) (fun j => prs.length - j) (fun j => [(49, .i j), (48, .i (prs.map Ab).length), (47, .sl (prs.map Ab)), (3, .fn (.func 37) [] [.ptr 2 0]), (4, .ptr 4 0), (5, .ptr 5 0), (11, .ptr 6 0), (2, .sl (G.map A3))]) (fun j => [.live (h.row.map .lf), .live (c.row.map .lf), .live [rT 7 4 (Cy h c G (prs.take j)).length], .gho [.ptr 2 0] vs, .live (h.row.map .lf), .live (c.row.map .lf), .live [.i (Di h c G).num, .i (Di h c G).den], rB (L5 (Cy h c G (prs.take j))) (Cy h c G (prs.take j)).length, .dead]) 0 ⟨Nat.zero_le _, by intro i hi;omega⟩ CW (.live rfl (.live rfl (.live rfl (.gho rfl CG)))) ?_
 rintro j ⟨hj, hgo⟩
 by_cases hlt : j < prs.length
 ·have h1 : (j : Int) < ((prs.map Ab).length : Nat) := by omega
  obtain ⟨q, hq⟩ := A9 hlt
  have hb := Ac (R := Ab) hq
  obtain ⟨n1, n2⟩ := hmemp q (List.mem_of_getElem? hq)
  obtain ⟨a, ha⟩ : ∃ a, h.sets[(Af h q.1).toNat]? = some a := Gy n1
  obtain ⟨b, hbb⟩ : ∃ b, h.sets[(Af h q.2).toNat]? = some b := Gy n2
  have hsa : Fo h q.1 = some a := ha
  have hsb : Fo h q.2 = some b := hbb
  have rha : (h.sets.map SetR.row)[(Af h q.1).toNat]? = some a.row := I6 ha
  have rhb : (h.sets.map SetR.row)[(Af h q.2).toNat]? = some b.row := I6 hbb
  have f1 := Iw h hf hp q.1 n1
  have f2 := Iw h hf hp q.2 n2
  have p1 := Lw h c hf hc G hG e0 q.1 n1
  have p2 := Lw h c hf hc G hG e0 q.2 n2
  have hct : ctR h c G q = if Bk h c G q.1 = 0 then (if Bk h c G q.2 = 0 then frT a b (Bl h c G q.1) (Bl h c G q.2) (Di h c G) else (0, 0, Bk h c G q.2)) else (0, 0, Bk h c G q.1) := by unfold ctR;rw [hsa, hsb]
  have hbd := hbad j q hq hgo
  have htk : prs.take (j + 1) = prs.take j ++ [q] := by rw [List.take_add_one, hq];rfl
  have hKy : (ctR h c G q).2.2 = 0 -> Cy h c G (prs.take (j + 1)) = Cy h c G (prs.take j) ++ [⟨q.1, q.2, (ctR h c G q).1, (ctR h c G q).2.1⟩] := fun e => by rw [htk];exact A7z e
  have hKn : ¬ (ctR h c G q).2.2 = 0 -> Cy h c G (prs.take (j + 1)) = Cy h c G (prs.take j) := fun e => by rw [htk];exact Aac e
  have hLl : (Cy h c G (prs.take j)).length <= 3600 := Nat.le_trans (A7a _ _ _ _) (by rw [List.length_take];omega)
  have hgo2 : Dn h c G q -> ∀ i, i < j + 1 -> ∀ q, prs[i]? = some q -> Dn h c G q := fun g i hi q' hq' => by
   by_cases e : i = j
   ·subst e
    rw [hq] at hq'
    injection hq' with hq'
    subst hq'
    exact g
   ·exact hgo i (by omega) q' hq'
  generalize Af h q.1 = i1 at *
  generalize Af h q.2 = i2 at *
  generalize Cy h c G (prs.take j) = LL at *
  repeat' (first
   | refine W ?_
   | refine Y ?_
   | refine V ?_
   | (refine W2 ?_ ?_ <;> intro hc))
  refine T.loopS (fun i => i <= 2 /\ (1 <= i -> Bk h c G q.1 = 0) /\ (2 <= i -> Bk h c G q.2 = 0)) (fun i => 2 - i) (fun i => [(56, .i i), (55, .agg [.s q.1, .s q.2]), (14, .ptr 9 0), (15, .ptr 10 0), (49, .i j), (48, .i (prs.map Ab).length), (47, .sl (prs.map Ab)), (3, .fn (.func 37) [] [.ptr 2 0]), (4, .ptr 4 0), (5, .ptr 5 0), (11, .ptr 6 0), (2, .sl (G.map A3))]) (fun i => [.live (h.row.map .lf), .live (c.row.map .lf), .live [rT 7 4 (LL).length], .gho [.ptr 2 0] vs, .live (h.row.map .lf), .live (c.row.map .lf), .live [.i (Di h c G).num, .i (Di h c G).den], rB (L5 (LL)) (LL).length, .dead, .live [.s q.1, .s q.2], .live (pcC q a b (Bl h c G q.1) (Bl h c G q.2) i)]) 0 ⟨by omega, fun k => absurd k (by omega), fun k => absurd k (by omega)⟩ CW (.live rfl (.live rfl (.live (K7 7 4 _ _ (Nat.le_of_ble_eq_true rfl)) (.gho rfl (.live rfl (.live rfl (.live rfl (CovH.rB (Ag _ _) CG _)))))))) ?_
  rintro i ⟨hi, hi1, hi2⟩
  obtain rfl | rfl | rfl : i = 0 \/ i = 1 \/ i = 2 := by omega
  ·have z0 : ((0 : Nat) : Int) < 2 := by decide
   by_cases pe : Bk h c G q.1 = 0
   ·rw [show Kl h c G q.1 = Bl h c G q.1 from if_pos pe, pe] at p1
    repeat' (first
     | refine W ?_
     | refine Y ?_|(apply S.idxV;exact rfl;exact rfl;exact rfl;exact ⟨by decide, by decide⟩;exact rfl;exact rfl)|(apply S.idxAP;(iterate 4 exact rfl);exact ⟨by decide, by decide⟩;exact rfl)
     | refine V ?_
     | (refine W2 ?_ ?_ <;> intro hc))
    all_goals (first|(change Next _ _ _ _ _ _)|(trace_state;fail))
    all_goals exact Next.go 1 ⟨by omega, fun _ => pe, fun k => absurd k (by omega)⟩ (by omega) CW (.live rfl (.live rfl (.live (K7 7 4 _ _ (Nat.le_of_ble_eq_true rfl)) (.gho rfl (.live rfl (.live rfl (.live rfl (CovH.rB (Ag _ _) CG _))))))))
   ·rw [show Kl h c G q.1 = [] from if_neg pe] at p1
    rw [if_neg pe] at hct
    rw [hct] at hbd
    have hng : ¬ Dn h c G q := fun k => by
     unfold Dn at k
     rw [hct] at k
     exact k.elim pe (A0j h c G q.1)
    obtain ⟨b1, b2⟩ := hbd hng
    rw [b1, b2]
    dsimp only
    generalize Bk h c G q.1 = e at *
    repeat' (first
     | refine W ?_
     | refine Y ?_|(apply S.idxV;exact rfl;exact rfl;exact rfl;exact ⟨by decide, by decide⟩;exact rfl;exact rfl)|(apply S.idxAP;(iterate 4 exact rfl);exact ⟨by decide, by decide⟩;exact rfl)|(apply T.ret;(first | change Aw Tryz.prog Tryz.f36 _ _ _ _ _ _|(dsimp only [Ar, Bd];change Aw Tryz.prog Tryz.f36 _ _ _ _ _ _));refine ⟨.inr rfl, [_], .cons (.tmp rfl) .nil, rfl, ?_⟩;show Reg none _ _ _ _ _ _ _)|(refine T.nilU 6 rfl ?_;apply T.ret;change C6 _ _ _ _ _)
     | refine V ?_
     | (refine W2 ?_ ?_ <;> intro hc))
    all_goals exact D2 rfl rfl rfl
  ·have z0 : ((1 : Nat) : Int) < 2 := by decide
   have pe1 := hi1 (Nat.le_refl _)
   by_cases pe : Bk h c G q.2 = 0
   ·rw [show Kl h c G q.2 = Bl h c G q.2 from if_pos pe, pe] at p2
    repeat' (first
     | refine W ?_
     | refine Y ?_|(apply S.idxV;exact rfl;exact rfl;exact rfl;exact ⟨by decide, by decide⟩;exact rfl;exact rfl)|(apply S.idxAP;(iterate 4 exact rfl);exact ⟨by decide, by decide⟩;exact rfl)
     | refine V ?_
     | (refine W2 ?_ ?_ <;> intro hc))
    all_goals (first|(change Next _ _ _ _ _ _)|(trace_state;fail))
    all_goals exact Next.go 2 ⟨by omega, fun _ => pe1, fun _ => pe⟩ (by omega) CW (.live rfl (.live rfl (.live (K7 7 4 _ _ (Nat.le_of_ble_eq_true rfl)) (.gho rfl (.live rfl (.live rfl (.live rfl (CovH.rB (Ag _ _) CG _))))))))
   ·rw [show Kl h c G q.2 = [] from if_neg pe] at p2
    rw [if_pos pe1, if_neg pe] at hct
    rw [hct] at hbd
    have hng : ¬ Dn h c G q := fun k => by
     unfold Dn at k
     rw [hct] at k
     exact k.elim pe (A0j h c G q.2)
    obtain ⟨b1, b2⟩ := hbd hng
    rw [b1, b2]
    dsimp only
    generalize Bk h c G q.2 = e at *
    repeat' (first
     | refine W ?_
     | refine Y ?_|(apply S.idxV;exact rfl;exact rfl;exact rfl;exact ⟨by decide, by decide⟩;exact rfl;exact rfl)|(apply S.idxAP;(iterate 4 exact rfl);exact ⟨by decide, by decide⟩;exact rfl)|(apply T.ret;(first | change Aw Tryz.prog Tryz.f36 _ _ _ _ _ _|(dsimp only [Ar, Bd];change Aw Tryz.prog Tryz.f36 _ _ _ _ _ _));refine ⟨.inr rfl, [_], .cons (.tmp rfl) .nil, rfl, ?_⟩;show Reg none _ _ _ _ _ _ _)|(refine T.nilU 6 rfl ?_;apply T.ret;change C6 _ _ _ _ _)
     | refine V ?_
     | (refine W2 ?_ ?_ <;> intro hc))
    all_goals exact D2 rfl rfl rfl
  ·have z0 : ¬ ((2 : Nat) : Int) < 2 := by decide
   have pe1 := hi1 (by omega)
   have pe2 := hi2 (by omega)
   obtain ⟨ox, x0, nx⟩ := L0 p hsa pe1
   obtain ⟨oy, y0, ny⟩ := L0 p hsb pe2
   rw [if_pos pe1, if_pos pe2] at hct
   have ma := List.mem_of_getElem? ha
   have mb := List.mem_of_getElem? hbb
   have cf := A1p a b (Bl h c G q.1) (Bl h c G q.2) ⟨(hp.2.2.2.2.2.1 a ma).1, (hp.2.2.2.2.2.1 b mb).1, hf.2.2 a ma, hf.2.2 b mb, ox, oy, x0, y0, nx, ny⟩ (Di h c G) ft t0 t1
   unfold Dn at hgo2
   have hng : ¬ ((ctR h c G q).2.2 = 0 \/ (ctR h c G q).2.2 = 12) -> Mz h c G = [] /\ H5 h c G prs = (ctR h c G q).2.2 := hbd
   rw [hct] at hKy hKn hng hgo2
   generalize frT a b (Bl h c G q.1) (Bl h c G q.2) (Di h c G) = r at *
   obtain ⟨u, v, e⟩ := r
   dsimp only at *
   generalize Bl h c G q.1 = xa at *
   generalize Bl h c G q.2 = xb at *
   by_cases ez : e = 0
   ·subst ez
    have hK := hKy rfl
    have hcl := A1c LL
    have hsn := Zj LL ⟨q.1, q.2, u, v⟩
    have hln : (LL ++ [(⟨q.1, q.2, u, v⟩ : ConR)]).length = LL.length + 1 := by simp
    cases LL with
    | nil =>
     repeat' (first
      | refine W ?_
      | refine Y ?_|(apply S.idxAP;(iterate 4 exact rfl);exact ⟨by decide, by decide⟩;exact rfl)|(apply T.ret;(first | change Aw Tryz.prog Tryz.f36 _ _ _ _ _ _|(dsimp only [Ar, Bd];change Aw Tryz.prog Tryz.f36 _ _ _ _ _ _));refine ⟨.inr rfl, [_], .cons (.tmp rfl) .nil, rfl, ?_⟩;show Reg none _ _ _ _ _ _ _)|(apply T.ret;(first | change Aw Tryz.prog Tryz.f37 _ _ _ _ _ _|(dsimp only [Ar, Bd];change Aw Tryz.prog Tryz.f37 _ _ _ _ _ _));refine ⟨.inr rfl, [_], .cons (.tmp rfl) .nil, rfl, ?_⟩;show Reg none _ _ _ _ _ _ _)|(refine S.inline [(49, .i j), (48, .i (prs.map Ab).length), (47, .sl (prs.map Ab)), (3, .fn (.func 37) [] [.ptr 2 0]), (4, .ptr 4 0), (5, .ptr 5 0), (11, .ptr 6 0), (2, .sl (G.map A3))] Tryz.func37 Tryz.ntmps37 rfl rfl rfl rfl rfl rfl rfl CW rfl ?_;intro vs2;simp only [A2, List.cons_append, List.nil_append])|(apply S.buildSlice1;(iterate 7 exact rfl))|(apply S.appendN 7 (rows := []);(iterate 8 exact rfl);exact Ae rfl;exact rfl;exact Nat.le_of_ble_eq_true rfl;exact Nat.le_of_ble_eq_true rfl)
      | refine V ?_
      | (refine W2 ?_ ?_ <;> intro hc))
     all_goals (first|(change Next _ _ _ _ _ _)|(trace_state;fail))
     all_goals exact Next.go (j + 1) ⟨by omega, hgo2 (.inl rfl)⟩ (by omega) (by rw [hK, show (((j + 1 : Nat) : Int)) = (j : Int) + 1 by omega];exact CW) (by rw [hK];exact .live rfl (.live rfl (.live rfl (.gho rfl CG))))
    | cons l0 LL =>
     have hLl2 : LL.length + 1 <= 3600 := hLl
     repeat' (first
      | refine W ?_
      | refine Y ?_|(apply S.idxAP;(iterate 4 exact rfl);exact ⟨by decide, by decide⟩;exact rfl)|(apply T.ret;(first | change Aw Tryz.prog Tryz.f36 _ _ _ _ _ _|(dsimp only [Ar, Bd];change Aw Tryz.prog Tryz.f36 _ _ _ _ _ _));refine ⟨.inr rfl, [_], .cons (.tmp rfl) .nil, rfl, ?_⟩;show Reg none _ _ _ _ _ _ _)|(apply T.ret;(first | change Aw Tryz.prog Tryz.f37 _ _ _ _ _ _|(dsimp only [Ar, Bd];change Aw Tryz.prog Tryz.f37 _ _ _ _ _ _));refine ⟨.inr rfl, [_], .cons (.tmp rfl) .nil, rfl, ?_⟩;show Reg none _ _ _ _ _ _ _)|(refine S.inline [(49, .i j), (48, .i (prs.map Ab).length), (47, .sl (prs.map Ab)), (3, .fn (.func 37) [] [.ptr 2 0]), (4, .ptr 4 0), (5, .ptr 5 0), (11, .ptr 6 0), (2, .sl (G.map A3))] Tryz.func37 Tryz.ntmps37 rfl rfl rfl rfl rfl rfl rfl CW rfl ?_;intro vs2;simp only [A2, List.cons_append, List.nil_append])|(apply S.buildSlice1;(iterate 7 exact rfl))|(refine Reg.blur 2 0 8 rfl rfl rfl ?_;apply S.appendO;(iterate 8 exact rfl);exact hcl;exact Ae rfl;exact rfl;exact Ah _ _;simp only [List.length_cons, List.length_nil];omega;simp only [List.length_cons, List.length_nil];omega)
      | refine V ?_
      | (refine W2 ?_ ?_ <;> intro hc))
     all_goals (first|(change Next _ _ _ _ _ _)|(trace_state;fail))
     all_goals exact Next.go (j + 1) ⟨by omega, hgo2 (.inl rfl)⟩ (by omega) (by rw [hK, show (((j + 1 : Nat) : Int)) = (j : Int) + 1 by omega];exact CW) (by rw [hK, hsn, hln];exact .live rfl (.live rfl (.live rfl (.gho rfl (.live rfl (.live rfl (.live rfl (.live (by rw [<- List.map_append];exact Ag _ _) (.dead .nil)))))))))
   ·by_cases e12 : e = 12
    ·subst e12
     repeat' (first
      | refine W ?_
      | refine Y ?_|(apply S.idxAP;(iterate 4 exact rfl);exact ⟨by decide, by decide⟩;exact rfl)|(apply T.ret;(first | change Aw Tryz.prog Tryz.f36 _ _ _ _ _ _|(dsimp only [Ar, Bd];change Aw Tryz.prog Tryz.f36 _ _ _ _ _ _));refine ⟨.inr rfl, [_], .cons (.tmp rfl) .nil, rfl, ?_⟩;show Reg none _ _ _ _ _ _ _)|(apply T.ret;(first | change Aw Tryz.prog Tryz.f37 _ _ _ _ _ _|(dsimp only [Ar, Bd];change Aw Tryz.prog Tryz.f37 _ _ _ _ _ _));refine ⟨.inr rfl, [_], .cons (.tmp rfl) .nil, rfl, ?_⟩;show Reg none _ _ _ _ _ _ _)|(refine S.inline [(49, .i j), (48, .i (prs.map Ab).length), (47, .sl (prs.map Ab)), (3, .fn (.func 37) [] [.ptr 2 0]), (4, .ptr 4 0), (5, .ptr 5 0), (11, .ptr 6 0), (2, .sl (G.map A3))] Tryz.func37 Tryz.ntmps37 rfl rfl rfl rfl rfl rfl rfl CW rfl ?_;intro vs2;simp only [A2, List.cons_append, List.nil_append])
      | refine V ?_
      | (refine W2 ?_ ?_ <;> intro hc))
     all_goals (first|(change Next _ _ _ _ _ _)|(trace_state;fail))
     all_goals exact Next.go (j + 1) ⟨by omega, hgo2 (.inr rfl)⟩ (by omega) (by rw [hKn ez, show (((j + 1 : Nat) : Int)) = (j : Int) + 1 by omega];exact CW) (by rw [hKn ez];exact .live rfl (.live rfl (.live (K7 7 4 _ _ (Nat.le_of_ble_eq_true rfl)) (.gho rfl (.live rfl (.live rfl (.live rfl (CovH.rB (Ag _ _) (.dead .nil) _))))))))
    ·obtain ⟨b1, b2⟩ := hng fun k => k.elim ez e12
     rw [b1, b2]
     repeat' (first
      | refine W ?_
      | refine Y ?_|(apply S.idxAP;(iterate 4 exact rfl);exact ⟨by decide, by decide⟩;exact rfl)|(apply T.ret;(first | change Aw Tryz.prog Tryz.f36 _ _ _ _ _ _|(dsimp only [Ar, Bd];change Aw Tryz.prog Tryz.f36 _ _ _ _ _ _));refine ⟨.inr rfl, [_], .cons (.tmp rfl) .nil, rfl, ?_⟩;show Reg none _ _ _ _ _ _ _)|(apply T.ret;(first | change Aw Tryz.prog Tryz.f37 _ _ _ _ _ _|(dsimp only [Ar, Bd];change Aw Tryz.prog Tryz.f37 _ _ _ _ _ _));refine ⟨.inr rfl, [_], .cons (.tmp rfl) .nil, rfl, ?_⟩;show Reg none _ _ _ _ _ _ _)|(refine S.inline [(49, .i j), (48, .i (prs.map Ab).length), (47, .sl (prs.map Ab)), (3, .fn (.func 37) [] [.ptr 2 0]), (4, .ptr 4 0), (5, .ptr 5 0), (11, .ptr 6 0), (2, .sl (G.map A3))] Tryz.func37 Tryz.ntmps37 rfl rfl rfl rfl rfl rfl rfl CW rfl ?_;intro vs2;simp only [A2, List.cons_append, List.nil_append])|(refine T.nilU 6 rfl ?_;apply T.ret;change C6 _ _ _ _ _)
      | refine V ?_
      | (refine W2 ?_ ?_ <;> intro hc))
     all_goals exact D2 rfl rfl rfl
 ·have h1 : ¬ (j : Int) < ((prs.map Ab).length : Nat) := by omega
  rw [List.take_of_length_le (by omega)]
  have hall : ∀ q ∈ prs, Dn h c G q := fun q hq => by
   obtain ⟨i, hi⟩ := List.getElem?_of_mem hq
   exact hgo i (by have := (List.getElem?_eq_some_iff.1 hi).1;omega) q hi
  have e1 := L6 hall
  have e2 : Mz h c G = Cy h c G prs := by unfold Mz;rw [hprs, e1];exact if_pos rfl
  rw [e1, e2]
  generalize Cy h c G prs = LL at *
  refine T.sealH 2 0 7 (rows := LL.map ConR.row) (A0c _) (List.length_map _) rfl rfl rfl rfl ?_
  repeat' (first
   | refine W ?_
   | refine Y ?_|(apply T.ret;(first | change Aw Tryz.prog Tryz.f36 _ _ _ _ _ _|(dsimp only [Ar, Bd];change Aw Tryz.prog Tryz.f36 _ _ _ _ _ _));refine ⟨.inr rfl, [_], .cons (.tmp rfl) .nil, rfl, ?_⟩;show Reg none _ _ _ _ _ _ _)
   | refine V ?_
   | (refine W2 ?_ ?_ <;> intro hc))
  all_goals exact D2 rfl rfl rfl
theorem Uf (h : HouseR) (c : SheetR) (hf : h.fits) (hc : c.fits) (G : List Int) (hG : G.length <= 4611686018427387904) (e0 : ¬ alE h c G = 0) : Fn0 Tryz.prog 10 [A1 h.row, A1 c.row, .sl (G.map A3)] (.tup [.sl [], .i (alE h c G)]) := by
 have ce := Ot h c hf hc G hG e0
 generalize alE h c G = e at *
 refine Fn0.of Tryz.func10 Tryz.ntmps10 rfl rfl rfl ?_
 simp only [A2]
 repeat' (first
  | refine W ?_
  | refine Y ?_|(refine S.inline [(8, .ptr 2 0)] Tryz.func36 Tryz.ntmps36 rfl rfl rfl rfl rfl rfl rfl CW rfl ?_;intro vs;simp only [A2, List.cons_append, List.nil_append])|(apply T.ret;(first | change Aw Tryz.prog Tryz.f36 _ _ _ _ _ _|(dsimp only [Ar, Bd];change Aw Tryz.prog Tryz.f36 _ _ _ _ _ _));refine ⟨.inr rfl, [_], .cons (.tmp rfl) .nil, rfl, ?_⟩;show Reg none _ _ _ _ _ _ _)|(refine T.nilU 6 rfl ?_;apply T.ret;change C6 _ _ _ _ _)
  | refine V ?_
  | (refine W2 ?_ ?_ <;> intro hc))
 all_goals exact D2 rfl rfl rfl
open Classical in
noncomputable def ckE (h : HouseR) (c : SheetR) (G : List Int) : Int := if alE h c G = 0 then H5 h c G (Ba h) else alE h c G
open Classical in
noncomputable def ckL (h : HouseR) (c : SheetR) (G : List Int) : List ConR := if alE h c G = 0 then Mz h c G else []
theorem G4 (h : HouseR) (c : SheetR) (hf : h.fits) (hc : c.fits) (G : List Int) (hG : G.length <= 4611686018427387904) : Fn0 Tryz.prog 10 [A1 h.row, A1 c.row, .sl (G.map A3)] (.tup [.sl ((ckL h c G).map ConR.row), .i (ckE h c G)]) := by
 unfold ckL ckE
 by_cases e0 : alE h c G = 0
 ·rw [if_pos e0, if_pos e0];exact A2s h c hf hc G hG e0
 ·rw [if_neg e0, if_neg e0];exact Uf h c hf hc G hG e0
theorem A8x {h : HouseR} {c : SheetR} {G : List Int} (e : ¬ ckE h c G = 0) : ckL h c G = [] := by
 unfold ckE at e
 unfold ckL
 split at e
 ·rename_i e0
  rw [if_pos e0]
  unfold Mz
  exact if_neg e
 ·rename_i e0
  exact if_neg e0
theorem Pe {h : HouseR} {c : SheetR} {G : List Int} (e : ckE h c G = 0) : alE h c G = 0 /\ ckL h c G = Cy h c G (Ba h) := by
 unfold ckE at e
 split at e
 ·rename_i e0
  refine ⟨e0, ?_⟩
  unfold ckL Mz
  rw [if_pos e0, if_pos e]
 ·rename_i e0;exact absurd e e0
/-! ### Comparing -/
/-! ### The first contact -/
theorem A6y {h : HouseR} (hp : Bu h) : (Ba h).length <= 3600 := Nat.le_trans (Ml h.sets h.sets.length) (Nat.le_trans (Nat.mul_le_mul hp.2.2.2.1 hp.2.2.2.1) (by decide))
end Go.Proofs.YtocoehahhohpgaaGreat
