/- Contracts: show's Check. No conditions but those of each statement. -/
import Derived.Test.YtbceahipbdmocaaGreatPa
import Derived.Test.YtbceahipbdmocaaGreatPg
import Derived.Test.YtbceahipbdmocaaGreatPf
set_option linter.unusedSimpArgs false
set_option linter.unusedVariables false
namespace Go.Proofs.YtbceahipbdmocaaGreat
open Go Go.RowKit
abbrev Ca (h : HouseR) : List (ByteArray × ByteArray) := C6 h.sets h.sets.length
open Classical in
noncomputable def He (h : HouseR) (c : SheetR) (G : List Int) : List (ByteArray × ByteArray) -> Int
 | [] => 0
 | p :: r => if Dd h c G p then He h c G r else (ctR h c G p).2.2
theorem L8 {h : HouseR} {c : SheetR} {G : List Int} : ∀ {l : List (ByteArray × ByteArray)}, (∀ p ∈ l, Dd h c G p) -> He h c G l = 0
 | [], _ => rfl
 | p :: r, hg => by rw [He, if_pos (hg p (by simp))];exact L8 fun q hq => hg q (by simp [hq])
theorem Y9 {h : HouseR} {c : SheetR} {G : List Int} : ∀ {l : List (ByteArray × ByteArray)} {k : Nat} {p}, l[k]? = some p -> (∀ j, j < k -> ∀ q, l[j]? = some q -> Dd h c G q) -> ¬ Dd h c G p -> He h c G l = (ctR h c G p).2.2
 | [], k, p, hk, _, _ => by simp at hk
 | x :: r, 0, p, hk, _, hn => by
  obtain rfl : x = p := by simpa using hk
  rw [He, if_neg hn]
 | x :: r, k + 1, p, hk, hj, hn => by
  rw [He, if_pos (hj 0 (by omega) x rfl)]
  exact Y9 (k := k) (by simpa using hk) (fun j hjk q hq => hj (j + 1) (by omega) q (by simpa using hq)) hn
noncomputable def Mr (h : HouseR) (c : SheetR) (G : List Int) : List ConR := if He h c G (Ca h) = 0 then Ci h c G (Ca h) else []
theorem Vg {h : HouseR} {n : ByteArray} {s : SetR} (hs : s ∈ h.sets) (hn : s.name = n) : ¬ Aj h n < 0 := by
 have h1 : ¬ Aj h n = -1 := Ro ⟨s, hs, hn⟩
 have h2 : -1 <= Aj h n := Fp _ _
 omega
theorem A7i {h : HouseR} {p : ByteArray × ByteArray} (hm : p ∈ Ca h) : ¬ Aj h p.1 < 0 /\ ¬ Aj h p.2 < 0 := by
 obtain ⟨k, _, a, ha, hx⟩ := mem_prsK.1 hm
 obtain ⟨j, _, b, hb, _, rfl⟩ := mem_innN.1 hx
 exact ⟨Vg (List.mem_of_getElem? ha) rfl, Vg (List.mem_of_getElem? hb) rfl⟩
theorem A5f {h : HouseR} {c : SheetR} {G : List Int} (p : PlanOk h c G) {n : ByteArray} {s : SetR} (hs : Jx h n = some s) (he : D9 h c G n = 0) : okC (Cw h c G n) /\ Cw h c G n ≠ [] /\ (Cw h c G n).length <= 200 := by
 have hmem : s ∈ h.sets := List.mem_of_getElem? hs
 obtain ⟨⟨_, _, s1, s2, s3, _⟩, _⟩ := p.v.1.2.2.2.2.2.1 s hmem
 unfold D9 at he
 unfold Cw
 rw [hs] at he ⊢
 dsimp only at he ⊢
 split at he
 ·unfold Hl at he
  split at he
  ·cases he
  ·rename_i hb
   split at he
   ·cases he
   ·rename_i hl
    exact ⟨A0o (Ch (by omega) (by omega)) hb _ (Nat.le_refl _), Uu _ _ _ _ _ _, by omega⟩
 ·cases he
abbrev Lv (l : List ConR) : List AV := (l.map ConR.row).flatten.map .lf
theorem A10 (l : List ConR) : ∀ r ∈ l.map ConR.row, r.length = 4 := by
 intro r hr
 obtain ⟨n, _, rfl⟩ := List.mem_map.1 hr
 rfl
theorem A1p (l : List ConR) : (Lv l).length = l.length * 4 := by
 rw [List.length_map, B5 _ (A10 l), List.length_map]
theorem A0b (l : List ConR) (x : ConR) : Lv (l ++ [x]) = Lv l ++ ([x.row].flatten).map AV.lf := by simp [Lv]
abbrev A8a : List AV := [.s ⟨#[]⟩, .i 0, .i 0, .i 0, .i 0, .sl [], .i 0, .i 0, .i 0, .i 0, .i 0, .sl [], .sl []]
noncomputable def pcC (p : ByteArray × ByteArray) (a b : SetR) (x y : List PcQ) : Nat -> List AV
 | 0 => [.s p.1, .s p.2] ++ A8a ++ A8a ++ [.sl [], .sl []]
 | 1 => [.s p.1, .s p.2] ++ a.row.map .lf ++ A8a ++ [.sl (x.map PcQ.row), .sl []]
 | _ => [.s p.1, .s p.2] ++ a.row.map .lf ++ b.row.map .lf ++ [.sl (x.map PcQ.row), .sl (y.map PcQ.row)]
theorem A76 (h : HouseR) (c : SheetR) (G : List Int) (p : PlanOk h c G) : Fits (Gg h c G) /\ 0 <= Gg h c G /\ Gg h c G <= 1099511627776 := by
 have he := p.endI
 have hm := Gl (endI h c G)
 have h0 : (0 : Rat) <= (endI h c G : Rat) := Rat.intCast_nonneg.2 he.1
 have h1 : (endI h c G : Rat) <= ((259845521408 : Int) : Rat) := Rat.intCast_le_intCast.2 he.2
 rw [show ((259845521408 : Int) : Rat) = 259845521408 from rfl] at h1
 have hu : Gg h c G = mil (endI h c G) := rfl
 have hf : Fits (Aa (endI h c G) 1000) := Bn (by omega) (by omega) (by omega) (by omega)
 refine ⟨hf, ?_, ?_⟩
 ·rw [hu];grind
 ·rw [hu];grind
theorem Kn (b st n k : Nat) (h : b < n) : ([rT b st k] : List AV).all (AV.under n) = true := by rw [List.all_cons, Ri _ _ _ _ h];rfl
theorem A18 (h : HouseR) (c : SheetR) (G : List Int) (n : ByteArray) : ¬ D9 h c G n = 12 := by
 unfold D9
 split
 ·split
  ·unfold Hl
   split
   ·decide
   ·split <;> decide
  ·decide
 ·decide
set_option maxHeartbeats 64000000 in
theorem A39 (h : HouseR) (c : SheetR) (hf : h.fits) (hc : c.fits) (G : List Int) (hG : G.length <= 4611686018427387904) (e0 : alE h c G = 0) : Fn0 Tryz.prog 11 [A2 h.row, A2 c.row, .sl (G.map A3)] (.tup [.sl ((Mr h c G).map ConR.row), .i (He h c G (Ca h))]) := by
 have p := (Iu e0).1
 have hp := p.v.1
 have ce := Xq h c hf hc G hG e0
 obtain ⟨ft, t0, t1⟩ := A76 h c G p
 have he := p.endI
 have cm := Iz (endI h c G) 1000 (by decide) (by omega) (by omega) (by decide) (by decide) ft
 have cp := Uy h hf hp
 have hs60 := hp.2.2.2.1
 have hlen : (Ca h).length <= 3600 := Nat.le_trans (Mm h.sets h.sets.length) (Nat.le_trans (Nat.mul_le_mul hs60 hs60) (by decide))
 have hle : ((Ca h).map Ah).length = (Ca h).length := List.length_map _
 have hbad : ∀ k q, (Ca h)[k]? = some q -> (∀ j, j < k -> ∀ q, (Ca h)[j]? = some q -> Dd h c G q) -> ¬ Dd h c G q -> Mr h c G = [] /\ He h c G (Ca h) = (ctR h c G q).2.2 := fun k q hk hj hn => by
  have e := Y9 hk hj hn
  refine ⟨?_, e⟩
  unfold Mr
  rw [e]
  exact if_neg fun k => hn (.inl k)
 have hmemp : ∀ q ∈ Ca h, ¬ Aj h q.1 < 0 /\ ¬ Aj h q.2 < 0 := fun q hq => A7i hq
 change Fn0 _ _ _ (.tup [_, .i 0]) at cm
 change Fn0 _ _ _ (.tup [.sl ((Ca h).map Ah), .i 0]) at cp
 generalize hprs : Ca h = prs at *
 have hT : Gg h c G = Aa (endI h c G) 1000 := rfl
 rw [<- hT] at cm
 refine Fn0.of Tryz.func11 Tryz.ntmps11 rfl rfl rfl ?_
 simp only [A1]
 repeat' (first
  | refine W ?_
  | refine Y ?_|(refine S.inline [(8, .ptr 2 0)] Tryz.func39 Tryz.ntmps39 rfl rfl rfl rfl rfl rfl rfl CW rfl ?_;intro vs;simp only [A1, List.cons_append, List.nil_append])
  | refine V ?_
  | (refine W2 ?_ ?_ <;> intro hc))
 refine T.kill 7 ?_
 refine T.kill 8 ?_
 refine T.loopS (fun j => j <= prs.length /\ ∀ i, i < j -> ∀ q, prs[i]? = some q -> Dd h c G q) (fun j => prs.length - j) (fun j => [(49, .i j), (48, .i (prs.map Ah).length), (47, .sl (prs.map Ah)), (3, .fn (.func 40) [] [.ptr 2 0]), (4, .ptr 4 0), (5, .ptr 5 0), (11, .ptr 6 0), (2, .sl (G.map A3))]) (fun j => [.live (h.row.map .lf), .live (c.row.map .lf), .live [rT 7 4 (Ci h c G (prs.take j)).length], .gho [.ptr 2 0] vs, .live (h.row.map .lf), .live (c.row.map .lf), .live [.i (Gg h c G).num, .i (Gg h c G).den], rB (Lv (Ci h c G (prs.take j))) (Ci h c G (prs.take j)).length, .dead]) 0 ⟨Nat.zero_le _, by intro i hi;omega⟩ CW (.live rfl (.live rfl (.live rfl (.gho rfl CG)))) ?_
 rintro j ⟨hj, hgo⟩
 by_cases hlt : j < prs.length
 ·have h1 : (j : Int) < ((prs.map Ah).length : Nat) := by omega
  obtain ⟨q, hq⟩ := Ab hlt
  have hb := Ac (R := Ah) hq
  obtain ⟨n1, n2⟩ := hmemp q (List.mem_of_getElem? hq)
  obtain ⟨a, ha⟩ : ∃ a, h.sets[(Aj h q.1).toNat]? = some a := Pw n1
  obtain ⟨b, hbb⟩ : ∃ b, h.sets[(Aj h q.2).toNat]? = some b := Pw n2
  have hsa : Jx h q.1 = some a := ha
  have hsb : Jx h q.2 = some b := hbb
  have rha : (h.sets.map SetR.row)[(Aj h q.1).toNat]? = some a.row := Ld ha
  have rhb : (h.sets.map SetR.row)[(Aj h q.2).toNat]? = some b.row := Ld hbb
  have f1 := Sh h hf hp q.1 n1
  have f2 := Sh h hf hp q.2 n2
  have p1 := Zb h c hf hc G hG e0 q.1 n1
  have p2 := Zb h c hf hc G hG e0 q.2 n2
  have hct : ctR h c G q = if D9 h c G q.1 = 0 then (if D9 h c G q.2 = 0 then frT a b (Cw h c G q.1) (Cw h c G q.2) (Gg h c G) else (0, 0, D9 h c G q.2)) else (0, 0, D9 h c G q.1) := by unfold ctR;rw [hsa, hsb]
  have hbd := hbad j q hq hgo
  have htk : prs.take (j + 1) = prs.take j ++ [q] := by rw [List.take_add_one, hq];rfl
  have hKy : (ctR h c G q).2.2 = 0 -> Ci h c G (prs.take (j + 1)) = Ci h c G (prs.take j) ++ [⟨q.1, q.2, (ctR h c G q).1, (ctR h c G q).2.1⟩] := fun e => by rw [htk];exact A85 e
  have hKn : ¬ (ctR h c G q).2.2 = 0 -> Ci h c G (prs.take (j + 1)) = Ci h c G (prs.take j) := fun e => by rw [htk];exact A9m e
  have hLl : (Ci h c G (prs.take j)).length <= 3600 := Nat.le_trans (Y2 _ _ _ _) (by rw [List.length_take];omega)
  have hgo2 : Dd h c G q -> ∀ i, i < j + 1 -> ∀ q, prs[i]? = some q -> Dd h c G q := fun g i hi q' hq' => by
   by_cases e : i = j
   ·subst e
    rw [hq] at hq'
    injection hq' with hq'
    subst hq'
    exact g
   ·exact hgo i (by omega) q' hq'
  generalize Aj h q.1 = i1 at *
  generalize Aj h q.2 = i2 at *
  generalize Ci h c G (prs.take j) = LL at *
  repeat' (first
   | refine W ?_
   | refine Y ?_
   | refine V ?_
   | (refine W2 ?_ ?_ <;> intro hc))
  refine T.loopS (fun i => i <= 2 /\ (1 <= i -> D9 h c G q.1 = 0) /\ (2 <= i -> D9 h c G q.2 = 0)) (fun i => 2 - i) (fun i => [(56, .i i), (55, .agg [.s q.1, .s q.2]), (14, .ptr 9 0), (15, .ptr 10 0), (49, .i j), (48, .i (prs.map Ah).length), (47, .sl (prs.map Ah)), (3, .fn (.func 40) [] [.ptr 2 0]), (4, .ptr 4 0), (5, .ptr 5 0), (11, .ptr 6 0), (2, .sl (G.map A3))]) (fun i => [.live (h.row.map .lf), .live (c.row.map .lf), .live [rT 7 4 (LL).length], .gho [.ptr 2 0] vs, .live (h.row.map .lf), .live (c.row.map .lf), .live [.i (Gg h c G).num, .i (Gg h c G).den], rB (Lv (LL)) (LL).length, .dead, .live [.s q.1, .s q.2], .live (pcC q a b (Cw h c G q.1) (Cw h c G q.2) i)]) 0 ⟨by omega, fun k => absurd k (by omega), fun k => absurd k (by omega)⟩ CW (.live rfl (.live rfl (.live (Kn 7 4 _ _ (Nat.le_of_ble_eq_true rfl)) (.gho rfl (.live rfl (.live rfl (.live rfl (CovH.rB (Ak _ _) CG _)))))))) ?_
  rintro i ⟨hi, hi1, hi2⟩
  obtain rfl | rfl | rfl : i = 0 \/ i = 1 \/ i = 2 := by omega
  ·have z0 : ((0 : Nat) : Int) < 2 := by decide
   by_cases pe : D9 h c G q.1 = 0
   ·rw [show U8 h c G q.1 = Cw h c G q.1 from if_pos pe, pe] at p1
    repeat' (first
     | refine W ?_
     | refine Y ?_|(apply S.idxV;exact rfl;exact rfl;exact rfl;exact ⟨by decide, by decide⟩;exact rfl;exact rfl)|(apply S.idxAP;(iterate 4 exact rfl);exact ⟨by decide, by decide⟩;exact rfl)
     | refine V ?_
     | (refine W2 ?_ ?_ <;> intro hc))
    all_goals (first|(change Next _ _ _ _ _ _)|(trace_state;fail))
    all_goals exact Next.go 1 ⟨by omega, fun _ => pe, fun k => absurd k (by omega)⟩ (by omega) CW (.live rfl (.live rfl (.live (Kn 7 4 _ _ (Nat.le_of_ble_eq_true rfl)) (.gho rfl (.live rfl (.live rfl (.live rfl (CovH.rB (Ak _ _) CG _))))))))
   ·rw [show U8 h c G q.1 = [] from if_neg pe] at p1
    rw [if_neg pe] at hct
    rw [hct] at hbd
    have hng : ¬ Dd h c G q := fun k => by
     unfold Dd at k
     rw [hct] at k
     exact k.elim pe (A18 h c G q.1)
    obtain ⟨b1, b2⟩ := hbd hng
    rw [b1, b2]
    dsimp only
    generalize D9 h c G q.1 = e at *
    repeat' (first
     | refine W ?_
     | refine Y ?_|(apply S.idxV;exact rfl;exact rfl;exact rfl;exact ⟨by decide, by decide⟩;exact rfl;exact rfl)|(apply S.idxAP;(iterate 4 exact rfl);exact ⟨by decide, by decide⟩;exact rfl)|(apply T.ret;(first | change Cq Tryz.prog Tryz.f39 _ _ _ _ _ _|(dsimp only [Bx, Cs];change Cq Tryz.prog Tryz.f39 _ _ _ _ _ _));refine ⟨.inr rfl, [_], .cons (.tmp rfl) .nil, rfl, ?_⟩;show Reg none _ _ _ _ _ _ _)|(refine T.nilU 6 rfl ?_;apply T.ret;change C2 _ _ _ _ _)
     | refine V ?_
     | (refine W2 ?_ ?_ <;> intro hc))
    all_goals exact D2 rfl rfl rfl
  ·have z0 : ((1 : Nat) : Int) < 2 := by decide
   have pe1 := hi1 (Nat.le_refl _)
   by_cases pe : D9 h c G q.2 = 0
   ·rw [show U8 h c G q.2 = Cw h c G q.2 from if_pos pe, pe] at p2
    repeat' (first
     | refine W ?_
     | refine Y ?_|(apply S.idxV;exact rfl;exact rfl;exact rfl;exact ⟨by decide, by decide⟩;exact rfl;exact rfl)|(apply S.idxAP;(iterate 4 exact rfl);exact ⟨by decide, by decide⟩;exact rfl)
     | refine V ?_
     | (refine W2 ?_ ?_ <;> intro hc))
    all_goals (first|(change Next _ _ _ _ _ _)|(trace_state;fail))
    all_goals exact Next.go 2 ⟨by omega, fun _ => pe1, fun _ => pe⟩ (by omega) CW (.live rfl (.live rfl (.live (Kn 7 4 _ _ (Nat.le_of_ble_eq_true rfl)) (.gho rfl (.live rfl (.live rfl (.live rfl (CovH.rB (Ak _ _) CG _))))))))
   ·rw [show U8 h c G q.2 = [] from if_neg pe] at p2
    rw [if_pos pe1, if_neg pe] at hct
    rw [hct] at hbd
    have hng : ¬ Dd h c G q := fun k => by
     unfold Dd at k
     rw [hct] at k
     exact k.elim pe (A18 h c G q.2)
    obtain ⟨b1, b2⟩ := hbd hng
    rw [b1, b2]
    dsimp only
    generalize D9 h c G q.2 = e at *
    repeat' (first
     | refine W ?_
     | refine Y ?_|(apply S.idxV;exact rfl;exact rfl;exact rfl;exact ⟨by decide, by decide⟩;exact rfl;exact rfl)|(apply S.idxAP;(iterate 4 exact rfl);exact ⟨by decide, by decide⟩;exact rfl)|(apply T.ret;(first | change Cq Tryz.prog Tryz.f39 _ _ _ _ _ _|(dsimp only [Bx, Cs];change Cq Tryz.prog Tryz.f39 _ _ _ _ _ _));refine ⟨.inr rfl, [_], .cons (.tmp rfl) .nil, rfl, ?_⟩;show Reg none _ _ _ _ _ _ _)|(refine T.nilU 6 rfl ?_;apply T.ret;change C2 _ _ _ _ _)
     | refine V ?_
     | (refine W2 ?_ ?_ <;> intro hc))
    all_goals exact D2 rfl rfl rfl
  ·have z0 : ¬ ((2 : Nat) : Int) < 2 := by decide
   have pe1 := hi1 (by omega)
   have pe2 := hi2 (by omega)
   obtain ⟨ox, x0, nx⟩ := A5f p hsa pe1
   obtain ⟨oy, y0, ny⟩ := A5f p hsb pe2
   rw [if_pos pe1, if_pos pe2] at hct
   have ma := List.mem_of_getElem? ha
   have mb := List.mem_of_getElem? hbb
   have cf := A3b a b (Cw h c G q.1) (Cw h c G q.2) ⟨(hp.2.2.2.2.2.1 a ma).1, (hp.2.2.2.2.2.1 b mb).1, hf.2.2 a ma, hf.2.2 b mb, ox, oy, x0, y0, nx, ny⟩ (Gg h c G) ft t0 t1
   unfold Dd at hgo2
   have hng : ¬ ((ctR h c G q).2.2 = 0 \/ (ctR h c G q).2.2 = 12) -> Mr h c G = [] /\ He h c G prs = (ctR h c G q).2.2 := hbd
   rw [hct] at hKy hKn hng hgo2
   generalize frT a b (Cw h c G q.1) (Cw h c G q.2) (Gg h c G) = r at *
   obtain ⟨u, v, e⟩ := r
   dsimp only at *
   generalize Cw h c G q.1 = xa at *
   generalize Cw h c G q.2 = xb at *
   by_cases ez : e = 0
   ·subst ez
    have hK := hKy rfl
    have hcl := A1p LL
    have hsn := A0b LL ⟨q.1, q.2, u, v⟩
    have hln : (LL ++ [(⟨q.1, q.2, u, v⟩ : ConR)]).length = LL.length + 1 := by simp
    cases LL with
    | nil =>
     repeat' (first
      | refine W ?_
      | refine Y ?_|(apply S.idxAP;(iterate 4 exact rfl);exact ⟨by decide, by decide⟩;exact rfl)|(apply T.ret;(first | change Cq Tryz.prog Tryz.f39 _ _ _ _ _ _|(dsimp only [Bx, Cs];change Cq Tryz.prog Tryz.f39 _ _ _ _ _ _));refine ⟨.inr rfl, [_], .cons (.tmp rfl) .nil, rfl, ?_⟩;show Reg none _ _ _ _ _ _ _)|(apply T.ret;(first | change Cq Tryz.prog Tryz.f40 _ _ _ _ _ _|(dsimp only [Bx, Cs];change Cq Tryz.prog Tryz.f40 _ _ _ _ _ _));refine ⟨.inr rfl, [_], .cons (.tmp rfl) .nil, rfl, ?_⟩;show Reg none _ _ _ _ _ _ _)|(refine S.inline [(49, .i j), (48, .i (prs.map Ah).length), (47, .sl (prs.map Ah)), (3, .fn (.func 40) [] [.ptr 2 0]), (4, .ptr 4 0), (5, .ptr 5 0), (11, .ptr 6 0), (2, .sl (G.map A3))] Tryz.func40 Tryz.ntmps40 rfl rfl rfl rfl rfl rfl rfl CW rfl ?_;intro vs2;simp only [A1, List.cons_append, List.nil_append])|(apply S.buildSlice1;(iterate 7 exact rfl))|(apply S.appendN 7 (rows := []);(iterate 8 exact rfl);exact Ai rfl;exact rfl;exact Nat.le_of_ble_eq_true rfl;exact Nat.le_of_ble_eq_true rfl)
      | refine V ?_
      | (refine W2 ?_ ?_ <;> intro hc))
     all_goals (first|(change Next _ _ _ _ _ _)|(trace_state;fail))
     all_goals exact Next.go (j + 1) ⟨by omega, hgo2 (.inl rfl)⟩ (by omega) (by rw [hK, show (((j + 1 : Nat) : Int)) = (j : Int) + 1 by omega];exact CW) (by rw [hK];exact .live rfl (.live rfl (.live rfl (.gho rfl CG))))
    | cons l0 LL =>
     have hLl2 : LL.length + 1 <= 3600 := hLl
     repeat' (first
      | refine W ?_
      | refine Y ?_|(apply S.idxAP;(iterate 4 exact rfl);exact ⟨by decide, by decide⟩;exact rfl)|(apply T.ret;(first | change Cq Tryz.prog Tryz.f39 _ _ _ _ _ _|(dsimp only [Bx, Cs];change Cq Tryz.prog Tryz.f39 _ _ _ _ _ _));refine ⟨.inr rfl, [_], .cons (.tmp rfl) .nil, rfl, ?_⟩;show Reg none _ _ _ _ _ _ _)|(apply T.ret;(first | change Cq Tryz.prog Tryz.f40 _ _ _ _ _ _|(dsimp only [Bx, Cs];change Cq Tryz.prog Tryz.f40 _ _ _ _ _ _));refine ⟨.inr rfl, [_], .cons (.tmp rfl) .nil, rfl, ?_⟩;show Reg none _ _ _ _ _ _ _)|(refine S.inline [(49, .i j), (48, .i (prs.map Ah).length), (47, .sl (prs.map Ah)), (3, .fn (.func 40) [] [.ptr 2 0]), (4, .ptr 4 0), (5, .ptr 5 0), (11, .ptr 6 0), (2, .sl (G.map A3))] Tryz.func40 Tryz.ntmps40 rfl rfl rfl rfl rfl rfl rfl CW rfl ?_;intro vs2;simp only [A1, List.cons_append, List.nil_append])|(apply S.buildSlice1;(iterate 7 exact rfl))|(refine Reg.blur 2 0 8 rfl rfl rfl ?_;apply S.appendO;(iterate 8 exact rfl);exact hcl;exact Ai rfl;exact rfl;exact Aw _ _;simp only [List.length_cons, List.length_nil];omega;simp only [List.length_cons, List.length_nil];omega)
      | refine V ?_
      | (refine W2 ?_ ?_ <;> intro hc))
     all_goals (first|(change Next _ _ _ _ _ _)|(trace_state;fail))
     all_goals exact Next.go (j + 1) ⟨by omega, hgo2 (.inl rfl)⟩ (by omega) (by rw [hK, show (((j + 1 : Nat) : Int)) = (j : Int) + 1 by omega];exact CW) (by rw [hK, hsn, hln];exact .live rfl (.live rfl (.live rfl (.gho rfl (.live rfl (.live rfl (.live rfl (.live (by rw [<- List.map_append];exact Ak _ _) (.dead .nil)))))))))
   ·by_cases e12 : e = 12
    ·subst e12
     repeat' (first
      | refine W ?_
      | refine Y ?_|(apply S.idxAP;(iterate 4 exact rfl);exact ⟨by decide, by decide⟩;exact rfl)|(apply T.ret;(first | change Cq Tryz.prog Tryz.f39 _ _ _ _ _ _|(dsimp only [Bx, Cs];change Cq Tryz.prog Tryz.f39 _ _ _ _ _ _));refine ⟨.inr rfl, [_], .cons (.tmp rfl) .nil, rfl, ?_⟩;show Reg none _ _ _ _ _ _ _)|(apply T.ret;(first | change Cq Tryz.prog Tryz.f40 _ _ _ _ _ _|(dsimp only [Bx, Cs];change Cq Tryz.prog Tryz.f40 _ _ _ _ _ _));refine ⟨.inr rfl, [_], .cons (.tmp rfl) .nil, rfl, ?_⟩;show Reg none _ _ _ _ _ _ _)|(refine S.inline [(49, .i j), (48, .i (prs.map Ah).length), (47, .sl (prs.map Ah)), (3, .fn (.func 40) [] [.ptr 2 0]), (4, .ptr 4 0), (5, .ptr 5 0), (11, .ptr 6 0), (2, .sl (G.map A3))] Tryz.func40 Tryz.ntmps40 rfl rfl rfl rfl rfl rfl rfl CW rfl ?_;intro vs2;simp only [A1, List.cons_append, List.nil_append])
      | refine V ?_
      | (refine W2 ?_ ?_ <;> intro hc))
     all_goals (first|(change Next _ _ _ _ _ _)|(trace_state;fail))
     all_goals exact Next.go (j + 1) ⟨by omega, hgo2 (.inr rfl)⟩ (by omega) (by rw [hKn ez, show (((j + 1 : Nat) : Int)) = (j : Int) + 1 by omega];exact CW) (by rw [hKn ez];exact .live rfl (.live rfl (.live (Kn 7 4 _ _ (Nat.le_of_ble_eq_true rfl)) (.gho rfl (.live rfl (.live rfl (.live rfl (CovH.rB (Ak _ _) (.dead .nil) _))))))))
    ·obtain ⟨b1, b2⟩ := hng fun k => k.elim ez e12
     rw [b1, b2]
     repeat' (first
      | refine W ?_
      | refine Y ?_|(apply S.idxAP;(iterate 4 exact rfl);exact ⟨by decide, by decide⟩;exact rfl)|(apply T.ret;(first | change Cq Tryz.prog Tryz.f39 _ _ _ _ _ _|(dsimp only [Bx, Cs];change Cq Tryz.prog Tryz.f39 _ _ _ _ _ _));refine ⟨.inr rfl, [_], .cons (.tmp rfl) .nil, rfl, ?_⟩;show Reg none _ _ _ _ _ _ _)|(apply T.ret;(first | change Cq Tryz.prog Tryz.f40 _ _ _ _ _ _|(dsimp only [Bx, Cs];change Cq Tryz.prog Tryz.f40 _ _ _ _ _ _));refine ⟨.inr rfl, [_], .cons (.tmp rfl) .nil, rfl, ?_⟩;show Reg none _ _ _ _ _ _ _)|(refine S.inline [(49, .i j), (48, .i (prs.map Ah).length), (47, .sl (prs.map Ah)), (3, .fn (.func 40) [] [.ptr 2 0]), (4, .ptr 4 0), (5, .ptr 5 0), (11, .ptr 6 0), (2, .sl (G.map A3))] Tryz.func40 Tryz.ntmps40 rfl rfl rfl rfl rfl rfl rfl CW rfl ?_;intro vs2;simp only [A1, List.cons_append, List.nil_append])|(refine T.nilU 6 rfl ?_;apply T.ret;change C2 _ _ _ _ _)
      | refine V ?_
      | (refine W2 ?_ ?_ <;> intro hc))
     all_goals exact D2 rfl rfl rfl
 ·have h1 : ¬ (j : Int) < ((prs.map Ah).length : Nat) := by omega
  rw [List.take_of_length_le (by omega)]
  have hall : ∀ q ∈ prs, Dd h c G q := fun q hq => by
   obtain ⟨i, hi⟩ := List.getElem?_of_mem hq
   exact hgo i (by have := (List.getElem?_eq_some_iff.1 hi).1;omega) q hi
  have e1 := L8 hall
  have e2 : Mr h c G = Ci h c G prs := by unfold Mr;rw [hprs, e1];exact if_pos rfl
  rw [e1, e2]
  generalize Ci h c G prs = LL at *
  refine T.sealH 2 0 7 (rows := LL.map ConR.row) (A10 _) (List.length_map _) rfl rfl rfl rfl ?_
  repeat' (first
   | refine W ?_
   | refine Y ?_|(apply T.ret;(first | change Cq Tryz.prog Tryz.f39 _ _ _ _ _ _|(dsimp only [Bx, Cs];change Cq Tryz.prog Tryz.f39 _ _ _ _ _ _));refine ⟨.inr rfl, [_], .cons (.tmp rfl) .nil, rfl, ?_⟩;show Reg none _ _ _ _ _ _ _)
   | refine V ?_
   | (refine W2 ?_ ?_ <;> intro hc))
  all_goals exact D2 rfl rfl rfl
theorem U3 (h : HouseR) (c : SheetR) (hf : h.fits) (hc : c.fits) (G : List Int) (hG : G.length <= 4611686018427387904) (e0 : ¬ alE h c G = 0) : Fn0 Tryz.prog 11 [A2 h.row, A2 c.row, .sl (G.map A3)] (.tup [.sl [], .i (alE h c G)]) := by
 have ce := Z7 h c hf hc G hG e0
 generalize alE h c G = e at *
 refine Fn0.of Tryz.func11 Tryz.ntmps11 rfl rfl rfl ?_
 simp only [A1]
 repeat' (first
  | refine W ?_
  | refine Y ?_|(refine S.inline [(8, .ptr 2 0)] Tryz.func39 Tryz.ntmps39 rfl rfl rfl rfl rfl rfl rfl CW rfl ?_;intro vs;simp only [A1, List.cons_append, List.nil_append])|(apply T.ret;(first | change Cq Tryz.prog Tryz.f39 _ _ _ _ _ _|(dsimp only [Bx, Cs];change Cq Tryz.prog Tryz.f39 _ _ _ _ _ _));refine ⟨.inr rfl, [_], .cons (.tmp rfl) .nil, rfl, ?_⟩;show Reg none _ _ _ _ _ _ _)|(refine T.nilU 6 rfl ?_;apply T.ret;change C2 _ _ _ _ _)
  | refine V ?_
  | (refine W2 ?_ ?_ <;> intro hc))
 all_goals exact D2 rfl rfl rfl
open Classical in
noncomputable def ckE (h : HouseR) (c : SheetR) (G : List Int) : Int := if alE h c G = 0 then He h c G (Ca h) else alE h c G
open Classical in
noncomputable def ckL (h : HouseR) (c : SheetR) (G : List Int) : List ConR := if alE h c G = 0 then Mr h c G else []
theorem I3 (h : HouseR) (c : SheetR) (hf : h.fits) (hc : c.fits) (G : List Int) (hG : G.length <= 4611686018427387904) : Fn0 Tryz.prog 11 [A2 h.row, A2 c.row, .sl (G.map A3)] (.tup [.sl ((ckL h c G).map ConR.row), .i (ckE h c G)]) := by
 unfold ckL ckE
 by_cases e0 : alE h c G = 0
 ·rw [if_pos e0, if_pos e0];exact A39 h c hf hc G hG e0
 ·rw [if_neg e0, if_neg e0];exact U3 h c hf hc G hG e0
theorem U5 {h : HouseR} {c : SheetR} {G : List Int} (e : ¬ ckE h c G = 0) : ckL h c G = [] := by
 unfold ckE at e
 unfold ckL
 split at e
 ·rename_i e0
  rw [if_pos e0]
  unfold Mr
  exact if_neg e
 ·rename_i e0
  exact if_neg e0
theorem To {h : HouseR} {c : SheetR} {G : List Int} (e : ckE h c G = 0) : alE h c G = 0 /\ ckL h c G = Ci h c G (Ca h) := by
 unfold ckE at e
 split at e
 ·rename_i e0
  refine ⟨e0, ?_⟩
  unfold ckL Mr
  rw [if_pos e0, if_pos e]
 ·rename_i e0;exact absurd e e0
/-! ### Comparing -/
def Ju (a b : Int) : Int := if a < b then -1 else if a > b then 1 else 0
theorem Vm (n : Int) : Fn0 Tryz.prog 111 [.i n] (.b false) := by
 have hn : ¬ ¬ n = n := fun k => k rfl
 refine Fn0.of Tryz.func111 Tryz.ntmps111 rfl rfl rfl ?_
 simp only [A1]
 repeat' (first
  | refine W ?_
  | refine Y ?_
  | refine V ?_
  | (refine W2 ?_ ?_ <;> intro hc))
 all_goals exact A8 (by simp) Tryz.results111 rfl (congrArg Value.bool (decide_eq_false hn))
theorem Qv (a b : Int) : Fn0 Tryz.prog 59 [.i a, .i b] (.i (Ju a b)) := by
 have c1 := Vm a
 have c2 := Vm b
 unfold Ju
 by_cases h1 : a < b
 ·rw [if_pos h1]
  refine Fn0.of Tryz.func59 Tryz.ntmps59 rfl rfl rfl ?_
  simp only [A1]
  repeat' (first
   | refine W ?_
   | refine Y ?_
   | refine V ?_
   | (refine W2 ?_ ?_ <;> intro hc))
  all_goals exact A8 (by simp) Tryz.results59 rfl (by rfl)
 ·rw [if_neg h1]
  by_cases h2 : a > b
  ·rw [if_pos h2]
   refine Fn0.of Tryz.func59 Tryz.ntmps59 rfl rfl rfl ?_
   simp only [A1]
   repeat' (first
    | refine W ?_
    | refine Y ?_
    | refine V ?_
    | (refine W2 ?_ ?_ <;> intro hc))
   all_goals exact A8 (by simp) Tryz.results59 rfl (by rfl)
  ·rw [if_neg h2]
   refine Fn0.of Tryz.func59 Tryz.ntmps59 rfl rfl rfl ?_
   simp only [A1]
   repeat' (first
    | refine W ?_
    | refine Y ?_
    | refine V ?_
    | (refine W2 ?_ ?_ <;> intro hc))
   all_goals exact A8 (by simp) Tryz.results59 rfl (by rfl)
def orI (a b : Int) : Int := if a = 0 then b else a
theorem Abu (a b : Int) : Fn0 Tryz.prog 58 [.sl [[.i a], [.i b]]] (.i (orI a b)) := by
 have hl : [A3 a, A3 b].length = 2 := rfl
 refine Fn0.of Tryz.func58 Tryz.ntmps58 rfl rfl rfl ?_
 simp only [A1]
 repeat' (first
  | refine W ?_
  | refine Y ?_
  | refine V ?_
  | (refine W2 ?_ ?_ <;> intro hc))
 refine T.loopS (fun k => k <= 2 /\ (1 <= k -> a = 0) /\ (2 <= k -> b = 0)) (fun k => 2 - k) (fun k => [(8, .i k), (7, .i 2), (6, .sl [[.i a], [.i b]]), (3, .i 0)]) (fun _ => []) 0 ⟨by omega, fun k => absurd k (by omega), fun k => absurd k (by omega)⟩ CW .nil ?_
 rintro k ⟨hk, hk1, hk2⟩
 obtain rfl | rfl | rfl : k = 0 \/ k = 1 \/ k = 2 := by omega
 ·have z0 : ((0 : Nat) : Int) < 2 := by decide
  have hb : [[Lf.i a], [Lf.i b]][((0 : Nat) : Int).toNat]? = some [.i a] := rfl
  unfold orI
  by_cases ha : a = 0
  ·have ha2 : ¬ ¬ a = 0 := fun k => k ha
   repeat' (first
    | refine W ?_
    | refine Y ?_
    | refine V ?_
    | (refine W2 ?_ ?_ <;> intro hc))
   change Next _ _ _ _ _ _
   exact Next.go 1 ⟨by omega, fun _ => ha, fun k => absurd k (by omega)⟩ (by omega) CW .nil
  ·rw [if_neg ha]
   repeat' (first
    | refine W ?_
    | refine Y ?_
    | refine V ?_
    | (refine W2 ?_ ?_ <;> intro hc))
   all_goals exact A8 (by simp) Tryz.results58 rfl (by rfl)
 ·have z0 : ((1 : Nat) : Int) < 2 := by decide
  have hb : [[Lf.i a], [Lf.i b]][((1 : Nat) : Int).toNat]? = some [.i b] := rfl
  unfold orI
  rw [if_pos (hk1 (Nat.le_refl _))]
  by_cases hb0 : b = 0
  ·have ha2 : ¬ ¬ b = 0 := fun k => k hb0
   repeat' (first
    | refine W ?_
    | refine Y ?_
    | refine V ?_
    | (refine W2 ?_ ?_ <;> intro hc))
   change Next _ _ _ _ _ _
   exact Next.go 2 ⟨by omega, fun _ => hk1 (Nat.le_refl _), fun _ => hb0⟩ (by omega) CW .nil
  ·repeat' (first
   | refine W ?_
   | refine Y ?_
   | refine V ?_
   | (refine W2 ?_ ?_ <;> intro hc))
   all_goals exact A8 (by simp) Tryz.results58 rfl (by rfl)
 ·have z0 : ¬ ((2 : Nat) : Int) < 2 := by decide
  unfold orI
  rw [if_pos (hk1 (by omega)), hk2 (by omega)]
  repeat' (first
   | refine W ?_
   | refine Y ?_
   | refine V ?_
   | (refine W2 ?_ ?_ <;> intro hc))
  all_goals exact A8 (by simp) Tryz.results58 rfl (by rfl)
theorem Abv (x m : ConR) : orI (Ju x.lo m.lo) (Ju x.hi m.hi) < 0 ↔ ltC x m := by
 unfold orI Ju ltC
 split <;> split at * <;> (try split) <;> (try split at *) <;> omega
theorem A4j (x m : ConR) : Fn0 Tryz.prog 57 [A2 x.row, A2 m.row] (.i (orI (Ju x.lo m.lo) (Ju x.hi m.hi))) := by
 have c1 := Qv x.lo m.lo
 have c2 := Qv x.hi m.hi
 generalize Ju x.lo m.lo = u at *
 generalize Ju x.hi m.hi = v at *
 have c3 := Abu u v
 refine Fn0.of Tryz.func57 Tryz.ntmps57 rfl rfl rfl ?_
 simp only [A1]
 repeat' (first
  | refine W ?_
  | refine Y ?_|(apply T.drawR 17 A0 (by decide +kernel);simp only [td])|(apply T.draw 17 A0 (by decide +kernel);simp only [td])|(apply S.buildSliceF;(iterate 8 exact rfl))
  | refine V ?_
  | (refine W2 ?_ ?_ <;> intro hc))
 all_goals exact A8 (by simp) Tryz.results57 rfl (by rfl)
theorem A80 {l : List ConR} (x : ConR) (h : l ≠ []) : mnL (l ++ [x]) = F3 (mnL l) x := by
 cases l with
 | nil => exact absurd rfl h
 | cons y l =>
  show List.foldl F3 y (l ++ [x]) = _
  rw [List.foldl_append];rfl
set_option maxHeartbeats 8000000 in
theorem A8k (l : List ConR) (h0 : l ≠ []) (hl : l.length <= 1000000) : Fn0 Tryz.prog 56 [.sl (l.map ConR.row), .fn (.func 57) [] []] (A2 (mnL l).row) := by
 have hle : (l.map ConR.row).length = l.length := List.length_map _
 have hp := List.length_pos_iff.2 h0
 have h1 : ¬ ((l.map ConR.row).length : Int) < 1 := by omega
 obtain ⟨x, hx⟩ := Ab hp
 have hb0 : (l.map ConR.row)[(0 : Int).toNat]? = some (ConR.row x) := Ac (k := 0) hx
 have hx1 : mnL (l.take 1) = x := by
  cases l with
  | nil => exact absurd rfl h0
  | cons y l => simp at hx;subst hx;rfl
 refine Fn0.of Tryz.func56 Tryz.ntmps56 rfl rfl rfl ?_
 simp only [A1]
 repeat' (first
  | refine W ?_
  | refine Y ?_
  | refine V ?_
  | (refine W2 ?_ ?_ <;> intro hc))
 refine T.loopS (fun k => 1 <= k /\ k <= l.length) (fun k => l.length - k) (fun k => [(6, .i k), (5, .ptr 1 0), (4, .ptr 0 0), (0, .sl (l.map ConR.row)), (1, .fn (.func 57) [] [])]) (fun k => [.live [.s ⟨#[]⟩, .s ⟨#[]⟩, .i 0, .i 0], .live ((mnL (l.take k)).row.map .lf)]) 1 ⟨Nat.le_refl _, hp⟩ CW (by rw [hx1];exact .live rfl (.live rfl .nil)) ?_
 rintro k ⟨hk1, hk⟩
 by_cases hlt : k < l.length
 ·have h2 : (k : Int) < ((l.map ConR.row).length : Nat) := by omega
  obtain ⟨y, hy⟩ := Ab hlt
  have hb := Ac (R := ConR.row) hy
  have hne : l.take k ≠ [] := fun e => by have := congrArg List.length e;rw [List.length_take, List.length_nil] at this;omega
  have hm : mnL (l.take (k + 1)) = F3 (mnL (l.take k)) y := by rw [List.take_add_one, hy];exact A80 y hne
  have cf := A4j y (mnL (l.take k))
  have hlt2 := Abv y (mnL (l.take k))
  unfold F3 at hm
  generalize mnL (l.take k) = m at *
  generalize orI (Ju y.lo m.lo) (Ju y.hi m.hi) = o at *
  by_cases ho : o < 0
  ·rw [if_pos (hlt2.1 ho)] at hm
   repeat' (first
    | refine W ?_
    | refine Y ?_|(apply T.drawAll A0 (by decide +kernel))|(apply S.callF;exact rfl;exact rfl;exact cf;exact rfl;exact rfl)
    | refine V ?_
    | (refine W2 ?_ ?_ <;> intro hc))
   change Next _ _ _ _ _ _
   exact Next.go (k + 1) ⟨by omega, by omega⟩ (by omega) (by rw [show (((k + 1 : Nat) : Int)) = (k : Int) + 1 by omega];exact CW) (by rw [hm];exact .live rfl (.live rfl .nil))
  ·rw [if_neg fun k => ho (hlt2.2 k)] at hm
   repeat' (first
    | refine W ?_
    | refine Y ?_|(apply T.drawAll A0 (by decide +kernel))|(apply S.callF;exact rfl;exact rfl;exact cf;exact rfl;exact rfl)
    | refine V ?_
    | (refine W2 ?_ ?_ <;> intro hc))
   change Next _ _ _ _ _ _
   exact Next.go (k + 1) ⟨by omega, by omega⟩ (by omega) (by rw [show (((k + 1 : Nat) : Int)) = (k : Int) + 1 by omega];exact CW) (by rw [hm];exact .live rfl (.live rfl .nil))
 ·have h2 : ¬ (k : Int) < ((l.map ConR.row).length : Nat) := by omega
  rw [List.take_of_length_le (by omega)]
  generalize mnL l = m
  repeat' (first
   | refine W ?_
   | refine Y ?_
   | refine V ?_
   | (refine W2 ?_ ?_ <;> intro hc))
  exact ⟨by simp, [A2 m.row], .cons (Res.row m.row rfl rfl rfl rfl rfl) .nil, .one (.agg (A9 m.row))⟩
/-! ### The first contact -/
abbrev zCon : ConR := ⟨⟨#[]⟩, ⟨#[]⟩, 0, 0⟩
noncomputable def fiE (h : HouseR) (c : SheetR) (G : List Int) : Int := if ckE h c G = 0 then (if (ckL h c G).length = 0 then 12 else 0) else ckE h c G
noncomputable def fiC (h : HouseR) (c : SheetR) (G : List Int) : ConR := if ckE h c G = 0 /\ ¬ (ckL h c G).length = 0 then mnL (ckL h c G) else zCon
theorem Yh {h : HouseR} (hp : C0 h) : (Ca h).length <= 3600 := Nat.le_trans (Mm h.sets h.sets.length) (Nat.le_trans (Nat.mul_le_mul hp.2.2.2.1 hp.2.2.2.1) (by decide))
theorem A13 {h : HouseR} {c : SheetR} {G : List Int} : (ckL h c G).length <= 3600 := by
 by_cases e : ckE h c G = 0
 ·obtain ⟨e0, e1⟩ := To e
  rw [e1]
  exact Nat.le_trans (Y2 _ _ _ _) (Yh (Iu e0).1.v.1)
 ·rw [U5 e];simp
theorem A2k (h : HouseR) (c : SheetR) (hf : h.fits) (hc : c.fits) (G : List Int) (hG : G.length <= 4611686018427387904) : Fn0 Tryz.prog 22 [A2 h.row, A2 c.row, .sl (G.map A3)] (.tup [A2 (fiC h c G).row, .i (fiE h c G)]) := by
 have ck := I3 h c hf hc G hG
 have hl := A13 (h := h) (c := c) (G := G)
 have hle : ((ckL h c G).map ConR.row).length = (ckL h c G).length := List.length_map _
 unfold fiC fiE
 by_cases e : ckE h c G = 0
 ·rw [e] at ck ⊢
  by_cases hz : (ckL h c G).length = 0
  ·rw [if_pos rfl, if_pos hz, if_neg (fun k => k.2 hz)]
   generalize ckL h c G = LL at *
   have hz2 : ((LL.map ConR.row).length : Int) = 0 := by omega
   refine Fn0.of Tryz.func22 Tryz.ntmps22 rfl rfl rfl ?_
   simp only [A1]
   repeat' (first
    | refine W ?_
    | refine Y ?_
    | refine V ?_
    | (refine W2 ?_ ?_ <;> intro hc))
   all_goals exact ⟨.inr rfl, [A2 zCon.row, .i 12], by rw [Tryz.results22];exact .cons (Res.row zCon.row rfl rfl rfl rfl rfl) (.cons (.tmp rfl) .nil), .tup (.cons (.agg (A9 zCon.row)) (.cons (.one (.lf _)) .nil))⟩
  ·rw [if_pos rfl, if_neg hz, if_pos ⟨rfl, hz⟩]
   have hne : ckL h c G ≠ [] := fun k => hz (by rw [k];rfl)
   have cm := A8k (ckL h c G) hne (by omega)
   generalize mnL (ckL h c G) = m at *
   generalize ckL h c G = LL at *
   have hz2 : ¬ ((LL.map ConR.row).length : Int) = 0 := by omega
   refine Fn0.of Tryz.func22 Tryz.ntmps22 rfl rfl rfl ?_
   simp only [A1]
   repeat' (first
    | refine W ?_
    | refine Y ?_
    | refine V ?_
    | (refine W2 ?_ ?_ <;> intro hc))
   all_goals exact ⟨.inr rfl, [A2 m.row, .i 0], by rw [Tryz.results22];exact .cons (Res.row m.row rfl rfl rfl rfl rfl) (.cons (.tmp rfl) .nil), .tup (.cons (.agg (A9 m.row)) (.cons (.one (.lf _)) .nil))⟩
 ·rw [if_neg e, if_neg (fun k => e k.1)]
  rw [U5 e] at ck
  generalize ckE h c G = x at *
  refine Fn0.of Tryz.func22 Tryz.ntmps22 rfl rfl rfl ?_
  simp only [A1]
  repeat' (first
   | refine W ?_
   | refine Y ?_
   | refine V ?_
   | (refine W2 ?_ ?_ <;> intro hc))
  all_goals exact ⟨.inr rfl, [A2 zCon.row, .i x], by rw [Tryz.results22];exact .cons (Res.row zCon.row rfl rfl rfl rfl rfl) (.cons (.tmp rfl) .nil), .tup (.cons (.agg (A9 zCon.row)) (.cons (.one (.lf _)) .nil))⟩
end Go.Proofs.YtbceahipbdmocaaGreat
