/- Contracts: show's Check. No conditions but those of each statement. -/
import Derived.Test.YtcbfnkgodiaiiaaGreatPa
import Derived.Test.YtcbfnkgodiaiiaaGreatPf
set_option linter.unusedSimpArgs false
set_option linter.unusedVariables false
namespace Go.Proofs.YtcbfnkgodiaiiaaGreat
open Go Go.RowKit
abbrev Cz (h : HouseR) : List (ByteArray × ByteArray) := Cu h.sets h.sets.length
open Classical in
noncomputable def F2 (h : HouseR) (c : SheetR) (G : List Int) : List (ByteArray × ByteArray) -> Int
 | [] => 0
 | p :: r => if Bp h c G p then F2 h c G r else (ctR h c G p).2.2
theorem M8 {h : HouseR} {c : SheetR} {G : List Int} : ∀ {l : List (ByteArray × ByteArray)}, (∀ p ∈ l, Bp h c G p) -> F2 h c G l = 0
 | [], _ => rfl
 | p :: r, hg => by rw [F2, if_pos (hg p (by simp))];exact M8 fun q hq => hg q (by simp [hq])
theorem Zm {h : HouseR} {c : SheetR} {G : List Int} : ∀ {l : List (ByteArray × ByteArray)} {k : Nat} {p}, l[k]? = some p -> (∀ j, j < k -> ∀ q, l[j]? = some q -> Bp h c G q) -> ¬ Bp h c G p -> F2 h c G l = (ctR h c G p).2.2
 | [], k, p, hk, _, _ => by simp at hk
 | x :: r, 0, p, hk, _, hn => by
  obtain rfl : x = p := by simpa using hk
  rw [F2, if_neg hn]
 | x :: r, k + 1, p, hk, hj, hn => by
  rw [F2, if_pos (hj 0 (by omega) x rfl)]
  exact Zm (k := k) (by simpa using hk) (fun j hjk q hq => hj (j + 1) (by omega) q (by simpa using hq)) hn
theorem L0 {h : HouseR} {c : SheetR} {G : List Int} : ∀ {l : List (ByteArray × ByteArray)}, F2 h c G l = 0 -> ∀ p ∈ l, Bp h c G p
 | [], _, p, hp => by cases hp
 | x :: r, e, p, hp => by
  rw [F2] at e
  split at e
  ·rcases List.mem_cons.1 hp with rfl | hp
   ·assumption
   ·exact L0 e p hp
  ·rename_i hn
   exact absurd (.inl e) hn
noncomputable def N0 (h : HouseR) (c : SheetR) (G : List Int) : List ConR := if F2 h c G (Cz h) = 0 then D5 h c G (Cz h) else []
theorem Vu {h : HouseR} {n : ByteArray} {s : SetR} (hs : s ∈ h.sets) (hn : s.name = n) : ¬ Ad h n < 0 := by
 have h1 : ¬ Ad h n = -1 := K9 ⟨s, hs, hn⟩
 have h2 : -1 <= Ad h n := Ch _ _
 omega
theorem Xv {h : HouseR} {p : ByteArray × ByteArray} (hm : p ∈ Cz h) : ¬ Ad h p.1 < 0 /\ ¬ Ad h p.2 < 0 := by
 obtain ⟨k, _, a, ha, hx⟩ := mem_prsK.1 hm
 obtain ⟨j, _, b, hb, _, rfl⟩ := mem_innN.1 hx
 exact ⟨Vu (List.mem_of_getElem? ha) rfl, Vu (List.mem_of_getElem? hb) rfl⟩
theorem T2 {h : HouseR} {c : SheetR} {G : List Int} (p : PlanOk h c G) {n : ByteArray} {s : SetR} (hs : Gn h n = some s) (he : Bj h c G n = 0) : okC (B8 h c G n) /\ B8 h c G n ≠ [] /\ (B8 h c G n).length <= 200 := by
 have hmem : s ∈ h.sets := List.mem_of_getElem? hs
 obtain ⟨⟨_, _, s1, s2, s3, _⟩, _⟩ := p.v.1.2.2.2.2.2.1 s hmem
 unfold Bj at he
 unfold B8
 rw [hs] at he ⊢
 dsimp only at he ⊢
 split at he
 ·unfold Fh at he
  split at he
  ·cases he
  ·rename_i hb
   split at he
   ·cases he
   ·rename_i hl
    exact ⟨A0x (Ct (by omega) (by omega)) hb _ (Nat.le_refl _), Uh _ _ _ _ _ _, by omega⟩
 ·cases he
abbrev Ls (l : List ConR) : List AV := (l.map ConR.row).flatten.map .lf
theorem A1d (l : List ConR) : ∀ r ∈ l.map ConR.row, r.length = 4 := by
 intro r hr
 obtain ⟨n, _, rfl⟩ := List.mem_map.1 hr
 rfl
theorem A35 (l : List ConR) : (Ls l).length = l.length * 4 := by
 rw [List.length_map, Bf _ (A1d l), List.length_map]
theorem Zz (l : List ConR) (x : ConR) : Ls (l ++ [x]) = Ls l ++ ([x.row].flatten).map AV.lf := by simp [Ls]
abbrev A9r : List AV := [.s ⟨#[]⟩, .i 0, .i 0, .i 0, .i 0, .sl [], .i 0, .i 0, .i 0, .i 0, .i 0, .sl [], .sl []]
noncomputable def pcC (p : ByteArray × ByteArray) (a b : SetR) (x y : List PcQ) : Nat -> List AV
 | 0 => [.s p.1, .s p.2] ++ A9r ++ A9r ++ [.sl [], .sl []]
 | 1 => [.s p.1, .s p.2] ++ a.row.map .lf ++ A9r ++ [.sl (x.map PcQ.row), .sl []]
 | _ => [.s p.1, .s p.2] ++ a.row.map .lf ++ b.row.map .lf ++ [.sl (x.map PcQ.row), .sl (y.map PcQ.row)]
theorem A82 (h : HouseR) (c : SheetR) (G : List Int) (p : PlanOk h c G) : Fits (Ds h c G) /\ 0 <= Ds h c G /\ Ds h c G <= 1099511627776 := by
 have he := p.endI
 have hm := Co (endI h c G)
 have h0 : (0 : Rat) <= (endI h c G : Rat) := Rat.intCast_nonneg.2 he.1
 have h1 : (endI h c G : Rat) <= ((259845521408 : Int) : Rat) := Rat.intCast_le_intCast.2 he.2
 rw [show ((259845521408 : Int) : Rat) = 259845521408 from rfl] at h1
 have hu : Ds h c G = mil (endI h c G) := rfl
 have hf : Fits (A8 (endI h c G) 1000) := Bx (by omega) (by omega) (by omega) (by omega)
 refine ⟨hf, ?_, ?_⟩
 ·rw [hu];grind
 ·rw [hu];grind
theorem Kz (b st n k : Nat) (h : b < n) : ([rT b st k] : List AV).all (AV.under n) = true := by rw [List.all_cons, Rd _ _ _ _ h];rfl
theorem Pf (h : HouseR) (c : SheetR) (G : List Int) (n : ByteArray) : ¬ Bj h c G n = 12 := by
 unfold Bj
 split
 ·split
  ·unfold Fh
   split
   ·decide
   ·split <;> decide
  ·decide
 ·decide
set_option maxHeartbeats 64000000 in
theorem A2z (h : HouseR) (c : SheetR) (hf : h.fits) (hc : c.fits) (G : List Int) (hG : G.length <= 4611686018427387904) (e0 : alE h c G = 0) : Fn0 Tryz.prog 8 [A1 h.row, A1 c.row, .sl (G.map A3)] (.tup [.sl ((N0 h c G).map ConR.row), .i (F2 h c G (Cz h))]) := by
 have p := (Gx e0).1
 have hp := p.v.1
 have ce := Is h c hf hc G hG e0
 obtain ⟨ft, t0, t1⟩ := A82 h c G p
 have he := p.endI
 have cm := Jk (endI h c G) 1000 (by decide) (by omega) (by omega) (by decide) (by decide) ft
 have cp := A5h h hf hp
 have hs60 := hp.2.2.2.1
 have hlen : (Cz h).length <= 3600 := Nat.le_trans (Ml h.sets h.sets.length) (Nat.le_trans (Nat.mul_le_mul hs60 hs60) (by decide))
 have hle : ((Cz h).map Ak).length = (Cz h).length := List.length_map _
 have hbad : ∀ k q, (Cz h)[k]? = some q -> (∀ j, j < k -> ∀ q, (Cz h)[j]? = some q -> Bp h c G q) -> ¬ Bp h c G q -> N0 h c G = [] /\ F2 h c G (Cz h) = (ctR h c G q).2.2 := fun k q hk hj hn => by
  have e := Zm hk hj hn
  refine ⟨?_, e⟩
  unfold N0
  rw [e]
  exact if_neg fun k => hn (.inl k)
 have hmemp : ∀ q ∈ Cz h, ¬ Ad h q.1 < 0 /\ ¬ Ad h q.2 < 0 := fun q hq => Xv hq
 change Fn0 _ _ _ (.tup [_, .i 0]) at cm
 change Fn0 _ _ _ (.tup [.sl ((Cz h).map Ak), .i 0]) at cp
 generalize hprs : Cz h = prs at *
 have hT : Ds h c G = A8 (endI h c G) 1000 := rfl
 rw [<- hT] at cm
 refine Fn0.of Tryz.func8 Tryz.ntmps8 rfl rfl rfl ?_
 simp only [A2]
 repeat' (first
  | refine W ?_
  | refine Y ?_|(refine S.inline [(8, .ptr 2 0)] Tryz.func23 Tryz.ntmps23 rfl rfl rfl rfl rfl rfl rfl CW rfl ?_;intro vs;simp only [A2, List.cons_append, List.nil_append])
  | refine V ?_
  | (refine W2 ?_ ?_ <;> intro hc))
 refine T.kill 7 ?_
 refine T.kill 8 ?_
 refine T.loopS (fun j => j <= prs.length /\ ∀ i, i < j -> ∀ q, prs[i]? = some q -> Bp h c G q) (fun j => prs.length - j) (fun j => [(49, .i j), (48, .i (prs.map Ak).length), (47, .sl (prs.map Ak)), (3, .fn (.func 24) [] [.ptr 2 0]), (4, .ptr 4 0), (5, .ptr 5 0), (11, .ptr 6 0), (2, .sl (G.map A3))]) (fun j => [.live (h.row.map .lf), .live (c.row.map .lf), .live [rT 7 4 (D5 h c G (prs.take j)).length], .gho [.ptr 2 0] vs, .live (h.row.map .lf), .live (c.row.map .lf), .live [.i (Ds h c G).num, .i (Ds h c G).den], rB (Ls (D5 h c G (prs.take j))) (D5 h c G (prs.take j)).length, .dead]) 0 ⟨Nat.zero_le _, by intro i hi;omega⟩ CW (.live rfl (.live rfl (.live rfl (.gho rfl CG)))) ?_
 rintro j ⟨hj, hgo⟩
 by_cases hlt : j < prs.length
 ·have h1 : (j : Int) < ((prs.map Ak).length : Nat) := by omega
  obtain ⟨q, hq⟩ := A9 hlt
  have hb := Ac (R := Ak) hq
  obtain ⟨n1, n2⟩ := hmemp q (List.mem_of_getElem? hq)
  obtain ⟨a, ha⟩ : ∃ a, h.sets[(Ad h q.1).toNat]? = some a := Hd n1
  obtain ⟨b, hbb⟩ : ∃ b, h.sets[(Ad h q.2).toNat]? = some b := Hd n2
  have hsa : Gn h q.1 = some a := ha
  have hsb : Gn h q.2 = some b := hbb
  have rha : (h.sets.map SetR.row)[(Ad h q.1).toNat]? = some a.row := Lq ha
  have rhb : (h.sets.map SetR.row)[(Ad h q.2).toNat]? = some b.row := Lq hbb
  have f1 := T7 h hf hp q.1 n1
  have f2 := T7 h hf hp q.2 n2
  have p1 := Yd h c hf hc G hG e0 q.1 n1
  have p2 := Yd h c hf hc G hG e0 q.2 n2
  have hct : ctR h c G q = if Bj h c G q.1 = 0 then (if Bj h c G q.2 = 0 then frT a b (B8 h c G q.1) (B8 h c G q.2) (Ds h c G) else (0, 0, Bj h c G q.2)) else (0, 0, Bj h c G q.1) := by unfold ctR;rw [hsa, hsb]
  have hbd := hbad j q hq hgo
  have htk : prs.take (j + 1) = prs.take j ++ [q] := by rw [List.take_add_one, hq];rfl
  have hKy : (ctR h c G q).2.2 = 0 -> D5 h c G (prs.take (j + 1)) = D5 h c G (prs.take j) ++ [⟨q.1, q.2, (ctR h c G q).1, (ctR h c G q).2.1⟩] := fun e => by rw [htk];exact A8d e
  have hKn : ¬ (ctR h c G q).2.2 = 0 -> D5 h c G (prs.take (j + 1)) = D5 h c G (prs.take j) := fun e => by rw [htk];exact Abs e
  have hLl : (D5 h c G (prs.take j)).length <= 3600 := Nat.le_trans (A7o _ _ _ _) (by rw [List.length_take];omega)
  have hgo2 : Bp h c G q -> ∀ i, i < j + 1 -> ∀ q, prs[i]? = some q -> Bp h c G q := fun g i hi q' hq' => by
   by_cases e : i = j
   ·subst e
    rw [hq] at hq'
    injection hq' with hq'
    subst hq'
    exact g
   ·exact hgo i (by omega) q' hq'
  generalize Ad h q.1 = i1 at *
  generalize Ad h q.2 = i2 at *
  generalize D5 h c G (prs.take j) = LL at *
  repeat' (first
   | refine W ?_
   | refine Y ?_
   | refine V ?_
   | (refine W2 ?_ ?_ <;> intro hc))
  refine T.loopS (fun i => i <= 2 /\ (1 <= i -> Bj h c G q.1 = 0) /\ (2 <= i -> Bj h c G q.2 = 0)) (fun i => 2 - i) (fun i => [(56, .i i), (55, .agg [.s q.1, .s q.2]), (14, .ptr 9 0), (15, .ptr 10 0), (49, .i j), (48, .i (prs.map Ak).length), (47, .sl (prs.map Ak)), (3, .fn (.func 24) [] [.ptr 2 0]), (4, .ptr 4 0), (5, .ptr 5 0), (11, .ptr 6 0), (2, .sl (G.map A3))]) (fun i => [.live (h.row.map .lf), .live (c.row.map .lf), .live [rT 7 4 (LL).length], .gho [.ptr 2 0] vs, .live (h.row.map .lf), .live (c.row.map .lf), .live [.i (Ds h c G).num, .i (Ds h c G).den], rB (Ls (LL)) (LL).length, .dead, .live [.s q.1, .s q.2], .live (pcC q a b (B8 h c G q.1) (B8 h c G q.2) i)]) 0 ⟨by omega, fun k => absurd k (by omega), fun k => absurd k (by omega)⟩ CW (.live rfl (.live rfl (.live (Kz 7 4 _ _ (Nat.le_of_ble_eq_true rfl)) (.gho rfl (.live rfl (.live rfl (.live rfl (CovH.rB (Al _ _) CG _)))))))) ?_
  rintro i ⟨hi, hi1, hi2⟩
  obtain rfl | rfl | rfl : i = 0 \/ i = 1 \/ i = 2 := by omega
  ·have z0 : ((0 : Nat) : Int) < 2 := by decide
   by_cases pe : Bj h c G q.1 = 0
   ·rw [show Tz h c G q.1 = B8 h c G q.1 from if_pos pe, pe] at p1
    repeat' (first
     | refine W ?_
     | refine Y ?_|(apply S.idxV;exact rfl;exact rfl;exact rfl;exact ⟨by decide, by decide⟩;exact rfl;exact rfl)|(apply S.idxAP;(iterate 4 exact rfl);exact ⟨by decide, by decide⟩;exact rfl)
     | refine V ?_
     | (refine W2 ?_ ?_ <;> intro hc))
    all_goals (first|(change Next _ _ _ _ _ _)|(trace_state;fail))
    all_goals exact Next.go 1 ⟨by omega, fun _ => pe, fun k => absurd k (by omega)⟩ (by omega) CW (.live rfl (.live rfl (.live (Kz 7 4 _ _ (Nat.le_of_ble_eq_true rfl)) (.gho rfl (.live rfl (.live rfl (.live rfl (CovH.rB (Al _ _) CG _))))))))
   ·rw [show Tz h c G q.1 = [] from if_neg pe] at p1
    rw [if_neg pe] at hct
    rw [hct] at hbd
    have hng : ¬ Bp h c G q := fun k => by
     unfold Bp at k
     rw [hct] at k
     exact k.elim pe (Pf h c G q.1)
    obtain ⟨b1, b2⟩ := hbd hng
    rw [b1, b2]
    dsimp only
    generalize Bj h c G q.1 = e at *
    repeat' (first
     | refine W ?_
     | refine Y ?_|(apply S.idxV;exact rfl;exact rfl;exact rfl;exact ⟨by decide, by decide⟩;exact rfl;exact rfl)|(apply S.idxAP;(iterate 4 exact rfl);exact ⟨by decide, by decide⟩;exact rfl)|(apply T.ret;(first | change D6 Tryz.prog Tryz.f23 _ _ _ _ _ _|(dsimp only [Ca, Dc];change D6 Tryz.prog Tryz.f23 _ _ _ _ _ _));refine ⟨.inr rfl, [_], .cons (.tmp rfl) .nil, rfl, ?_⟩;show Reg none _ _ _ _ _ _ _)|(refine T.nilU 6 rfl ?_;apply T.ret;change C7 _ _ _ _ _)
     | refine V ?_
     | (refine W2 ?_ ?_ <;> intro hc))
    all_goals exact D2 rfl rfl rfl
  ·have z0 : ((1 : Nat) : Int) < 2 := by decide
   have pe1 := hi1 (Nat.le_refl _)
   by_cases pe : Bj h c G q.2 = 0
   ·rw [show Tz h c G q.2 = B8 h c G q.2 from if_pos pe, pe] at p2
    repeat' (first
     | refine W ?_
     | refine Y ?_|(apply S.idxV;exact rfl;exact rfl;exact rfl;exact ⟨by decide, by decide⟩;exact rfl;exact rfl)|(apply S.idxAP;(iterate 4 exact rfl);exact ⟨by decide, by decide⟩;exact rfl)
     | refine V ?_
     | (refine W2 ?_ ?_ <;> intro hc))
    all_goals (first|(change Next _ _ _ _ _ _)|(trace_state;fail))
    all_goals exact Next.go 2 ⟨by omega, fun _ => pe1, fun _ => pe⟩ (by omega) CW (.live rfl (.live rfl (.live (Kz 7 4 _ _ (Nat.le_of_ble_eq_true rfl)) (.gho rfl (.live rfl (.live rfl (.live rfl (CovH.rB (Al _ _) CG _))))))))
   ·rw [show Tz h c G q.2 = [] from if_neg pe] at p2
    rw [if_pos pe1, if_neg pe] at hct
    rw [hct] at hbd
    have hng : ¬ Bp h c G q := fun k => by
     unfold Bp at k
     rw [hct] at k
     exact k.elim pe (Pf h c G q.2)
    obtain ⟨b1, b2⟩ := hbd hng
    rw [b1, b2]
    dsimp only
    generalize Bj h c G q.2 = e at *
    repeat' (first
     | refine W ?_
     | refine Y ?_|(apply S.idxV;exact rfl;exact rfl;exact rfl;exact ⟨by decide, by decide⟩;exact rfl;exact rfl)|(apply S.idxAP;(iterate 4 exact rfl);exact ⟨by decide, by decide⟩;exact rfl)|(apply T.ret;(first | change D6 Tryz.prog Tryz.f23 _ _ _ _ _ _|(dsimp only [Ca, Dc];change D6 Tryz.prog Tryz.f23 _ _ _ _ _ _));refine ⟨.inr rfl, [_], .cons (.tmp rfl) .nil, rfl, ?_⟩;show Reg none _ _ _ _ _ _ _)|(refine T.nilU 6 rfl ?_;apply T.ret;change C7 _ _ _ _ _)
     | refine V ?_
     | (refine W2 ?_ ?_ <;> intro hc))
    all_goals exact D2 rfl rfl rfl
  ·have z0 : ¬ ((2 : Nat) : Int) < 2 := by decide
   have pe1 := hi1 (by omega)
   have pe2 := hi2 (by omega)
   obtain ⟨ox, x0, nx⟩ := T2 p hsa pe1
   obtain ⟨oy, y0, ny⟩ := T2 p hsb pe2
   rw [if_pos pe1, if_pos pe2] at hct
   have ma := List.mem_of_getElem? ha
   have mb := List.mem_of_getElem? hbb
   have cf := A3n a b (B8 h c G q.1) (B8 h c G q.2) ⟨(hp.2.2.2.2.2.1 a ma).1, (hp.2.2.2.2.2.1 b mb).1, hf.2.2 a ma, hf.2.2 b mb, ox, oy, x0, y0, nx, ny⟩ (Ds h c G) ft t0 t1
   unfold Bp at hgo2
   have hng : ¬ ((ctR h c G q).2.2 = 0 \/ (ctR h c G q).2.2 = 12) -> N0 h c G = [] /\ F2 h c G prs = (ctR h c G q).2.2 := hbd
   rw [hct] at hKy hKn hng hgo2
   generalize frT a b (B8 h c G q.1) (B8 h c G q.2) (Ds h c G) = r at *
   obtain ⟨u, v, e⟩ := r
   dsimp only at *
   generalize B8 h c G q.1 = xa at *
   generalize B8 h c G q.2 = xb at *
   by_cases ez : e = 0
   ·subst ez
    have hK := hKy rfl
    have hcl := A35 LL
    have hsn := Zz LL ⟨q.1, q.2, u, v⟩
    have hln : (LL ++ [(⟨q.1, q.2, u, v⟩ : ConR)]).length = LL.length + 1 := by simp
    cases LL with
    | nil =>
     repeat' (first
      | refine W ?_
      | refine Y ?_|(apply S.idxAP;(iterate 4 exact rfl);exact ⟨by decide, by decide⟩;exact rfl)|(apply T.ret;(first | change D6 Tryz.prog Tryz.f23 _ _ _ _ _ _|(dsimp only [Ca, Dc];change D6 Tryz.prog Tryz.f23 _ _ _ _ _ _));refine ⟨.inr rfl, [_], .cons (.tmp rfl) .nil, rfl, ?_⟩;show Reg none _ _ _ _ _ _ _)|(apply T.ret;(first | change D6 Tryz.prog Tryz.f24 _ _ _ _ _ _|(dsimp only [Ca, Dc];change D6 Tryz.prog Tryz.f24 _ _ _ _ _ _));refine ⟨.inr rfl, [_], .cons (.tmp rfl) .nil, rfl, ?_⟩;show Reg none _ _ _ _ _ _ _)|(refine S.inline [(49, .i j), (48, .i (prs.map Ak).length), (47, .sl (prs.map Ak)), (3, .fn (.func 24) [] [.ptr 2 0]), (4, .ptr 4 0), (5, .ptr 5 0), (11, .ptr 6 0), (2, .sl (G.map A3))] Tryz.func24 Tryz.ntmps24 rfl rfl rfl rfl rfl rfl rfl CW rfl ?_;intro vs2;simp only [A2, List.cons_append, List.nil_append])|(apply S.buildSlice1;(iterate 7 exact rfl))|(apply S.appendN 7 (rows := []);(iterate 8 exact rfl);exact Ai rfl;exact rfl;exact Nat.le_of_ble_eq_true rfl;exact Nat.le_of_ble_eq_true rfl)
      | refine V ?_
      | (refine W2 ?_ ?_ <;> intro hc))
     all_goals (first|(change Next _ _ _ _ _ _)|(trace_state;fail))
     all_goals exact Next.go (j + 1) ⟨by omega, hgo2 (.inl rfl)⟩ (by omega) (by rw [hK, show (((j + 1 : Nat) : Int)) = (j : Int) + 1 by omega];exact CW) (by rw [hK];exact .live rfl (.live rfl (.live rfl (.gho rfl CG))))
    | cons l0 LL =>
     have hLl2 : LL.length + 1 <= 3600 := hLl
     repeat' (first
      | refine W ?_
      | refine Y ?_|(apply S.idxAP;(iterate 4 exact rfl);exact ⟨by decide, by decide⟩;exact rfl)|(apply T.ret;(first | change D6 Tryz.prog Tryz.f23 _ _ _ _ _ _|(dsimp only [Ca, Dc];change D6 Tryz.prog Tryz.f23 _ _ _ _ _ _));refine ⟨.inr rfl, [_], .cons (.tmp rfl) .nil, rfl, ?_⟩;show Reg none _ _ _ _ _ _ _)|(apply T.ret;(first | change D6 Tryz.prog Tryz.f24 _ _ _ _ _ _|(dsimp only [Ca, Dc];change D6 Tryz.prog Tryz.f24 _ _ _ _ _ _));refine ⟨.inr rfl, [_], .cons (.tmp rfl) .nil, rfl, ?_⟩;show Reg none _ _ _ _ _ _ _)|(refine S.inline [(49, .i j), (48, .i (prs.map Ak).length), (47, .sl (prs.map Ak)), (3, .fn (.func 24) [] [.ptr 2 0]), (4, .ptr 4 0), (5, .ptr 5 0), (11, .ptr 6 0), (2, .sl (G.map A3))] Tryz.func24 Tryz.ntmps24 rfl rfl rfl rfl rfl rfl rfl CW rfl ?_;intro vs2;simp only [A2, List.cons_append, List.nil_append])|(apply S.buildSlice1;(iterate 7 exact rfl))|(refine Reg.blur 2 0 8 rfl rfl rfl ?_;apply S.appendO;(iterate 8 exact rfl);exact hcl;exact Ai rfl;exact rfl;exact Az _ _;simp only [List.length_cons, List.length_nil];omega;simp only [List.length_cons, List.length_nil];omega)
      | refine V ?_
      | (refine W2 ?_ ?_ <;> intro hc))
     all_goals (first|(change Next _ _ _ _ _ _)|(trace_state;fail))
     all_goals exact Next.go (j + 1) ⟨by omega, hgo2 (.inl rfl)⟩ (by omega) (by rw [hK, show (((j + 1 : Nat) : Int)) = (j : Int) + 1 by omega];exact CW) (by rw [hK, hsn, hln];exact .live rfl (.live rfl (.live rfl (.gho rfl (.live rfl (.live rfl (.live rfl (.live (by rw [<- List.map_append];exact Al _ _) (.dead .nil)))))))))
   ·by_cases e12 : e = 12
    ·subst e12
     repeat' (first
      | refine W ?_
      | refine Y ?_|(apply S.idxAP;(iterate 4 exact rfl);exact ⟨by decide, by decide⟩;exact rfl)|(apply T.ret;(first | change D6 Tryz.prog Tryz.f23 _ _ _ _ _ _|(dsimp only [Ca, Dc];change D6 Tryz.prog Tryz.f23 _ _ _ _ _ _));refine ⟨.inr rfl, [_], .cons (.tmp rfl) .nil, rfl, ?_⟩;show Reg none _ _ _ _ _ _ _)|(apply T.ret;(first | change D6 Tryz.prog Tryz.f24 _ _ _ _ _ _|(dsimp only [Ca, Dc];change D6 Tryz.prog Tryz.f24 _ _ _ _ _ _));refine ⟨.inr rfl, [_], .cons (.tmp rfl) .nil, rfl, ?_⟩;show Reg none _ _ _ _ _ _ _)|(refine S.inline [(49, .i j), (48, .i (prs.map Ak).length), (47, .sl (prs.map Ak)), (3, .fn (.func 24) [] [.ptr 2 0]), (4, .ptr 4 0), (5, .ptr 5 0), (11, .ptr 6 0), (2, .sl (G.map A3))] Tryz.func24 Tryz.ntmps24 rfl rfl rfl rfl rfl rfl rfl CW rfl ?_;intro vs2;simp only [A2, List.cons_append, List.nil_append])
      | refine V ?_
      | (refine W2 ?_ ?_ <;> intro hc))
     all_goals (first|(change Next _ _ _ _ _ _)|(trace_state;fail))
     all_goals exact Next.go (j + 1) ⟨by omega, hgo2 (.inr rfl)⟩ (by omega) (by rw [hKn ez, show (((j + 1 : Nat) : Int)) = (j : Int) + 1 by omega];exact CW) (by rw [hKn ez];exact .live rfl (.live rfl (.live (Kz 7 4 _ _ (Nat.le_of_ble_eq_true rfl)) (.gho rfl (.live rfl (.live rfl (.live rfl (CovH.rB (Al _ _) (.dead .nil) _))))))))
    ·obtain ⟨b1, b2⟩ := hng fun k => k.elim ez e12
     rw [b1, b2]
     repeat' (first
      | refine W ?_
      | refine Y ?_|(apply S.idxAP;(iterate 4 exact rfl);exact ⟨by decide, by decide⟩;exact rfl)|(apply T.ret;(first | change D6 Tryz.prog Tryz.f23 _ _ _ _ _ _|(dsimp only [Ca, Dc];change D6 Tryz.prog Tryz.f23 _ _ _ _ _ _));refine ⟨.inr rfl, [_], .cons (.tmp rfl) .nil, rfl, ?_⟩;show Reg none _ _ _ _ _ _ _)|(apply T.ret;(first | change D6 Tryz.prog Tryz.f24 _ _ _ _ _ _|(dsimp only [Ca, Dc];change D6 Tryz.prog Tryz.f24 _ _ _ _ _ _));refine ⟨.inr rfl, [_], .cons (.tmp rfl) .nil, rfl, ?_⟩;show Reg none _ _ _ _ _ _ _)|(refine S.inline [(49, .i j), (48, .i (prs.map Ak).length), (47, .sl (prs.map Ak)), (3, .fn (.func 24) [] [.ptr 2 0]), (4, .ptr 4 0), (5, .ptr 5 0), (11, .ptr 6 0), (2, .sl (G.map A3))] Tryz.func24 Tryz.ntmps24 rfl rfl rfl rfl rfl rfl rfl CW rfl ?_;intro vs2;simp only [A2, List.cons_append, List.nil_append])|(refine T.nilU 6 rfl ?_;apply T.ret;change C7 _ _ _ _ _)
      | refine V ?_
      | (refine W2 ?_ ?_ <;> intro hc))
     all_goals exact D2 rfl rfl rfl
 ·have h1 : ¬ (j : Int) < ((prs.map Ak).length : Nat) := by omega
  rw [List.take_of_length_le (by omega)]
  have hall : ∀ q ∈ prs, Bp h c G q := fun q hq => by
   obtain ⟨i, hi⟩ := List.getElem?_of_mem hq
   exact hgo i (by have := (List.getElem?_eq_some_iff.1 hi).1;omega) q hi
  have e1 := M8 hall
  have e2 : N0 h c G = D5 h c G prs := by unfold N0;rw [hprs, e1];exact if_pos rfl
  rw [e1, e2]
  generalize D5 h c G prs = LL at *
  refine T.sealH 2 0 7 (rows := LL.map ConR.row) (A1d _) (List.length_map _) rfl rfl rfl rfl ?_
  repeat' (first
   | refine W ?_
   | refine Y ?_|(apply T.ret;(first | change D6 Tryz.prog Tryz.f23 _ _ _ _ _ _|(dsimp only [Ca, Dc];change D6 Tryz.prog Tryz.f23 _ _ _ _ _ _));refine ⟨.inr rfl, [_], .cons (.tmp rfl) .nil, rfl, ?_⟩;show Reg none _ _ _ _ _ _ _)
   | refine V ?_
   | (refine W2 ?_ ?_ <;> intro hc))
  all_goals exact D2 rfl rfl rfl
theorem Uj (h : HouseR) (c : SheetR) (hf : h.fits) (hc : c.fits) (G : List Int) (hG : G.length <= 4611686018427387904) (e0 : ¬ alE h c G = 0) : Fn0 Tryz.prog 8 [A1 h.row, A1 c.row, .sl (G.map A3)] (.tup [.sl [], .i (alE h c G)]) := by
 have ce := Hw h c hf hc G hG e0
 generalize alE h c G = e at *
 refine Fn0.of Tryz.func8 Tryz.ntmps8 rfl rfl rfl ?_
 simp only [A2]
 repeat' (first
  | refine W ?_
  | refine Y ?_|(refine S.inline [(8, .ptr 2 0)] Tryz.func23 Tryz.ntmps23 rfl rfl rfl rfl rfl rfl rfl CW rfl ?_;intro vs;simp only [A2, List.cons_append, List.nil_append])|(apply T.ret;(first | change D6 Tryz.prog Tryz.f23 _ _ _ _ _ _|(dsimp only [Ca, Dc];change D6 Tryz.prog Tryz.f23 _ _ _ _ _ _));refine ⟨.inr rfl, [_], .cons (.tmp rfl) .nil, rfl, ?_⟩;show Reg none _ _ _ _ _ _ _)|(refine T.nilU 6 rfl ?_;apply T.ret;change C7 _ _ _ _ _)
  | refine V ?_
  | (refine W2 ?_ ?_ <;> intro hc))
 all_goals exact D2 rfl rfl rfl
open Classical in
noncomputable def ckE (h : HouseR) (c : SheetR) (G : List Int) : Int := if alE h c G = 0 then F2 h c G (Cz h) else alE h c G
open Classical in
noncomputable def ckL (h : HouseR) (c : SheetR) (G : List Int) : List ConR := if alE h c G = 0 then N0 h c G else []
theorem Iz (h : HouseR) (c : SheetR) (hf : h.fits) (hc : c.fits) (G : List Int) (hG : G.length <= 4611686018427387904) : Fn0 Tryz.prog 8 [A1 h.row, A1 c.row, .sl (G.map A3)] (.tup [.sl ((ckL h c G).map ConR.row), .i (ckE h c G)]) := by
 unfold ckL ckE
 by_cases e0 : alE h c G = 0
 ·rw [if_pos e0, if_pos e0];exact A2z h c hf hc G hG e0
 ·rw [if_neg e0, if_neg e0];exact Uj h c hf hc G hG e0
theorem Acc {h : HouseR} {c : SheetR} {G : List Int} (e : ¬ ckE h c G = 0) : ckL h c G = [] := by
 unfold ckE at e
 unfold ckL
 split at e
 ·rename_i e0
  rw [if_pos e0]
  unfold N0
  exact if_neg e
 ·rename_i e0
  exact if_neg e0
theorem Kx {h : HouseR} {c : SheetR} {G : List Int} (e : ckE h c G = 0) : alE h c G = 0 /\ ckL h c G = D5 h c G (Cz h) := by
 unfold ckE at e
 split at e
 ·rename_i e0
  refine ⟨e0, ?_⟩
  unfold ckL N0
  rw [if_pos e0, if_pos e]
 ·rename_i e0;exact absurd e e0
/-! ### Comparing -/
/-! ### The first contact -/
theorem A7v {h : HouseR} (hp : C8 h) : (Cz h).length <= 3600 := Nat.le_trans (Ml h.sets h.sets.length) (Nat.le_trans (Nat.mul_le_mul hp.2.2.2.1 hp.2.2.2.1) (by decide))
end Go.Proofs.YtcbfnkgodiaiiaaGreat
