/- Lemmas of the proof. -/
import Derived.Test.YtlapbaiejnaeiaaGreatDoorMj
import Derived.Test.YtlapbaiejnaeiaaGreatDoorPf
set_option linter.all false
set_option maxHeartbeats 64000000
namespace Go.Proofs.YtlapbaiejnaeiaaGreatDoor
open Go Go.RowKit
def a9t := @Tryz.ntmps75
def b0h := @Tryz.func75
def b1v := @Tryz.ntmps49
def b1x := @Tryz.ntmps74
def b2u := @Tryz.func49
def b2w := @Tryz.func74
abbrev Di (h : HouseR) : List (ByteArray × ByteArray) := D1 h.sets h.sets.length
open Classical in
noncomputable def Ha (h : HouseR) (c : SheetR) (G : List Int) : List (ByteArray × ByteArray) -> Int
 | [] => 0
 | p :: r => if Cx h c G p then Ha h c G r else (ctR h c G p).2.2
theorem A16 {h : HouseR} {c : SheetR} {G : List Int} : ∀ {l : List (ByteArray × ByteArray)}, (∀ p ∈ l, Cx h c G p) -> Ha h c G l = 0
 | [], _ => rfl
 | p :: r, hg => by rw [Ha, if_pos (hg p (by simp))];exact A16 fun q hq => hg q (by simp [hq])
theorem Xo {h : HouseR} {c : SheetR} {G : List Int} : ∀ {l : List (ByteArray × ByteArray)} {k : Nat} {p}, l[k]? = some p -> (∀ j, j < k -> ∀ q, l[j]? = some q -> Cx h c G q) -> ¬ Cx h c G p -> Ha h c G l = (ctR h c G p).2.2
 | [], k, p, hk, _, _ => by simp at hk
 | x :: r, 0, p, hk, _, hn => by
  obtain rfl : x = p := by simpa using hk
  rw [Ha, if_neg hn]
 | x :: r, k + 1, p, hk, hj, hn => by
  rw [Ha, if_pos (hj 0 (by omega) x rfl)]
  exact Xo (k := k) (by simpa using hk) (fun j hjk q hq => hj (j + 1) (by omega) q (by simpa using hq)) hn
theorem V8 {h : HouseR} {c : SheetR} {G : List Int} : ∀ {l : List (ByteArray × ByteArray)}, Ha h c G l = 0 -> ∀ p ∈ l, Cx h c G p
 | [], _, p, hp => by cases hp
 | x :: r, e, p, hp => by
  rw [Ha] at e
  split at e
  ·rcases a1j.1 hp with rfl | hp
   ·assumption
   ·exact V8 e p hp
  ·rename_i hn
   exact absurd (.inl e) hn
noncomputable def Ls (h : HouseR) (c : SheetR) (G : List Int) : List ConR := if Ha h c G (Di h) = 0 then Dm h c G (Di h) else []
theorem Vh {h : HouseR} {n : ByteArray} {s : SetR} (hs : s ∈ h.sets) (hn : s.name = n) : ¬ Ae h n < 0 := by
 have h1 : ¬ Ae h n = -1 := R3 ⟨s, hs, hn⟩
 have h2 : -1 <= Ae h n := Fq _ _
 omega
theorem R5 {h : HouseR} {p : ByteArray × ByteArray} (hm : p ∈ Di h) : ¬ Ae h p.1 < 0 /\ ¬ Ae h p.2 < 0 := by
 obtain ⟨k, _, a, ha, hx⟩ := mem_prsK.1 hm
 obtain ⟨j, _, b, hb, _, rfl⟩ := mem_innN.1 hx
 exact ⟨Vh (a0c ha) rfl, Vh (a0c hb) rfl⟩
theorem So {h : HouseR} {c : SheetR} {G : List Int} (p : PlanOk h c G) {n : ByteArray} {s : SetR} (hs : Ip h n = some s) (he : Cf h c G n = 0) : okC (Bc h c G n) /\ Bc h c G n ≠ [] /\ (Bc h c G n).length <= 200 := by
 have hmem : s ∈ h.sets := a0c hs
 obtain ⟨⟨_, _, s1, s2, s3, _⟩, _⟩ := p.v.1.2.2.2.2.2.1 s hmem
 unfold Cf at he
 unfold Bc
 rw [hs] at he ⊢
 dsimp only at he ⊢
 split at he
 ·unfold Js at he
  split at he
  ·cases he
  ·rename_i hb
   split at he
   ·cases he
   ·rename_i hl
    exact ⟨A1m (Cq (by omega) (by omega)) hb _ (a0l _), Ua _ _ _ _ _ _, by omega⟩
 ·cases he
abbrev Aaj : List AV := [.s ⟨#[]⟩, .i 0, .i 0, .i 0, .i 0, .sl [], .i 0, .i 0, .i 0, .i 0, .i 0, .sl [], .sl []]
noncomputable def pcC (p : ByteArray × ByteArray) (a b : SetR) (x y : List PcQ) : Nat -> List AV
 | 0 => [.s p.1, .s p.2] ++ Aaj ++ Aaj ++ [.sl [], .sl []]
 | 1 => [.s p.1, .s p.2] ++ a.row.map .lf ++ Aaj ++ [.sl (x.map PcQ.row), .sl []]
 | _ => [.s p.1, .s p.2] ++ a.row.map .lf ++ b.row.map .lf ++ [.sl (x.map PcQ.row), .sl (y.map PcQ.row)]
theorem Aab (h : HouseR) (c : SheetR) (G : List Int) (p : PlanOk h c G) : Fits (En h c G) /\ 0 <= En h c G /\ En h c G <= 1099511627776 := by
 have he := p.endI
 have hm := E8 (endI h c G)
 have h0 : (0 : Rat) <= (endI h c G : Rat) := a9g.2 he.1
 have h1 : (endI h c G : Rat) <= ((259845521408 : Int) : Rat) := a3h.2 he.2
 rw [show ((259845521408 : Int) : Rat) = 259845521408 from rfl] at h1
 have hu : En h c G = mil (endI h c G) := rfl
 have hf : Fits (A9 (endI h c G) 1000) := Br (by omega) (by omega) (by omega) (by omega)
 refine ⟨hf, ?_, ?_⟩
 ·rw [hu];grind
 ·rw [hu];grind
theorem Ka (b st n k : Nat) (h : b < n) : ([rT b st k] : List AV).all (AV.under n) = true := by rw [a7x, Rd _ _ _ _ h];rfl
theorem P9 (h : HouseR) (c : SheetR) (G : List Int) (n : ByteArray) : ¬ Cf h c G n = 12 := by
 unfold Cf
 split
 ·split
  ·unfold Js
   split
   ·decide
   ·split <;> decide
  ·decide
 ·decide
theorem A3p (h : HouseR) (c : SheetR) (hf : h.fits) (hc : c.fits) (G : List Int) (hG : G.length <= 4611686018427387904) (e0 : alE h c G = 0) : Fn0 Tryz.prog 49 [A1 h.row, A1 c.row, .sl (G.map A3)] (.tup [.sl ((Ls h c G).map ConR.row), .i (Ha h c G (Di h))]) := by
 have p := (Lk e0).1
 have hp := p.v.1
 have ce := Rg h c hf hc G hG e0
 obtain ⟨ft, t0, t1⟩ := Aab h c G p
 have he := p.endI
 have cm := Fw (endI h c G) 1000 (by decide) (by omega) (by omega) (by decide) (by decide) ft
 have cp := Ur h hf hp
 have hs60 := hp.2.2.2.1
 have hlen : (Di h).length <= 3600 := a1z (Jr h.sets h.sets.length) (a1z (a6p hs60 hs60) (by decide))
 have hle : ((Di h).map Ac).length = (Di h).length := a0a _
 have hbad : ∀ k q, (Di h)[k]? = some q -> (∀ j, j < k -> ∀ q, (Di h)[j]? = some q -> Cx h c G q) -> ¬ Cx h c G q -> Ls h c G = [] /\ Ha h c G (Di h) = (ctR h c G q).2.2 := fun k q hk hj hn => by
  have e := Xo hk hj hn
  refine ⟨?_, e⟩
  unfold Ls
  rw [e]
  exact if_neg fun k => hn (.inl k)
 have hmemp : ∀ q ∈ Di h, ¬ Ae h q.1 < 0 /\ ¬ Ae h q.2 < 0 := fun q hq => R5 hq
 change Fn0 _ _ _ (.tup [_, .i 0]) at cm
 change Fn0 _ _ _ (.tup [.sl ((Di h).map Ac), .i 0]) at cp
 generalize hprs : Di h = prs at *
 have hT : En h c G = A9 (endI h c G) 1000 := rfl
 rw [<- hT] at cm
 refine Fn0.of b2u b1v rfl rfl rfl ?_
 simp only [A2]
 repeat' (first|refine W ?_|refine Y ?_|(refine p1y [(8, .ptr 2 0)] b2w b1x rfl rfl rfl rfl rfl rfl rfl CW rfl ?_;intro vs;simp only [A2, a2j, a3m])|refine V ?_|(refine W2 ?_ ?_<;>intro hc))
 refine T.kill 7 ?_
 refine T.kill 8 ?_
 refine p0d (fun j => j <= prs.length /\ ∀ i, i < j -> ∀ q, prs[i]? = some q -> Cx h c G q) (fun j => prs.length - j) (fun j => [(49, .i j), (48, .i (prs.map Ac).length), (47, .sl (prs.map Ac)), (3, .fn (.func 75) [] [.ptr 2 0]), (4, .ptr 4 0), (5, .ptr 5 0), (11, .ptr 6 0), (2, .sl (G.map A3))]) (fun j => [.live (h.row.map .lf), .live (c.row.map .lf), .live [rT 7 4 (Dm h c G (prs.take j)).length], .gho [.ptr 2 0] vs, .live (h.row.map .lf), .live (c.row.map .lf), .live [.i (En h c G).num, .i (En h c G).den], rB (Cb (Dm h c G (prs.take j))) (Dm h c G (prs.take j)).length, .dead]) 0 ⟨a0o _, by intro i hi;omega⟩ CW (.live rfl (.live rfl (.live rfl (.gho rfl CG)))) ?_
 rintro j ⟨hj, hgo⟩
 by_cases hlt : j < prs.length
 ·have h1 : (j : Int) < ((prs.map Ac).length : Nat) := by omega
  obtain ⟨q, hq⟩ := Aa hlt
  have hb := Ab (R := Ac) hq
  obtain ⟨n1, n2⟩ := hmemp q (a0c hq)
  obtain ⟨a, ha⟩ : ∃ a, h.sets[(Ae h q.1).toNat]? = some a := J5 n1
  obtain ⟨b, hbb⟩ : ∃ b, h.sets[(Ae h q.2).toNat]? = some b := J5 n2
  have hsa : Ip h q.1 = some a := ha
  have hsb : Ip h q.2 = some b := hbb
  have rha : (h.sets.map SetR.row)[(Ae h q.1).toNat]? = some a.row := I3 ha
  have rhb : (h.sets.map SetR.row)[(Ae h q.2).toNat]? = some b.row := I3 hbb
  have f1 := Iu h hf hp q.1 n1
  have f2 := Iu h hf hp q.2 n2
  have p1 := Ms h c hf hc G hG e0 q.1 n1
  have p2 := Ms h c hf hc G hG e0 q.2 n2
  have hct : ctR h c G q = if Cf h c G q.1 = 0 then (if Cf h c G q.2 = 0 then frT a b (Bc h c G q.1) (Bc h c G q.2) (En h c G) else (0, 0, Cf h c G q.2)) else (0, 0, Cf h c G q.1) := by unfold ctR;rw [hsa, hsb]
  have hbd := hbad j q hq hgo
  have htk : prs.take (j + 1) = prs.take j ++ [q] := by rw [a0x, hq];rfl
  have hKy : (ctR h c G q).2.2 = 0 -> Dm h c G (prs.take (j + 1)) = Dm h c G (prs.take j) ++ [⟨q.1, q.2, (ctR h c G q).1, (ctR h c G q).2.1⟩] := fun e => by rw [htk];exact A83 e
  have hKn : ¬ (ctR h c G q).2.2 = 0 -> Dm h c G (prs.take (j + 1)) = Dm h c G (prs.take j) := fun e => by rw [htk];exact Ab0 e
  have hLl : (Dm h c G (prs.take j)).length <= 3600 := a1z (X9 _ _ _ _) (by rw [a0t];omega)
  have hgo2 : Cx h c G q -> ∀ i, i < j + 1 -> ∀ q, prs[i]? = some q -> Cx h c G q := fun g i hi q' hq' => by
   by_cases e : i = j
   ·subst e
    rw [hq] at hq'
    injection hq' with hq'
    subst hq'
    exact g
   ·exact hgo i (by omega) q' hq'
  generalize Ae h q.1 = i1 at *
  generalize Ae h q.2 = i2 at *
  generalize Dm h c G (prs.take j) = LL at *
  repeat' (first|refine W ?_|refine Y ?_|refine V ?_|(refine W2 ?_ ?_<;>intro hc))
  refine p0d (fun i => i <= 2 /\ (1 <= i -> Cf h c G q.1 = 0) /\ (2 <= i -> Cf h c G q.2 = 0)) (fun i => 2 - i) (fun i => [(56, .i i), (55, .agg [.s q.1, .s q.2]), (14, .ptr 9 0), (15, .ptr 10 0), (49, .i j), (48, .i (prs.map Ac).length), (47, .sl (prs.map Ac)), (3, .fn (.func 75) [] [.ptr 2 0]), (4, .ptr 4 0), (5, .ptr 5 0), (11, .ptr 6 0), (2, .sl (G.map A3))]) (fun i => [.live (h.row.map .lf), .live (c.row.map .lf), .live [rT 7 4 (LL).length], .gho [.ptr 2 0] vs, .live (h.row.map .lf), .live (c.row.map .lf), .live [.i (En h c G).num, .i (En h c G).den], rB (Cb (LL)) (LL).length, .dead, .live [.s q.1, .s q.2], .live (pcC q a b (Bc h c G q.1) (Bc h c G q.2) i)]) 0 ⟨by omega, fun k => absurd k (by omega), fun k => absurd k (by omega)⟩ CW (.live rfl (.live rfl (.live (Ka 7 4 _ _ (a0d rfl)) (.gho rfl (.live rfl (.live rfl (.live rfl (p2h (Aj _ _) CG _)))))))) ?_
  rintro i ⟨hi, hi1, hi2⟩
  obtain rfl | rfl | rfl : i = 0 \/ i = 1 \/ i = 2 := by omega
  ·have z0 : ((0 : Nat) : Int) < 2 := by decide
   by_cases pe : Cf h c G q.1 = 0
   ·rw [show Nz h c G q.1 = Bc h c G q.1 from if_pos pe, pe] at p1
    repeat' (first|refine W ?_|refine Y ?_|(apply S.idxV;(iterate 3 exact rfl);exact ⟨by decide, by decide⟩;exact rfl;exact rfl)|(apply S.idxAP;(iterate 4 exact rfl);exact ⟨by decide, by decide⟩;exact rfl)|refine V ?_|(refine W2 ?_ ?_<;>intro hc))
    all_goals (first|(change Next _ _ _ _ _ _)|(trace_state;fail))
    all_goals exact Next.go 1 ⟨by omega, fun _ => pe, fun k => absurd k (by omega)⟩ (by omega) CW (.live rfl (.live rfl (.live (Ka 7 4 _ _ (a0d rfl)) (.gho rfl (.live rfl (.live rfl (.live rfl (p2h (Aj _ _) CG _))))))))
   ·rw [show Nz h c G q.1 = [] from if_neg pe] at p1
    rw [if_neg pe] at hct
    rw [hct] at hbd
    have hng : ¬ Cx h c G q := fun k => by
     unfold Cx at k
     rw [hct] at k
     exact k.elim pe (P9 h c G q.1)
    obtain ⟨b1, b2⟩ := hbd hng
    rw [b1, b2]
    dsimp only
    generalize Cf h c G q.1 = e at *
    repeat' (first|refine W ?_|refine Y ?_|(apply S.idxV;(iterate 3 exact rfl);exact ⟨by decide, by decide⟩;exact rfl;exact rfl)|(apply S.idxAP;(iterate 4 exact rfl);exact ⟨by decide, by decide⟩;exact rfl)|(apply T.ret;(first|change Co Tryz.prog Tryz.f74 _ _ _ _ _ _|(dsimp only [C1, Cy];change Co Tryz.prog Tryz.f74 _ _ _ _ _ _));refine ⟨.inr rfl, [_], .cons (.tmp rfl) .nil, rfl, ?_⟩;show Reg none _ _ _ _ _ _ _)|(refine p0z 6 rfl ?_;apply T.ret;change Bj _ _ _ _ _)|refine V ?_|(refine W2 ?_ ?_<;>intro hc))
    all_goals exact D2 rfl rfl rfl
  ·have z0 : ((1 : Nat) : Int) < 2 := by decide
   have pe1 := hi1 (a0l _)
   by_cases pe : Cf h c G q.2 = 0
   ·rw [show Nz h c G q.2 = Bc h c G q.2 from if_pos pe, pe] at p2
    repeat' (first|refine W ?_|refine Y ?_|(apply S.idxV;(iterate 3 exact rfl);exact ⟨by decide, by decide⟩;exact rfl;exact rfl)|(apply S.idxAP;(iterate 4 exact rfl);exact ⟨by decide, by decide⟩;exact rfl)|refine V ?_|(refine W2 ?_ ?_<;>intro hc))
    all_goals (first|(change Next _ _ _ _ _ _)|(trace_state;fail))
    all_goals exact Next.go 2 ⟨by omega, fun _ => pe1, fun _ => pe⟩ (by omega) CW (.live rfl (.live rfl (.live (Ka 7 4 _ _ (a0d rfl)) (.gho rfl (.live rfl (.live rfl (.live rfl (p2h (Aj _ _) CG _))))))))
   ·rw [show Nz h c G q.2 = [] from if_neg pe] at p2
    rw [if_pos pe1, if_neg pe] at hct
    rw [hct] at hbd
    have hng : ¬ Cx h c G q := fun k => by
     unfold Cx at k
     rw [hct] at k
     exact k.elim pe (P9 h c G q.2)
    obtain ⟨b1, b2⟩ := hbd hng
    rw [b1, b2]
    dsimp only
    generalize Cf h c G q.2 = e at *
    repeat' (first|refine W ?_|refine Y ?_|(apply S.idxV;(iterate 3 exact rfl);exact ⟨by decide, by decide⟩;exact rfl;exact rfl)|(apply S.idxAP;(iterate 4 exact rfl);exact ⟨by decide, by decide⟩;exact rfl)|(apply T.ret;(first|change Co Tryz.prog Tryz.f74 _ _ _ _ _ _|(dsimp only [C1, Cy];change Co Tryz.prog Tryz.f74 _ _ _ _ _ _));refine ⟨.inr rfl, [_], .cons (.tmp rfl) .nil, rfl, ?_⟩;show Reg none _ _ _ _ _ _ _)|(refine p0z 6 rfl ?_;apply T.ret;change Bj _ _ _ _ _)|refine V ?_|(refine W2 ?_ ?_<;>intro hc))
    all_goals exact D2 rfl rfl rfl
  ·have z0 : ¬ ((2 : Nat) : Int) < 2 := by decide
   have pe1 := hi1 (by omega)
   have pe2 := hi2 (by omega)
   obtain ⟨ox, x0, nx⟩ := So p hsa pe1
   obtain ⟨oy, y0, ny⟩ := So p hsb pe2
   rw [if_pos pe1, if_pos pe2] at hct
   have ma := a0c ha
   have mb := a0c hbb
   have cf := A2g a b (Bc h c G q.1) (Bc h c G q.2) ⟨(hp.2.2.2.2.2.1 a ma).1, (hp.2.2.2.2.2.1 b mb).1, hf.2.2 a ma, hf.2.2 b mb, ox, oy, x0, y0, nx, ny⟩ (En h c G) ft t0 t1
   unfold Cx at hgo2
   have hng : ¬ ((ctR h c G q).2.2 = 0 \/ (ctR h c G q).2.2 = 12) -> Ls h c G = [] /\ Ha h c G prs = (ctR h c G q).2.2 := hbd
   rw [hct] at hKy hKn hng hgo2
   generalize frT a b (Bc h c G q.1) (Bc h c G q.2) (En h c G) = r at *
   obtain ⟨u, v, e⟩ := r
   dsimp only at *
   generalize Bc h c G q.1 = xa at *
   generalize Bc h c G q.2 = xb at *
   by_cases ez : e = 0
   ·subst ez
    have hK := hKy rfl
    have hcl := Lq LL
    have hsn := Pp LL ⟨q.1, q.2, u, v⟩
    have hln : (LL ++ [(⟨q.1, q.2, u, v⟩ : ConR)]).length = LL.length + 1 := by simp
    cases LL with
    | nil =>
     repeat' (first|refine W ?_|refine Y ?_|(apply S.idxAP;(iterate 4 exact rfl);exact ⟨by decide, by decide⟩;exact rfl)|(apply T.ret;(first|change Co Tryz.prog Tryz.f74 _ _ _ _ _ _|(dsimp only [C1, Cy];change Co Tryz.prog Tryz.f74 _ _ _ _ _ _));refine ⟨.inr rfl, [_], .cons (.tmp rfl) .nil, rfl, ?_⟩;show Reg none _ _ _ _ _ _ _)|(apply T.ret;(first|change Co Tryz.prog Tryz.f75 _ _ _ _ _ _|(dsimp only [C1, Cy];change Co Tryz.prog Tryz.f75 _ _ _ _ _ _));refine ⟨.inr rfl, [_], .cons (.tmp rfl) .nil, rfl, ?_⟩;show Reg none _ _ _ _ _ _ _)|(refine p1y [(49, .i j), (48, .i (prs.map Ac).length), (47, .sl (prs.map Ac)), (3, .fn (.func 75) [] [.ptr 2 0]), (4, .ptr 4 0), (5, .ptr 5 0), (11, .ptr 6 0), (2, .sl (G.map A3))] Tryz.func75 Tryz.ntmps75 rfl rfl rfl rfl rfl rfl rfl CW rfl ?_;intro vs2;simp only [A2, List.cons_append, List.nil_append])|(apply p0c;(iterate 7 exact rfl))|(apply p0u 7 (rows := []);(iterate 8 exact rfl);exact Af rfl;exact rfl;exact Nat.le_of_ble_eq_true rfl;exact Nat.le_of_ble_eq_true rfl)|refine V ?_|(refine W2 ?_ ?_<;>intro hc))
     all_goals (first|(change Next _ _ _ _ _ _)|(trace_state;fail))
     all_goals exact Next.go (j + 1) ⟨by omega, hgo2 (.inl rfl)⟩ (by omega) (by rw [hK, show (((j + 1 : Nat) : Int)) = (j : Int) + 1 by omega];exact CW) (by rw [hK];exact .live rfl (.live rfl (.live rfl (.gho rfl CG))))
    | cons l0 LL =>
     have hLl2 : LL.length + 1 <= 3600 := hLl
     repeat' (first|refine W ?_|refine Y ?_|(apply S.idxAP;(iterate 4 exact rfl);exact ⟨by decide, by decide⟩;exact rfl)|(apply T.ret;(first|change Co Tryz.prog Tryz.f74 _ _ _ _ _ _|(dsimp only [C1, Cy];change Co Tryz.prog Tryz.f74 _ _ _ _ _ _));refine ⟨.inr rfl, [_], .cons (.tmp rfl) .nil, rfl, ?_⟩;show Reg none _ _ _ _ _ _ _)|(apply T.ret;(first|change Co Tryz.prog Tryz.f75 _ _ _ _ _ _|(dsimp only [C1, Cy];change Co Tryz.prog Tryz.f75 _ _ _ _ _ _));refine ⟨.inr rfl, [_], .cons (.tmp rfl) .nil, rfl, ?_⟩;show Reg none _ _ _ _ _ _ _)|(refine p1y [(49, .i j), (48, .i (prs.map Ac).length), (47, .sl (prs.map Ac)), (3, .fn (.func 75) [] [.ptr 2 0]), (4, .ptr 4 0), (5, .ptr 5 0), (11, .ptr 6 0), (2, .sl (G.map A3))] Tryz.func75 Tryz.ntmps75 rfl rfl rfl rfl rfl rfl rfl CW rfl ?_;intro vs2;simp only [A2, List.cons_append, List.nil_append])|(apply p0c;(iterate 7 exact rfl))|(refine Reg.blur 2 0 8 rfl rfl rfl ?_;apply p0p;(iterate 8 exact rfl);exact hcl;exact Af rfl;exact rfl;exact B6 _ _;simp only [List.length_cons, List.length_nil];omega;simp only [List.length_cons, List.length_nil];omega)|refine V ?_|(refine W2 ?_ ?_<;>intro hc))
     all_goals (first|(change Next _ _ _ _ _ _)|(trace_state;fail))
     all_goals exact Next.go (j + 1) ⟨by omega, hgo2 (.inl rfl)⟩ (by omega) (by rw [hK, show (((j + 1 : Nat) : Int)) = (j : Int) + 1 by omega];exact CW) (by rw [hK, hsn, hln];exact .live rfl (.live rfl (.live rfl (.gho rfl (.live rfl (.live rfl (.live rfl (.live (by rw [<- a1u];exact Aj _ _) (.dead .nil)))))))))
   ·by_cases e12 : e = 12
    ·subst e12
     repeat' (first|refine W ?_|refine Y ?_|(apply S.idxAP;(iterate 4 exact rfl);exact ⟨by decide, by decide⟩;exact rfl)|(apply T.ret;(first|change Co Tryz.prog Tryz.f74 _ _ _ _ _ _|(dsimp only [C1, Cy];change Co Tryz.prog Tryz.f74 _ _ _ _ _ _));refine ⟨.inr rfl, [_], .cons (.tmp rfl) .nil, rfl, ?_⟩;show Reg none _ _ _ _ _ _ _)|(apply T.ret;(first|change Co Tryz.prog Tryz.f75 _ _ _ _ _ _|(dsimp only [C1, Cy];change Co Tryz.prog Tryz.f75 _ _ _ _ _ _));refine ⟨.inr rfl, [_], .cons (.tmp rfl) .nil, rfl, ?_⟩;show Reg none _ _ _ _ _ _ _)|(refine p1y [(49, .i j), (48, .i (prs.map Ac).length), (47, .sl (prs.map Ac)), (3, .fn (.func 75) [] [.ptr 2 0]), (4, .ptr 4 0), (5, .ptr 5 0), (11, .ptr 6 0), (2, .sl (G.map A3))] Tryz.func75 Tryz.ntmps75 rfl rfl rfl rfl rfl rfl rfl CW rfl ?_;intro vs2;simp only [A2, List.cons_append, List.nil_append])|refine V ?_|(refine W2 ?_ ?_<;>intro hc))
     all_goals (first|(change Next _ _ _ _ _ _)|(trace_state;fail))
     all_goals exact Next.go (j + 1) ⟨by omega, hgo2 (.inr rfl)⟩ (by omega) (by rw [hKn ez, show (((j + 1 : Nat) : Int)) = (j : Int) + 1 by omega];exact CW) (by rw [hKn ez];exact .live rfl (.live rfl (.live (Ka 7 4 _ _ (a0d rfl)) (.gho rfl (.live rfl (.live rfl (.live rfl (p2h (Aj _ _) (.dead .nil) _))))))))
    ·obtain ⟨b1, b2⟩ := hng fun k => k.elim ez e12
     rw [b1, b2]
     repeat' (first|refine W ?_|refine Y ?_|(apply S.idxAP;(iterate 4 exact rfl);exact ⟨by decide, by decide⟩;exact rfl)|(apply T.ret;(first|change Co Tryz.prog Tryz.f74 _ _ _ _ _ _|(dsimp only [C1, Cy];change Co Tryz.prog Tryz.f74 _ _ _ _ _ _));refine ⟨.inr rfl, [_], .cons (.tmp rfl) .nil, rfl, ?_⟩;show Reg none _ _ _ _ _ _ _)|(apply T.ret;(first|change Co Tryz.prog Tryz.f75 _ _ _ _ _ _|(dsimp only [C1, Cy];change Co Tryz.prog Tryz.f75 _ _ _ _ _ _));refine ⟨.inr rfl, [_], .cons (.tmp rfl) .nil, rfl, ?_⟩;show Reg none _ _ _ _ _ _ _)|(refine p1y [(49, .i j), (48, .i (prs.map Ac).length), (47, .sl (prs.map Ac)), (3, .fn (.func 75) [] [.ptr 2 0]), (4, .ptr 4 0), (5, .ptr 5 0), (11, .ptr 6 0), (2, .sl (G.map A3))] Tryz.func75 Tryz.ntmps75 rfl rfl rfl rfl rfl rfl rfl CW rfl ?_;intro vs2;simp only [A2, List.cons_append, List.nil_append])|(refine p0z 6 rfl ?_;apply T.ret;change Bj _ _ _ _ _)|refine V ?_|(refine W2 ?_ ?_<;>intro hc))
     all_goals exact D2 rfl rfl rfl
 ·have h1 : ¬ (j : Int) < ((prs.map Ac).length : Nat) := by omega
  rw [a0h (by omega)]
  have hall : ∀ q ∈ prs, Cx h c G q := fun q hq => by
   obtain ⟨i, hi⟩ := a2y hq
   exact hgo i (by have := (a0g.1 hi).1;omega) q hi
  have e1 := A16 hall
  have e2 : Ls h c G = Dm h c G prs := by unfold Ls;rw [hprs, e1];exact if_pos rfl
  rw [e1, e2]
  generalize Dm h c G prs = LL at *
  refine p4b 2 0 7 (rows := LL.map ConR.row) (J3 _) (a0a _) rfl rfl rfl rfl ?_
  repeat' (first|refine W ?_|refine Y ?_|(apply T.ret;(first|change Co Tryz.prog Tryz.f74 _ _ _ _ _ _|(dsimp only [C1, Cy];change Co Tryz.prog Tryz.f74 _ _ _ _ _ _));refine ⟨.inr rfl, [_], .cons (.tmp rfl) .nil, rfl, ?_⟩;show Reg none _ _ _ _ _ _ _)|refine V ?_|(refine W2 ?_ ?_<;>intro hc))
  all_goals exact D2 rfl rfl rfl
theorem Ui (h : HouseR) (c : SheetR) (hf : h.fits) (hc : c.fits) (G : List Int) (hG : G.length <= 4611686018427387904) (e0 : ¬ alE h c G = 0) : Fn0 Tryz.prog 49 [A1 h.row, A1 c.row, .sl (G.map A3)] (.tup [.sl [], .i (alE h c G)]) := by
 have ce := Yv h c hf hc G hG e0
 generalize alE h c G = e at *
 refine Fn0.of b2u b1v rfl rfl rfl ?_
 simp only [A2]
 repeat' (first|refine W ?_|refine Y ?_|(refine p1y [(8, .ptr 2 0)] Tryz.func74 Tryz.ntmps74 rfl rfl rfl rfl rfl rfl rfl CW rfl ?_;intro vs;simp only [A2, List.cons_append, List.nil_append])|(apply T.ret;(first|change Co Tryz.prog Tryz.f74 _ _ _ _ _ _|(dsimp only [C1, Cy];change Co Tryz.prog Tryz.f74 _ _ _ _ _ _));refine ⟨.inr rfl, [_], .cons (.tmp rfl) .nil, rfl, ?_⟩;show Reg none _ _ _ _ _ _ _)|(refine p0z 6 rfl ?_;apply T.ret;change Bj _ _ _ _ _)|refine V ?_|(refine W2 ?_ ?_<;>intro hc))
 all_goals exact D2 rfl rfl rfl
open Classical in
noncomputable def ckE (h : HouseR) (c : SheetR) (G : List Int) : Int := if alE h c G = 0 then Ha h c G (Di h) else alE h c G
open Classical in
noncomputable def ckL (h : HouseR) (c : SheetR) (G : List Int) : List ConR := if alE h c G = 0 then Ls h c G else []
theorem Qe (h : HouseR) (c : SheetR) (hf : h.fits) (hc : c.fits) (G : List Int) (hG : G.length <= 4611686018427387904) : Fn0 Tryz.prog 49 [A1 h.row, A1 c.row, .sl (G.map A3)] (.tup [.sl ((ckL h c G).map ConR.row), .i (ckE h c G)]) := by
 unfold ckL ckE
 by_cases e0 : alE h c G = 0
 ·rw [if_pos e0, if_pos e0];exact A3p h c hf hc G hG e0
 ·rw [if_neg e0, if_neg e0];exact Ui h c hf hc G hG e0
theorem Aaz {h : HouseR} {c : SheetR} {G : List Int} (e : ¬ ckE h c G = 0) : ckL h c G = [] := by
 unfold ckE at e
 unfold ckL
 split at e
 ·rename_i e0
  rw [if_pos e0]
  unfold Ls
  exact if_neg e
 ·rename_i e0
  exact if_neg e0
theorem Aam {h : HouseR} {c : SheetR} {G : List Int} (e : ckE h c G = 0) : alE h c G = 0 /\ ckL h c G = Dm h c G (Di h) := by
 unfold ckE at e
 split at e
 ·rename_i e0
  refine ⟨e0, ?_⟩
  unfold ckL Ls
  rw [if_pos e0, if_pos e]
 ·rename_i e0;exact absurd e e0
/-! ### Comparing -/
/-! ### The first contact -/
theorem A9u {h : HouseR} (hp : Cn h) : (Di h).length <= 3600 := a1z (Jr h.sets h.sets.length) (a1z (a6p hp.2.2.2.1 hp.2.2.2.1) (by decide))
theorem A3u {l : List ConR} {k : Nat} {x : ConR} (h : l[k]? = some x) : Bf (l.take (k + 1)) = Bf (l.take k) ++ Cm (Am x) := by rw [B8 h, Og, Vw]
theorem Wh {l : List ConR} {k : Nat} (hl : l.length <= 1000) (h : ∀ i x, i < k -> l[i]? = some x -> Av x) : (Bf (l.take k)).length <= 428000 := by
 have h1 := A1y (l := l.take k) fun x hx => by
  obtain ⟨i, hi⟩ := a8k.1 hx
  have hik : i < k := by
   have := (a0g.1 hi).1
   rw [a0t] at this;omega
  rw [a5d, if_pos hik] at hi
  exact h i x hik hi
 have h2 : (l.take k).length <= 1000 := by rw [a0t];omega
 have h3 := a1x 428 h2
 omega
theorem A86 (l : List ConR) (hl : l.length <= 1000) (hr : ∀ x ∈ l, Av x) : Fn0 Tryz.prog 9 [.sl (l.map ConR.row)] (.tup [.s (ofL (Bf l)), .i 0]) := by
 have hle : (l.map ConR.row).length = l.length := a0a _
 have h0 : ¬ ((l.map ConR.row).length : Int) > 1000 := by omega
 refine Fn0.of Tryz.func9 Tryz.ntmps9 rfl rfl rfl ?_
 simp only [A2]
 repeat' (first|refine W ?_|refine Y ?_|(apply p4f 5;exact rfl;exact rfl)|refine V ?_|(refine W2 ?_ ?_<;>intro hc))
 refine p0d (fun k => k <= l.length) (fun k => l.length - k) (fun k => [(12, .i k), (11, .i (l.map ConR.row).length), (10, .sl (l.map ConR.row)), (4, .ptr 0 0)]) (fun k => [Aea 1 (Bf (l.take k)), .hid]) 0 (a0o _) CW (.bld rfl (.hid .nil)) ?_
 intro k hk
 by_cases hlt : k < l.length
 ·have h1 : (k : Int) < ((l.map ConR.row).length : Nat) := by omega
  obtain ⟨x, hx⟩ := Aa hlt
  have hb := Ab (R := ConR.row) hx
  have hxr := hr x (a0c hx)
  have cw := Q2 x
  rw [decide_eq_true hxr] at cw
  have cl := Xb x hxr
  have hz := Wh (k := k) hl fun i y _ hy => hr y (a0c hy)
  have hz2 := A1d (Pz hxr)
  have cb := A4h (ofL (Cm (Am x))) (Bf (l.take k)) (by rw [Jq];omega)
  rw [Fd, <- A3u hx] at cb
  repeat' (first|refine W ?_|refine Y ?_|(apply S.indexR;(iterate 3 exact rfl);exact hb;omega;exact rfl)|(apply p3v cb;(iterate 3 exact rfl);exact .cons (.one (.lf _)) .nil;(iterate 4 exact rfl))|refine V ?_|(refine W2 ?_ ?_<;>intro hc))
  change Next _ _ _ _ _ _
  exact Next.go (k + 1) (by omega) (by omega) CW (.bld rfl (.hid .nil))
 ·have h1 : ¬ (k : Int) < ((l.map ConR.row).length : Nat) := by omega
  have hkt : l.take k = l := a0h (by omega)
  rw [hkt]
  repeat' (first|refine W ?_|refine Y ?_|(apply p4h (A0f (Bf l));(iterate 3 exact rfl))|refine V ?_|(refine W2 ?_ ?_<;>intro hc))
  all_goals exact D2 rfl rfl rfl
theorem Ada (t : List UInt8) (h : t.length < 4294967281) : Fn0 Tryz.prog 34 [.s (ofL t), .s ⟨#[10]⟩] (.tup [.s (ofL (Lib.cut t [10]).1), .s (ofL (Lib.cut t [10]).2.1), .b (Lib.cut t [10]).2.2]) := by
 have := Acc (ofL t) ⟨#[10]⟩ (by rw [Jq];exact h)
 rw [Fd] at this
 exact this
def Kw (t : List UInt8) : List ByteArray := Es (ofL (Lib.cut t [10]).1) ⟨#[32]⟩
theorem Adt (t : List UInt8) (h : t.length < 4294967281) : Fn0 Tryz.prog 35 [.s (ofL (Lib.cut t [10]).1), .s ⟨#[32]⟩] (.sl ((Kw t).map fun x => [.s x])) :=
 A76 _ _ (by rw [Jq];have := (A55 t [10]).1;omega) (by decide)
theorem Aag (t : List UInt8) : (Kw t).map (·.data.toList) = Lib.split (Lib.cut t [10]).1 [32] := by
 unfold Kw
 rw [Qj, Fd]
theorem Acr {t : List UInt8} {w : ByteArray} (h : w ∈ Kw t) : w.size <= t.length := by
 have h1 := A7r h
 rw [Jq] at h1
 have := (A55 t [10]).1
 omega
theorem Adj (t : List UInt8) (x : ConR) : Fn0 Tryz.prog 37 [.s (ofL t), .s (ofL (Cm (Am x)))] (.b (Lib.hasPrefix t (Cm (Am x)))) := by
 have := Wg (ofL t) (ofL (Cm (Am x)))
 rwa [Fd, Fd] at this
theorem Ae4 {α : Type} {l : List α} (h : l.length = 4) : ∃ a b c d, l = [a, b, c, d] := by
 match l, h with
 | [a, b, c, d], _ => exact ⟨a, b, c, d, rfl⟩
theorem A94 {s t : List UInt8} {o : List ConR} (ho : ∀ x ∈ o, Av x) (hs : s = Bf o ++ t) (ht : t ≠ [])
  (hb : ∀ x, Av x -> (Kw t).map (·.data.toList) = Bz x -> o.length < 1000 -> Lib.atoiAll (Lib.itoa x.lo) = .ok x.lo -> Lib.atoiAll (Lib.itoa x.hi) = .ok x.hi -> Lib.hasPrefix t (Cm (Am x)) = true -> False) : R7 s = [] /\ R6 s = 7 :=
 Aby fun ⟨l, hg⟩ => by
  obtain ⟨x, h1, h2, h3, h4, h5, h6⟩ := A62 hg ho hs ht
  exact hb x h1 (by rw [Aag, h2]) h3 h4 h5 h6
theorem Kj {x : ConR} {a b c d : ByteArray} (h : [a, b, c, d].map (·.data.toList) = Bz x) : a = x.a /\ b = x.b /\ c.data.toList = Lib.itoa x.lo /\ d.data.toList = Lib.itoa x.hi := by
 simp only [Bz, Am, a1q, a4h, a2a, and_true] at h
 exact ⟨Kz h.1, Kz h.2.1, h.2.2.1, h.2.2.2⟩
theorem Abs {a b : List UInt8} (h : ofL a = ofL b) : a = b := by
 have := congrArg (fun x : ByteArray => x.data.toList) h
 simpa [Fd] using this
theorem U8 (l : List ConR) : OwnRows (Cb l) 0 l.length 4 (l.map ConR.row) := by
 have := OwnRows.of (l.map ConR.row).flatten (J3 l) rfl
 rwa [a0a] at this
structure ParS where
 o : List ConR
 t : List UInt8
theorem Qm (s : ByteArray) (h : s.size <= 262144) : (∃ v : Int, Lib.atoiAll s.data.toList = .ok v /\ (-9223372036854775808 <= v /\ v <= 9223372036854775807) /\ Fn0 Tryz.prog 36 [.s s] (.tup [.i v, .val .nilIface])) \/ ((∀ v, Lib.atoiAll s.data.toList ≠ .ok v) /\ ∃ n : Int, Fn0 Tryz.prog 36 [.s s] (.tup [.i n, .err])) := by
 by_cases hv : ∃ v, Lib.atoiAll s.data.toList = .ok v
 ·obtain ⟨v, hv⟩ := hv
  exact .inl ⟨v, hv, Zq hv, A0h s (by omega) hv⟩
 ·have hn : ∀ v, Lib.atoiAll s.data.toList ≠ .ok v := fun v e => hv ⟨v, e⟩
  obtain ⟨n, _, hc⟩ := Z1 s (by omega) hn
  exact .inr ⟨hn, n, hc⟩
theorem A4r (s : List UInt8) (hsz : s.length <= 262144) : Fn0 Tryz.prog 10 [.s (ofL s)] (.tup [.sl ((R7 s).map ConR.row), .i (R6 s)]) := by
 have h0 : ¬ ((ofL s).size : Int) > 262144 := by rw [Jq];omega
 refine Fn0.of Tryz.func10 Tryz.ntmps10 rfl rfl rfl ?_
 simp only [A2]
 repeat' (first|refine W ?_|refine Y ?_|refine V ?_|(refine W2 ?_ ?_<;>intro hc))
 refine T.kill 0 ?_
 refine p0d (fun a : ParS => s = Bf a.o ++ a.t /\ (∀ x ∈ a.o, Av x) /\ a.o.length <= 1000) (fun a => a.t.length) (fun a => [(0, .s (ofL a.t)), (4, rT 0 4 a.o.length)]) (fun a => [rB (Cb a.o) a.o.length]) ⟨[], s⟩ ⟨rfl, by simp, by simp⟩ CW (.dead .nil) ?_
 rintro ⟨o, t⟩ ⟨hs, ho, hlen⟩
 dsimp only at hs ho hlen ⊢
 have htl : t.length <= 262144 := by rw [hs, a0q] at hsz;omega
 by_cases ht : t = []
 ·subst ht
  obtain ⟨p1, p2⟩ := A69 (s := s) (l := o) ⟨by rw [hs, a2g], ho, hlen⟩
  rw [p1, p2]
  have h1 : ¬ ¬ ofL ([] : List UInt8) = (⟨#[]⟩ : ByteArray) := fun k => k rfl
  cases o with
  | nil =>
   repeat' (first|refine W ?_|refine Y ?_|(refine p0z 2 rfl ?_;apply T.ret;change Bj _ _ _ _ _)|refine V ?_|(refine W2 ?_ ?_<;>intro hc))
   all_goals exact D2 rfl rfl rfl
  | cons y o =>
   repeat' (first|refine W ?_|refine Y ?_|refine V ?_|(refine W2 ?_ ?_<;>intro hc))
   all_goals exact ⟨.inr rfl, [.own 0 0 (o.length + 1) 4, .i 0], .cons (.tmp rfl) (.cons (.tmp rfl) .nil), .tup (.cons (.one (.own rfl (U8 (y :: o)))) (.cons (.one (.lf _)) .nil))⟩
 have h1 : ¬ ofL t = (⟨#[]⟩ : ByteArray) := fun e => ht (Abs e)
 have cc := Ada t (by omega)
 have cs := Adt t (by omega)
 have hwl : ((Kw t).map fun x => ([.s x] : List Lf)).length = (Kw t).length := a0a _
 have hwle : ∀ w ∈ Kw t, w.size <= 262144 := fun w hw => a1z (Acr hw) htl
 have hbad := fun hb => A94 ho hs ht hb
 have hlt := Ad9 (c := 10) ht
 by_cases hw4 : (Kw t).length = 4
 ·obtain ⟨w0, w1, w2, w3, hw⟩ := Ae4 hw4
  rw [hw] at cs hwle hbad hwl
  have b0 : ([w0, w1, w2, w3].map fun x => ([.s x] : List Lf))[(0 : Int).toNat]? = some [.s w0] := rfl
  have b1 : ([w0, w1, w2, w3].map fun x => ([.s x] : List Lf))[(1 : Int).toNat]? = some [.s w1] := rfl
  have b2 : ([w0, w1, w2, w3].map fun x => ([.s x] : List Lf))[(2 : Int).toNat]? = some [.s w2] := rfl
  have b3 : ([w0, w1, w2, w3].map fun x => ([.s x] : List Lf))[(3 : Int).toNat]? = some [.s w3] := rfl
  by_cases h1000 : o.length = 1000
  ·obtain ⟨p1, p2⟩ := hbad fun _ _ _ h _ _ _ => by omega
   rw [p1, p2]
   have f1 : ¬ ¬ ((([w0, w1, w2, w3].map fun x => ([.s x] : List Lf)).length : Nat) : Int) = 4 := fun k => k rfl
   have f2 : ((o.length : Nat) : Int) = 1000 := by omega
   repeat' (first|refine W ?_|refine Y ?_|(apply p2d;(iterate 3 exact rfl))|(refine p0z 2 rfl ?_;apply T.ret;change Bj _ _ _ _ _)|refine V ?_|(refine W2 ?_ ?_<;>intro hc))
   all_goals exact D2 rfl rfl rfl
  have f1 : ¬ ¬ ((([w0, w1, w2, w3].map fun x => ([.s x] : List Lf)).length : Nat) : Int) = 4 := fun k => k rfl
  have f2 : ¬ ((o.length : Nat) : Int) = 1000 := by omega
  rcases Qm w2 (hwle w2 (by simp)) with ⟨lo, l1, l2, c2⟩ | ⟨n2, m2, c2⟩
  ·rcases Qm w3 (hwle w3 (by simp)) with ⟨hi, k1, k2, c3⟩ | ⟨n3, m3, c3⟩
   ·have cw := Q2 ⟨w0, w1, lo, hi⟩
    by_cases hr : Av ⟨w0, w1, lo, hi⟩
    ·rw [decide_eq_true hr] at cw
     have cl := Xb ⟨w0, w1, lo, hi⟩ hr
     have cp := Adj t ⟨w0, w1, lo, hi⟩
     by_cases hp : Lib.hasPrefix t (Cm (Am ⟨w0, w1, lo, hi⟩)) = true
     ·rw [hp] at cp
      have hnx := Abr hr hp
      have hI : s = Bf (o ++ [⟨w0, w1, lo, hi⟩]) ++ (Lib.cut t [10]).2.1 := by rw [Og, Vw, a2v, <- hnx];exact hs
      have hok : ∀ x ∈ o ++ [(⟨w0, w1, lo, hi⟩ : ConR)], Av x := fun x hx => by
       rcases a0u.1 hx with h | h
       ·exact ho x h
       ·obtain rfl := a2n.1 h;exact hr
      have hl : (o ++ [(⟨w0, w1, lo, hi⟩ : ConR)]).length = o.length + 1 := by simp
      cases o with
      | nil =>
       repeat' (first|refine W ?_|refine Y ?_|(apply p2d (cells := []);(iterate 3 exact rfl))|(apply S.indexR;(iterate 3 exact rfl);exact b0;omega;exact rfl)|(apply S.indexR;(iterate 3 exact rfl);exact b1;omega;exact rfl)|(apply S.indexR;(iterate 3 exact rfl);exact b2;omega;exact rfl)|(apply S.indexR;(iterate 3 exact rfl);exact b3;omega;exact rfl)|(apply p0b A0 (by decide +kernel))|(apply p0e 11 A0 (by decide +kernel);simp only [td])|(apply p2s;exact rfl;exact rfl)|(apply p0c;(iterate 7 exact rfl))|(apply p0u 0 (rows := []);(iterate 8 exact rfl);exact Af rfl;exact rfl;exact a0d rfl;exact a0d rfl)|refine V ?_|(refine W2 ?_ ?_<;>intro hc))
       all_goals (change Next _ _ _ _ _ _)
       all_goals exact Next.go ⟨[] ++ [⟨w0, w1, lo, hi⟩], (Lib.cut t [10]).2.1⟩ ⟨hI, hok, by rw [hl];omega⟩ hlt CW (.live rfl .nil)
      | cons y o =>
       have hcl : (Cb (y :: o)).length = (o.length + 1) * 4 := Lq (y :: o)
       have hz0 : o.length + 1 <= 1000 := hlen
       have hC := Pp (y :: o) ⟨w0, w1, lo, hi⟩
       repeat' (first|refine W ?_|refine Y ?_|(apply p2d;(iterate 3 exact rfl))|(apply S.indexR;(iterate 3 exact rfl);exact b0;omega;exact rfl)|(apply S.indexR;(iterate 3 exact rfl);exact b1;omega;exact rfl)|(apply S.indexR;(iterate 3 exact rfl);exact b2;omega;exact rfl)|(apply S.indexR;(iterate 3 exact rfl);exact b3;omega;exact rfl)|(apply p0b A0 (by decide +kernel))|(apply p0e 11 A0 (by decide +kernel);simp only [td])|(apply p2s;exact rfl;exact rfl)|(apply p0c;(iterate 7 exact rfl))|(apply p0p;(iterate 8 exact rfl);exact hcl;exact Af rfl;exact rfl;exact B6 _ _;simp only [a0i, a0n];omega;simp only [a0i, a0n];omega)|refine V ?_|(refine W2 ?_ ?_<;>intro hc))
       all_goals (change Next _ _ _ _ _ _)
       all_goals exact Next.go ⟨(y :: o) ++ [⟨w0, w1, lo, hi⟩], (Lib.cut t [10]).2.1⟩ ⟨hI, hok, by rw [hl];omega⟩ hlt (by dsimp only;rw [hl];exact CW) (by dsimp only;rw [hl, hC];exact .live (by rw [<- List.map_append];exact Aj _ _) .nil)
     ·have hpf : Lib.hasPrefix t (Cm (Am ⟨w0, w1, lo, hi⟩)) = false := by simpa using hp
      rw [hpf] at cp
      obtain ⟨p1, p2⟩ := hbad fun x g1 g2 _ g4 g5 g6 => by
       obtain ⟨e1, e2, e3, e4⟩ := Kj g2
       rw [e3] at l1
       rw [e4] at k1
       rw [g4] at l1
       rw [g5] at k1
       injection l1 with l1
       injection k1 with k1
       subst e1 e2 l1 k1
       exact hp g6
      rw [p1, p2]
      repeat' (first|refine W ?_|refine Y ?_|(apply p2d;(iterate 3 exact rfl))|(apply S.indexR;(iterate 3 exact rfl);exact b0;omega;exact rfl)|(apply S.indexR;(iterate 3 exact rfl);exact b1;omega;exact rfl)|(apply S.indexR;(iterate 3 exact rfl);exact b2;omega;exact rfl)|(apply S.indexR;(iterate 3 exact rfl);exact b3;omega;exact rfl)|(apply p0b A0 (by decide +kernel))|(apply p0e 11 A0 (by decide +kernel);simp only [td])|(apply p2s;exact rfl;exact rfl)|(refine p0z 2 rfl ?_;apply T.ret;change Bj _ _ _ _ _)|refine V ?_|(refine W2 ?_ ?_<;>intro hc))
      all_goals exact D2 rfl rfl rfl
    ·rw [decide_eq_false hr] at cw
     obtain ⟨p1, p2⟩ := hbad fun x g1 g2 _ g4 g5 g6 => by
      obtain ⟨e1, e2, e3, e4⟩ := Kj g2
      rw [e3] at l1
      rw [e4] at k1
      rw [g4] at l1
      rw [g5] at k1
      injection l1 with l1
      injection k1 with k1
      subst e1 e2 l1 k1
      exact hr g1
     rw [p1, p2]
     repeat' (first|refine W ?_|refine Y ?_|(apply p2d;(iterate 3 exact rfl))|(apply S.indexR;(iterate 3 exact rfl);exact b0;omega;exact rfl)|(apply S.indexR;(iterate 3 exact rfl);exact b1;omega;exact rfl)|(apply S.indexR;(iterate 3 exact rfl);exact b2;omega;exact rfl)|(apply S.indexR;(iterate 3 exact rfl);exact b3;omega;exact rfl)|(apply p0b A0 (by decide +kernel))|(apply p0e 11 A0 (by decide +kernel);simp only [td])|(apply p2s;exact rfl;exact rfl)|(refine p0z 2 rfl ?_;apply T.ret;change Bj _ _ _ _ _)|refine V ?_|(refine W2 ?_ ?_<;>intro hc))
     all_goals exact D2 rfl rfl rfl
   ·obtain ⟨p1, p2⟩ := hbad fun x _ g2 _ _ g5 _ => by
     obtain ⟨_, _, _, e4⟩ := Kj g2
     exact n3 _ (by rw [e4];exact g5)
    rw [p1, p2]
    repeat' (first|refine W ?_|refine Y ?_|(apply p2d;(iterate 3 exact rfl))|(apply S.indexR;(iterate 3 exact rfl);exact b0;omega;exact rfl)|(apply S.indexR;(iterate 3 exact rfl);exact b1;omega;exact rfl)|(apply S.indexR;(iterate 3 exact rfl);exact b2;omega;exact rfl)|(apply S.indexR;(iterate 3 exact rfl);exact b3;omega;exact rfl)|(apply p0b A0 (by decide +kernel))|(apply p0e 11 A0 (by decide +kernel);simp only [td])|(apply p2s;exact rfl;exact rfl)|(apply p3z;exact rfl;exact rfl)|(refine p0z 2 rfl ?_;apply T.ret;change Bj _ _ _ _ _)|refine V ?_|(refine W2 ?_ ?_<;>intro hc))
    all_goals exact D2 rfl rfl rfl
  ·obtain ⟨m3, e3, c3⟩ : ∃ (m3 : Int) (e3 : AV), Fn0 Tryz.prog 36 [.s w3] (.tup [.i m3, e3]) := by
    rcases Qm w3 (hwle w3 (by simp)) with ⟨hi, _, _, c3⟩ | ⟨_, m3, c3⟩
    ·exact ⟨_, _, c3⟩
    ·exact ⟨_, _, c3⟩
   obtain ⟨p1, p2⟩ := hbad fun x _ g2 _ g4 _ _ => by
    obtain ⟨_, _, e3, _⟩ := Kj g2
    exact n2 _ (by rw [e3];exact g4)
   rw [p1, p2]
   repeat' (first|refine W ?_|refine Y ?_|(apply p2d;(iterate 3 exact rfl))|(apply S.indexR;(iterate 3 exact rfl);exact b0;omega;exact rfl)|(apply S.indexR;(iterate 3 exact rfl);exact b1;omega;exact rfl)|(apply S.indexR;(iterate 3 exact rfl);exact b2;omega;exact rfl)|(apply S.indexR;(iterate 3 exact rfl);exact b3;omega;exact rfl)|(apply p0b A0 (by decide +kernel))|(apply p0e 11 A0 (by decide +kernel);simp only [td])|(apply p3z;exact rfl;exact rfl)|(refine p0z 2 rfl ?_;apply T.ret;change Bj _ _ _ _ _)|refine V ?_|(refine W2 ?_ ?_<;>intro hc))
   all_goals exact D2 rfl rfl rfl
 ·have f1 : ¬ ((((Kw t).map fun x => ([.s x] : List Lf)).length : Nat) : Int) = 4 := by omega
  obtain ⟨p1, p2⟩ := hbad fun x _ g2 _ _ _ _ => hw4 (by have := congrArg List.length g2;simpa [Bz, Am] using this)
  rw [p1, p2]
  repeat' (first|refine W ?_|refine Y ?_|(refine p0z 2 rfl ?_;apply T.ret;change Bj _ _ _ _ _)|refine V ?_|(refine W2 ?_ ?_<;>intro hc))
  all_goals exact D2 rfl rfl rfl
end Go.Proofs.YtlapbaiejnaeiaaGreatDoor
