/- Contracts: timeline's plan of a sheet, Begins, Wa. No conditions but those of each statement. -/
import Derived.Test.YtkboebgkcjcpfaaGreatDoorPa
import Derived.Test.YtkboebgkcjcpfaaGreatDoorPc
import Derived.Test.YtkboebgkcjcpfaaGreatDoorPd
set_option linter.unusedSimpArgs false
set_option linter.unusedVariables false
namespace Go.Proofs.YtkboebgkcjcpfaaGreatDoor
open Go Go.RowKit
theorem T.sealH {P : Program} {N : Nat} {c : Code} {Q : Exit -> St -> Prop} {tm : Tm} {H : AH} (s j b : Nat) {n st : Nat} {cs : List AV} {rows : List (List Lf)} (hr : ∀ r ∈ rows, r.length = st) (hn : rows.length = n) (hs : H.at s = .live cs) (hj : cs[j]? = some (rT b st n)) (hb : H.at b = rB (rows.flatten.map .lf) n) (hne : Nat.beq s b = false) (h : T P N c ⟨tm, (H.put b .dead).put s (.live (cs.set j (.sl rows)))⟩ Q) : T P N c ⟨tm, H⟩ Q := by
 subst hn
 have hne' : ¬ s = b := fun e => by subst e;rw [Nat.beq_refl] at hne;cases hne
 cases rows with
 | nil => exact T.kill b (T.nilH s j (by rw [AH.at_put, if_neg hne'];exact hs) hj h) (by rw [hb];rfl)
 | cons r rows => exact T.freezeH s j hs hj hb hne (OwnRows.of _ hr rfl) h
theorem A1o (n : Int) : Fn0 Tryz.prog 51 [.i n] (A4 [.i n, .i 1]) := by
 refine Fn0.of Tryz.func51 Tryz.ntmps51 rfl rfl rfl ?_
 simp only [A0]
 repeat' (first
  | refine W ?_
  | (apply S.buildN;(iterate 3 exact rfl))
  | refine V ?_
  | (refine W2 ?_ ?_ <;> intro hc))
 all_goals exact ⟨.inr rfl, [A4 [.i n, .i 1]], .cons (Res.row [.i n, .i 1] rfl rfl rfl rfl rfl) .nil, .one (.agg (An [.i n, .i 1]))⟩
theorem Xf (q : Rat) (hq : Fits q) : Fn0 Tryz.prog 52 [A4 (frR q)] (.tup [.i (upI q), .i 0]) := A4w q hq
theorem Rn (h : HouseR) (c : SheetR) (hf : h.fits) (hc : c.fits) (v : ¬ validP h c) : Fn0 Tryz.prog 48 [A4 h.row, A4 c.row] (.tup [.sl [], .i 1]) := by
 have cv := Qg h c hf hc
 rw [decide_eq_false v] at cv
 refine Fn0.of Tryz.func48 Tryz.ntmps48 rfl rfl rfl ?_
 simp only [A0]
 repeat' (first
  | refine W ?_
  | refine Zc cv ?_|(refine T.nilU 4 rfl ?_;apply T.ret;change Cw _ _ _ _ _)
  | refine V ?_
  | (refine W2 ?_ ?_ <;> intro hc))
 all_goals exact D2 rfl rfl rfl
abbrev Br : Lf := .sl []
abbrev trL (h : HouseR) (c : SheetR) : List (List Lf) := (C6 h c (c.cues.length + 1)).map Hm
noncomputable def plR (h : HouseR) (c : SheetR) (G : List Int) : List Lf := if Mx h c then [Br, Br, Br] else [.sl (trL h c), .sl ((srL c.cues (B6 h c) G).map A1), .sl ((B6 h c).map A1)]
theorem A1q {h : HouseR} {c : SheetR} {k : Nat} (hk : k <= c.cues.length) : (trL h c)[((k : Nat) : Int).toNat]? = some (Hm (Bs h c k)) := by
 rw [Int.toNat_natCast]
 unfold trL C6
 rw [List.getElem?_map, List.getElem?_map, List.getElem?_range (by omega)];rfl
theorem A21 {x : Rat} (h : Fits x) : Fv x = frE x 0 := if_pos h
theorem A44 {x : Rat} (h : ¬ Fits x) : Fv x = .tup [A4 [.i 0, .i 0], .i 5] := if_neg h
set_option maxHeartbeats 32000000 in
theorem A3r (h : HouseR) (c : SheetR) (hf : h.fits) (hc : c.fits) (v : validP h c) (G : List Int) (hG : G.length <= 4611686018427387904) : Fn0 Tryz.prog 27 [A4 h.row, A4 c.row, .sl (G.map A1)] (.tup [A4 (plR h c G), .i (mdE h c G)]) := by
 have ct := Sd h c hf hc v
 have h60 : c.cues.length <= 60 := by have := v.2.1;omega
 have hs60 : h.sets.length <= 60 := v.1.2.2.2.1
 have cs := Te h c v hc (B6 h c) G (by rw [Cb];omega) hG
 have hle : (c.cues.map CueR.row).length = c.cues.length := List.length_map _
 have hlt0 : (trL h c).length = c.cues.length + 1 := by unfold trL C6;rw [List.length_map, List.length_map, List.length_range]
 refine Fn0.of Tryz.func27 Tryz.ntmps27 rfl rfl rfl ?_
 simp only [A0]
 repeat' (first
  | refine W ?_
  | refine Zc ct ?_|(apply S.build;(iterate 3 exact rfl))
  | refine V ?_
  | (refine W2 ?_ ?_ <;> intro hc))
 refine T.kill 4 ?_
 refine T.kill 5 ?_
 refine T.loopS (fun k => k <= c.cues.length /\ ∀ j, j < k -> Fits (msQ h c j)) (fun k => c.cues.length - k) (fun k => [(31, .i k), (30, .i (c.cues.map CueR.row).length), (29, .sl (c.cues.map CueR.row)), (8, .sl (trL h c)), (3, .ptr 0 0), (4, .ptr 1 0), (6, .ptr 2 0), (10, .ptr 3 0), (2, .sl (G.map A1))]) (fun k => [.live (h.row.map .lf), .live (c.row.map .lf), .live [.val (.slice none 0 0), .val (.slice none 0 0), .val (.slice none 0 0)], .live [.sl (trL h c), .val (.slice none 0 0), rT 4 1 k], rB (Aa (Cm h c k)) k, .dead]) 0 ⟨Nat.zero_le _, by intro j hj;omega⟩ CW CG ?_
 rintro k ⟨hk, hfit⟩
 by_cases hlt : k < c.cues.length
 ·have h1 : (k : Int) < ((c.cues.map CueR.row).length : Nat) := by omega
  obtain ⟨q, hq⟩ := Ac hlt
  have hb := Ad (R := CueR.row) hq
  have hbt := A1q (h := h) hk
  have g := Gk v hq
  have g0 : Cq h (Bs h c k) q = 0 := N8 ⟨g.house, g.right⟩ g.len g.trims
  have hqm := hc.2.2 q (List.mem_of_getElem? hq)
  have cl := Rm h (Bs h c k) q hf (by omega) (by rw [g.len];omega) g0
  have hfl : Fits (Bb h (Bs h c k) q.moves) := J8 g fun m hm => hm
  have hms : 1000 * Bb h (Bs h c k) q.moves = msQ h c k := by unfold msQ;rw [Pq hq]
  have cw := A1o 1000
  have cm := Tz 1000 (Bb h (Bs h c k) q.moves) (Dz (n := 1000) (by omega) (by omega)) hfl
  change Fn0 _ _ [A4 [.i 1000, .i 1], _] _ at cm
  rw [hms] at cm
  have hsn : Aa (Cm h c (k + 1)) = Aa (Cm h c k) ++ ([A1 (upI (msQ h c k))].flatten).map AV.lf := by rw [Oa];simp [Aa];rfl
  by_cases hff : Fits (msQ h c k)
  ·rw [A21 hff] at cm
   have ce := Xf _ hff
   have hfit2 : ∀ j, j < k + 1 -> Fits (msQ h c j) := fun j hj => by
    by_cases e : j = k
    ·subst e;exact hff
    ·exact hfit j (by omega)
   generalize Bb h (Bs h c k) q.moves = x at *
   generalize msQ h c k = y at *
   generalize upI y = z at *
   cases k with
   | zero =>
    repeat' (first
     | refine W ?_
     | (apply S.indexR;(iterate 3 exact rfl);exact hb;omega;exact rfl)|(apply S.indexR;(iterate 3 exact rfl);exact hbt;omega;exact rfl)|refine Zc cl ?_|refine Zc cw ?_|refine Zc cm ?_|refine Zc ce ?_|(refine T.orders (id := 11) A3 ?_)|(apply Ords.nil;decide +kernel)|(apply Ords.takeMove 3;exact rfl;decide +kernel;decide +kernel;decide +kernel;exact rfl;exact rfl)|(apply Ords.takeExtract 4;exact rfl;decide +kernel;decide +kernel;decide +kernel;(iterate 3 exact rfl))|(apply Ords.takeExtract 5;exact rfl;decide +kernel;decide +kernel;decide +kernel;(iterate 3 exact rfl))|(apply Ords.takeAssign 7;exact rfl;decide +kernel;decide +kernel;decide +kernel;exact rfl;exact rfl)|(apply Ords.two (i := 0) (j := 1);decide +kernel;exact rfl;exact rfl)|(apply Ords.one (i := 0);decide +kernel;exact rfl)|(apply Ords.one (i := 1);decide +kernel;exact rfl)|(apply Ords.one (i := 2);decide +kernel;exact rfl)|(apply Ords.one (i := 6);decide +kernel;exact rfl)|(apply Ords.one (i := 7);decide +kernel;exact rfl)|(apply T.drawAll A3 (by decide +kernel))|(apply S.buildSlice1;(iterate 7 exact rfl))|(apply S.appendN 4 (rows := []);(iterate 8 exact rfl);exact Ae rfl;exact rfl;exact Nat.le_of_ble_eq_true rfl;exact Nat.le_of_ble_eq_true rfl)|refine Za ?_
     | refine V ?_
     | (refine W2 ?_ ?_ <;> intro hc))
    all_goals (try change Next _ _ _ _ _ _)
    all_goals exact Next.go 1 ⟨by omega, hfit2⟩ (by omega) CW (by
     show CovH _ _ [_, _, _, _, .live (Aa (Cm h c (0 + 1))), _]
     rw [hsn]
     exact .live rfl CG)
   | succ k =>
    have hcl : (Aa (Cm h c (k + 1))).length = (k + 1) * 1 := by rw [Bn, Cb, Nat.mul_one]
    repeat' (first
     | refine W ?_
     | (apply S.indexR;(iterate 3 exact rfl);exact hb;omega;exact rfl)|(apply S.indexR;(iterate 3 exact rfl);exact hbt;omega;exact rfl)|refine Zc cl ?_|refine Zc cw ?_|refine Zc cm ?_|refine Zc ce ?_|(refine T.orders (id := 11) A3 ?_)|(apply Ords.nil;decide +kernel)|(apply Ords.takeMove 3;exact rfl;decide +kernel;decide +kernel;decide +kernel;exact rfl;exact rfl)|(apply Ords.takeExtract 4;exact rfl;decide +kernel;decide +kernel;decide +kernel;(iterate 3 exact rfl))|(apply Ords.takeExtract 5;exact rfl;decide +kernel;decide +kernel;decide +kernel;(iterate 3 exact rfl))|(apply Ords.takeAssign 7;exact rfl;decide +kernel;decide +kernel;decide +kernel;exact rfl;exact rfl)|(apply Ords.two (i := 0) (j := 1);decide +kernel;exact rfl;exact rfl)|(apply Ords.one (i := 0);decide +kernel;exact rfl)|(apply Ords.one (i := 1);decide +kernel;exact rfl)|(apply Ords.one (i := 2);decide +kernel;exact rfl)|(apply Ords.one (i := 6);decide +kernel;exact rfl)|(apply Ords.one (i := 7);decide +kernel;exact rfl)|(apply T.drawAll A3 (by decide +kernel))|(apply S.buildSlice1;(iterate 7 exact rfl))|(refine Reg.blur 3 2 5 rfl rfl rfl ?_;apply S.appendO;(iterate 8 exact rfl);exact hcl;exact Ae rfl;exact rfl;exact Bf _ _;simp only [List.length_cons, List.length_nil];omega;simp only [List.length_cons, List.length_nil];omega)|refine Za ?_
     | refine V ?_
     | (refine W2 ?_ ?_ <;> intro hc))
    all_goals (try change Next _ _ _ _ _ _)
    all_goals exact Next.go (k + 1 + 1) ⟨by omega, hfit2⟩ (by omega) CW (by
     show CovH _ _ [_, _, _, _, .live (Aa (Cm h c (k + 1 + 1))), _]
     rw [hsn]
     exact .live rfl (.live rfl (.live rfl (.live rfl (.live (by rw [<- List.map_append];exact Ar _ _) (.dead .nil))))))
  ·have hB : Mx h c := ⟨k, hlt, hff⟩
   rw [show plR h c G = [Br, Br, Br] from if_pos hB, show mdE h c G = 5 from if_pos hB]
   rw [A44 hff] at cm
   skip
   repeat' (first
    | refine W ?_
    | (apply S.indexR;(iterate 3 exact rfl);exact hb;omega;exact rfl)|(apply S.indexR;(iterate 3 exact rfl);exact hbt;omega;exact rfl)|refine Zc cl ?_|refine Zc cw ?_|refine Zc cm ?_|(refine T.orders (id := 11) A3 ?_)|(apply Ords.nil;decide +kernel)|(apply Ords.takeMove 3;exact rfl;decide +kernel;decide +kernel;decide +kernel;exact rfl;exact rfl)|(apply Ords.takeExtract 4;exact rfl;decide +kernel;decide +kernel;decide +kernel;(iterate 3 exact rfl))|(apply Ords.takeExtract 5;exact rfl;decide +kernel;decide +kernel;decide +kernel;(iterate 3 exact rfl))|(apply Ords.takeAssign 7;exact rfl;decide +kernel;decide +kernel;decide +kernel;exact rfl;exact rfl)|(apply Ords.two (i := 0) (j := 1);decide +kernel;exact rfl;exact rfl)|(apply Ords.one (i := 0);decide +kernel;exact rfl)|(apply Ords.one (i := 1);decide +kernel;exact rfl)|(apply Ords.one (i := 2);decide +kernel;exact rfl)|(apply Ords.one (i := 6);decide +kernel;exact rfl)|(apply Ords.one (i := 7);decide +kernel;exact rfl)|(apply T.drawAll A3 (by decide +kernel))|(apply S.buildN;(iterate 3 exact rfl))|refine Za ?_
    | refine V ?_
    | (refine W2 ?_ ?_ <;> intro hc))
   all_goals exact ⟨.inr rfl, [A4 [Br, Br, Br], .i 5], by rw [Tryz.results27];exact .cons (Res.row [Br, Br, Br] rfl rfl rfl rfl rfl) (.cons (.tmp rfl) .nil), .tup (.cons (.agg (An [Br, Br, Br])) (.cons (.one (.lf _)) .nil))⟩
 ·have h1 : ¬ (k : Int) < ((c.cues.map CueR.row).length : Nat) := by omega
  obtain rfl : k = c.cues.length := by omega
  have hB : ¬ Mx h c := fun ⟨j, hj, hn⟩ => hn (hfit j hj)
  rw [show plR h c G = _ from if_neg hB, show mdE h c G = _ from if_neg hB]
  refine T.sealH 3 2 4 (rows := (B6 h c).map A1) (Bx _) (by rw [List.length_map, Cb]) rfl rfl rfl rfl ?_
  generalize B6 h c = L at *
  generalize stE c.cues L G = e at *
  generalize srL c.cues L G = Z at *
  repeat' (first
   | refine W ?_
   | refine Zc cs ?_|(apply T.draw 8 A3 (by decide +kernel);simp only [td])|(apply T.drawR 8 A3 (by decide +kernel);simp only [td])
   | refine V ?_
   | (refine W2 ?_ ?_ <;> intro hc))
  all_goals exact ⟨.inr rfl, [A4 [.sl (trL h c), .sl (Z.map A1), .sl (L.map A1)], .i e], by rw [Tryz.results27];exact .cons (Res.row [.sl (trL h c), .sl (Z.map A1), .sl (L.map A1)] rfl rfl rfl rfl rfl) (.cons (.tmp rfl) .nil), .tup (.cons (.agg (An [.sl (trL h c), .sl (Z.map A1), .sl (L.map A1)])) (.cons (.one (.lf _)) .nil))⟩
theorem U8 (h : HouseR) (c : SheetR) (hf : h.fits) (hc : c.fits) (v : ¬ validP h c) (g : AV) (hg : ∃ G : List Int, g = .sl (G.map A1)) : Fn0 Tryz.prog 27 [A4 h.row, A4 c.row, g] (.tup [A4 [Br, Br, Br], .i 1]) := by
 obtain ⟨G, rfl⟩ := hg
 have ct := Rn h c hf hc v
 refine Fn0.of Tryz.func27 Tryz.ntmps27 rfl rfl rfl ?_
 simp only [A0]
 repeat' (first
  | refine W ?_
  | refine Zc ct ?_|(apply S.buildN;(iterate 3 exact rfl))
  | refine V ?_
  | (refine W2 ?_ ?_ <;> intro hc))
 all_goals exact ⟨.inr rfl, [A4 [Br, Br, Br], .i 1], by rw [Tryz.results27];exact .cons (Res.row [Br, Br, Br] rfl rfl rfl rfl rfl) (.cons (.tmp rfl) .nil), .tup (.cons (.agg (An [Br, Br, Br])) (.cons (.one (.lf _)) .nil))⟩
/-! ### One contract for all sheets -/
noncomputable def alE (h : HouseR) (c : SheetR) (G : List Int) : Int := if validP h c then mdE h c G else 1
noncomputable def alR (h : HouseR) (c : SheetR) (G : List Int) : List Lf := if validP h c then plR h c G else [Br, Br, Br]
theorem M6 (h : HouseR) (c : SheetR) (hf : h.fits) (hc : c.fits) (G : List Int) (hG : G.length <= 4611686018427387904) : Fn0 Tryz.prog 27 [A4 h.row, A4 c.row, .sl (G.map A1)] (.tup [A4 (alR h c G), .i (alE h c G)]) := by
 unfold alR alE
 by_cases v : validP h c
 ·rw [if_pos v, if_pos v];exact A3r h c hf hc v G hG
 ·rw [if_neg v, if_neg v];exact U8 h c hf hc v _ ⟨G, rfl⟩
theorem Lk {h : HouseR} {c : SheetR} {G : List Int} (e : alE h c G = 0) : PlanOk h c G /\ alR h c G = [.sl (trL h c), .sl ((stL h c G).map A1), .sl ((B6 h c).map A1)] := by
 unfold alE at e
 split at e
 ·rename_i v
  have p := A02 v e
  refine ⟨p, ?_⟩
  unfold alR plR srL
  rw [if_pos v, if_neg p.fit]
  have h0 : stE c.cues (B6 h c) G = 0 := by
   have := p.zero
   unfold mdE at this
   rwa [if_neg p.fit] at this
  rw [if_pos h0];rfl
 ·cases e
theorem Y2 (h : HouseR) (c : SheetR) (G : List Int) : ∃ a b d : List (List Lf), alR h c G = [.sl a, .sl b, .sl d] := by
 unfold alR plR
 split
 ·split
  ·exact ⟨_, _, _, rfl⟩
  ·exact ⟨_, _, _, rfl⟩
 ·exact ⟨_, _, _, rfl⟩
def H9 (h : HouseR) (c : SheetR) (G : List Int) (k : Nat) : List Lf := [.s ((c.cues[k]?.map CueR.name).getD ⟨#[]⟩), .i ((stL h c G).getD k 0)]
def Bp (h : HouseR) (c : SheetR) (G : List Int) (n : Nat) : List (List Lf) := (List.range n).map (H9 h c G)
theorem Ya (h : HouseR) (c : SheetR) (G : List Int) (n : Nat) : Bp h c G (n + 1) = Bp h c G n ++ [H9 h c G n] := by simp [Bp, List.range_succ]
theorem Is (h : HouseR) (c : SheetR) (G : List Int) (n : Nat) : (Bp h c G n).length = n := by simp [Bp]
theorem S4 (h : HouseR) (c : SheetR) (G : List Int) (n : Nat) : ∀ r ∈ Bp h c G n, r.length = 2 := by
 intro r hr
 obtain ⟨i, _, rfl⟩ := List.mem_map.1 hr
 rfl
abbrev Jy (l : List (List Lf)) : List AV := l.flatten.map .lf
theorem A14 {l : List (List Lf)} {n st : Nat} (hr : ∀ r ∈ l, r.length = st) (hn : l.length = n) : (Jy l).length = n * st := by
 rw [List.length_map, Bd _ hr, hn]
theorem Xn (l : List (List Lf)) (r : List Lf) : Jy (l ++ [r]) = Jy l ++ ([r].flatten).map AV.lf := by simp [Jy]
set_option maxHeartbeats 16000000 in
theorem K5 (h : HouseR) (c : SheetR) (hf : h.fits) (hc : c.fits) (G : List Int) (hG : G.length <= 4611686018427387904) (e0 : alE h c G = 0) : Fn0 Tryz.prog 9 [A4 h.row, A4 c.row, .sl (G.map A1)] (.tup [.sl (Bp h c G c.cues.length), .i 0]) := by
 have cm := M6 h c hf hc G hG
 obtain ⟨p, er⟩ := Lk e0
 rw [e0, er] at cm
 have h60 : c.cues.length <= 60 := by have := p.v.2.1;omega
 have hle : (c.cues.map CueR.row).length = c.cues.length := List.length_map _
 refine Fn0.of Tryz.func9 Tryz.ntmps9 rfl rfl rfl ?_
 simp only [A0]
 repeat' (first
  | refine W ?_
  | refine Zc cm ?_|(apply T.drawAll A3 (by decide +kernel))
  | refine V ?_
  | (refine W2 ?_ ?_ <;> intro hc))
 refine T.kill 3 ?_
 refine T.loopS (fun k => k <= c.cues.length) (fun k => c.cues.length - k) (fun k => [(26, .i k), (25, .i (c.cues.map CueR.row).length), (24, .sl (c.cues.map CueR.row)), (10, rT 3 2 k), (8, .ptr 2 0)]) (fun k => [.live (h.row.map .lf), .live (c.row.map .lf), .live [.sl (trL h c), .sl ((stL h c G).map A1), .sl ((B6 h c).map A1)], rB (Jy (Bp h c G k)) k]) 0 (Nat.zero_le _) CW CG ?_
 intro k hk
 by_cases hlt : k < c.cues.length
 ·have h1 : (k : Int) < ((c.cues.map CueR.row).length : Nat) := by omega
  obtain ⟨q, hq⟩ := Ac hlt
  have hb := Ad (R := CueR.row) hq
  obtain ⟨x, hx⟩ := Ac (l := stL h c G) (k := k) (by rw [Gz];exact hlt)
  have hb2 := Ad (R := A1) hx
  have hR : H9 h c G k = [.s q.name, .i x] := by unfold H9;rw [hq, List.getD_eq_getElem?_getD, hx];rfl
  have hS := Xn (Bp h c G k) (H9 h c G k)
  rw [<- Ya, hR] at hS
  cases k with
  | zero =>
   repeat' (first
    | refine W ?_
    | (apply S.indexR;(iterate 3 exact rfl);exact hb;omega;exact rfl)|(apply S.indexR;(iterate 3 exact rfl);exact hb2;omega;exact rfl)|(apply S.buildSlice1;(iterate 7 exact rfl))|(apply S.appendN 3 (rows := []);(iterate 8 exact rfl);exact Ae rfl;exact rfl;exact Nat.le_of_ble_eq_true rfl;exact Nat.le_of_ble_eq_true rfl)|(apply T.draw 10 A3 (by decide +kernel);simp only [td])|(apply T.drawR 10 A3 (by decide +kernel);simp only [td])|(apply S.buildN;(iterate 3 exact rfl))|refine Za ?_
    | refine V ?_
    | (refine W2 ?_ ?_ <;> intro hc))
   all_goals (try change Next _ _ _ _ _ _)
   all_goals exact Next.go 1 (by omega) (by omega) CW (by
    show CovH _ _ [_, _, _, .live (Jy (Bp h c G (0 + 1)))]
    rw [hS];exact .live rfl CG)
  | succ k =>
   have hcl := A14 (S4 h c G (k + 1)) (Is h c G (k + 1))
   repeat' (first
    | refine W ?_
    | (apply S.indexR;(iterate 3 exact rfl);exact hb;omega;exact rfl)|(apply S.indexR;(iterate 3 exact rfl);exact hb2;omega;exact rfl)|(apply S.buildSlice1;(iterate 7 exact rfl))|(apply S.appendO;(iterate 8 exact rfl);exact hcl;exact Ae rfl;exact rfl;exact Bf _ _;simp only [List.length_cons, List.length_nil];omega;simp only [List.length_cons, List.length_nil];omega)|(apply T.draw 10 A3 (by decide +kernel);simp only [td])|(apply T.drawR 10 A3 (by decide +kernel);simp only [td])|(apply S.buildN;(iterate 3 exact rfl))|refine Za ?_
    | refine V ?_
    | (refine W2 ?_ ?_ <;> intro hc))
   all_goals (try change Next _ _ _ _ _ _)
   all_goals exact Next.go (k + 1 + 1) (by omega) (by omega) CW (by
    show CovH _ _ [_, _, _, .live (Jy (Bp h c G (k + 1 + 1)))]
    rw [hS];exact .live rfl (.live rfl (.live rfl (.live (by rw [<- List.map_append];exact Ar _ _) .nil))))
 ·have h1 : ¬ (k : Int) < ((c.cues.map CueR.row).length : Nat) := by omega
  obtain rfl : k = c.cues.length := by omega
  refine T.sealR 10 3 (rows := Bp h c G c.cues.length) (S4 _ _ _ _) (Is _ _ _ _) rfl rfl ?_
  repeat' (first
   | refine W ?_

   | refine V ?_
   | (refine W2 ?_ ?_ <;> intro hc))
  exact D2 rfl rfl rfl
theorem Iq (h : HouseR) (c : SheetR) (hf : h.fits) (hc : c.fits) (G : List Int) (hG : G.length <= 4611686018427387904) (e0 : ¬ alE h c G = 0) : Fn0 Tryz.prog 9 [A4 h.row, A4 c.row, .sl (G.map A1)] (.tup [.sl [], .i (alE h c G)]) := by
 have cm := M6 h c hf hc G hG
 obtain ⟨a, b, d, er⟩ := Y2 h c G
 rw [er] at cm
 generalize alE h c G = e at *
 refine Fn0.of Tryz.func9 Tryz.ntmps9 rfl rfl rfl ?_
 simp only [A0]
 repeat' (first
  | refine W ?_
  | refine Zc cm ?_|(apply T.drawAll A3 (by decide +kernel))|(refine T.nilU 6 rfl ?_;apply T.ret;change Cw _ _ _ _ _)
  | refine V ?_
  | (refine W2 ?_ ?_ <;> intro hc))
 all_goals exact D2 rfl rfl rfl
theorem U7 (h : HouseR) (c : SheetR) (hf : h.fits) (hc : c.fits) (G : List Int) (hG : G.length <= 4611686018427387904) (e0 : ¬ alE h c G = 0) : Fn0 Tryz.prog 10 [A4 h.row, A4 c.row, .sl (G.map A1)] (.tup [.sl [], .i (alE h c G)]) := by
 have cm := M6 h c hf hc G hG
 obtain ⟨a, b, d, er⟩ := Y2 h c G
 rw [er] at cm
 generalize alE h c G = e at *
 refine Fn0.of Tryz.func10 Tryz.ntmps10 rfl rfl rfl ?_
 simp only [A0]
 repeat' (first
  | refine W ?_
  | refine Zc cm ?_|(apply T.drawAll A3 (by decide +kernel))|(refine T.nilU 6 rfl ?_;apply T.ret;change Cw _ _ _ _ _)
  | refine V ?_
  | (refine W2 ?_ ?_ <;> intro hc))
 all_goals exact D2 rfl rfl rfl
theorem Sb (l : List Int) (x : Int) : Aa (l ++ [x]) = Aa l ++ ([A1 x].flatten).map AV.lf := by simp [Aa]
set_option maxHeartbeats 16000000 in
theorem Nr (h : HouseR) (c : SheetR) (hf : h.fits) (hc : c.fits) (G : List Int) (hG : G.length <= 4611686018427387904) (e0 : alE h c G = 0) (hn : True) : Fn0 Tryz.prog 10 [A4 h.row, A4 c.row, .sl (G.map A1)] (.tup [.sl ((Di h c G).map A1), .i 0]) := by
 have cm := M6 h c hf hc G hG
 obtain ⟨p, er⟩ := Lk e0
 rw [e0, er] at cm
 have h60 : c.cues.length <= 60 := by have := p.v.2.1;omega
 have hle : ((stL h c G).map A1).length = c.cues.length := by rw [List.length_map, Gz]
 refine Fn0.of Tryz.func10 Tryz.ntmps10 rfl rfl rfl ?_
 simp only [A0]
 repeat' (first
  | refine W ?_
  | refine Zc cm ?_|(apply T.drawAll A3 (by decide +kernel))
  | refine V ?_
  | (refine W2 ?_ ?_ <;> intro hc))
 refine T.kill 3 ?_
 refine T.loopS (fun k => k <= c.cues.length) (fun k => c.cues.length - k) (fun k => [(26, .i k), (25, .i ((stL h c G).map A1).length), (24, .sl ((stL h c G).map A1)), (10, rT 3 1 k), (8, .ptr 2 0)]) (fun k => [.live (h.row.map .lf), .live (c.row.map .lf), .live [.sl (trL h c), .sl ((stL h c G).map A1), .sl ((B6 h c).map A1)], rB (Aa (Fs h c G k)) k]) 0 (Nat.zero_le _) CW CG ?_
 intro k hk
 by_cases hlt : k < c.cues.length
 ·have h1 : (k : Int) < (((stL h c G).map A1).length : Nat) := by omega
  obtain ⟨x, hx⟩ := Ac (l := stL h c G) (k := k) (by rw [Gz];exact hlt)
  have hb := Ad (R := A1) hx
  obtain ⟨y, hy⟩ := Ac (l := B6 h c) (k := k) (by rw [Cb];exact hlt)
  have hb2 := Ad (R := A1) hy
  have r1 := p.st k
  have r2 := p.ln k
  have hV : D5 h c G k = x + y := by unfold D5;rw [List.getD_eq_getElem?_getD, List.getD_eq_getElem?_getD, hx, hy];rfl
  rw [List.getD_eq_getElem?_getD, hx] at r1
  rw [List.getD_eq_getElem?_getD, hy] at r2
  simp only [Option.getD_some] at r1 r2
  have hS := Sb (Fs h c G k) (D5 h c G k)
  rw [<- Z0, hV] at hS
  cases k with
  | zero =>
   repeat' (first
    | refine W ?_
    | (apply S.indexR;(iterate 3 exact rfl);exact hb;omega;exact rfl)|(apply S.indexR;(iterate 3 exact rfl);exact hb2;omega;exact rfl)|(apply S.buildSlice1;(iterate 7 exact rfl))|(apply S.appendN 3 (rows := []);(iterate 8 exact rfl);exact Ae rfl;exact rfl;exact Nat.le_of_ble_eq_true rfl;exact Nat.le_of_ble_eq_true rfl)|refine Za ?_
    | refine V ?_
    | (refine W2 ?_ ?_ <;> intro hc))
   all_goals (try change Next _ _ _ _ _ _)
   all_goals exact Next.go 1 (by omega) (by omega) CW (by
    show CovH _ _ [_, _, _, .live (Aa (Fs h c G (0 + 1)))]
    rw [hS];exact .live rfl CG)
  | succ k =>
   have hcl : (Aa (Fs h c G (k + 1))).length = (k + 1) * 1 := by rw [Bn, J7, Nat.mul_one]
   repeat' (first
    | refine W ?_
    | (apply S.indexR;(iterate 3 exact rfl);exact hb;omega;exact rfl)|(apply S.indexR;(iterate 3 exact rfl);exact hb2;omega;exact rfl)|(apply S.buildSlice1;(iterate 7 exact rfl))|(apply S.appendO;(iterate 8 exact rfl);exact hcl;exact Ae rfl;exact rfl;exact Bf _ _;simp only [List.length_cons, List.length_nil];omega;simp only [List.length_cons, List.length_nil];omega)|refine Za ?_
    | refine V ?_
    | (refine W2 ?_ ?_ <;> intro hc))
   all_goals (try change Next _ _ _ _ _ _)
   all_goals exact Next.go (k + 1 + 1) (by omega) (by omega) CW (by
    show CovH _ _ [_, _, _, .live (Aa (Fs h c G (k + 1 + 1)))]
    rw [hS];exact .live rfl (.live rfl (.live rfl (.live (by rw [<- List.map_append];exact Ar _ _) .nil))))
 ·have h1 : ¬ (k : Int) < (((stL h c G).map A1).length : Nat) := by omega
  obtain rfl : k = c.cues.length := by omega
  refine T.sealR 10 3 (rows := (Di h c G).map A1) (Bx _) (by rw [List.length_map, J7]) rfl rfl ?_
  repeat' (first
   | refine W ?_

   | refine V ?_
   | (refine W2 ?_ ?_ <;> intro hc))
  exact D2 rfl rfl rfl
end Go.Proofs.YtkboebgkcjcpfaaGreatDoor
