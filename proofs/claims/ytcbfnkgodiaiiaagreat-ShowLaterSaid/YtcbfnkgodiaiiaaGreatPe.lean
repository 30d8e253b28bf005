/- Contracts: timeline's plan of a sheet, Begins, A34. No conditions but those of each statement. -/
import Derived.Test.YtcbfnkgodiaiiaaGreatPa
import Derived.Test.YtcbfnkgodiaiiaaGreatPc
import Derived.Test.YtcbfnkgodiaiiaaGreatPd
import Derived.Test.YtcbfnkgodiaiiaaGreatOb
set_option linter.unusedSimpArgs false
set_option linter.unusedVariables false
namespace Go.Proofs.YtcbfnkgodiaiiaaGreat
open Go Go.RowKit
theorem T.sealH {P : Program} {N : Nat} {c : Code} {Q : Exit -> St -> Prop} {tm : Tm} {H : AH} (s j b : Nat) {n st : Nat} {cs : List AV} {rows : List (List Lf)} (hr : ∀ r ∈ rows, r.length = st) (hn : rows.length = n) (hs : H.at s = .live cs) (hj : cs[j]? = some (rT b st n)) (hb : H.at b = rB (rows.flatten.map .lf) n) (hne : Nat.beq s b = false) (h : T P N c ⟨tm, (H.put b .dead).put s (.live (cs.set j (.sl rows)))⟩ Q) : T P N c ⟨tm, H⟩ Q := by
 subst hn
 have hne' : ¬ s = b := fun e => by subst e;rw [Nat.beq_refl] at hne;cases hne
 cases rows with
 | nil => exact T.kill b (T.nilH s j (by rw [AH.at_put, if_neg hne'];exact hs) hj h) (by rw [hb];rfl)
 | cons r rows => exact T.freezeH s j hs hj hb hne (OwnRows.of _ hr rfl) h
theorem J9 (n : Int) : Fn0 Tryz.prog 113 [.i n] (A1 [.i n, .i 1]) := by
 refine Fn0.of Tryz.func113 Tryz.ntmps113 rfl rfl rfl ?_
 simp only [A2]
 repeat' (first
  | refine W ?_
  | (apply S.buildN;exact rfl;exact rfl;exact rfl)
  | refine V ?_
  | (refine W2 ?_ ?_ <;> intro hc))
 all_goals exact ⟨.inr rfl, [A1 [.i n, .i 1]], .cons (Res.row [.i n, .i 1] rfl rfl rfl rfl rfl) .nil, .one (.agg (A7 [.i n, .i 1]))⟩
theorem A37 (q : Rat) (hq : Fits q) : Fn0 Tryz.prog 114 [A1 (frR q)] (.tup [.i (upI q), .i 0]) := Aby q hq
theorem Wb (h : HouseR) (c : SheetR) (hf : h.fits) (hc : c.fits) (v : ¬ validP h c) : Fn0 Tryz.prog 110 [A1 h.row, A1 c.row] (.tup [.sl [], .i 1]) := by
 have cv := V5 h c hf hc
 rw [decide_eq_false v] at cv
 refine Fn0.of Tryz.func110 Tryz.ntmps110 rfl rfl rfl ?_
 simp only [A2]
 repeat' (first
  | refine W ?_
  | refine Zc cv ?_|(refine T.nilU 4 rfl ?_;apply T.ret;change C7 _ _ _ _ _)
  | refine V ?_
  | (refine W2 ?_ ?_ <;> intro hc))
 all_goals exact D2 rfl rfl rfl
abbrev Ce : Lf := .sl []
abbrev trL (h : HouseR) (c : SheetR) : List (List Lf) := (G2 h c (c.cues.length + 1)).map P4
noncomputable def plR (h : HouseR) (c : SheetR) (G : List Int) : List Lf := if Uo h c then [Ce, Ce, Ce] else [.sl (trL h c), .sl ((srL c.cues (Br h c) G).map A3), .sl ((Br h c).map A3)]
theorem A4g {h : HouseR} {c : SheetR} {k : Nat} (hk : k <= c.cues.length) : (trL h c)[((k : Nat) : Int).toNat]? = some (P4 (Ax h c k)) := by
 rw [Int.toNat_natCast]
 unfold trL G2
 rw [List.getElem?_map, List.getElem?_map, List.getElem?_range (by omega)];rfl
theorem Jy {x : Rat} (h : Fits x) : Dt x = frE x 0 := if_pos h
theorem Qf {x : Rat} (h : ¬ Fits x) : Dt x = .tup [A1 [.i 0, .i 0], .i 5] := if_neg h
set_option maxHeartbeats 32000000 in
theorem A8y (h : HouseR) (c : SheetR) (hf : h.fits) (hc : c.fits) (v : validP h c) (G : List Int) (hG : G.length <= 4611686018427387904) : Fn0 Tryz.prog 57 [A1 h.row, A1 c.row, .sl (G.map A3)] (.tup [A1 (plR h c G), .i (mdE h c G)]) := by
 have ct := Xm h c hf hc v
 have h60 : c.cues.length <= 60 := by have := v.2.1;omega
 have hs60 : h.sets.length <= 60 := v.1.2.2.2.1
 have cs := Yu h c v hc (Br h c) G (by rw [E9];omega) hG
 have hle : (c.cues.map CueR.row).length = c.cues.length := List.length_map _
 have hlt0 : (trL h c).length = c.cues.length + 1 := by unfold trL G2;rw [List.length_map, List.length_map, List.length_range]
 refine Fn0.of Tryz.func57 Tryz.ntmps57 rfl rfl rfl ?_
 simp only [A2]
 repeat' (first
  | refine W ?_
  | refine Zc ct ?_|(apply S.build;exact rfl;exact rfl;exact rfl)
  | refine V ?_
  | (refine W2 ?_ ?_ <;> intro hc))
 refine T.kill 4 ?_
 refine T.kill 5 ?_
 refine T.loopS (fun k => k <= c.cues.length /\ ∀ j, j < k -> Fits (msQ h c j)) (fun k => c.cues.length - k) (fun k => [(31, .i k), (30, .i (c.cues.map CueR.row).length), (29, .sl (c.cues.map CueR.row)), (8, .sl (trL h c)), (3, .ptr 0 0), (4, .ptr 1 0), (6, .ptr 2 0), (10, .ptr 3 0), (2, .sl (G.map A3))]) (fun k => [.live (h.row.map .lf), .live (c.row.map .lf), .live [.val (.slice none 0 0), .val (.slice none 0 0), .val (.slice none 0 0)], .live [.sl (trL h c), .val (.slice none 0 0), rT 4 1 k], rB (Aa (F1 h c k)) k, .dead]) 0 ⟨Nat.zero_le _, by intro j hj;omega⟩ CW CG ?_
 rintro k ⟨hk, hfit⟩
 by_cases hlt : k < c.cues.length
 ·have h1 : (k : Int) < ((c.cues.map CueR.row).length : Nat) := by omega
  obtain ⟨q, hq⟩ := A9 hlt
  have hb := Ac (R := CueR.row) hq
  have hbt := A4g (h := h) hk
  have g := Er v hq
  have g0 : F8 h (Ax h c k) q = 0 := Xh ⟨g.house, g.right⟩ g.len g.trims
  have hqm := hc.2.2 q (List.mem_of_getElem? hq)
  have cl := Wa h (Ax h c k) q hf (by omega) (by rw [g.len];omega) g0
  have hfl : Fits (D9 h (Ax h c k) q.moves) := Xf g fun m hm => hm
  have hms : 1000 * D9 h (Ax h c k) q.moves = msQ h c k := by unfold msQ;rw [A1l hq]
  have cw := J9 1000
  have cm := S7 1000 (D9 h (Ax h c k) q.moves) (Ct (n := 1000) (by omega) (by omega)) hfl
  change Fn0 _ _ [A1 [.i 1000, .i 1], _] _ at cm
  rw [hms] at cm
  have hsn : Aa (F1 h c (k + 1)) = Aa (F1 h c k) ++ ([A3 (upI (msQ h c k))].flatten).map AV.lf := by rw [A2n];simp [Aa];rfl
  by_cases hff : Fits (msQ h c k)
  ·rw [Jy hff] at cm
   have ce := A37 _ hff
   have hfit2 : ∀ j, j < k + 1 -> Fits (msQ h c j) := fun j hj => by
    by_cases e : j = k
    ·subst e;exact hff
    ·exact hfit j (by omega)
   generalize D9 h (Ax h c k) q.moves = x at *
   generalize msQ h c k = y at *
   generalize upI y = z at *
   cases k with
   | zero =>
    repeat' (first
     | refine W ?_
     | refine Zi hb ?_|refine Zi hbt ?_|refine Zc cl ?_|refine Zc cw ?_|refine Zc cm ?_|refine Zc ce ?_|(refine T.orders (id := 11) A0 ?_)|(apply Ords.nil;decide +kernel)|(apply Ords.takeMove 3;exact rfl;decide +kernel;decide +kernel;decide +kernel;exact rfl;exact rfl)|(apply Ords.takeExtract 4;exact rfl;decide +kernel;decide +kernel;decide +kernel;exact rfl;exact rfl;exact rfl)|(apply Ords.takeExtract 5;exact rfl;decide +kernel;decide +kernel;decide +kernel;exact rfl;exact rfl;exact rfl)|(apply Ords.takeAssign 7;exact rfl;decide +kernel;decide +kernel;decide +kernel;exact rfl;exact rfl)|(apply Ords.two (i := 0) (j := 1);decide +kernel;exact rfl;exact rfl)|(apply Ords.one (i := 0);decide +kernel;exact rfl)|(apply Ords.one (i := 1);decide +kernel;exact rfl)|(apply Ords.one (i := 2);decide +kernel;exact rfl)|(apply Ords.one (i := 6);decide +kernel;exact rfl)|(apply Ords.one (i := 7);decide +kernel;exact rfl)|(apply T.drawAll A0 (by decide +kernel))|(apply S.buildSlice1;(iterate 7 exact rfl))|(apply S.appendN 4 (rows := []);(iterate 8 exact rfl);exact Ai rfl;exact rfl;exact Nat.le_of_ble_eq_true rfl;exact Nat.le_of_ble_eq_true rfl)|refine Za ?_
     | refine V ?_
     | (refine W2 ?_ ?_ <;> intro hc))
    all_goals (try change Next _ _ _ _ _ _)
    all_goals exact Next.go 1 ⟨by omega, hfit2⟩ (by omega) CW (by
     show CovH _ _ [_, _, _, _, .live (Aa (F1 h c (0 + 1))), _]
     rw [hsn]
     exact .live rfl CG)
   | succ k =>
    have hcl : (Aa (F1 h c (k + 1))).length = (k + 1) * 1 := by rw [Cy, E9, Nat.mul_one]
    repeat' (first
     | refine W ?_
     | refine Zi hb ?_|refine Zi hbt ?_|refine Zc cl ?_|refine Zc cw ?_|refine Zc cm ?_|refine Zc ce ?_|(refine T.orders (id := 11) A0 ?_)|(apply Ords.nil;decide +kernel)|(apply Ords.takeMove 3;exact rfl;decide +kernel;decide +kernel;decide +kernel;exact rfl;exact rfl)|(apply Ords.takeExtract 4;exact rfl;decide +kernel;decide +kernel;decide +kernel;exact rfl;exact rfl;exact rfl)|(apply Ords.takeExtract 5;exact rfl;decide +kernel;decide +kernel;decide +kernel;exact rfl;exact rfl;exact rfl)|(apply Ords.takeAssign 7;exact rfl;decide +kernel;decide +kernel;decide +kernel;exact rfl;exact rfl)|(apply Ords.two (i := 0) (j := 1);decide +kernel;exact rfl;exact rfl)|(apply Ords.one (i := 0);decide +kernel;exact rfl)|(apply Ords.one (i := 1);decide +kernel;exact rfl)|(apply Ords.one (i := 2);decide +kernel;exact rfl)|(apply Ords.one (i := 6);decide +kernel;exact rfl)|(apply Ords.one (i := 7);decide +kernel;exact rfl)|(apply T.drawAll A0 (by decide +kernel))|(apply S.buildSlice1;(iterate 7 exact rfl))|(refine Reg.blur 3 2 5 rfl rfl rfl ?_;apply S.appendO;(iterate 8 exact rfl);exact hcl;exact Ai rfl;exact rfl;exact Az _ _;simp only [List.length_cons, List.length_nil];omega;simp only [List.length_cons, List.length_nil];omega)|refine Za ?_
     | refine V ?_
     | (refine W2 ?_ ?_ <;> intro hc))
    all_goals (try change Next _ _ _ _ _ _)
    all_goals exact Next.go (k + 1 + 1) ⟨by omega, hfit2⟩ (by omega) CW (by
     show CovH _ _ [_, _, _, _, .live (Aa (F1 h c (k + 1 + 1))), _]
     rw [hsn]
     exact .live rfl (.live rfl (.live rfl (.live rfl (.live (by rw [<- List.map_append];exact Al _ _) (.dead .nil))))))
  ·have hB : Uo h c := ⟨k, hlt, hff⟩
   rw [show plR h c G = [Ce, Ce, Ce] from if_pos hB, show mdE h c G = 5 from if_pos hB]
   rw [Qf hff] at cm
   skip
   repeat' (first
    | refine W ?_
    | refine Zi hb ?_|refine Zi hbt ?_|refine Zc cl ?_|refine Zc cw ?_|refine Zc cm ?_|(refine T.orders (id := 11) A0 ?_)|(apply Ords.nil;decide +kernel)|(apply Ords.takeMove 3;exact rfl;decide +kernel;decide +kernel;decide +kernel;exact rfl;exact rfl)|(apply Ords.takeExtract 4;exact rfl;decide +kernel;decide +kernel;decide +kernel;exact rfl;exact rfl;exact rfl)|(apply Ords.takeExtract 5;exact rfl;decide +kernel;decide +kernel;decide +kernel;exact rfl;exact rfl;exact rfl)|(apply Ords.takeAssign 7;exact rfl;decide +kernel;decide +kernel;decide +kernel;exact rfl;exact rfl)|(apply Ords.two (i := 0) (j := 1);decide +kernel;exact rfl;exact rfl)|(apply Ords.one (i := 0);decide +kernel;exact rfl)|(apply Ords.one (i := 1);decide +kernel;exact rfl)|(apply Ords.one (i := 2);decide +kernel;exact rfl)|(apply Ords.one (i := 6);decide +kernel;exact rfl)|(apply Ords.one (i := 7);decide +kernel;exact rfl)|(apply T.drawAll A0 (by decide +kernel))|(apply S.buildN;exact rfl;exact rfl;exact rfl)|refine Za ?_
    | refine V ?_
    | (refine W2 ?_ ?_ <;> intro hc))
   all_goals exact ⟨.inr rfl, [A1 [Ce, Ce, Ce], .i 5], by rw [Tryz.results57];exact .cons (Res.row [Ce, Ce, Ce] rfl rfl rfl rfl rfl) (.cons (.tmp rfl) .nil), .tup (.cons (.agg (A7 [Ce, Ce, Ce])) (.cons (.one (.lf _)) .nil))⟩
 ·have h1 : ¬ (k : Int) < ((c.cues.map CueR.row).length : Nat) := by omega
  obtain rfl : k = c.cues.length := by omega
  have hB : ¬ Uo h c := fun ⟨j, hj, hn⟩ => hn (hfit j hj)
  rw [show plR h c G = _ from if_neg hB, show mdE h c G = _ from if_neg hB]
  refine T.sealH 3 2 4 (rows := (Br h c).map A3) (C9 _) (by rw [List.length_map, E9]) rfl rfl rfl rfl ?_
  generalize Br h c = L at *
  generalize stE c.cues L G = e at *
  generalize srL c.cues L G = Z at *
  repeat' (first
   | refine W ?_
   | refine Zc cs ?_|(apply T.draw 8 A0 (by decide +kernel);simp only [td])|(apply T.drawR 8 A0 (by decide +kernel);simp only [td])
   | refine V ?_
   | (refine W2 ?_ ?_ <;> intro hc))
  all_goals exact ⟨.inr rfl, [A1 [.sl (trL h c), .sl (Z.map A3), .sl (L.map A3)], .i e], by rw [Tryz.results57];exact .cons (Res.row [.sl (trL h c), .sl (Z.map A3), .sl (L.map A3)] rfl rfl rfl rfl rfl) (.cons (.tmp rfl) .nil), .tup (.cons (.agg (A7 [.sl (trL h c), .sl (Z.map A3), .sl (L.map A3)])) (.cons (.one (.lf _)) .nil))⟩
theorem Yl (h : HouseR) (c : SheetR) (hf : h.fits) (hc : c.fits) (v : ¬ validP h c) (g : AV) (hg : ∃ G : List Int, g = .sl (G.map A3)) : Fn0 Tryz.prog 57 [A1 h.row, A1 c.row, g] (.tup [A1 [Ce, Ce, Ce], .i 1]) := by
 obtain ⟨G, rfl⟩ := hg
 have ct := Wb h c hf hc v
 refine Fn0.of Tryz.func57 Tryz.ntmps57 rfl rfl rfl ?_
 simp only [A2]
 repeat' (first
  | refine W ?_
  | refine Zc ct ?_|(apply S.buildN;exact rfl;exact rfl;exact rfl)
  | refine V ?_
  | (refine W2 ?_ ?_ <;> intro hc))
 all_goals exact ⟨.inr rfl, [A1 [Ce, Ce, Ce], .i 1], by rw [Tryz.results57];exact .cons (Res.row [Ce, Ce, Ce] rfl rfl rfl rfl rfl) (.cons (.tmp rfl) .nil), .tup (.cons (.agg (A7 [Ce, Ce, Ce])) (.cons (.one (.lf _)) .nil))⟩
/-! ### One contract for all sheets -/
noncomputable def alE (h : HouseR) (c : SheetR) (G : List Int) : Int := if validP h c then mdE h c G else 1
noncomputable def alR (h : HouseR) (c : SheetR) (G : List Int) : List Lf := if validP h c then plR h c G else [Ce, Ce, Ce]
theorem Js (h : HouseR) (c : SheetR) (hf : h.fits) (hc : c.fits) (G : List Int) (hG : G.length <= 4611686018427387904) : Fn0 Tryz.prog 57 [A1 h.row, A1 c.row, .sl (G.map A3)] (.tup [A1 (alR h c G), .i (alE h c G)]) := by
 unfold alR alE
 by_cases v : validP h c
 ·rw [if_pos v, if_pos v];exact A8y h c hf hc v G hG
 ·rw [if_neg v, if_neg v];exact Yl h c hf hc v _ ⟨G, rfl⟩
theorem Gx {h : HouseR} {c : SheetR} {G : List Int} (e : alE h c G = 0) : PlanOk h c G /\ alR h c G = [.sl (trL h c), .sl ((stL h c G).map A3), .sl ((Br h c).map A3)] := by
 unfold alE at e
 split at e
 ·rename_i v
  have p := A40 v e
  refine ⟨p, ?_⟩
  unfold alR plR srL
  rw [if_pos v, if_neg p.fit]
  have h0 : stE c.cues (Br h c) G = 0 := by
   have := p.zero
   unfold mdE at this
   rwa [if_neg p.fit] at this
  rw [if_pos h0];rfl
 ·cases e
theorem Ad0 (h : HouseR) (c : SheetR) (G : List Int) : ∃ a b d : List (List Lf), alR h c G = [.sl a, .sl b, .sl d] := by
 unfold alR plR
 split
 ·split
  ·exact ⟨_, _, _, rfl⟩
  ·exact ⟨_, _, _, rfl⟩
 ·exact ⟨_, _, _, rfl⟩
def Wx (h : HouseR) (c : SheetR) (G : List Int) (k : Nat) : List Lf := [.s ((c.cues[k]?.map CueR.name).getD ⟨#[]⟩), .i ((stL h c G).getD k 0)]
def Jd (h : HouseR) (c : SheetR) (G : List Int) (n : Nat) : List (List Lf) := (List.range n).map (Wx h c G)
theorem A6k (h : HouseR) (c : SheetR) (G : List Int) (n : Nat) : Jd h c G (n + 1) = Jd h c G n ++ [Wx h c G n] := by simp [Jd, List.range_succ]
theorem Yz (h : HouseR) (c : SheetR) (G : List Int) (n : Nat) : (Jd h c G n).length = n := by simp [Jd]
theorem Yw (h : HouseR) (c : SheetR) (G : List Int) (n : Nat) : ∀ r ∈ Jd h c G n, r.length = 2 := by
 intro r hr
 obtain ⟨i, _, rfl⟩ := List.mem_map.1 hr
 rfl
abbrev N3 (l : List (List Lf)) : List AV := l.flatten.map .lf
theorem A7j {l : List (List Lf)} {n st : Nat} (hr : ∀ r ∈ l, r.length = st) (hn : l.length = n) : (N3 l).length = n * st := by
 rw [List.length_map, Bf _ hr, hn]
theorem A3a (l : List (List Lf)) (r : List Lf) : N3 (l ++ [r]) = N3 l ++ ([r].flatten).map AV.lf := by simp [N3]
set_option maxHeartbeats 16000000 in
theorem A36 (h : HouseR) (c : SheetR) (hf : h.fits) (hc : c.fits) (G : List Int) (hG : G.length <= 4611686018427387904) (e0 : alE h c G = 0) : Fn0 Tryz.prog 37 [A1 h.row, A1 c.row, .sl (G.map A3)] (.tup [.sl (Jd h c G c.cues.length), .i 0]) := by
 have cm := Js h c hf hc G hG
 obtain ⟨p, er⟩ := Gx e0
 rw [e0, er] at cm
 have h60 : c.cues.length <= 60 := by have := p.v.2.1;omega
 have hle : (c.cues.map CueR.row).length = c.cues.length := List.length_map _
 refine Fn0.of Tryz.func37 Tryz.ntmps37 rfl rfl rfl ?_
 simp only [A2]
 repeat' (first
  | refine W ?_
  | refine Zc cm ?_|(apply T.drawAll A0 (by decide +kernel))
  | refine V ?_
  | (refine W2 ?_ ?_ <;> intro hc))
 refine T.kill 3 ?_
 refine T.loopS (fun k => k <= c.cues.length) (fun k => c.cues.length - k) (fun k => [(26, .i k), (25, .i (c.cues.map CueR.row).length), (24, .sl (c.cues.map CueR.row)), (10, rT 3 2 k), (8, .ptr 2 0)]) (fun k => [.live (h.row.map .lf), .live (c.row.map .lf), .live [.sl (trL h c), .sl ((stL h c G).map A3), .sl ((Br h c).map A3)], rB (N3 (Jd h c G k)) k]) 0 (Nat.zero_le _) CW CG ?_
 intro k hk
 by_cases hlt : k < c.cues.length
 ·have h1 : (k : Int) < ((c.cues.map CueR.row).length : Nat) := by omega
  obtain ⟨q, hq⟩ := A9 hlt
  have hb := Ac (R := CueR.row) hq
  obtain ⟨x, hx⟩ := A9 (l := stL h c G) (k := k) (by rw [Dg];exact hlt)
  have hb2 := Ac (R := A3) hx
  have hR : Wx h c G k = [.s q.name, .i x] := by unfold Wx;rw [hq, List.getD_eq_getElem?_getD, hx];rfl
  have hS := A3a (Jd h c G k) (Wx h c G k)
  rw [<- A6k, hR] at hS
  cases k with
  | zero =>
   repeat' (first
    | refine W ?_
    | refine Zi hb ?_|refine Zi hb2 ?_|(apply S.buildSlice1;(iterate 7 exact rfl))|(apply S.appendN 3 (rows := []);(iterate 8 exact rfl);exact Ai rfl;exact rfl;exact Nat.le_of_ble_eq_true rfl;exact Nat.le_of_ble_eq_true rfl)|(apply T.draw 10 A0 (by decide +kernel);simp only [td])|(apply T.drawR 10 A0 (by decide +kernel);simp only [td])|(apply S.buildN;exact rfl;exact rfl;exact rfl)|refine Za ?_
    | refine V ?_
    | (refine W2 ?_ ?_ <;> intro hc))
   all_goals (try change Next _ _ _ _ _ _)
   all_goals exact Next.go 1 (by omega) (by omega) CW (by
    show CovH _ _ [_, _, _, .live (N3 (Jd h c G (0 + 1)))]
    rw [hS];exact .live rfl CG)
  | succ k =>
   have hcl := A7j (Yw h c G (k + 1)) (Yz h c G (k + 1))
   repeat' (first
    | refine W ?_
    | refine Zi hb ?_|refine Zi hb2 ?_|(apply S.buildSlice1;(iterate 7 exact rfl))|(apply S.appendO;(iterate 8 exact rfl);exact hcl;exact Ai rfl;exact rfl;exact Az _ _;simp only [List.length_cons, List.length_nil];omega;simp only [List.length_cons, List.length_nil];omega)|(apply T.draw 10 A0 (by decide +kernel);simp only [td])|(apply T.drawR 10 A0 (by decide +kernel);simp only [td])|(apply S.buildN;exact rfl;exact rfl;exact rfl)|refine Za ?_
    | refine V ?_
    | (refine W2 ?_ ?_ <;> intro hc))
   all_goals (try change Next _ _ _ _ _ _)
   all_goals exact Next.go (k + 1 + 1) (by omega) (by omega) CW (by
    show CovH _ _ [_, _, _, .live (N3 (Jd h c G (k + 1 + 1)))]
    rw [hS];exact .live rfl (.live rfl (.live rfl (.live (by rw [<- List.map_append];exact Al _ _) .nil))))
 ·have h1 : ¬ (k : Int) < ((c.cues.map CueR.row).length : Nat) := by omega
  obtain rfl : k = c.cues.length := by omega
  refine T.sealR 10 3 (rows := Jd h c G c.cues.length) (Yw _ _ _ _) (Yz _ _ _ _) rfl rfl ?_
  repeat' (first
   | refine W ?_

   | refine V ?_
   | (refine W2 ?_ ?_ <;> intro hc))
  exact D2 rfl rfl rfl
theorem Xd (h : HouseR) (c : SheetR) (hf : h.fits) (hc : c.fits) (G : List Int) (hG : G.length <= 4611686018427387904) (e0 : ¬ alE h c G = 0) : Fn0 Tryz.prog 26 [A1 h.row, A1 c.row, .sl (G.map A3)] (.tup [.sl [], .i (alE h c G)]) := by
 have cm := Js h c hf hc G hG
 obtain ⟨a, b, d, er⟩ := Ad0 h c G
 rw [er] at cm
 generalize alE h c G = e at *
 refine Fn0.of Tryz.func26 Tryz.ntmps26 rfl rfl rfl ?_
 simp only [A2]
 repeat' (first
  | refine W ?_
  | refine Zc cm ?_|(apply T.drawAll A0 (by decide +kernel))|(refine T.nilU 6 rfl ?_;apply T.ret;change C7 _ _ _ _ _)
  | refine V ?_
  | (refine W2 ?_ ?_ <;> intro hc))
 all_goals exact D2 rfl rfl rfl
theorem Ka (l : List Int) (x : Int) : Aa (l ++ [x]) = Aa l ++ ([A3 x].flatten).map AV.lf := by simp [Aa]
set_option maxHeartbeats 16000000 in
theorem Ye (h : HouseR) (c : SheetR) (hf : h.fits) (hc : c.fits) (G : List Int) (hG : G.length <= 4611686018427387904) (e0 : alE h c G = 0) (hn : c.cues.length ≠ 0) : FnOwnT Tryz.prog 26 [A1 h.row, A1 c.row, .sl (G.map A3)] ((Dl h c G).map A3) 1 (.int .i64 0) := by
 have cm := Js h c hf hc G hG
 obtain ⟨p, er⟩ := Gx e0
 rw [e0, er] at cm
 have h60 : c.cues.length <= 60 := by have := p.v.2.1;omega
 have hle : ((stL h c G).map A3).length = c.cues.length := by rw [List.length_map, Dg]
 refine FnOwnT.of Tryz.func26 Tryz.ntmps26 rfl rfl rfl ?_
 simp only [A2]
 repeat' (first
  | refine W ?_
  | refine Zc cm ?_|(apply T.drawAll A0 (by decide +kernel))
  | refine V ?_
  | (refine W2 ?_ ?_ <;> intro hc))
 refine T.kill 3 ?_
 refine T.loopS (fun k => k <= c.cues.length) (fun k => c.cues.length - k) (fun k => [(26, .i k), (25, .i ((stL h c G).map A3).length), (24, .sl ((stL h c G).map A3)), (10, rT 3 1 k), (8, .ptr 2 0)]) (fun k => [.live (h.row.map .lf), .live (c.row.map .lf), .live [.sl (trL h c), .sl ((stL h c G).map A3), .sl ((Br h c).map A3)], rB (Aa (Dn h c G k)) k]) 0 (Nat.zero_le _) CW CG ?_
 intro k hk
 by_cases hlt : k < c.cues.length
 ·have h1 : (k : Int) < (((stL h c G).map A3).length : Nat) := by omega
  obtain ⟨x, hx⟩ := A9 (l := stL h c G) (k := k) (by rw [Dg];exact hlt)
  have hb := Ac (R := A3) hx
  obtain ⟨y, hy⟩ := A9 (l := Br h c) (k := k) (by rw [E9];exact hlt)
  have hb2 := Ac (R := A3) hy
  have r1 := p.st k
  have r2 := p.ln k
  have hV : G7 h c G k = x + y := by unfold G7;rw [List.getD_eq_getElem?_getD, List.getD_eq_getElem?_getD, hx, hy];rfl
  rw [List.getD_eq_getElem?_getD, hx] at r1
  rw [List.getD_eq_getElem?_getD, hy] at r2
  simp only [Option.getD_some] at r1 r2
  have hS := Ka (Dn h c G k) (G7 h c G k)
  rw [<- Ob, hV] at hS
  cases k with
  | zero =>
   repeat' (first
    | refine W ?_
    | refine Zi hb ?_|refine Zi hb2 ?_|(apply S.buildSlice1;(iterate 7 exact rfl))|(apply S.appendN 3 (rows := []);(iterate 8 exact rfl);exact Ai rfl;exact rfl;exact Nat.le_of_ble_eq_true rfl;exact Nat.le_of_ble_eq_true rfl)|refine Za ?_
    | refine V ?_
    | (refine W2 ?_ ?_ <;> intro hc))
   all_goals (try change Next _ _ _ _ _ _)
   all_goals exact Next.go 1 (by omega) (by omega) CW (by
    show CovH _ _ [_, _, _, .live (Aa (Dn h c G (0 + 1)))]
    rw [hS];exact .live rfl CG)
  | succ k =>
   have hcl : (Aa (Dn h c G (k + 1))).length = (k + 1) * 1 := by rw [Cy, H2, Nat.mul_one]
   repeat' (first
    | refine W ?_
    | refine Zi hb ?_|refine Zi hb2 ?_|(apply S.buildSlice1;(iterate 7 exact rfl))|(apply S.appendO;(iterate 8 exact rfl);exact hcl;exact Ai rfl;exact rfl;exact Az _ _;simp only [List.length_cons, List.length_nil];omega;simp only [List.length_cons, List.length_nil];omega)|refine Za ?_
    | refine V ?_
    | (refine W2 ?_ ?_ <;> intro hc))
   all_goals (try change Next _ _ _ _ _ _)
   all_goals exact Next.go (k + 1 + 1) (by omega) (by omega) CW (by
    show CovH _ _ [_, _, _, .live (Aa (Dn h c G (k + 1 + 1)))]
    rw [hS];exact .live rfl (.live rfl (.live rfl (.live (by rw [<- List.map_append];exact Al _ _) .nil))))
 ·have h1 : ¬ (k : Int) < (((stL h c G).map A3).length : Nat) := by omega
  obtain rfl : k = c.cues.length := by omega
  have hpos : 0 < c.cues.length := by omega
  rw [Kn hpos, Kq hpos]
  repeat' (first
   | refine W ?_

   | refine V ?_
   | (refine W2 ?_ ?_ <;> intro hc))
  apply T.ret
  change Tg _ _ _ _ _ _ _
  have hll : ((Dl h c G).map A3).length = c.cues.length := by rw [List.length_map, H2]
  refine ⟨.inr rfl, 3, .cons ?_ (.cons (.tmp rfl) .nil), rfl⟩
  rw [hll]
  exact .tmp rfl
set_option maxHeartbeats 16000000 in
theorem A8e (h : HouseR) (c : SheetR) (hf : h.fits) (hc : c.fits) (G : List Int) (hG : G.length <= 4611686018427387904) (e0 : alE h c G = 0) (hn : True) : Fn0 Tryz.prog 26 [A1 h.row, A1 c.row, .sl (G.map A3)] (.tup [.sl ((Dl h c G).map A3), .i 0]) := by
 have cm := Js h c hf hc G hG
 obtain ⟨p, er⟩ := Gx e0
 rw [e0, er] at cm
 have h60 : c.cues.length <= 60 := by have := p.v.2.1;omega
 have hle : ((stL h c G).map A3).length = c.cues.length := by rw [List.length_map, Dg]
 refine Fn0.of Tryz.func26 Tryz.ntmps26 rfl rfl rfl ?_
 simp only [A2]
 repeat' (first
  | refine W ?_
  | refine Zc cm ?_|(apply T.drawAll A0 (by decide +kernel))
  | refine V ?_
  | (refine W2 ?_ ?_ <;> intro hc))
 refine T.kill 3 ?_
 refine T.loopS (fun k => k <= c.cues.length) (fun k => c.cues.length - k) (fun k => [(26, .i k), (25, .i ((stL h c G).map A3).length), (24, .sl ((stL h c G).map A3)), (10, rT 3 1 k), (8, .ptr 2 0)]) (fun k => [.live (h.row.map .lf), .live (c.row.map .lf), .live [.sl (trL h c), .sl ((stL h c G).map A3), .sl ((Br h c).map A3)], rB (Aa (Dn h c G k)) k]) 0 (Nat.zero_le _) CW CG ?_
 intro k hk
 by_cases hlt : k < c.cues.length
 ·have h1 : (k : Int) < (((stL h c G).map A3).length : Nat) := by omega
  obtain ⟨x, hx⟩ := A9 (l := stL h c G) (k := k) (by rw [Dg];exact hlt)
  have hb := Ac (R := A3) hx
  obtain ⟨y, hy⟩ := A9 (l := Br h c) (k := k) (by rw [E9];exact hlt)
  have hb2 := Ac (R := A3) hy
  have r1 := p.st k
  have r2 := p.ln k
  have hV : G7 h c G k = x + y := by unfold G7;rw [List.getD_eq_getElem?_getD, List.getD_eq_getElem?_getD, hx, hy];rfl
  rw [List.getD_eq_getElem?_getD, hx] at r1
  rw [List.getD_eq_getElem?_getD, hy] at r2
  simp only [Option.getD_some] at r1 r2
  have hS := Ka (Dn h c G k) (G7 h c G k)
  rw [<- Ob, hV] at hS
  cases k with
  | zero =>
   repeat' (first
    | refine W ?_
    | refine Zi hb ?_|refine Zi hb2 ?_|(apply S.buildSlice1;(iterate 7 exact rfl))|(apply S.appendN 3 (rows := []);(iterate 8 exact rfl);exact Ai rfl;exact rfl;exact Nat.le_of_ble_eq_true rfl;exact Nat.le_of_ble_eq_true rfl)|refine Za ?_
    | refine V ?_
    | (refine W2 ?_ ?_ <;> intro hc))
   all_goals (try change Next _ _ _ _ _ _)
   all_goals exact Next.go 1 (by omega) (by omega) CW (by
    show CovH _ _ [_, _, _, .live (Aa (Dn h c G (0 + 1)))]
    rw [hS];exact .live rfl CG)
  | succ k =>
   have hcl : (Aa (Dn h c G (k + 1))).length = (k + 1) * 1 := by rw [Cy, H2, Nat.mul_one]
   repeat' (first
    | refine W ?_
    | refine Zi hb ?_|refine Zi hb2 ?_|(apply S.buildSlice1;(iterate 7 exact rfl))|(apply S.appendO;(iterate 8 exact rfl);exact hcl;exact Ai rfl;exact rfl;exact Az _ _;simp only [List.length_cons, List.length_nil];omega;simp only [List.length_cons, List.length_nil];omega)|refine Za ?_
    | refine V ?_
    | (refine W2 ?_ ?_ <;> intro hc))
   all_goals (try change Next _ _ _ _ _ _)
   all_goals exact Next.go (k + 1 + 1) (by omega) (by omega) CW (by
    show CovH _ _ [_, _, _, .live (Aa (Dn h c G (k + 1 + 1)))]
    rw [hS];exact .live rfl (.live rfl (.live rfl (.live (by rw [<- List.map_append];exact Al _ _) .nil))))
 ·have h1 : ¬ (k : Int) < (((stL h c G).map A3).length : Nat) := by omega
  obtain rfl : k = c.cues.length := by omega
  refine T.sealR 10 3 (rows := (Dl h c G).map A3) (C9 _) (by rw [List.length_map, H2]) rfl rfl ?_
  repeat' (first
   | refine W ?_

   | refine V ?_
   | (refine W2 ?_ ?_ <;> intro hc))
  exact D2 rfl rfl rfl
abbrev zM : List Lf := [.s ⟨#[]⟩, .i 0, .i 0, .i 0, .i 0]
def mvA : Option MoveR -> AV
 | some m => .tup [A1 m.row, .b true]
 | none => .tup [A1 zM, .b false]
theorem A2c (m : MoveR) (n : ByteArray) : Fn0 Tryz.prog 230 [A1 m.row, .rop [.s n]] (.b (decide (m.set = n))) := by
 refine Fn0.of Tryz.func230 Tryz.ntmps230 rfl rfl rfl ?_
 simp only [A2]
 repeat' (first
  | refine W ?_

  | refine V ?_
  | (refine W2 ?_ ?_ <;> intro hc))
 all_goals exact A5 (by simp) Tryz.results230 rfl (by rfl)
theorem A98 {q : CueR} {n : ByteArray} (h : mvI q n < 0) : mvO q n = none := if_pos h
theorem Aa7 {q : CueR} {n : ByteArray} (h : ¬ mvI q n < 0) : ∃ m, q.moves[(mvI q n).toNat]? = some m /\ mvO q n = some m := by
 have h2 : mvI q n < (q.moves.length : Nat) := Sl _ _
 obtain ⟨m, hm⟩ := A9 (l := q.moves) (k := (mvI q n).toNat) (by omega)
 exact ⟨m, hm, by unfold mvO;rw [if_neg h, hm]⟩
theorem Vf (q : CueR) (n : ByteArray) (hl : q.moves.length <= 9223372036854775807) : Fn0 Tryz.prog 171 [A1 q.row, .s n] (mvA (mvO q n)) := by
 have hc : Fn0 Tryz.prog 229 [.sl (q.moves.map MoveR.row), .fn (.func 230) [] [.rop [.s n]]] (.i (mvI q n)) :=
  Nv q.moves MoveR.row (fun m => m.set = n) _ _ (fun _ => rfl) hl rfl fun m _ => A2c m n
 by_cases h : mvI q n < 0
 ·rw [A98 h]
  generalize mvI q n = i at *
  refine Fn0.of Tryz.func171 Tryz.ntmps171 rfl rfl rfl ?_
  simp only [A2]
  repeat' (first
   | refine W ?_
   | (apply S.callV;exact rfl;exact hc;exact .cons (.one (.lf _)) (.cons (.fn (.cons (.ptr0 (cs := [.s n]) rfl) .nil)) .nil);exact rfl;exact rfl) | refine Y ?_
   | refine V ?_
   | (refine W2 ?_ ?_ <;> intro hc))
  all_goals exact ⟨.inr rfl, [A1 zM, .b false], by rw [Tryz.results171];exact .cons (Res.row zM rfl rfl rfl rfl rfl) (.cons (.tmp rfl) .nil), .tup (.cons (.agg (A7 zM)) (.cons (.one (.lf _)) .nil))⟩
 ·obtain ⟨m, hm, e⟩ := Aa7 h
  have hb := Lq (R := MoveR.row) hm
  rw [e]
  generalize mvI q n = i at *
  refine Fn0.of Tryz.func171 Tryz.ntmps171 rfl rfl rfl ?_
  simp only [A2]
  repeat' (first
   | refine W ?_
   | (apply S.callV;exact rfl;exact hc;exact .cons (.one (.lf _)) (.cons (.fn (.cons (.ptr0 (cs := [.s n]) rfl) .nil)) .nil);exact rfl;exact rfl) | refine Y ?_
   | refine V ?_
   | (refine W2 ?_ ?_ <;> intro hc))
  all_goals exact ⟨.inr rfl, [A1 m.row, .b true], by rw [Tryz.results171];exact .cons (Res.row m.row rfl rfl rfl rfl rfl) (.cons (.tmp rfl) .nil), .tup (.cons (.agg (A7 m.row)) (.cons (.one (.lf _)) .nil))⟩
abbrev plA (Z : List (List Lf)) (sS lL : List Int) : List Lf := [.sl Z, .sl (sS.map A3), .sl (lL.map A3)]
set_option maxHeartbeats 16000000 in
theorem Zs (c : SheetR) (Z : List (List Lf)) (sS lL : List Int) (hS : sS.length = c.cues.length) (hL : lL.length = c.cues.length) (h60 : c.cues.length <= 60) (hm : ∀ q ∈ c.cues, q.moves.length <= 140737488355328) (bS : ∀ i, 0 <= sS.getD i 0 /\ sS.getD i 0 <= 257698037760) (bL : ∀ i, 0 <= lL.getD i 0 /\ lL.getD i 0 <= 2147483648) :
  Fn0 Tryz.prog 92 [A1 (plA Z sS lL), A1 c.row] (.b (decide (Ig c sS lL))) := by
 have hle : (c.cues.map CueR.row).length = c.cues.length := List.length_map _
 refine Fn0.of Tryz.func92 Tryz.ntmps92 rfl rfl rfl ?_
 simp only [A2]
 repeat' (first
  | refine W ?_

  | refine V ?_
  | (refine W2 ?_ ?_ <;> intro hc))
 refine T.loopS (fun i => i <= c.cues.length /\ ∀ i', i' < i -> ∀ q, c.cues[i']? = some q -> ∀ k r, k < i' -> c.cues[k]? = some r -> ∀ m ∈ q.moves, Mj c sS lL i' k q r m) (fun i => c.cues.length - i) (fun i => [(16, .i i), (15, .i (c.cues.map CueR.row).length), (14, .sl (c.cues.map CueR.row)), (2, .ptr 0 0), (3, .ptr 1 0)]) (fun _ => [.live ((plA Z sS lL).map .lf), .live (c.row.map .lf)]) 0 ⟨Nat.zero_le _, by intro j hj;omega⟩ CW CH ?_
 rintro i ⟨hi, hall⟩
 by_cases hlt : i < c.cues.length
 ·have h1 : (i : Int) < ((c.cues.map CueR.row).length : Nat) := by omega
  obtain ⟨q, hq⟩ := A9 hlt
  have hb := Ac (R := CueR.row) hq
  obtain ⟨x, hx⟩ := A9 (l := sS) (k := i) (by omega)
  have hbx := Ac (R := A3) hx
  have hqm := hm q (List.mem_of_getElem? hq)
  have hle2 : ((c.cues.map CueR.row).take ((i : Nat) : Int).toNat).length = i := by rw [List.length_take];omega
  have hle3 : (q.moves.map MoveR.row).length = q.moves.length := List.length_map _
  repeat' (first
   | refine W ?_
   | refine Y ?_|(apply S.sliceTo;exact rfl;exact rfl;exact rfl;omega;(intro row hr;obtain ⟨z, _, rfl⟩ := List.mem_map.1 hr;rfl))
   | refine V ?_
   | (refine W2 ?_ ?_ <;> intro hc))
  refine T.loopS (fun k => k <= i /\ ∀ k', k' < k -> ∀ r, c.cues[k']? = some r -> ∀ m ∈ q.moves, Mj c sS lL i k' q r m) (fun k => i - k) (fun k => [(26, .i k), (25, .i ((c.cues.map CueR.row).take ((i : Nat) : Int).toNat).length), (24, .sl ((c.cues.map CueR.row).take ((i : Nat) : Int).toNat)), (5, .i i), (6, .ptr 2 0), (16, .i i), (15, .i (c.cues.map CueR.row).length), (14, .sl (c.cues.map CueR.row)), (2, .ptr 0 0), (3, .ptr 1 0)]) (fun _ => [.live ((plA Z sS lL).map .lf), .live (c.row.map .lf), .live (q.row.map .lf)]) 0 ⟨Nat.zero_le _, by intro j hj;omega⟩ CW CH ?_
  rintro k ⟨hk, hin⟩
  by_cases hlk : k < i
  ·have h2 : (k : Int) < (((c.cues.map CueR.row).take ((i : Nat) : Int).toNat).length : Nat) := by omega
   obtain ⟨r, hr⟩ := A9 (l := c.cues) (k := k) (by omega)
   have hbr : ((c.cues.map CueR.row).take ((i : Nat) : Int).toNat)[((k : Nat) : Int).toNat]? = some r.row := by rw [List.getElem?_take_of_lt (by omega)];exact Ac hr
   obtain ⟨y, hy⟩ := A9 (l := sS) (k := k) (by omega)
   have hby := Ac (R := A3) hy
   obtain ⟨z, hz⟩ := A9 (l := lL) (k := k) (by omega)
   have hbz := Ac (R := A3) hz
   have by_ := bS k
   have bz := bL k
   rw [List.getD_eq_getElem?_getD, hy] at by_
   rw [List.getD_eq_getElem?_getD, hz] at bz
   simp only [Option.getD_some] at by_ bz
   have hrm := hm r (List.mem_of_getElem? hr)
   have hQ : ∀ m, Mj c sS lL i k q r m ↔ ((mvO r m.set).isSome = true -> y + z <= x) := fun m => by
    unfold Mj
    rw [List.getD_eq_getElem?_getD, List.getD_eq_getElem?_getD, List.getD_eq_getElem?_getD, hx, hy, hz]
    rfl
   repeat' (first
    | refine W ?_
    | refine Y ?_|(apply T.drawAll A0 (by decide +kernel))
    | refine V ?_
    | (refine W2 ?_ ?_ <;> intro hc))
   refine T.loopS (fun j => j <= q.moves.length /\ ∀ m ∈ q.moves.take j, Mj c sS lL i k q r m) (fun j => q.moves.length - j) (fun j => [(34, .i j), (33, .i (q.moves.map MoveR.row).length), (32, .sl (q.moves.map MoveR.row)), (7, .i k), (8, .ptr 3 0), (26, .i k), (25, .i ((c.cues.map CueR.row).take ((i : Nat) : Int).toNat).length), (24, .sl ((c.cues.map CueR.row).take ((i : Nat) : Int).toNat)), (5, .i i), (6, .ptr 2 0), (16, .i i), (15, .i (c.cues.map CueR.row).length), (14, .sl (c.cues.map CueR.row)), (2, .ptr 0 0), (3, .ptr 1 0)]) (fun _ => [.live ((plA Z sS lL).map .lf), .live (c.row.map .lf), .live (q.row.map .lf), .live (r.row.map .lf)]) 0 ⟨Nat.zero_le _, by simp⟩ CW CH ?_
   rintro j ⟨hj, hjn⟩
   by_cases hlj : j < q.moves.length
   ·have h3 : (j : Int) < ((q.moves.map MoveR.row).length : Nat) := by omega
    obtain ⟨m, hmj⟩ := A9 hlj
    have hbm := Ac (R := MoveR.row) hmj
    have cm := Vf r m.set (by omega)
    by_cases ho : Mj c sS lL i k q r m
    ·have hnx : ∀ m' ∈ q.moves.take (j + 1), Mj c sS lL i k q r m' := fun m' hm' => by
      rw [List.take_add_one, hmj] at hm'
      rcases List.mem_append.1 hm' with hm' | hm'
      ·exact hjn m' hm'
      ·obtain rfl : m' = m := by simpa using hm'
       exact ho
     have ho2 := (hQ m).1 ho
     cases e : mvO r m.set with
     | none =>
      rw [e] at cm
      change Fn0 _ _ _ (.tup [A1 zM, .b false]) at cm
      repeat' (first
       | refine W ?_
       | refine Y ?_|(apply T.drawAll A0 (by decide +kernel))
       | refine V ?_
       | (refine W2 ?_ ?_ <;> intro hc))
      all_goals (try change Next _ _ _ _ _ _)
      all_goals exact Next.go (j + 1) ⟨by omega, hnx⟩ (by omega) (.cons (by rw [show (((j + 1 : Nat) : Int)) = (j : Int) + 1 by omega];rfl) rfl CW) CH
     | some m' =>
      rw [e] at cm ho2
      change Fn0 _ _ _ (.tup [A1 m'.row, .b true]) at cm
      have hn : ¬ x < y + z := by have := ho2 rfl;omega
      repeat' (first
       | refine W ?_
       | refine Y ?_|(apply T.drawAll A0 (by decide +kernel))
       | refine V ?_
       | (refine W2 ?_ ?_ <;> intro hc))
      all_goals (try change Next _ _ _ _ _ _)
      all_goals exact Next.go (j + 1) ⟨by omega, hnx⟩ (by omega) (.cons (by rw [show (((j + 1 : Nat) : Int)) = (j : Int) + 1 by omega];rfl) rfl CW) CH
    ·have hno : ¬ Ig c sS lL := fun h => ho (h i q hq k r hlk hr m (List.mem_of_getElem? hmj))
     rw [decide_eq_false hno]
     rw [hQ] at ho
     cases e : mvO r m.set with
     | none =>
      rw [e] at ho
      exact absurd (fun h => by cases h) ho
     | some m' =>
      rw [e] at cm
      change Fn0 _ _ _ (.tup [A1 m'.row, .b true]) at cm
      have hn : x < y + z := by
       by_cases hh : x < y + z
       ·exact hh
       ·exact absurd (fun _ => by omega) ho
      repeat' (first
       | refine W ?_
       | refine Y ?_|(apply T.drawAll A0 (by decide +kernel))
       | refine V ?_
       | (refine W2 ?_ ?_ <;> intro hc))
      all_goals exact A5 (by simp) Tryz.results92 rfl rfl
   ·have h3 : ¬ (j : Int) < ((q.moves.map MoveR.row).length : Nat) := by omega
    rw [List.take_of_length_le (by omega)] at hjn
    repeat' (first
     | refine W ?_
     | refine Y ?_|(apply T.drawAll A0 (by decide +kernel))
     | refine V ?_
     | (refine W2 ?_ ?_ <;> intro hc))
    all_goals (try change Next _ _ _ _ _ _)
    all_goals exact Next.go (k + 1) ⟨by omega, fun k' hk' r' hr' m hm' => by
     by_cases ek : k' = k
     ·subst ek
      rw [hr] at hr'
      injection hr' with hr'
      subst hr'
      exact hjn m hm'
     ·exact hin k' (by omega) r' hr' m hm'⟩ (by omega) (.cons (by rw [show (((k + 1 : Nat) : Int)) = (k : Int) + 1 by omega];rfl) rfl CW) CH
  ·have h2 : ¬ (k : Int) < (((c.cues.map CueR.row).take ((i : Nat) : Int).toNat).length : Nat) := by omega
   repeat' (first
    | refine W ?_
    | refine Y ?_|(apply T.drawAll A0 (by decide +kernel))
    | refine V ?_
    | (refine W2 ?_ ?_ <;> intro hc))
   all_goals (try change Next _ _ _ _ _ _)
   all_goals exact Next.go (i + 1) ⟨by omega, fun i' hi' q' hq' k' r' hk' hr' m hm' => by
    by_cases ei : i' = i
    ·subst ei
     rw [hq] at hq'
     injection hq' with hq'
     subst hq'
     exact hin k' (by omega) r' hr' m hm'
    ·exact hall i' (by omega) q' hq' k' r' hk' hr' m hm'⟩ (by omega) (.cons (by rw [show (((i + 1 : Nat) : Int)) = (i : Int) + 1 by omega];rfl) rfl CW) CH
 ·have h1 : ¬ (i : Int) < ((c.cues.map CueR.row).length : Nat) := by omega
  have hyes : Ig c sS lL := fun i' q hq k r hk hr m hm => hall i' (by have := (List.getElem?_eq_some_iff.1 hq).1;omega) q hq k r hk hr m hm
  rw [decide_eq_true hyes]
  repeat' (first
   | refine W ?_

   | refine V ?_
   | (refine W2 ?_ ?_ <;> intro hc))
  all_goals exact A5 (by simp) Tryz.results92 rfl rfl
theorem S.negI {N : Nat} {ops : Array Oper} {m : Option Nat} {K : Tm -> AH -> Prop} {tm : Tm} {H : AH} {rest : List Oper} {ty : TypeId} {pos : String} {af : Array Edge} {d : Nat} {t : TypeId} {x : Operand} {P : Program} {a : Int} (hx : evT tm x = some (.val (.int .i64 a))) (h0 : -9223372036854775808 < a /\ a <= 9223372036854775807) (hN : Nat.ble (d + 1) N = true) (h : Reg m P N ops rest ((d, .val (.int .i64 (-a))) :: tm) H K) : Reg m P N ops (⟨some d, .unOp .neg t x, ty, pos, af, none⟩ :: rest) tm H K :=
 S.val (OpV.neg rfl hx h0.1 h0.2) hN h
theorem My {q : Rat} (h : Fits q) : -9223372036854775808 < q.num /\ q.num <= 9223372036854775807 := by
 have := h.1
 omega
theorem Yg {q : Rat} (h : Fits q) : Fits (-q) := ⟨by rw [Rat.neg_num, Int.natAbs_neg];exact h.1, by rw [Rat.neg_den];exact h.2⟩
def Lj (s z : Int) (up : Prop) [Decidable up] (x : PcQ) : Prop := Fits (A8 s 1000 + x.f) /\ (up -> Fits ((z : Rat) + x.a)) /\ (¬ up -> Fits ((z : Rat) - x.a))
theorem A5d {s z : Int} {up : Prop} [Decidable up] {x : PcQ} (h : Lj s z up x) (hx : x.ok) : (Ag s z up x).ok := by
 unfold Ag
 split
 ·rename_i hu;exact ⟨h.1, h.2.1 hu, hx.b, hx.c⟩
 ·rename_i hu;exact ⟨h.1, h.2.2 hu, Yg hx.b, Yg hx.c⟩
theorem A1z {s z : Int} {up : Prop} [Decidable up] {x : PcQ} (h : ¬ Lj s z up x) : ¬ (Ag s z up x).ok := fun k => h (by
 unfold Ag at k
 split at k
 ·rename_i hu;exact ⟨k.f, fun _ => k.a, fun hn => absurd hu hn⟩
 ·rename_i hu;exact ⟨k.f, fun hn => absurd hn hu, fun _ => k.a⟩)
theorem Ack (u v b c : Rat) : PcQ.row ⟨u, v, -b, -c⟩ = [.i u.num, .i u.den, .i v.num, .i v.den, .i (-b.num), .i b.den, .i (-c.num), .i c.den] := by simp [PcQ.row, Rat.neg_num, Rat.neg_den]
set_option maxHeartbeats 16000000 in
theorem A79 (x : PcQ) (s z : Int) (up : Prop) [Decidable up] (hx : x.ok) (hs : 0 <= s /\ s <= 257698037760) (hz : -1048576 <= z /\ z <= 1048576) (h : Lj s z up x) : Fn0 Tryz.prog 173 [A1 x.row, .i s, .i z, .b (decide up)] (.tup [A1 (Ag s z up x).row, .i 0]) := by
 have fs : Fits (A8 s 1000) := Bx (by omega) (by omega) (by omega) (by omega)
 have fz : Fits (z : Rat) := Ct (by omega) (by omega)
 have c1 := Jk s 1000 (by decide) (by omega) (by omega) (by decide) (by decide) fs
 have c2 := I1 (A8 s 1000) x.f fs hx.f
 rw [Jy h.1] at c2
 have c3 := J9 z
 have nb := My hx.b
 have nc := My hx.c
 unfold Ag
 by_cases hu : up
 ·have c4 := I1 (z : Rat) x.a fz hx.a
  rw [Jy (h.2.1 hu)] at c4
  change Fn0 _ _ [A1 [.i z, .i 1], _] _ at c4
  rw [if_pos hu, decide_eq_true hu]
  obtain ⟨f, a, b, c⟩ := x
  dsimp only at *
  generalize A8 s 1000 + f = u at *
  generalize (z : Rat) + a = v at *
  generalize A8 s 1000 = w at *
  refine Fn0.of Tryz.func173 Tryz.ntmps173 rfl rfl rfl ?_
  simp only [A2]
  repeat' (first
   | refine W ?_
   | refine Y ?_|(refine T.orders (id := 8) A0 ?_)|(apply Ords.nil;decide +kernel)|(apply Ords.takeMove 0;exact rfl;decide +kernel;decide +kernel;decide +kernel;exact rfl;exact rfl)|(apply Ords.takeField 2;exact rfl;decide +kernel;decide +kernel;decide +kernel;exact rfl;exact rfl;exact rfl)|(apply Ords.takeMove 5;exact rfl;decide +kernel;decide +kernel;decide +kernel;exact rfl;exact rfl)|(apply Ords.takeExtract 6;exact rfl;decide +kernel;decide +kernel;decide +kernel;exact rfl;exact rfl;exact rfl)|(apply Ords.takeExtract 7;exact rfl;decide +kernel;decide +kernel;decide +kernel;exact rfl;exact rfl;exact rfl)|(apply Ords.takeField 8;exact rfl;decide +kernel;decide +kernel;decide +kernel;exact rfl;exact rfl;exact rfl)|(apply Ords.takeAssign 10;exact rfl;decide +kernel;decide +kernel;decide +kernel;exact rfl;exact rfl)|(apply Ords.two (i := 1) (j := 2);decide +kernel;exact rfl;exact rfl)|(apply Ords.two (i := 1) (j := 3);decide +kernel;exact rfl;exact rfl)|(apply Ords.one (i := 2);decide +kernel;exact rfl)|(apply Ords.one (i := 1);decide +kernel;exact rfl)|(apply Ords.one (i := 3);decide +kernel;exact rfl)|(apply Ords.one (i := 4);decide +kernel;exact rfl)|(apply Ords.one (i := 9);decide +kernel;exact rfl)|(apply Ords.one (i := 8);decide +kernel;exact rfl)|(apply Ords.one (i := 10);decide +kernel;exact rfl)|(apply Ords.one (i := 7);decide +kernel;exact rfl)
   | refine V ?_
   | (refine W2 ?_ ?_ <;> intro hc))
  all_goals exact ⟨.inr rfl, [A1 (PcQ.row ⟨u, v, b, c⟩), .i 0], by rw [Tryz.results173];exact .cons (Res.row (PcQ.row ⟨u, v, b, c⟩) rfl rfl rfl rfl rfl) (.cons (.tmp rfl) .nil), .tup (.cons (.agg (A7 (PcQ.row ⟨u, v, b, c⟩))) (.cons (.one (.lf _)) .nil))⟩
 ·have c4 := Gc (z : Rat) x.a fz hx.a
  rw [Jy (h.2.2 hu)] at c4
  change Fn0 _ _ [A1 [.i z, .i 1], _] _ at c4
  rw [if_neg hu, decide_eq_false hu, Ack]
  obtain ⟨f, a, b, c⟩ := x
  dsimp only at *
  generalize A8 s 1000 + f = u at *
  generalize (z : Rat) - a = v at *
  generalize A8 s 1000 = w at *
  refine Fn0.of Tryz.func173 Tryz.ntmps173 rfl rfl rfl ?_
  simp only [A2]
  repeat' (first
   | refine W ?_
   | refine Y ?_|(apply S.negI;exact rfl;(first | exact nb | exact nc);exact rfl)|(refine T.orders (id := 11) A0 ?_)|(apply Ords.nil;decide +kernel)|(apply Ords.takeMove 0;exact rfl;decide +kernel;decide +kernel;decide +kernel;exact rfl;exact rfl)|(apply Ords.takeField 2;exact rfl;decide +kernel;decide +kernel;decide +kernel;exact rfl;exact rfl;exact rfl)|(apply Ords.takeMove 5;exact rfl;decide +kernel;decide +kernel;decide +kernel;exact rfl;exact rfl)|(apply Ords.takeExtract 6;exact rfl;decide +kernel;decide +kernel;decide +kernel;exact rfl;exact rfl;exact rfl)|(apply Ords.takeExtract 7;exact rfl;decide +kernel;decide +kernel;decide +kernel;exact rfl;exact rfl;exact rfl)|(apply Ords.takeField 8;exact rfl;decide +kernel;decide +kernel;decide +kernel;exact rfl;exact rfl;exact rfl)|(apply Ords.takeAssign 10;exact rfl;decide +kernel;decide +kernel;decide +kernel;exact rfl;exact rfl)|(apply Ords.two (i := 1) (j := 2);decide +kernel;exact rfl;exact rfl)|(apply Ords.two (i := 1) (j := 3);decide +kernel;exact rfl;exact rfl)|(apply Ords.one (i := 2);decide +kernel;exact rfl)|(apply Ords.one (i := 1);decide +kernel;exact rfl)|(apply Ords.one (i := 3);decide +kernel;exact rfl)|(apply Ords.one (i := 4);decide +kernel;exact rfl)|(apply Ords.one (i := 9);decide +kernel;exact rfl)|(apply Ords.one (i := 8);decide +kernel;exact rfl)|(apply Ords.one (i := 10);decide +kernel;exact rfl)|(apply Ords.one (i := 7);decide +kernel;exact rfl)
   | refine V ?_
   | (refine W2 ?_ ?_ <;> intro hc))
  all_goals exact ⟨.inr rfl, [A1 [.i u.num, .i u.den, .i v.num, .i v.den, .i (-b.num), .i b.den, .i (-c.num), .i c.den], .i 0], by rw [Tryz.results173];exact .cons (Res.row [.i u.num, .i u.den, .i v.num, .i v.den, .i (-b.num), .i b.den, .i (-c.num), .i c.den] rfl rfl rfl rfl rfl) (.cons (.tmp rfl) .nil), .tup (.cons (.agg (A7 [.i u.num, .i u.den, .i v.num, .i v.den, .i (-b.num), .i b.den, .i (-c.num), .i c.den])) (.cons (.one (.lf _)) .nil))⟩
abbrev Li (a1 a2 a3 a4 a5 a6 a7 a8 : Int) : List Lf := [.i a1, .i a2, .i a3, .i a4, .i a5, .i a6, .i a7, .i a8]
set_option maxHeartbeats 16000000 in
theorem Wj (x : PcQ) (s z : Int) (up : Prop) [Decidable up] (hx : x.ok) (hs : 0 <= s /\ s <= 257698037760) (hz : -1048576 <= z /\ z <= 1048576) (h : ¬ Lj s z up x) : ∃ a1 a2 a3 a4 a5 a6 a7 a8 : Int, Fn0 Tryz.prog 173 [A1 x.row, .i s, .i z, .b (decide up)] (.tup [A1 (Li a1 a2 a3 a4 a5 a6 a7 a8), .i 5]) := by
 have fs : Fits (A8 s 1000) := Bx (by omega) (by omega) (by omega) (by omega)
 have fz : Fits (z : Rat) := Ct (by omega) (by omega)
 have c1 := Jk s 1000 (by decide) (by omega) (by omega) (by decide) (by decide) fs
 have c2 := I1 (A8 s 1000) x.f fs hx.f
 have c3 := J9 z
 have nb := My hx.b
 have nc := My hx.c
 by_cases hf : Fits (A8 s 1000 + x.f)
 ·rw [Jy hf] at c2
  by_cases hu : up
  ·have c4 := I1 (z : Rat) x.a fz hx.a
   have hn : ¬ Fits ((z : Rat) + x.a) := fun k => h ⟨hf, fun _ => k, fun n => absurd hu n⟩
   rw [Qf hn] at c4
   change Fn0 _ _ [A1 [.i z, .i 1], _] _ at c4
   rw [decide_eq_true hu]
   obtain ⟨f, a, b, c⟩ := x
   dsimp only at *
   generalize A8 s 1000 + f = u at *
   generalize A8 s 1000 = w at *
   refine ⟨u.num, u.den, 0, 0, b.num, b.den, c.num, c.den, ?_⟩
   refine Fn0.of Tryz.func173 Tryz.ntmps173 rfl rfl rfl ?_
   simp only [A2]
   repeat' (first
    | refine W ?_
    | refine Y ?_|(refine T.orders (id := 8) A0 ?_)|(apply Ords.nil;decide +kernel)|(apply Ords.takeMove 0;exact rfl;decide +kernel;decide +kernel;decide +kernel;exact rfl;exact rfl)|(apply Ords.takeField 2;exact rfl;decide +kernel;decide +kernel;decide +kernel;exact rfl;exact rfl;exact rfl)|(apply Ords.takeMove 5;exact rfl;decide +kernel;decide +kernel;decide +kernel;exact rfl;exact rfl)|(apply Ords.takeExtract 6;exact rfl;decide +kernel;decide +kernel;decide +kernel;exact rfl;exact rfl;exact rfl)|(apply Ords.takeExtract 7;exact rfl;decide +kernel;decide +kernel;decide +kernel;exact rfl;exact rfl;exact rfl)|(apply Ords.takeField 8;exact rfl;decide +kernel;decide +kernel;decide +kernel;exact rfl;exact rfl;exact rfl)|(apply Ords.takeAssign 10;exact rfl;decide +kernel;decide +kernel;decide +kernel;exact rfl;exact rfl)|(apply Ords.two (i := 1) (j := 2);decide +kernel;exact rfl;exact rfl)|(apply Ords.two (i := 1) (j := 3);decide +kernel;exact rfl;exact rfl)|(apply Ords.one (i := 2);decide +kernel;exact rfl)|(apply Ords.one (i := 1);decide +kernel;exact rfl)|(apply Ords.one (i := 3);decide +kernel;exact rfl)|(apply Ords.one (i := 4);decide +kernel;exact rfl)|(apply Ords.one (i := 9);decide +kernel;exact rfl)|(apply Ords.one (i := 8);decide +kernel;exact rfl)|(apply Ords.one (i := 10);decide +kernel;exact rfl)|(apply Ords.one (i := 7);decide +kernel;exact rfl)
    | refine V ?_
    | (refine W2 ?_ ?_ <;> intro hc))
   all_goals exact ⟨.inr rfl, [A1 (Li u.num u.den 0 0 b.num b.den c.num c.den), .i 5], by rw [Tryz.results173];exact .cons (Res.row (Li u.num u.den 0 0 b.num b.den c.num c.den) rfl rfl rfl rfl rfl) (.cons (.tmp rfl) .nil), .tup (.cons (.agg (A7 (Li u.num u.den 0 0 b.num b.den c.num c.den))) (.cons (.one (.lf _)) .nil))⟩
  ·have c4 := Gc (z : Rat) x.a fz hx.a
   have hn : ¬ Fits ((z : Rat) - x.a) := fun k => h ⟨hf, fun n => absurd n hu, fun _ => k⟩
   rw [Qf hn] at c4
   change Fn0 _ _ [A1 [.i z, .i 1], _] _ at c4
   rw [decide_eq_false hu]
   obtain ⟨f, a, b, c⟩ := x
   dsimp only at *
   generalize A8 s 1000 + f = u at *
   generalize A8 s 1000 = w at *
   refine ⟨u.num, u.den, 0, 0, -b.num, b.den, -c.num, c.den, ?_⟩
   refine Fn0.of Tryz.func173 Tryz.ntmps173 rfl rfl rfl ?_
   simp only [A2]
   repeat' (first
    | refine W ?_
    | refine Y ?_|(apply S.negI;exact rfl;(first | exact nb | exact nc);exact rfl)|(refine T.orders (id := 11) A0 ?_)|(apply Ords.nil;decide +kernel)|(apply Ords.takeMove 0;exact rfl;decide +kernel;decide +kernel;decide +kernel;exact rfl;exact rfl)|(apply Ords.takeField 2;exact rfl;decide +kernel;decide +kernel;decide +kernel;exact rfl;exact rfl;exact rfl)|(apply Ords.takeMove 5;exact rfl;decide +kernel;decide +kernel;decide +kernel;exact rfl;exact rfl)|(apply Ords.takeExtract 6;exact rfl;decide +kernel;decide +kernel;decide +kernel;exact rfl;exact rfl;exact rfl)|(apply Ords.takeExtract 7;exact rfl;decide +kernel;decide +kernel;decide +kernel;exact rfl;exact rfl;exact rfl)|(apply Ords.takeField 8;exact rfl;decide +kernel;decide +kernel;decide +kernel;exact rfl;exact rfl;exact rfl)|(apply Ords.takeAssign 10;exact rfl;decide +kernel;decide +kernel;decide +kernel;exact rfl;exact rfl)|(apply Ords.two (i := 1) (j := 2);decide +kernel;exact rfl;exact rfl)|(apply Ords.two (i := 1) (j := 3);decide +kernel;exact rfl;exact rfl)|(apply Ords.one (i := 2);decide +kernel;exact rfl)|(apply Ords.one (i := 1);decide +kernel;exact rfl)|(apply Ords.one (i := 3);decide +kernel;exact rfl)|(apply Ords.one (i := 4);decide +kernel;exact rfl)|(apply Ords.one (i := 9);decide +kernel;exact rfl)|(apply Ords.one (i := 8);decide +kernel;exact rfl)|(apply Ords.one (i := 10);decide +kernel;exact rfl)|(apply Ords.one (i := 7);decide +kernel;exact rfl)
    | refine V ?_
    | (refine W2 ?_ ?_ <;> intro hc))
   all_goals exact ⟨.inr rfl, [A1 (Li u.num u.den 0 0 (-b.num) b.den (-c.num) c.den), .i 5], by rw [Tryz.results173];exact .cons (Res.row (Li u.num u.den 0 0 (-b.num) b.den (-c.num) c.den) rfl rfl rfl rfl rfl) (.cons (.tmp rfl) .nil), .tup (.cons (.agg (A7 (Li u.num u.den 0 0 (-b.num) b.den (-c.num) c.den))) (.cons (.one (.lf _)) .nil))⟩
 ·rw [Qf hf] at c2
  obtain ⟨f, a, b, c⟩ := x
  dsimp only at *
  generalize A8 s 1000 = w at *
  refine ⟨0, 0, 0, 0, 0, 0, 0, 0, ?_⟩
  refine Fn0.of Tryz.func173 Tryz.ntmps173 rfl rfl rfl ?_
  simp only [A2]
  repeat' (first
   | refine W ?_
   | refine Y ?_
   | refine V ?_
   | (refine W2 ?_ ?_ <;> intro hc))
  all_goals exact ⟨.inr rfl, [A1 (Li 0 0 0 0 0 0 0 0), .i 5], by rw [Tryz.results173];exact .cons (Res.row (Li 0 0 0 0 0 0 0 0) rfl rfl rfl rfl rfl) (.cons (.tmp rfl) .nil), .tup (.cons (.agg (A7 (Li 0 0 0 0 0 0 0 0))) (.cons (.one (.lf _)) .nil))⟩
theorem moveIn.range {h : HouseR} (hv : C8 h) {m : MoveR} (hm : moveIn h m) : 0 <= m.to /\ m.to <= 1048576 := by
 obtain ⟨_, s, _, h3, h4, h5⟩ := hm
 obtain ⟨_, _, _, _, _, hs, _⟩ := hv
 obtain ⟨⟨_, _, s1, s2, s3, _⟩, _⟩ := hs s (List.mem_of_getElem? h3)
 omega
theorem Qs : ∀ (l : List PcQ) (i : Nat) (x y : PcQ), l[i]? = some x -> Be (i * 8) (y.row.map .lf) (Bk l) = Bk (l.set i y)
 | [], i, x, v, h => by simp at h
 | y :: l, 0, x, v, h => by
  rw [List.set_cons_zero, Cf, Cf]
  simp [PcQ.row, Be, Ew]
 | y :: l, i + 1, x, v, h => by
  rw [List.set_cons_succ, Cf, Cf, <- Qs l i x v (by simpa using h), show (i + 1) * 8 = i * 8 + 8 by omega]
  simp [PcQ.row, Be]
theorem A3m {α : Type} {l : List α} (h : l ≠ []) : ∃ A x, l = A ++ [x] := ⟨l.dropLast, l.getLast h, (List.dropLast_concat_getLast h).symm⟩
theorem Aae (p q : Rat) : (p.num = q.num /\ (p.den : Int) = q.den) ↔ p = q := ⟨fun ⟨h1, h2⟩ => Rat.ext h1 (by omega), fun h => by subst h;exact ⟨rfl, rfl⟩⟩
noncomputable def A27 (h : HouseR) (c : SheetR) (sS : List Int) (k : Nat) (s : SetR) : List PcQ := if Fh h c sS k s = 0 then Db h c sS k s else []
theorem Abe {h : HouseR} {c : SheetR} {sS : List Int} {k i : Nat} {n : ByteArray} {q : CueR} (hq : c.cues[i]? = some q) : C5 h c sS k n i = match mvO q n with | some m => G6 (sS.getD i 0) ((Ax h c i).getD k 0) m | none => [] := by unfold C5;rw [hq];rfl
theorem Su {α β : Type} (f : β -> α -> β) (a : β) {l : List α} {j : Nat} {x : α} (h : l[j]? = some x) : (l.take (j + 1)).foldl f a = f ((l.take j).foldl f a) x := by rw [List.take_add_one, h, List.foldl_append];rfl
set_option maxHeartbeats 64000000 in
theorem Aac (h : HouseR) (c : SheetR) (G : List Int) (p : PlanOk h c G) (hc : c.fits) {k : Nat} {s : SetR} (hs : h.sets[k]? = some s) :
  Fn0 Tryz.prog 93 [A1 (plA (trL h c) (stL h c G) (Br h c)), A1 h.row, A1 c.row, .i k] (.tup [.sl ((A27 h c (stL h c G) k s).map PcQ.row), .i (Fh h c (stL h c G) k s)]) := by
 have h60 := p.v.2.1
 have hs60 : h.sets.length <= 60 := p.v.1.2.2.2.1
 have hlk := (List.getElem?_eq_some_iff.1 hs).1
 have hbs := Ac (R := SetR.row) hs
 obtain ⟨⟨_, _, s1, s2, s3, _⟩, _⟩ := p.v.1.2.2.2.2.2.1 s (List.mem_of_getElem? hs)
 have w0 := J9 0
 have w1 := J9 s.high
 have hle : (c.cues.map CueR.row).length = c.cues.length := List.length_map _
 have hle2 : (h.sets.map SetR.row).length = h.sets.length := List.length_map _
 have hfs : Fits (s.high : Rat) := Ct (by omega) (by omega)
 have bS := p.st
 have hSl := Dg h c G
 have hle3 : ((stL h c G).map A3).length = c.cues.length := by rw [List.length_map, hSl]
 have hle4 : (trL h c).length = c.cues.length + 1 := by unfold trL G2;rw [List.length_map, List.length_map, List.length_range]
 generalize stL h c G = sS at *
 have hne := Uh h c sS k s
 have hpl := Rr h c sS k s
 refine Fn0.of Tryz.func93 Tryz.ntmps93 rfl rfl rfl ?_
 simp only [A2]
 repeat' (first
  | refine W ?_
  | refine Y ?_|(apply S.buildSliceO;(iterate 6 exact rfl))|(apply T.draw 12 A0 (by decide +kernel);simp only [td])
  | refine V ?_
  | (refine W2 ?_ ?_ <;> intro hc))
 refine T.kill 3 ?_
 refine T.loopS (fun i => i <= c.cues.length /\ ∀ j, j < i -> okC (C5 h c sS k s.name j)) (fun i => c.cues.length - i) (fun i => [(39, .i i), (38, .i (c.cues.map CueR.row).length), (37, .sl (c.cues.map CueR.row)), (11, .own 4 0 (Bh h c sS k s i).length 8), (4, .ptr 0 0), (5, .ptr 1 0), (6, .ptr 2 0), (3, .i k)]) (fun i => [.live ((plA (trL h c) sS (Br h c)).map .lf), .live (h.row.map .lf), .live (c.row.map .lf), .dead, .live (Bk (Bh h c sS k s i))]) 0 ⟨Nat.zero_le _, by intro j hj;omega⟩ CW CG ?_
 rintro i ⟨hi, hok⟩
 have hpi := hpl i
 by_cases hlt : i < c.cues.length
 ·have h1 : (i : Int) < ((c.cues.map CueR.row).length : Nat) := by omega
  obtain ⟨q, hq⟩ := A9 hlt
  have hb := Ac (R := CueR.row) hq
  have hbt := A4g (h := h) hi
  have g := Er p.v hq
  obtain ⟨z, hz⟩ := A9 (l := Ax h c i) (k := k) (by rw [g.len];exact hlk)
  have hbz := Ac (R := A3) hz
  have hz1 := g.trims k z s hz hs
  obtain ⟨x, hx⟩ := A9 (l := sS) (k := i) (by omega)
  have hbx := Ac (R := A3) hx
  have hqm := hc.2.2 q (List.mem_of_getElem? hq)
  have cm := Vf q s.name (by omega)
  have hnew := Abe (h := h) (sS := sS) (k := k) (n := s.name) hq
  rw [List.getD_eq_getElem?_getD, List.getD_eq_getElem?_getD, hx, hz, Option.getD_some, Option.getD_some] at hnew
  have hlz : ((Ax h c i).map A3).length = h.sets.length := by rw [List.length_map, g.len]
  have hK0 : Bh h c sS k s (i + 1) = (C5 h c sS k s.name i).foldl Ar (Bh h c sS k s i) := rfl
  have hne0 := hne i
  have hskip : C5 h c sS k s.name i = [] -> Bh h c sS k s (i + 1) = Bh h c sS k s i /\ ∀ j, j < i + 1 -> okC (C5 h c sS k s.name j) := fun e => ⟨by rw [hK0, e];rfl, fun j hj => by
   by_cases ej : j = i
   ·subst ej;rw [e];intro p hp;cases hp
   ·exact hok j (by omega)⟩
  have hbad : ¬ okC (C5 h c sS k s.name i) -> A27 h c sS k s = [] /\ Fh h c sS k s = 5 := fun hn => by
   have hB : U8 h c sS k s := ⟨i, hlt, hn⟩
   have he : Fh h c sS k s = 5 := if_pos hB
   exact ⟨by unfold A27;rw [he];exact if_neg (by decide), he⟩
  cases e : mvO q s.name with
  | none =>
   rw [e] at cm hnew
   change Fn0 _ _ _ (.tup [A1 zM, .b false]) at cm
   obtain ⟨hK, hok2⟩ := hskip hnew
   generalize Bh h c sS k s i = O at *
   repeat' (first
    | refine W ?_
    | refine Y ?_|(apply T.draw 13 A0 (by decide +kernel);simp only [td])
    | refine V ?_
    | (refine W2 ?_ ?_ <;> intro hc))
   all_goals (first|(change Next _ _ _ _ _ _)|(trace_state;fail))
   all_goals exact Next.go (i + 1) ⟨by omega, hok2⟩ (by omega) (by rw [hK, show (((i + 1 : Nat) : Int)) = (i : Int) + 1 by omega];exact CW) (by rw [hK];exact .live rfl (.live rfl (.live rfl (.dead (.live (D0 _ _) .nil)))))
  | some m =>
   rw [e] at cm hnew
   change Fn0 _ _ _ (.tup [A1 m.row, .b true]) at cm
   by_cases ez : m.to = z
   ·have hnew2 : C5 h c sS k s.name i = [] := by rw [hnew];show G6 _ _ _ = [];unfold G6;rw [if_pos ez]
    obtain ⟨hK, hok2⟩ := hskip hnew2
    generalize Bh h c sS k s i = O at *
    repeat' (first
     | refine W ?_
     | refine Y ?_|(apply T.draw 13 A0 (by decide +kernel);simp only [td])
     | refine V ?_
     | (refine W2 ?_ ?_ <;> intro hc))
    all_goals (first|(change Next _ _ _ _ _ _)|(trace_state;fail))
    all_goals exact Next.go (i + 1) ⟨by omega, hok2⟩ (by omega) (by rw [hK, show (((i + 1 : Nat) : Int)) = (i : Int) + 1 by omega];exact CW) (by rw [hK];exact .live rfl (.live rfl (.live rfl (.dead (.live (D0 _ _) .nil)))))
   ·have hmq := A1j e
    obtain ⟨_, _, _, _, _, hmv, _⟩ := g.right
    have hmi := hmv m hmq
    have hmr := hmi.range p.v.1
    have hmp := hmi.1
    have hd : 1 <= max (m.to - z) (z - m.to) /\ max (m.to - z) (z - m.to) <= 1048576 := by omega
    have cc := Th _ m hmp hd
    rw [<- A2w] at cc
    have hcq := A2b hmp hd
    have hql := Sw (max (m.to - z) (z - m.to)) m
    have hnew2 : C5 h c sS k s.name i = (Cm (max (m.to - z) (z - m.to)) m).map (Ag x z (z < m.to)) := by rw [hnew];show G6 _ _ _ = _;unfold G6;rw [if_neg ez]
    rw [hnew2] at hK0 hbad
    generalize Cm (max (m.to - z) (z - m.to)) m = ws at *
    have hxr : 0 <= x /\ x <= 257698037760 := by have := bS i;rw [List.getD_eq_getElem?_getD, hx] at this;simpa using this
    have hlw : (ws.map PcQ.row).length = ws.length := List.length_map _
    have hstep : ∀ j y, ws[j]? = some y -> ((ws.map (Ag x z (z < m.to))).take (j + 1)).foldl Ar (Bh h c sS k s i) = Ar (((ws.map (Ag x z (z < m.to))).take j).foldl Ar (Bh h c sS k s i)) (Ag x z (z < m.to) y) := fun j y hy => Su _ _ (by rw [List.getElem?_map, hy];rfl)
    have hoj : ∀ j, ((ws.map (Ag x z (z < m.to))).take j).foldl Ar (Bh h c sS k s i) ≠ [] := fun j => Rm _ _ hne0
    have hlj : ∀ j, (((ws.map (Ag x z (z < m.to))).take j).foldl Ar (Bh h c sS k s i)).length <= 4 * i + 5 := fun j => by
     have h1 := O6 ((ws.map (Ag x z (z < m.to))).take j) (Bh h c sS k s i)
     have h2 : ((ws.map (Ag x z (z < m.to))).take j).length <= ws.length := by rw [List.length_take, List.length_map];omega
     omega
    repeat' (first
     | refine W ?_
     | refine Y ?_|(apply T.draw 13 A0 (by decide +kernel);simp only [td])
     | refine V ?_
     | (refine W2 ?_ ?_ <;> intro hc))
    refine T.kill 5 ?_
    refine T.loopS (fun j => j <= ws.length /\ okC ((ws.map (Ag x z (z < m.to))).take j)) (fun j => ws.length - j) (fun j => [(90, .i j), (89, .i (ws.map PcQ.row).length), (88, .sl (ws.map PcQ.row)), (16, .i z), (14, .ptr 6 0), (12, .i i), (39, .i i), (38, .i (c.cues.map CueR.row).length), (37, .sl (c.cues.map CueR.row)), (11, .own 4 0 (((ws.map (Ag x z (z < m.to))).take j).foldl Ar (Bh h c sS k s i)).length 8), (4, .ptr 0 0), (5, .ptr 1 0), (6, .ptr 2 0), (3, .i k)]) (fun j => [.live ((plA (trL h c) sS (Br h c)).map .lf), .live (h.row.map .lf), .live (c.row.map .lf), .dead, .live (Bk (((ws.map (Ag x z (z < m.to))).take j).foldl Ar (Bh h c sS k s i))), .dead, .live (m.row.map .lf)]) 0 ⟨Nat.zero_le _, by intro p hp;cases hp⟩ CW (.live rfl (.live rfl (.live rfl (.dead (.live (D0 _ _) CG))))) ?_
    rintro j ⟨hj, hjo⟩
    by_cases hlj2 : j < ws.length
    ·have h2 : (j : Int) < ((ws.map PcQ.row).length : Nat) := by omega
     obtain ⟨y, hy⟩ := A9 hlj2
     have hby := Ac (R := PcQ.row) hy
     have hyo := hcq y (List.mem_of_getElem? hy)
     have hsj := hstep j y hy
     have hlj3 := hlj j
     obtain ⟨aA, l, hA⟩ := A3m (hoj j)
     have hlj4 : (aA ++ [l]).length <= 4 * i + 5 := by rw [<- hA];exact hlj3
     rw [hA] at hsj ⊢
     have hln : (aA ++ [l]).length = aA.length + 1 := by simp
     have hlg : (aA ++ [l])[aA.length]? = some l := by simp
     have hld := Qv _ _ _ hlg
     have hcl := Ci (aA ++ [l])
     by_cases hp : Lj x z (z < m.to) y
     ·have cp := A79 y x z (z < m.to) hyo hxr (by omega) hp
      have hpo := A5d hp hyo
      have hst := Qs (aA ++ [l]) aA.length l (Ag x z (z < m.to) y) hlg
      have hjo2 : okC ((ws.map (Ag x z (z < m.to))).take (j + 1)) := by
       rw [List.take_add_one, List.getElem?_map, hy]
       intro p' hp'
       rcases List.mem_append.1 hp' with hp' | hp'
       ·exact hjo p' hp'
       ·obtain rfl : p' = Ag x z (z < m.to) y := by simpa using hp'
        exact hpo
      rw [show (aA ++ [l]).set aA.length (Ag x z (z < m.to) y) = aA ++ [Ag x z (z < m.to) y] by rw [List.set_append_right _ _ (Nat.le_refl _), Nat.sub_self];rfl] at hst
      generalize Ag x z (z < m.to) y = v at *
      by_cases hf : l.f = v.f
      ·have hf2 := (Aae l.f v.f).2 hf
       rw [E4 _ _ _ hf] at hsj
       repeat' (first
        | refine W ?_
        | refine Y ?_|(apply T.draw 17 A0 (by decide +kernel);simp only [td])|(apply T.drawAll A0 (by decide +kernel))|(apply S.indexO (o2 := aA.length * 8);(iterate 4 exact rfl);omega;omega)|(apply S.loadO;(iterate 4 exact rfl);exact hld;(rw [Ci];omega))|(apply S.eq2;exact rfl;exact rfl;exact rfl)|(apply S.storeW;(iterate 6 exact rfl);(rw [Ci];omega))
        | refine V ?_
        | (refine W2 ?_ ?_ <;> intro hc))
       all_goals (first|(change Next _ _ _ _ _ _)|(trace_state;fail))
       all_goals exact Next.go (j + 1) ⟨by omega, hjo2⟩ (by omega) (by rw [hsj, show (aA ++ [v]).length = (aA ++ [l]).length by simp, show (((j + 1 : Nat) : Int)) = (j : Int) + 1 by omega];exact CW) (by rw [hsj];exact .live rfl (.live rfl (.live rfl (.dead (CovH.liveE hst (D0 _ _) CG)))))
      ·have hf2 : ¬ (l.f.num = v.f.num /\ (l.f.den : Int) = v.f.den) := fun k => hf ((Aae l.f v.f).1 k)
       rw [Ef _ _ _ hf] at hsj
       have happ := Fa (aA ++ [l]) [v]
       repeat' (first
        | refine W ?_
        | refine Y ?_|(apply T.draw 17 A0 (by decide +kernel);simp only [td])|(apply T.drawAll A0 (by decide +kernel))|(apply S.indexO (o2 := aA.length * 8);(iterate 4 exact rfl);omega;omega)|(apply S.loadO;(iterate 4 exact rfl);exact hld;(rw [Ci];omega))|(apply S.eq2;exact rfl;exact rfl;exact rfl)|(apply S.buildSlice1;(iterate 7 exact rfl))|(apply S.appendO;(iterate 8 exact rfl);exact hcl;exact Ai rfl;exact rfl;exact Az _ _;simp only [List.length_cons, List.length_nil];omega;simp only [List.length_cons, List.length_nil];omega)
        | refine V ?_
        | (refine W2 ?_ ?_ <;> intro hc))
       all_goals (first|(change Next _ _ _ _ _ _)|(trace_state;fail))
       all_goals exact Next.go (j + 1) ⟨by omega, hjo2⟩ (by omega) (by rw [hsj, show (((j + 1 : Nat) : Int)) = (j : Int) + 1 by omega, show (aA ++ [l] ++ [v]).length = (aA ++ [l]).length + 1 by simp];exact CW) (by rw [hsj];exact .live rfl (.live rfl (.live rfl (.dead (CovH.liveE happ.symm (D0 _ _) CG)))))
     ·obtain ⟨a1, a2, a3, a4, a5, a6, a7, a8, cp⟩ := Wj y x z (z < m.to) hyo hxr (by omega) hp
      obtain ⟨e1, e2⟩ := hbad fun ho => A1z hp (ho _ (List.mem_map.2 ⟨y, List.mem_of_getElem? hy, rfl⟩))
      rw [e1, e2]
      repeat' (first
       | refine W ?_
       | refine Y ?_|(apply T.draw 17 A0 (by decide +kernel);simp only [td])|(refine T.nilU 8 rfl ?_;apply T.ret;change C7 _ _ _ _ _)
       | refine V ?_
       | (refine W2 ?_ ?_ <;> intro hc))
      all_goals exact D2 rfl rfl rfl
    ·have h2 : ¬ (j : Int) < ((ws.map PcQ.row).length : Nat) := by omega
     rw [List.take_of_length_le (by rw [List.length_map];omega)] at hjo ⊢
     rw [<- hK0]
     repeat' (first
      | refine W ?_
      | refine Y ?_
      | refine V ?_
      | (refine W2 ?_ ?_ <;> intro hc))
     all_goals (first|(change Next _ _ _ _ _ _)|(trace_state;fail))
     all_goals exact Next.go (i + 1) ⟨by omega, fun j hj => by
      by_cases ej : j = i
      ·subst ej;rw [hnew2];exact hjo
      ·exact hok j (by omega)⟩ (by omega) (by rw [show (((i + 1 : Nat) : Int)) = (i : Int) + 1 by omega];exact CW) (.live rfl (.live rfl (.live rfl (.dead (.live (D0 _ _) .nil)))))
 ·have h1 : ¬ (i : Int) < ((c.cues.map CueR.row).length : Nat) := by omega
  obtain rfl : i = c.cues.length := by omega
  have hB : ¬ U8 h c sS k s := fun ⟨j, hj, hn⟩ => hn (hok j hj)
  have he : Fh h c sS k s = if 200 < (Db h c sS k s).length then 4 else 0 := if_neg hB
  have hown := Pu (Db h c sS k s)
  have hpL : Bh h c sS k s c.cues.length = Db h c sS k s := rfl
  unfold A27
  rw [he]
  rw [hpL] at hpi ⊢
  generalize Db h c sS k s = O at *
  refine T.freeze 11 rfl rfl hown ?_
  have hlO : (O.map PcQ.row).length = O.length := List.length_map _
  by_cases hl : 200 < O.length
  ·have h3 : ((O.map PcQ.row).length : Int) > 200 := by omega
   rw [if_pos hl, if_neg (by decide)]
   repeat' (first
    | refine W ?_
    | refine Y ?_|(refine T.nilU 8 rfl ?_;apply T.ret;change C7 _ _ _ _ _)
    | refine V ?_
    | (refine W2 ?_ ?_ <;> intro hc))
   all_goals exact D2 rfl rfl rfl
  ·have h3 : ¬ ((O.map PcQ.row).length : Int) > 200 := by omega
   rw [if_neg hl, if_pos rfl]
   repeat' (first
    | refine W ?_
    | refine Y ?_
    | refine V ?_
    | (refine W2 ?_ ?_ <;> intro hc))
   all_goals exact D2 rfl rfl rfl
end Go.Proofs.YtcbfnkgodiaiiaaGreat
