/- Contracts: timeline's plan of a sheet, Begins, Ro. No conditions but those of each statement. -/
import Derived.Test.YtlapbaiejnaeiaaGreatDoorPa
import Derived.Test.YtlapbaiejnaeiaaGreatDoorPc
import Derived.Test.YtlapbaiejnaeiaaGreatDoorPd
set_option linter.unusedSimpArgs false
set_option linter.unusedVariables false
namespace Go.Proofs.YtlapbaiejnaeiaaGreatDoor
open Go Go.RowKit
theorem T.sealH {P : Program} {N : Nat} {c : Code} {Q : Exit -> St -> Prop} {tm : Tm} {H : AH} (s j b : Nat) {n st : Nat} {cs : List AV} {rows : List (List Lf)} (hr : ∀ r ∈ rows, r.length = st) (hn : rows.length = n) (hs : H.at s = .live cs) (hj : cs[j]? = some (rT b st n)) (hb : H.at b = rB (rows.flatten.map .lf) n) (hne : Nat.beq s b = false) (h : T P N c ⟨tm, (H.put b .dead).put s (.live (cs.set j (.sl rows)))⟩ Q) : T P N c ⟨tm, H⟩ Q := by
 subst hn
 have hne' : ¬ s = b := fun e => by subst e;rw [Nat.beq_refl] at hne;cases hne
 cases rows with
 | nil => exact T.kill b (T.nilH s j (by rw [AH.at_put, if_neg hne'];exact hs) hj h) (by rw [hb];rfl)
 | cons r rows => exact T.freezeH s j hs hj hb hne (OwnRows.of _ hr rfl) h
theorem Ve (n : Int) : Fn0 Tryz.prog 116 [.i n] (A4 [.i n, .i 1]) := by
 refine Fn0.of Tryz.func116 Tryz.ntmps116 rfl rfl rfl ?_
 simp only [A0]
 repeat' (first
  | refine W ?_
  | (apply S.buildN;exact rfl;exact rfl;exact rfl)
  | refine V ?_
  | (refine W2 ?_ ?_ <;> intro hc))
 all_goals exact ⟨.inr rfl, [A4 [.i n, .i 1]], .cons (Res.row [.i n, .i 1] rfl rfl rfl rfl rfl) .nil, .one (.agg (Bm [.i n, .i 1]))⟩
theorem Sq (q : Rat) (hq : Fits q) : Fn0 Tryz.prog 117 [A4 (frR q)] (.tup [.i (upI q), .i 0]) := Y6 q hq
theorem Nh (h : HouseR) (c : SheetR) (hf : h.fits) (hc : c.fits) (v : ¬ validP h c) : Fn0 Tryz.prog 113 [A4 h.row, A4 c.row] (.tup [.sl [], .i 1]) := by
 have cv := Mm h c hf hc
 rw [decide_eq_false v] at cv
 refine Fn0.of Tryz.func113 Tryz.ntmps113 rfl rfl rfl ?_
 simp only [A0]
 repeat' (first
  | refine W ?_
  | refine Zc cv ?_|(refine T.nilU 4 rfl ?_;apply T.ret;change B6 _ _ _ _ _)
  | refine V ?_
  | (refine W2 ?_ ?_ <;> intro hc))
 all_goals exact D2 rfl rfl rfl
abbrev Ba : Lf := .sl []
abbrev trL (h : HouseR) (c : SheetR) : List (List Lf) := (Dj h c (c.cues.length + 1)).map Iw
noncomputable def plR (h : HouseR) (c : SheetR) (G : List Int) : List Lf := if Jy h c then [Ba, Ba, Ba] else [.sl (trL h c), .sl ((srL c.cues (Cs h c) G).map A1), .sl ((Cs h c).map A1)]
theorem Yp {h : HouseR} {c : SheetR} {k : Nat} (hk : k <= c.cues.length) : (trL h c)[((k : Nat) : Int).toNat]? = some (Iw (C7 h c k)) := by
 rw [Int.toNat_natCast]
 unfold trL Dj
 rw [List.getElem?_map, List.getElem?_map, List.getElem?_range (by omega)];rfl
theorem Vr {x : Rat} (h : Fits x) : Ej x = frE x 0 := if_pos h
theorem Xo {x : Rat} (h : ¬ Fits x) : Ej x = .tup [A4 [.i 0, .i 0], .i 5] := if_neg h
set_option maxHeartbeats 32000000 in
theorem Xb (h : HouseR) (c : SheetR) (hf : h.fits) (hc : c.fits) (v : validP h c) (G : List Int) (hG : G.length <= 4611686018427387904) : Fn0 Tryz.prog 72 [A4 h.row, A4 c.row, .sl (G.map A1)] (.tup [A4 (plR h c G), .i (mdE h c G)]) := by
 have ct := O4 h c hf hc v
 have h60 : c.cues.length <= 60 := by have := v.2.1;omega
 have hs60 : h.sets.length <= 60 := v.1.2.2.2.1
 have cs := P3 h c v hc (Cs h c) G (by rw [Dz];omega) hG
 have hle : (c.cues.map CueR.row).length = c.cues.length := List.length_map _
 have hlt0 : (trL h c).length = c.cues.length + 1 := by unfold trL Dj;rw [List.length_map, List.length_map, List.length_range]
 refine Fn0.of Tryz.func72 Tryz.ntmps72 rfl rfl rfl ?_
 simp only [A0]
 repeat' (first
  | refine W ?_
  | refine Zc ct ?_|(apply S.build;exact rfl;exact rfl;exact rfl)
  | refine V ?_
  | (refine W2 ?_ ?_ <;> intro hc))
 refine T.kill 4 ?_
 refine T.kill 5 ?_
 refine T.loopS (fun k => k <= c.cues.length /\ ∀ j, j < k -> Fits (msQ h c j)) (fun k => c.cues.length - k) (fun k => [(31, .i k), (30, .i (c.cues.map CueR.row).length), (29, .sl (c.cues.map CueR.row)), (8, .sl (trL h c)), (3, .ptr 0 0), (4, .ptr 1 0), (6, .ptr 2 0), (10, .ptr 3 0), (2, .sl (G.map A1))]) (fun k => [.live (h.row.map .lf), .live (c.row.map .lf), .live [.val (.slice none 0 0), .val (.slice none 0 0), .val (.slice none 0 0)], .live [.sl (trL h c), .val (.slice none 0 0), rT 4 1 k], rB (A6 (D8 h c k)) k, .dead]) 0 ⟨Nat.zero_le _, by intro j hj;omega⟩ CW CG ?_
 rintro k ⟨hk, hfit⟩
 by_cases hlt : k < c.cues.length
 ·have h1 : (k : Int) < ((c.cues.map CueR.row).length : Nat) := by omega
  obtain ⟨q, hq⟩ := Ac hlt
  have hb := Ae (R := CueR.row) hq
  have hbt := Yp (h := h) hk
  have g := N1 v hq
  have g0 : Cl h (C7 h c k) q = 0 := Of ⟨g.house, g.right⟩ g.len g.trims
  have hqm := hc.2.2 q (List.mem_of_getElem? hq)
  have cl := Ng h (C7 h c k) q hf (by omega) (by rw [g.len];omega) g0
  have hfl : Fits (Br h (C7 h c k) q.moves) := Od g fun m hm => hm
  have hms : 1000 * Br h (C7 h c k) q.moves = msQ h c k := by unfold msQ;rw [Xx hq]
  have cw := Ve 1000
  have cm := V1 1000 (Br h (C7 h c k) q.moves) (Fi (n := 1000) (by omega) (by omega)) hfl
  change Fn0 _ _ [A4 [.i 1000, .i 1], _] _ at cm
  rw [hms] at cm
  have hsn : A6 (D8 h c (k + 1)) = A6 (D8 h c k) ++ ([A1 (upI (msQ h c k))].flatten).map AV.lf := by rw [Sb];simp [A6];rfl
  by_cases hff : Fits (msQ h c k)
  ·rw [Vr hff] at cm
   have ce := Sq _ hff
   have hfit2 : ∀ j, j < k + 1 -> Fits (msQ h c j) := fun j hj => by
    by_cases e : j = k
    ·subst e;exact hff
    ·exact hfit j (by omega)
   generalize Br h (C7 h c k) q.moves = x at *
   generalize msQ h c k = y at *
   generalize upI y = z at *
   cases k with
   | zero =>
    repeat' (first
     | refine W ?_
     | refine Zi hb ?_|refine Zi hbt ?_|refine Zc cl ?_|refine Zc cw ?_|refine Zc cm ?_|refine Zc ce ?_|(refine T.orders (id := 11) A2 ?_)|(apply Ords.nil;decide +kernel)|(apply Ords.takeMove 3;exact rfl;decide +kernel;decide +kernel;decide +kernel;exact rfl;exact rfl)|(apply Ords.takeExtract 4;exact rfl;decide +kernel;decide +kernel;decide +kernel;exact rfl;exact rfl;exact rfl)|(apply Ords.takeExtract 5;exact rfl;decide +kernel;decide +kernel;decide +kernel;exact rfl;exact rfl;exact rfl)|(apply Ords.takeAssign 7;exact rfl;decide +kernel;decide +kernel;decide +kernel;exact rfl;exact rfl)|(apply Ords.two (i := 0) (j := 1);decide +kernel;exact rfl;exact rfl)|(apply Ords.one (i := 0);decide +kernel;exact rfl)|(apply Ords.one (i := 1);decide +kernel;exact rfl)|(apply Ords.one (i := 2);decide +kernel;exact rfl)|(apply Ords.one (i := 6);decide +kernel;exact rfl)|(apply Ords.one (i := 7);decide +kernel;exact rfl)|(apply T.drawAll A2 (by decide +kernel))|(apply S.buildSlice1;(iterate 7 exact rfl))|(apply S.appendN 4 (rows := []);(iterate 8 exact rfl);exact A7 rfl;exact rfl;exact Nat.le_of_ble_eq_true rfl;exact Nat.le_of_ble_eq_true rfl)|refine Za ?_
     | refine V ?_
     | (refine W2 ?_ ?_ <;> intro hc))
    all_goals (try change Next _ _ _ _ _ _)
    all_goals exact Next.go 1 ⟨by omega, hfit2⟩ (by omega) CW (by
     show CovH _ _ [_, _, _, _, .live (A6 (D8 h c (0 + 1))), _]
     rw [hsn]
     exact .live rfl CG)
   | succ k =>
    have hcl : (A6 (D8 h c (k + 1))).length = (k + 1) * 1 := by rw [Bw, Dz, Nat.mul_one]
    repeat' (first
     | refine W ?_
     | refine Zi hb ?_|refine Zi hbt ?_|refine Zc cl ?_|refine Zc cw ?_|refine Zc cm ?_|refine Zc ce ?_|(refine T.orders (id := 11) A2 ?_)|(apply Ords.nil;decide +kernel)|(apply Ords.takeMove 3;exact rfl;decide +kernel;decide +kernel;decide +kernel;exact rfl;exact rfl)|(apply Ords.takeExtract 4;exact rfl;decide +kernel;decide +kernel;decide +kernel;exact rfl;exact rfl;exact rfl)|(apply Ords.takeExtract 5;exact rfl;decide +kernel;decide +kernel;decide +kernel;exact rfl;exact rfl;exact rfl)|(apply Ords.takeAssign 7;exact rfl;decide +kernel;decide +kernel;decide +kernel;exact rfl;exact rfl)|(apply Ords.two (i := 0) (j := 1);decide +kernel;exact rfl;exact rfl)|(apply Ords.one (i := 0);decide +kernel;exact rfl)|(apply Ords.one (i := 1);decide +kernel;exact rfl)|(apply Ords.one (i := 2);decide +kernel;exact rfl)|(apply Ords.one (i := 6);decide +kernel;exact rfl)|(apply Ords.one (i := 7);decide +kernel;exact rfl)|(apply T.drawAll A2 (by decide +kernel))|(apply S.buildSlice1;(iterate 7 exact rfl))|(refine Reg.blur 3 2 5 rfl rfl rfl ?_;apply S.appendO;(iterate 8 exact rfl);exact hcl;exact A7 rfl;exact rfl;exact Ag _ _;simp only [List.length_cons, List.length_nil];omega;simp only [List.length_cons, List.length_nil];omega)|refine Za ?_
     | refine V ?_
     | (refine W2 ?_ ?_ <;> intro hc))
    all_goals (try change Next _ _ _ _ _ _)
    all_goals exact Next.go (k + 1 + 1) ⟨by omega, hfit2⟩ (by omega) CW (by
     show CovH _ _ [_, _, _, _, .live (A6 (D8 h c (k + 1 + 1))), _]
     rw [hsn]
     exact .live rfl (.live rfl (.live rfl (.live rfl (.live (by rw [<- List.map_append];exact Ao _ _) (.dead .nil))))))
  ·have hB : Jy h c := ⟨k, hlt, hff⟩
   rw [show plR h c G = [Ba, Ba, Ba] from if_pos hB, show mdE h c G = 5 from if_pos hB]
   rw [Xo hff] at cm
   skip
   repeat' (first
    | refine W ?_
    | refine Zi hb ?_|refine Zi hbt ?_|refine Zc cl ?_|refine Zc cw ?_|refine Zc cm ?_|(refine T.orders (id := 11) A2 ?_)|(apply Ords.nil;decide +kernel)|(apply Ords.takeMove 3;exact rfl;decide +kernel;decide +kernel;decide +kernel;exact rfl;exact rfl)|(apply Ords.takeExtract 4;exact rfl;decide +kernel;decide +kernel;decide +kernel;exact rfl;exact rfl;exact rfl)|(apply Ords.takeExtract 5;exact rfl;decide +kernel;decide +kernel;decide +kernel;exact rfl;exact rfl;exact rfl)|(apply Ords.takeAssign 7;exact rfl;decide +kernel;decide +kernel;decide +kernel;exact rfl;exact rfl)|(apply Ords.two (i := 0) (j := 1);decide +kernel;exact rfl;exact rfl)|(apply Ords.one (i := 0);decide +kernel;exact rfl)|(apply Ords.one (i := 1);decide +kernel;exact rfl)|(apply Ords.one (i := 2);decide +kernel;exact rfl)|(apply Ords.one (i := 6);decide +kernel;exact rfl)|(apply Ords.one (i := 7);decide +kernel;exact rfl)|(apply T.drawAll A2 (by decide +kernel))|(apply S.buildN;exact rfl;exact rfl;exact rfl)|refine Za ?_
    | refine V ?_
    | (refine W2 ?_ ?_ <;> intro hc))
   all_goals exact ⟨.inr rfl, [A4 [Ba, Ba, Ba], .i 5], by rw [Tryz.results72];exact .cons (Res.row [Ba, Ba, Ba] rfl rfl rfl rfl rfl) (.cons (.tmp rfl) .nil), .tup (.cons (.agg (Bm [Ba, Ba, Ba])) (.cons (.one (.lf _)) .nil))⟩
 ·have h1 : ¬ (k : Int) < ((c.cues.map CueR.row).length : Nat) := by omega
  obtain rfl : k = c.cues.length := by omega
  have hB : ¬ Jy h c := fun ⟨j, hj, hn⟩ => hn (hfit j hj)
  rw [show plR h c G = _ from if_neg hB, show mdE h c G = _ from if_neg hB]
  refine T.sealH 3 2 4 (rows := (Cs h c).map A1) (Bn _) (by rw [List.length_map, Dz]) rfl rfl rfl rfl ?_
  generalize Cs h c = L at *
  generalize stE c.cues L G = e at *
  generalize srL c.cues L G = Z at *
  repeat' (first
   | refine W ?_
   | refine Zc cs ?_|(apply T.draw 8 A2 (by decide +kernel);simp only [td])|(apply T.drawR 8 A2 (by decide +kernel);simp only [td])
   | refine V ?_
   | (refine W2 ?_ ?_ <;> intro hc))
  all_goals exact ⟨.inr rfl, [A4 [.sl (trL h c), .sl (Z.map A1), .sl (L.map A1)], .i e], by rw [Tryz.results72];exact .cons (Res.row [.sl (trL h c), .sl (Z.map A1), .sl (L.map A1)] rfl rfl rfl rfl rfl) (.cons (.tmp rfl) .nil), .tup (.cons (.agg (Bm [.sl (trL h c), .sl (Z.map A1), .sl (L.map A1)])) (.cons (.one (.lf _)) .nil))⟩
theorem Px (h : HouseR) (c : SheetR) (hf : h.fits) (hc : c.fits) (v : ¬ validP h c) (g : AV) (hg : ∃ G : List Int, g = .sl (G.map A1)) : Fn0 Tryz.prog 72 [A4 h.row, A4 c.row, g] (.tup [A4 [Ba, Ba, Ba], .i 1]) := by
 obtain ⟨G, rfl⟩ := hg
 have ct := Nh h c hf hc v
 refine Fn0.of Tryz.func72 Tryz.ntmps72 rfl rfl rfl ?_
 simp only [A0]
 repeat' (first
  | refine W ?_
  | refine Zc ct ?_|(apply S.buildN;exact rfl;exact rfl;exact rfl)
  | refine V ?_
  | (refine W2 ?_ ?_ <;> intro hc))
 all_goals exact ⟨.inr rfl, [A4 [Ba, Ba, Ba], .i 1], by rw [Tryz.results72];exact .cons (Res.row [Ba, Ba, Ba] rfl rfl rfl rfl rfl) (.cons (.tmp rfl) .nil), .tup (.cons (.agg (Bm [Ba, Ba, Ba])) (.cons (.one (.lf _)) .nil))⟩
/-! ### One contract for all sheets -/
noncomputable def alE (h : HouseR) (c : SheetR) (G : List Int) : Int := if validP h c then mdE h c G else 1
noncomputable def alR (h : HouseR) (c : SheetR) (G : List Int) : List Lf := if validP h c then plR h c G else [Ba, Ba, Ba]
theorem Rl (h : HouseR) (c : SheetR) (hf : h.fits) (hc : c.fits) (G : List Int) (hG : G.length <= 4611686018427387904) : Fn0 Tryz.prog 72 [A4 h.row, A4 c.row, .sl (G.map A1)] (.tup [A4 (alR h c G), .i (alE h c G)]) := by
 unfold alR alE
 by_cases v : validP h c
 ·rw [if_pos v, if_pos v];exact Xb h c hf hc v G hG
 ·rw [if_neg v, if_neg v];exact Px h c hf hc v _ ⟨G, rfl⟩
theorem Rq {h : HouseR} {c : SheetR} {G : List Int} (e : alE h c G = 0) : PlanOk h c G /\ alR h c G = [.sl (trL h c), .sl ((stL h c G).map A1), .sl ((Cs h c).map A1)] := by
 unfold alE at e
 split at e
 ·rename_i v
  have p := Uk v e
  refine ⟨p, ?_⟩
  unfold alR plR srL
  rw [if_pos v, if_neg p.fit]
  have h0 : stE c.cues (Cs h c) G = 0 := by
   have := p.zero
   unfold mdE at this
   rwa [if_neg p.fit] at this
  rw [if_pos h0];rfl
 ·cases e
theorem I7 (l : List Int) (x : Int) : A6 (l ++ [x]) = A6 l ++ ([A1 x].flatten).map AV.lf := by simp [A6]
set_option maxHeartbeats 16000000 in
theorem Pw (h : HouseR) (c : SheetR) (hf : h.fits) (hc : c.fits) (G : List Int) (hG : G.length <= 4611686018427387904) (e0 : alE h c G = 0) (hn : c.cues.length ≠ 0) : FnOwnT Tryz.prog 45 [A4 h.row, A4 c.row, .sl (G.map A1)] ((Cr h c G).map A1) 1 (.int .i64 0) := by
 have cm := Rl h c hf hc G hG
 obtain ⟨p, er⟩ := Rq e0
 rw [e0, er] at cm
 have h60 : c.cues.length <= 60 := by have := p.v.2.1;omega
 have hle : ((stL h c G).map A1).length = c.cues.length := by rw [List.length_map, Gp]
 refine FnOwnT.of Tryz.func45 Tryz.ntmps45 rfl rfl rfl ?_
 simp only [A0]
 repeat' (first
  | refine W ?_
  | refine Zc cm ?_|(apply T.drawAll A2 (by decide +kernel))
  | refine V ?_
  | (refine W2 ?_ ?_ <;> intro hc))
 refine T.kill 3 ?_
 refine T.loopS (fun k => k <= c.cues.length) (fun k => c.cues.length - k) (fun k => [(26, .i k), (25, .i ((stL h c G).map A1).length), (24, .sl ((stL h c G).map A1)), (10, rT 3 1 k), (8, .ptr 2 0)]) (fun k => [.live (h.row.map .lf), .live (c.row.map .lf), .live [.sl (trL h c), .sl ((stL h c G).map A1), .sl ((Cs h c).map A1)], rB (A6 (Dc h c G k)) k]) 0 (Nat.zero_le _) CW CG ?_
 intro k hk
 by_cases hlt : k < c.cues.length
 ·have h1 : (k : Int) < (((stL h c G).map A1).length : Nat) := by omega
  obtain ⟨x, hx⟩ := Ac (l := stL h c G) (k := k) (by rw [Gp];exact hlt)
  have hb := Ae (R := A1) hx
  obtain ⟨y, hy⟩ := Ac (l := Cs h c) (k := k) (by rw [Dz];exact hlt)
  have hb2 := Ae (R := A1) hy
  have r1 := p.st k
  have r2 := p.ln k
  have hV : Ib h c G k = x + y := by unfold Ib;rw [List.getD_eq_getElem?_getD, List.getD_eq_getElem?_getD, hx, hy];rfl
  rw [List.getD_eq_getElem?_getD, hx] at r1
  rw [List.getD_eq_getElem?_getD, hy] at r2
  simp only [Option.getD_some] at r1 r2
  have hS := I7 (Dc h c G k) (Ib h c G k)
  rw [<- Mo, hV] at hS
  cases k with
  | zero =>
   repeat' (first
    | refine W ?_
    | refine Zi hb ?_|refine Zi hb2 ?_|(apply S.buildSlice1;(iterate 7 exact rfl))|(apply S.appendN 3 (rows := []);(iterate 8 exact rfl);exact A7 rfl;exact rfl;exact Nat.le_of_ble_eq_true rfl;exact Nat.le_of_ble_eq_true rfl)|refine Za ?_
    | refine V ?_
    | (refine W2 ?_ ?_ <;> intro hc))
   all_goals (try change Next _ _ _ _ _ _)
   all_goals exact Next.go 1 (by omega) (by omega) CW (by
    show CovH _ _ [_, _, _, .live (A6 (Dc h c G (0 + 1)))]
    rw [hS];exact .live rfl CG)
  | succ k =>
   have hcl : (A6 (Dc h c G (k + 1))).length = (k + 1) * 1 := by rw [Bw, Fg, Nat.mul_one]
   repeat' (first
    | refine W ?_
    | refine Zi hb ?_|refine Zi hb2 ?_|(apply S.buildSlice1;(iterate 7 exact rfl))|(apply S.appendO;(iterate 8 exact rfl);exact hcl;exact A7 rfl;exact rfl;exact Ag _ _;simp only [List.length_cons, List.length_nil];omega;simp only [List.length_cons, List.length_nil];omega)|refine Za ?_
    | refine V ?_
    | (refine W2 ?_ ?_ <;> intro hc))
   all_goals (try change Next _ _ _ _ _ _)
   all_goals exact Next.go (k + 1 + 1) (by omega) (by omega) CW (by
    show CovH _ _ [_, _, _, .live (A6 (Dc h c G (k + 1 + 1)))]
    rw [hS];exact .live rfl (.live rfl (.live rfl (.live (by rw [<- List.map_append];exact Ao _ _) .nil))))
 ·have h1 : ¬ (k : Int) < (((stL h c G).map A1).length : Nat) := by omega
  obtain rfl : k = c.cues.length := by omega
  have hpos : 0 < c.cues.length := by omega
  rw [Pj hpos, Pi hpos]
  repeat' (first
   | refine W ?_

   | refine V ?_
   | (refine W2 ?_ ?_ <;> intro hc))
  apply T.ret
  change T7 _ _ _ _ _ _ _
  have hll : ((Cr h c G).map A1).length = c.cues.length := by rw [List.length_map, Fg]
  refine ⟨.inr rfl, 3, .cons ?_ (.cons (.tmp rfl) .nil), rfl⟩
  rw [hll]
  exact .tmp rfl
/-! ### The end of a show -/
theorem Wr {l : List Int} (x : Int) (h : l ≠ []) : mxL (l ++ [x]) = max (mxL l) x := by
 cases l with
 | nil => exact absurd rfl h
 | cons y l =>
  show List.foldl max y (l ++ [x]) = _
  rw [List.foldl_append];rfl
theorem P5 (l : List Int) (h0 : l ≠ []) (hl : l.length <= 1000000) : Fn0 Tryz.prog 46 [.sl (l.map A1)] (.i (mxL l)) := by
 have hle : (l.map A1).length = l.length := List.length_map _
 have hp := List.length_pos_iff.2 h0
 have h1 : ¬ ((l.map A1).length : Int) < 1 := by omega
 obtain ⟨x, hx⟩ := Ac hp
 have hb0 : (l.map A1)[(0 : Int).toNat]? = some (A1 x) := Ae (k := 0) hx
 have hx1 : mxL (l.take 1) = x := by
  cases l with
  | nil => exact absurd rfl h0
  | cons y l => simp at hx;subst hx;rfl
 refine Fn0.of Tryz.func46 Tryz.ntmps46 rfl rfl rfl ?_
 simp only [A0]
 repeat' (first
  | refine W ?_
  | refine Y ?_
  | refine V ?_
  | (refine W2 ?_ ?_ <;> intro hc))
 refine T.loopS (fun k => 1 <= k /\ k <= l.length) (fun k => l.length - k) (fun k => [(4, .i k), (3, .i (mxL (l.take k))), (0, .sl (l.map A1))]) (fun _ => []) 1 ⟨Nat.le_refl _, hp⟩ (.cons rfl rfl (.cons (by rw [hx1];rfl) rfl (.cons rfl rfl .nil))) .nil ?_
 rintro k ⟨hk1, hk⟩
 by_cases hlt : k < l.length
 ·have h2 : (k : Int) < ((l.map A1).length : Nat) := by omega
  obtain ⟨y, hy⟩ := Ac hlt
  have hb := Ae (R := A1) hy
  have hne : l.take k ≠ [] := fun e => by have := congrArg List.length e;rw [List.length_take, List.length_nil] at this;omega
  have hm : mxL (l.take (k + 1)) = max (mxL (l.take k)) y := by rw [List.take_add_one, hy];exact Wr y hne
  repeat' (first
   | refine W ?_
   | refine Y ?_
   | refine V ?_
   | (refine W2 ?_ ?_ <;> intro hc))
  change Next _ _ _ _ _ _
  exact Next.go (k + 1) ⟨by omega, by omega⟩ (by omega) (by rw [hm, show (((k + 1 : Nat) : Int)) = (k : Int) + 1 by omega];exact CW) .nil
 ·have h2 : ¬ (k : Int) < ((l.map A1).length : Nat) := by omega
  rw [List.take_of_length_le (by omega)]
  repeat' (first
   | refine W ?_
   | refine Y ?_
   | refine V ?_
   | (refine W2 ?_ ?_ <;> intro hc))
  exact A3 (by simp) Tryz.results46 rfl rfl
set_option maxHeartbeats 16000000 in
theorem Pv (h : HouseR) (c : SheetR) (hf : h.fits) (hc : c.fits) (G : List Int) (hG : G.length <= 4611686018427387904) (e0 : alE h c G = 0) (hn : c.cues.length = 0) : Fn0 Tryz.prog 45 [A4 h.row, A4 c.row, .sl (G.map A1)] (.tup [.val (.slice none 0 0), .i 0]) := by
 have cm := Rl h c hf hc G hG
 obtain ⟨p, er⟩ := Rq e0
 rw [e0, er] at cm
 have h60 : c.cues.length <= 60 := by have := p.v.2.1;omega
 have hle : ((stL h c G).map A1).length = c.cues.length := by rw [List.length_map, Gp]
 refine Fn0.of Tryz.func45 Tryz.ntmps45 rfl rfl rfl ?_
 simp only [A0]
 repeat' (first
  | refine W ?_
  | refine Zc cm ?_|(apply T.drawAll A2 (by decide +kernel))
  | refine V ?_
  | (refine W2 ?_ ?_ <;> intro hc))
 refine T.kill 3 ?_
 refine T.loopS (fun k => k <= c.cues.length) (fun k => c.cues.length - k) (fun k => [(26, .i k), (25, .i ((stL h c G).map A1).length), (24, .sl ((stL h c G).map A1)), (10, rT 3 1 k), (8, .ptr 2 0)]) (fun k => [.live (h.row.map .lf), .live (c.row.map .lf), .live [.sl (trL h c), .sl ((stL h c G).map A1), .sl ((Cs h c).map A1)], rB (A6 (Dc h c G k)) k]) 0 (Nat.zero_le _) CW CG ?_
 intro k hk
 by_cases hlt : k < c.cues.length
 ·have h1 : (k : Int) < (((stL h c G).map A1).length : Nat) := by omega
  obtain ⟨x, hx⟩ := Ac (l := stL h c G) (k := k) (by rw [Gp];exact hlt)
  have hb := Ae (R := A1) hx
  obtain ⟨y, hy⟩ := Ac (l := Cs h c) (k := k) (by rw [Dz];exact hlt)
  have hb2 := Ae (R := A1) hy
  have r1 := p.st k
  have r2 := p.ln k
  have hV : Ib h c G k = x + y := by unfold Ib;rw [List.getD_eq_getElem?_getD, List.getD_eq_getElem?_getD, hx, hy];rfl
  rw [List.getD_eq_getElem?_getD, hx] at r1
  rw [List.getD_eq_getElem?_getD, hy] at r2
  simp only [Option.getD_some] at r1 r2
  have hS := I7 (Dc h c G k) (Ib h c G k)
  rw [<- Mo, hV] at hS
  cases k with
  | zero =>
   repeat' (first
    | refine W ?_
    | refine Zi hb ?_|refine Zi hb2 ?_|(apply S.buildSlice1;(iterate 7 exact rfl))|(apply S.appendN 3 (rows := []);(iterate 8 exact rfl);exact A7 rfl;exact rfl;exact Nat.le_of_ble_eq_true rfl;exact Nat.le_of_ble_eq_true rfl)|refine Za ?_
    | refine V ?_
    | (refine W2 ?_ ?_ <;> intro hc))
   all_goals (try change Next _ _ _ _ _ _)
   all_goals exact Next.go 1 (by omega) (by omega) CW (by
    show CovH _ _ [_, _, _, .live (A6 (Dc h c G (0 + 1)))]
    rw [hS];exact .live rfl CG)
  | succ k =>
   have hcl : (A6 (Dc h c G (k + 1))).length = (k + 1) * 1 := by rw [Bw, Fg, Nat.mul_one]
   repeat' (first
    | refine W ?_
    | refine Zi hb ?_|refine Zi hb2 ?_|(apply S.buildSlice1;(iterate 7 exact rfl))|(apply S.appendO;(iterate 8 exact rfl);exact hcl;exact A7 rfl;exact rfl;exact Ag _ _;simp only [List.length_cons, List.length_nil];omega;simp only [List.length_cons, List.length_nil];omega)|refine Za ?_
    | refine V ?_
    | (refine W2 ?_ ?_ <;> intro hc))
   all_goals (try change Next _ _ _ _ _ _)
   all_goals exact Next.go (k + 1 + 1) (by omega) (by omega) CW (by
    show CovH _ _ [_, _, _, .live (A6 (Dc h c G (k + 1 + 1)))]
    rw [hS];exact .live rfl (.live rfl (.live rfl (.live (by rw [<- List.map_append];exact Ao _ _) .nil))))
 ·have h1 : ¬ (k : Int) < (((stL h c G).map A1).length : Nat) := by omega
  obtain rfl : k = c.cues.length := by omega
  rw [show rT 3 1 c.cues.length = .val (.slice none 0 0) by rw [hn];rfl]
  repeat' (first
   | refine W ?_

   | refine V ?_
   | (refine W2 ?_ ?_ <;> intro hc))
  exact D2 rfl rfl rfl
theorem X6 (h : HouseR) (c : SheetR) (hf : h.fits) (hc : c.fits) (G : List Int) (hG : G.length <= 4611686018427387904) (e0 : alE h c G = 0) : Fn0 Tryz.prog 18 [A4 h.row, A4 c.row, .sl (G.map A1)] (.tup [.i (M2 h c G), .i 0]) := by
 have h60 := (Rq e0).1.v.2.1
 by_cases hn : c.cues.length = 0
 ·have ce := Pv h c hf hc G hG e0 hn
  have hE : M2 h c G = mxL [0] := by unfold M2 Cr;rw [hn];rfl
  rw [hE]
  have cm := P5 [0] (by simp) (by simp)
  refine Fn0.of Tryz.func18 Tryz.ntmps18 rfl rfl rfl ?_
  simp only [A0]
  repeat' (first
   | refine W ?_
   | refine Y ?_|(apply S.buildSlice1;(iterate 7 exact rfl))|(apply S.appendN 2 (rows := []);(iterate 8 exact rfl);exact A7 rfl;exact rfl;exact Nat.le_of_ble_eq_true rfl;exact Nat.le_of_ble_eq_true rfl)|(apply S.callV;exact rfl;exact cm;exact .cons (.one (.own (cells := [.i 0]) (rows := [[.i 0]]) rfl (OwnRows.of [.i 0] (A7 rfl) rfl))) .nil;exact rfl;exact rfl)
   | refine V ?_
   | (refine W2 ?_ ?_ <;> intro hc))
  all_goals exact D2 rfl rfl rfl
 ·have ce := Pw h c hf hc G hG e0 hn
  have hEl : ((Cr h c G).map A1).length = c.cues.length := by rw [List.length_map, Fg]
  have cm := P5 (Cr h c G ++ [0]) (by simp) (by rw [List.length_append, Fg];show c.cues.length + 1 <= 1000000;omega)
  have hE : M2 h c G = mxL (Cr h c G ++ [0]) := rfl
  rw [hE]
  have hown : OwnRows ((((Cr h c G).map A1).flatten.map AV.lf) ++ ([A1 0].flatten).map AV.lf) 0 (((Cr h c G).map A1).length + 1) 1 ((Cr h c G ++ [0]).map A1) := by
   have := OwnRows.of ((Cr h c G ++ [0]).map A1).flatten (Bn _) rfl
   simpa using this
  generalize mxL (Cr h c G ++ [0]) = z at *
  have hcl : ((((Cr h c G).map A1).flatten.map AV.lf)).length = ((Cr h c G).map A1).length * 1 := by rw [List.length_map, Av _ (Bn _)]
  generalize (Cr h c G ++ [0]).map A1 = r2 at *
  have hrow := Bn (Cr h c G)
  generalize (Cr h c G).map A1 = r1 at *
  refine Fn0.of Tryz.func18 Tryz.ntmps18 rfl rfl rfl ?_
  simp only [A0]
  repeat' (first
   | refine W ?_
   | refine Y ?_|(apply S.buildSlice1;(iterate 7 exact rfl))|(apply S.callOwnT 2 ce;(iterate 6 exact rfl);exact hrow)|(apply S.appendO;(iterate 8 exact rfl);exact hcl;exact A7 rfl;exact rfl;exact Ag _ _;simp only [List.length_cons, List.length_nil];omega;simp only [List.length_cons, List.length_nil];omega)|(apply S.callV;exact rfl;exact cm;exact .cons (.one (.own rfl hown)) .nil;exact rfl;exact rfl)
   | refine V ?_
   | (refine W2 ?_ ?_ <;> intro hc))
  all_goals exact D2 rfl rfl rfl
end Go.Proofs.YtlapbaiejnaeiaaGreatDoor
