/- Lemmas of the proof. -/
import Derived.Test.YtlapbaiejnaeiaaGreatDoorMj
import Derived.Test.YtlapbaiejnaeiaaGreatDoorPc
import Derived.Test.YtlapbaiejnaeiaaGreatDoorPd
import Derived.Test.YtlapbaiejnaeiaaGreatDoorMu
set_option linter.all false
set_option maxHeartbeats 64000000
namespace Go.Proofs.YtlapbaiejnaeiaaGreatDoor
open Go Go.RowKit
def a7c := @Tryz.results123
def a8b := @Tryz.ntmps123
def a8o := @Tryz.func123
def b0r := @Tryz.results72
def b1t := @Tryz.ntmps18
def b1u := @Tryz.ntmps45
def b2q := @Tryz.func18
def b2t := @Tryz.func45
theorem p4b {P : Program} {N : Nat} {c : Code} {Q : Exit -> St -> Prop} {tm : Tm} {H : AH} (s j b : Nat) {n st : Nat} {cs : List AV} {rows : List (List Lf)} (hr : ∀ r ∈ rows, r.length = st) (hn : rows.length = n) (hs : H.at s = .live cs) (hj : cs[j]? = some (rT b st n)) (hb : H.at b = rB (rows.flatten.map .lf) n) (hne : Nat.beq s b = false) (h : T P N c ⟨tm, (H.put b .dead).put s (.live (cs.set j (.sl rows)))⟩ Q) : T P N c ⟨tm, H⟩ Q := by
 subst hn
 have hne' : ¬ s = b := fun e => by subst e;rw [a6t] at hne;cases hne
 cases rows with
 | nil => exact T.kill b (p5l s j (by rw [p0a, if_neg hne'];exact hs) hj h) (by rw [hb];rfl)
 | cons r rows => exact T.freezeH s j hs hj hb hne (OwnRows.of _ hr rfl) h
theorem Il (n : Int) : Fn0 Tryz.prog 116 [.i n] (A1 [.i n, .i 1]) := by
 refine Fn0.of Tryz.func116 Tryz.ntmps116 rfl rfl rfl ?_
 simp only [A2]
 repeat' (first|refine W ?_|(apply p0t;(iterate 3 exact rfl))|refine V ?_|(refine W2 ?_ ?_<;>intro hc))
 all_goals exact ⟨.inr rfl, [A1 [.i n, .i 1]], .cons (Res.row [.i n, .i 1] rfl rfl rfl rfl rfl) .nil, .one (.agg (A6 [.i n, .i 1]))⟩
theorem A3e (q : Rat) (hq : Fits q) : Fn0 Tryz.prog 117 [A1 (frR q)] (.tup [.i (upI q), .i 0]) := Ac5 q hq
theorem Wc (h : HouseR) (c : SheetR) (hf : h.fits) (hc : c.fits) (v : ¬ validP h c) : Fn0 Tryz.prog 113 [A1 h.row, A1 c.row] (.tup [.sl [], .i 1]) := by
 have cv := Uy h c hf hc
 rw [decide_eq_false v] at cv
 refine Fn0.of Tryz.func113 Tryz.ntmps113 rfl rfl rfl ?_
 simp only [A2]
 repeat' (first|refine W ?_|refine Zc cv ?_|(refine p0z 4 rfl ?_;apply T.ret;change Bj _ _ _ _ _)|refine V ?_|(refine W2 ?_ ?_<;>intro hc))
 all_goals exact D2 rfl rfl rfl
abbrev C8 : Lf := .sl []
abbrev trL (h : HouseR) (c : SheetR) : List (List Lf) := (Fi h c (c.cues.length + 1)).map Of
noncomputable def plR (h : HouseR) (c : SheetR) (G : List Int) : List Lf := if Qo h c then [C8, C8, C8] else [.sl (trL h c), .sl ((srL c.cues (Cv h c) G).map A3), .sl ((Cv h c).map A3)]
theorem A7h {h : HouseR} {c : SheetR} {k : Nat} (hk : k <= c.cues.length) : (trL h c)[((k : Nat) : Int).toNat]? = some (Of (D9 h c k)) := by
 rw [a0v]
 unfold trL Fi
 rw [a0e, a0e, a3c (by omega)];rfl
theorem Jd {x : Rat} (h : Fits x) : Dn x = frE x 0 := if_pos h
theorem On {x : Rat} (h : ¬ Fits x) : Dn x = .tup [A1 [.i 0, .i 0], .i 5] := if_neg h
theorem Aac (h : HouseR) (c : SheetR) (hf : h.fits) (hc : c.fits) (v : validP h c) (G : List Int) (hG : G.length <= 4611686018427387904) : Fn0 Tryz.prog 72 [A1 h.row, A1 c.row, .sl (G.map A3)] (.tup [A1 (plR h c G), .i (mdE h c G)]) := by
 have ct := Xd h c hf hc v
 have h60 : c.cues.length <= 60 := by have := v.2.1;omega
 have hs60 : h.sets.length <= 60 := v.1.2.2.2.1
 have cs := Y5 h c v hc (Cv h c) G (by rw [Fa];omega) hG
 have hle : (c.cues.map CueR.row).length = c.cues.length := a0a _
 have hlt0 : (trL h c).length = c.cues.length + 1 := by unfold trL Fi;rw [a0a, a0a, a6k]
 refine Fn0.of Tryz.func72 Tryz.ntmps72 rfl rfl rfl ?_
 simp only [A2]
 repeat' (first|refine W ?_|refine Zc ct ?_|(apply S.build;(iterate 3 exact rfl))|refine V ?_|(refine W2 ?_ ?_<;>intro hc))
 refine T.kill 4 ?_
 refine T.kill 5 ?_
 refine p0d (fun k => k <= c.cues.length /\ ∀ j, j < k -> Fits (msQ h c j)) (fun k => c.cues.length - k) (fun k => [(31, .i k), (30, .i (c.cues.map CueR.row).length), (29, .sl (c.cues.map CueR.row)), (8, .sl (trL h c)), (3, .ptr 0 0), (4, .ptr 1 0), (6, .ptr 2 0), (10, .ptr 3 0), (2, .sl (G.map A3))]) (fun k => [.live (h.row.map .lf), .live (c.row.map .lf), .live [.val (.slice none 0 0), .val (.slice none 0 0), .val (.slice none 0 0)], .live [.sl (trL h c), .val (.slice none 0 0), rT 4 1 k], rB (Ad (Fs h c k)) k, .dead]) 0 ⟨a0o _, by intro j hj;omega⟩ CW CG ?_
 rintro k ⟨hk, hfit⟩
 by_cases hlt : k < c.cues.length
 ·have h1 : (k : Int) < ((c.cues.map CueR.row).length : Nat) := by omega
  obtain ⟨q, hq⟩ := Aa hlt
  have hb := Ab (R := CueR.row) hq
  have hbt := A7h (h := h) hk
  have g := Nv v hq
  have g0 : Ep h (D9 h c k) q = 0 := Xp ⟨g.house, g.right⟩ g.len g.trims
  have hqm := hc.2.2 q (a0c hq)
  have cl := Wb h (D9 h c k) q hf (by omega) (by rw [g.len];omega) g0
  have hfl : Fits (Dh h (D9 h c k) q.moves) := Xl g fun m hm => hm
  have hms : 1000 * Dh h (D9 h c k) q.moves = msQ h c k := by unfold msQ;rw [Abd hq]
  have cw := Il 1000
  have cm := Yr 1000 (Dh h (D9 h c k) q.moves) (Cq (n := 1000) (by omega) (by omega)) hfl
  change Fn0 _ _ [A1 [.i 1000, .i 1], _] _ at cm
  rw [hms] at cm
  have hsn : Ad (Fs h c (k + 1)) = Ad (Fs h c k) ++ ([A3 (upI (msQ h c k))].flatten).map AV.lf := by rw [A32];simp [Ad];rfl
  by_cases hff : Fits (msQ h c k)
  ·rw [Jd hff] at cm
   have ce := A3e _ hff
   have hfit2 : ∀ j, j < k + 1 -> Fits (msQ h c j) := fun j hj => by
    by_cases e : j = k
    ·subst e;exact hff
    ·exact hfit j (by omega)
   generalize Dh h (D9 h c k) q.moves = x at *
   generalize msQ h c k = y at *
   generalize upI y = z at *
   cases k with
   | zero =>
    repeat' (first|refine W ?_|(apply S.indexR;(iterate 3 exact rfl);exact hb;omega;exact rfl)|(apply S.indexR;(iterate 3 exact rfl);exact hbt;omega;exact rfl)|refine Zc cl ?_|refine Zc cw ?_|refine Zc cm ?_|refine Zc ce ?_|(refine p1i (id := 11) A0 ?_)|(apply Ords.nil;decide +kernel)|(apply p0o 3;exact rfl;decide +kernel;decide +kernel;decide +kernel;exact rfl;exact rfl)|(apply p0j 4;exact rfl;decide +kernel;decide +kernel;decide +kernel;(iterate 3 exact rfl))|(apply p0j 5;exact rfl;decide +kernel;decide +kernel;decide +kernel;(iterate 3 exact rfl))|(apply p1a 7;exact rfl;decide +kernel;decide +kernel;decide +kernel;exact rfl;exact rfl)|(apply Ords.two (i := 0) (j := 1);decide +kernel;exact rfl;exact rfl)|(apply Ords.one (i := 0);decide +kernel;exact rfl)|(apply Ords.one (i := 1);decide +kernel;exact rfl)|(apply Ords.one (i := 2);decide +kernel;exact rfl)|(apply Ords.one (i := 6);decide +kernel;exact rfl)|(apply Ords.one (i := 7);decide +kernel;exact rfl)|(apply p0b A0 (by decide +kernel))|(apply p0c;(iterate 7 exact rfl))|(apply p0u 4 (rows := []);(iterate 8 exact rfl);exact Af rfl;exact rfl;exact a0d rfl;exact a0d rfl)|refine Za ?_|refine V ?_|(refine W2 ?_ ?_<;>intro hc))
    all_goals (try change Next _ _ _ _ _ _)
    all_goals exact Next.go 1 ⟨by omega, hfit2⟩ (by omega) CW (by
     show CovH _ _ [_, _, _, _, .live (Ad (Fs h c (0 + 1))), _]
     rw [hsn]
     exact .live rfl CG)
   | succ k =>
    have hcl : (Ad (Fs h c (k + 1))).length = (k + 1) * 1 := by rw [Ds, Fa, a5w]
    repeat' (first|refine W ?_|(apply S.indexR;(iterate 3 exact rfl);exact hb;omega;exact rfl)|(apply S.indexR;(iterate 3 exact rfl);exact hbt;omega;exact rfl)|refine Zc cl ?_|refine Zc cw ?_|refine Zc cm ?_|refine Zc ce ?_|(refine p1i (id := 11) A0 ?_)|(apply Ords.nil;decide +kernel)|(apply p0o 3;exact rfl;decide +kernel;decide +kernel;decide +kernel;exact rfl;exact rfl)|(apply p0j 4;exact rfl;decide +kernel;decide +kernel;decide +kernel;(iterate 3 exact rfl))|(apply p0j 5;exact rfl;decide +kernel;decide +kernel;decide +kernel;(iterate 3 exact rfl))|(apply p1a 7;exact rfl;decide +kernel;decide +kernel;decide +kernel;exact rfl;exact rfl)|(apply Ords.two (i := 0) (j := 1);decide +kernel;exact rfl;exact rfl)|(apply Ords.one (i := 0);decide +kernel;exact rfl)|(apply Ords.one (i := 1);decide +kernel;exact rfl)|(apply Ords.one (i := 2);decide +kernel;exact rfl)|(apply Ords.one (i := 6);decide +kernel;exact rfl)|(apply Ords.one (i := 7);decide +kernel;exact rfl)|(apply p0b A0 (by decide +kernel))|(apply p0c;(iterate 7 exact rfl))|(refine Reg.blur 3 2 5 rfl rfl rfl ?_;apply p0p;(iterate 8 exact rfl);exact hcl;exact Af rfl;exact rfl;exact B6 _ _;simp only [a0i, a0n];omega;simp only [a0i, a0n];omega)|refine Za ?_|refine V ?_|(refine W2 ?_ ?_<;>intro hc))
    all_goals (try change Next _ _ _ _ _ _)
    all_goals exact Next.go (k + 1 + 1) ⟨by omega, hfit2⟩ (by omega) CW (by
     show CovH _ _ [_, _, _, _, .live (Ad (Fs h c (k + 1 + 1))), _]
     rw [hsn]
     exact .live rfl (.live rfl (.live rfl (.live rfl (.live (by rw [<- a1u];exact Aj _ _) (.dead .nil))))))
  ·have hB : Qo h c := ⟨k, hlt, hff⟩
   rw [show plR h c G = [C8, C8, C8] from if_pos hB, show mdE h c G = 5 from if_pos hB]
   rw [On hff] at cm
   skip
   repeat' (first|refine W ?_|(apply S.indexR;(iterate 3 exact rfl);exact hb;omega;exact rfl)|(apply S.indexR;(iterate 3 exact rfl);exact hbt;omega;exact rfl)|refine Zc cl ?_|refine Zc cw ?_|refine Zc cm ?_|(refine p1i (id := 11) A0 ?_)|(apply Ords.nil;decide +kernel)|(apply p0o 3;exact rfl;decide +kernel;decide +kernel;decide +kernel;exact rfl;exact rfl)|(apply p0j 4;exact rfl;decide +kernel;decide +kernel;decide +kernel;(iterate 3 exact rfl))|(apply p0j 5;exact rfl;decide +kernel;decide +kernel;decide +kernel;(iterate 3 exact rfl))|(apply p1a 7;exact rfl;decide +kernel;decide +kernel;decide +kernel;exact rfl;exact rfl)|(apply Ords.two (i := 0) (j := 1);decide +kernel;exact rfl;exact rfl)|(apply Ords.one (i := 0);decide +kernel;exact rfl)|(apply Ords.one (i := 1);decide +kernel;exact rfl)|(apply Ords.one (i := 2);decide +kernel;exact rfl)|(apply Ords.one (i := 6);decide +kernel;exact rfl)|(apply Ords.one (i := 7);decide +kernel;exact rfl)|(apply p0b A0 (by decide +kernel))|(apply p0t;(iterate 3 exact rfl))|refine Za ?_|refine V ?_|(refine W2 ?_ ?_<;>intro hc))
   all_goals exact ⟨.inr rfl, [A1 [C8, C8, C8], .i 5], by rw [b0r];exact .cons (Res.row [C8, C8, C8] rfl rfl rfl rfl rfl) (.cons (.tmp rfl) .nil), .tup (.cons (.agg (A6 [C8, C8, C8])) (.cons (.one (.lf _)) .nil))⟩
 ·have h1 : ¬ (k : Int) < ((c.cues.map CueR.row).length : Nat) := by omega
  obtain rfl : k = c.cues.length := by omega
  have hB : ¬ Qo h c := fun ⟨j, hj, hn⟩ => hn (hfit j hj)
  rw [show plR h c G = _ from if_neg hB, show mdE h c G = _ from if_neg hB]
  refine p4b 3 2 4 (rows := (Cv h c).map A3) (D0 _) (by rw [a0a, Fa]) rfl rfl rfl rfl ?_
  generalize Cv h c = L at *
  generalize stE c.cues L G = e at *
  generalize srL c.cues L G = Z at *
  repeat' (first|refine W ?_|refine Zc cs ?_|(apply p0e 8 A0 (by decide +kernel);simp only [td])|(apply p0f 8 A0 (by decide +kernel);simp only [td])|refine V ?_|(refine W2 ?_ ?_<;>intro hc))
  all_goals exact ⟨.inr rfl, [A1 [.sl (trL h c), .sl (Z.map A3), .sl (L.map A3)], .i e], by rw [b0r];exact .cons (Res.row [.sl (trL h c), .sl (Z.map A3), .sl (L.map A3)] rfl rfl rfl rfl rfl) (.cons (.tmp rfl) .nil), .tup (.cons (.agg (A6 [.sl (trL h c), .sl (Z.map A3), .sl (L.map A3)])) (.cons (.one (.lf _)) .nil))⟩
theorem Zd (h : HouseR) (c : SheetR) (hf : h.fits) (hc : c.fits) (v : ¬ validP h c) (g : AV) (hg : ∃ G : List Int, g = .sl (G.map A3)) : Fn0 Tryz.prog 72 [A1 h.row, A1 c.row, g] (.tup [A1 [C8, C8, C8], .i 1]) := by
 obtain ⟨G, rfl⟩ := hg
 have ct := Wc h c hf hc v
 refine Fn0.of Tryz.func72 Tryz.ntmps72 rfl rfl rfl ?_
 simp only [A2]
 repeat' (first|refine W ?_|refine Zc ct ?_|(apply p0t;(iterate 3 exact rfl))|refine V ?_|(refine W2 ?_ ?_<;>intro hc))
 all_goals exact ⟨.inr rfl, [A1 [C8, C8, C8], .i 1], by rw [b0r];exact .cons (Res.row [C8, C8, C8] rfl rfl rfl rfl rfl) (.cons (.tmp rfl) .nil), .tup (.cons (.agg (A6 [C8, C8, C8])) (.cons (.one (.lf _)) .nil))⟩
/-! ### One contract for all sheets -/
noncomputable def alE (h : HouseR) (c : SheetR) (G : List Int) : Int := if validP h c then mdE h c G else 1
noncomputable def alR (h : HouseR) (c : SheetR) (G : List Int) : List Lf := if validP h c then plR h c G else [C8, C8, C8]
theorem Pj (h : HouseR) (c : SheetR) (hf : h.fits) (hc : c.fits) (G : List Int) (hG : G.length <= 4611686018427387904) : Fn0 Tryz.prog 72 [A1 h.row, A1 c.row, .sl (G.map A3)] (.tup [A1 (alR h c G), .i (alE h c G)]) := by
 unfold alR alE
 by_cases v : validP h c
 ·rw [if_pos v, if_pos v];exact Aac h c hf hc v G hG
 ·rw [if_neg v, if_neg v];exact Zd h c hf hc v _ ⟨G, rfl⟩
theorem Lk {h : HouseR} {c : SheetR} {G : List Int} (e : alE h c G = 0) : PlanOk h c G /\ alR h c G = [.sl (trL h c), .sl ((stL h c G).map A3), .sl ((Cv h c).map A3)] := by
 unfold alE at e
 split at e
 ·rename_i v
  have p := A6c v e
  refine ⟨p, ?_⟩
  unfold alR plR srL
  rw [if_pos v, if_neg p.fit]
  have h0 : stE c.cues (Cv h c) G = 0 := by
   have := p.zero
   unfold mdE at this
   rwa [if_neg p.fit] at this
  rw [if_pos h0];rfl
 ·cases e
theorem Acy (h : HouseR) (c : SheetR) (G : List Int) : ∃ a b d : List (List Lf), alR h c G = [.sl a, .sl b, .sl d] := by
 unfold alR plR
 split
 ·split
  ·exact ⟨_, _, _, rfl⟩
  ·exact ⟨_, _, _, rfl⟩
 ·exact ⟨_, _, _, rfl⟩
theorem Z8 (h : HouseR) (c : SheetR) (hf : h.fits) (hc : c.fits) (G : List Int) (hG : G.length <= 4611686018427387904) (e0 : ¬ alE h c G = 0) : Fn0 Tryz.prog 45 [A1 h.row, A1 c.row, .sl (G.map A3)] (.tup [.sl [], .i (alE h c G)]) := by
 have cm := Pj h c hf hc G hG
 obtain ⟨a, b, d, er⟩ := Acy h c G
 rw [er] at cm
 generalize alE h c G = e at *
 refine Fn0.of b2t b1u rfl rfl rfl ?_
 simp only [A2]
 repeat' (first|refine W ?_|refine Zc cm ?_|(apply p0b A0 (by decide +kernel))|(refine p0z 6 rfl ?_;apply T.ret;change Bj _ _ _ _ _)|refine V ?_|(refine W2 ?_ ?_<;>intro hc))
 all_goals exact D2 rfl rfl rfl
theorem Ng (l : List Int) (x : Int) : Ad (l ++ [x]) = Ad l ++ ([A3 x].flatten).map AV.lf := by simp [Ad]
theorem Zb (h : HouseR) (c : SheetR) (hf : h.fits) (hc : c.fits) (G : List Int) (hG : G.length <= 4611686018427387904) (e0 : alE h c G = 0) (hn : c.cues.length ≠ 0) : FnOwnT Tryz.prog 45 [A1 h.row, A1 c.row, .sl (G.map A3)] ((F3 h c G).map A3) 1 (.int .i64 0) := by
 have cm := Pj h c hf hc G hG
 obtain ⟨p, er⟩ := Lk e0
 rw [e0, er] at cm
 have h60 : c.cues.length <= 60 := by have := p.v.2.1;omega
 have hle : ((stL h c G).map A3).length = c.cues.length := by rw [a0a, I5]
 refine FnOwnT.of b2t b1u rfl rfl rfl ?_
 simp only [A2]
 repeat' (first|refine W ?_|refine Zc cm ?_|(apply p0b A0 (by decide +kernel))|refine V ?_|(refine W2 ?_ ?_<;>intro hc))
 refine T.kill 3 ?_
 refine p0d (fun k => k <= c.cues.length) (fun k => c.cues.length - k) (fun k => [(26, .i k), (25, .i ((stL h c G).map A3).length), (24, .sl ((stL h c G).map A3)), (10, rT 3 1 k), (8, .ptr 2 0)]) (fun k => [.live (h.row.map .lf), .live (c.row.map .lf), .live [.sl (trL h c), .sl ((stL h c G).map A3), .sl ((Cv h c).map A3)], rB (Ad (G3 h c G k)) k]) 0 (a0o _) CW CG ?_
 intro k hk
 by_cases hlt : k < c.cues.length
 ·have h1 : (k : Int) < (((stL h c G).map A3).length : Nat) := by omega
  obtain ⟨x, hx⟩ := Aa (l := stL h c G) (k := k) (by rw [I5];exact hlt)
  have hb := Ab (R := A3) hx
  obtain ⟨y, hy⟩ := Aa (l := Cv h c) (k := k) (by rw [Fa];exact hlt)
  have hb2 := Ab (R := A3) hy
  have r1 := p.st k
  have r2 := p.ln k
  have hV : Jj h c G k = x + y := by unfold Jj;rw [a0p, a0p, hx, hy];rfl
  rw [a0p, hx] at r1
  rw [a0p, hy] at r2
  simp only [a1i] at r1 r2
  have hS := Ng (G3 h c G k) (Jj h c G k)
  rw [<- Uz, hV] at hS
  cases k with
  | zero =>
   repeat' (first|refine W ?_|(apply S.indexR;(iterate 3 exact rfl);exact hb;omega;exact rfl)|(apply S.indexR;(iterate 3 exact rfl);exact hb2;omega;exact rfl)|(apply p0c;(iterate 7 exact rfl))|(apply p0u 3 (rows := []);(iterate 8 exact rfl);exact Af rfl;exact rfl;exact a0d rfl;exact a0d rfl)|refine Za ?_|refine V ?_|(refine W2 ?_ ?_<;>intro hc))
   all_goals (try change Next _ _ _ _ _ _)
   all_goals exact Next.go 1 (by omega) (by omega) CW (by
    show CovH _ _ [_, _, _, .live (Ad (G3 h c G (0 + 1)))]
    rw [hS];exact .live rfl CG)
  | succ k =>
   have hcl : (Ad (G3 h c G (k + 1))).length = (k + 1) * 1 := by rw [Ds, Ji, a5w]
   repeat' (first|refine W ?_|(apply S.indexR;(iterate 3 exact rfl);exact hb;omega;exact rfl)|(apply S.indexR;(iterate 3 exact rfl);exact hb2;omega;exact rfl)|(apply p0c;(iterate 7 exact rfl))|(apply p0p;(iterate 8 exact rfl);exact hcl;exact Af rfl;exact rfl;exact B6 _ _;simp only [a0i, a0n];omega;simp only [a0i, a0n];omega)|refine Za ?_|refine V ?_|(refine W2 ?_ ?_<;>intro hc))
   all_goals (try change Next _ _ _ _ _ _)
   all_goals exact Next.go (k + 1 + 1) (by omega) (by omega) CW (by
    show CovH _ _ [_, _, _, .live (Ad (G3 h c G (k + 1 + 1)))]
    rw [hS];exact .live rfl (.live rfl (.live rfl (.live (by rw [<- a1u];exact Aj _ _) .nil))))
 ·have h1 : ¬ (k : Int) < (((stL h c G).map A3).length : Nat) := by omega
  obtain rfl : k = c.cues.length := by omega
  have hpos : 0 < c.cues.length := by omega
  rw [Jw hpos, Jv hpos]
  repeat' (first
   | refine W ?_

   | refine V ?_
   | (refine W2 ?_ ?_<;>intro hc))
  apply T.ret
  change Rm _ _ _ _ _ _ _
  have hll : ((F3 h c G).map A3).length = c.cues.length := by rw [a0a, Ji]
  refine ⟨.inr rfl, 3, .cons ?_ (.cons (.tmp rfl) .nil), rfl⟩
  rw [hll]
  exact .tmp rfl
/-! ### The end of a show -/
theorem A9h {l : List Int} (x : Int) (h : l ≠ []) : mxL (l ++ [x]) = max (mxL l) x := by
 cases l with
 | nil => exact absurd rfl h
 | cons y l =>
  show List.foldl max y (l ++ [x]) = _
  rw [a4s];rfl
theorem Y6 (l : List Int) (h0 : l ≠ []) (hl : l.length <= 1000000) : Fn0 Tryz.prog 46 [.sl (l.map A3)] (.i (mxL l)) := by
 have hle : (l.map A3).length = l.length := a0a _
 have hp := a1n.2 h0
 have h1 : ¬ ((l.map A3).length : Int) < 1 := by omega
 obtain ⟨x, hx⟩ := Aa hp
 have hb0 : (l.map A3)[(0 : Int).toNat]? = some (A3 x) := Ab (k := 0) hx
 have hx1 : mxL (l.take 1) = x := by
  cases l with
  | nil => exact absurd rfl h0
  | cons y l => simp at hx;subst hx;rfl
 refine Fn0.of Tryz.func46 Tryz.ntmps46 rfl rfl rfl ?_
 simp only [A2]
 repeat' (first|refine W ?_|refine Y ?_|refine V ?_|(refine W2 ?_ ?_<;>intro hc))
 refine p0d (fun k => 1 <= k /\ k <= l.length) (fun k => l.length - k) (fun k => [(4, .i k), (3, .i (mxL (l.take k))), (0, .sl (l.map A3))]) (fun _ => []) 1 ⟨a0l _, hp⟩ (.cons rfl rfl (.cons (by rw [hx1];rfl) rfl (.cons rfl rfl .nil))) .nil ?_
 rintro k ⟨hk1, hk⟩
 by_cases hlt : k < l.length
 ·have h2 : (k : Int) < ((l.map A3).length : Nat) := by omega
  obtain ⟨y, hy⟩ := Aa hlt
  have hb := Ab (R := A3) hy
  have hne : l.take k ≠ [] := fun e => by have := congrArg List.length e;rw [a0t, a0n] at this;omega
  have hm : mxL (l.take (k + 1)) = max (mxL (l.take k)) y := by rw [a0x, hy];exact A9h y hne
  repeat' (first|refine W ?_|refine Y ?_|refine V ?_|(refine W2 ?_ ?_<;>intro hc))
  change Next _ _ _ _ _ _
  exact Next.go (k + 1) ⟨by omega, by omega⟩ (by omega) (by rw [hm, show (((k + 1 : Nat) : Int)) = (k : Int) + 1 by omega];exact CW) .nil
 ·have h2 : ¬ (k : Int) < ((l.map A3).length : Nat) := by omega
  rw [a0h (by omega)]
  repeat' (first|refine W ?_|refine Y ?_|refine V ?_|(refine W2 ?_ ?_<;>intro hc))
  exact A4 (by simp) Tryz.results46 rfl rfl
theorem Z9 (h : HouseR) (c : SheetR) (hf : h.fits) (hc : c.fits) (G : List Int) (hG : G.length <= 4611686018427387904) (e0 : alE h c G = 0) (hn : c.cues.length = 0) : Fn0 Tryz.prog 45 [A1 h.row, A1 c.row, .sl (G.map A3)] (.tup [.val (.slice none 0 0), .i 0]) := by
 have cm := Pj h c hf hc G hG
 obtain ⟨p, er⟩ := Lk e0
 rw [e0, er] at cm
 have h60 : c.cues.length <= 60 := by have := p.v.2.1;omega
 have hle : ((stL h c G).map A3).length = c.cues.length := by rw [a0a, I5]
 refine Fn0.of b2t b1u rfl rfl rfl ?_
 simp only [A2]
 repeat' (first|refine W ?_|refine Zc cm ?_|(apply p0b A0 (by decide +kernel))|refine V ?_|(refine W2 ?_ ?_<;>intro hc))
 refine T.kill 3 ?_
 refine p0d (fun k => k <= c.cues.length) (fun k => c.cues.length - k) (fun k => [(26, .i k), (25, .i ((stL h c G).map A3).length), (24, .sl ((stL h c G).map A3)), (10, rT 3 1 k), (8, .ptr 2 0)]) (fun k => [.live (h.row.map .lf), .live (c.row.map .lf), .live [.sl (trL h c), .sl ((stL h c G).map A3), .sl ((Cv h c).map A3)], rB (Ad (G3 h c G k)) k]) 0 (a0o _) CW CG ?_
 intro k hk
 by_cases hlt : k < c.cues.length
 ·have h1 : (k : Int) < (((stL h c G).map A3).length : Nat) := by omega
  obtain ⟨x, hx⟩ := Aa (l := stL h c G) (k := k) (by rw [I5];exact hlt)
  have hb := Ab (R := A3) hx
  obtain ⟨y, hy⟩ := Aa (l := Cv h c) (k := k) (by rw [Fa];exact hlt)
  have hb2 := Ab (R := A3) hy
  have r1 := p.st k
  have r2 := p.ln k
  have hV : Jj h c G k = x + y := by unfold Jj;rw [a0p, a0p, hx, hy];rfl
  rw [a0p, hx] at r1
  rw [a0p, hy] at r2
  simp only [a1i] at r1 r2
  have hS := Ng (G3 h c G k) (Jj h c G k)
  rw [<- Uz, hV] at hS
  cases k with
  | zero =>
   repeat' (first|refine W ?_|(apply S.indexR;(iterate 3 exact rfl);exact hb;omega;exact rfl)|(apply S.indexR;(iterate 3 exact rfl);exact hb2;omega;exact rfl)|(apply p0c;(iterate 7 exact rfl))|(apply p0u 3 (rows := []);(iterate 8 exact rfl);exact Af rfl;exact rfl;exact a0d rfl;exact a0d rfl)|refine Za ?_|refine V ?_|(refine W2 ?_ ?_<;>intro hc))
   all_goals (try change Next _ _ _ _ _ _)
   all_goals exact Next.go 1 (by omega) (by omega) CW (by
    show CovH _ _ [_, _, _, .live (Ad (G3 h c G (0 + 1)))]
    rw [hS];exact .live rfl CG)
  | succ k =>
   have hcl : (Ad (G3 h c G (k + 1))).length = (k + 1) * 1 := by rw [Ds, Ji, a5w]
   repeat' (first|refine W ?_|(apply S.indexR;(iterate 3 exact rfl);exact hb;omega;exact rfl)|(apply S.indexR;(iterate 3 exact rfl);exact hb2;omega;exact rfl)|(apply p0c;(iterate 7 exact rfl))|(apply p0p;(iterate 8 exact rfl);exact hcl;exact Af rfl;exact rfl;exact B6 _ _;simp only [a0i, a0n];omega;simp only [a0i, a0n];omega)|refine Za ?_|refine V ?_|(refine W2 ?_ ?_<;>intro hc))
   all_goals (try change Next _ _ _ _ _ _)
   all_goals exact Next.go (k + 1 + 1) (by omega) (by omega) CW (by
    show CovH _ _ [_, _, _, .live (Ad (G3 h c G (k + 1 + 1)))]
    rw [hS];exact .live rfl (.live rfl (.live rfl (.live (by rw [<- a1u];exact Aj _ _) .nil))))
 ·have h1 : ¬ (k : Int) < (((stL h c G).map A3).length : Nat) := by omega
  obtain rfl : k = c.cues.length := by omega
  rw [show rT 3 1 c.cues.length = .val (.slice none 0 0) by rw [hn];rfl]
  repeat' (first
   | refine W ?_

   | refine V ?_
   | (refine W2 ?_ ?_<;>intro hc))
  exact D2 rfl rfl rfl
theorem Yv (h : HouseR) (c : SheetR) (hf : h.fits) (hc : c.fits) (G : List Int) (hG : G.length <= 4611686018427387904) (e0 : ¬ alE h c G = 0) : Fn0 Tryz.prog 18 [A1 h.row, A1 c.row, .sl (G.map A3)] (.tup [.i 0, .i (alE h c G)]) := by
 have ce := Z8 h c hf hc G hG e0
 generalize alE h c G = e at *
 refine Fn0.of b2q b1t rfl rfl rfl ?_
 simp only [A2]
 repeat' (first|refine W ?_|refine Y ?_|refine V ?_|(refine W2 ?_ ?_<;>intro hc))
 all_goals exact D2 rfl rfl rfl
theorem Rg (h : HouseR) (c : SheetR) (hf : h.fits) (hc : c.fits) (G : List Int) (hG : G.length <= 4611686018427387904) (e0 : alE h c G = 0) : Fn0 Tryz.prog 18 [A1 h.row, A1 c.row, .sl (G.map A3)] (.tup [.i (endI h c G), .i 0]) := by
 have h60 := (Lk e0).1.v.2.1
 by_cases hn : c.cues.length = 0
 ·have ce := Z9 h c hf hc G hG e0 hn
  have hE : endI h c G = mxL [0] := by unfold endI F3;rw [hn];rfl
  rw [hE]
  have cm := Y6 [0] (by simp) (by simp)
  refine Fn0.of b2q b1t rfl rfl rfl ?_
  simp only [A2]
  repeat' (first|refine W ?_|refine Y ?_|(apply p0c;(iterate 7 exact rfl))|(apply p0u 2 (rows := []);(iterate 8 exact rfl);exact Af rfl;exact rfl;exact a0d rfl;exact a0d rfl)|(apply S.callV;exact rfl;exact cm;exact .cons (.one (.own (cells := [.i 0]) (rows := [[.i 0]]) rfl (OwnRows.of [.i 0] (Af rfl) rfl))) .nil;exact rfl;exact rfl)|refine V ?_|(refine W2 ?_ ?_<;>intro hc))
  all_goals exact D2 rfl rfl rfl
 ·have ce := Zb h c hf hc G hG e0 hn
  have hEl : ((F3 h c G).map A3).length = c.cues.length := by rw [a0a, Ji]
  have cm := Y6 (F3 h c G ++ [0]) (by simp) (by rw [a0q, Ji];show c.cues.length + 1 <= 1000000;omega)
  have hE : endI h c G = mxL (F3 h c G ++ [0]) := rfl
  rw [hE]
  have hown : OwnRows ((((F3 h c G).map A3).flatten.map AV.lf) ++ ([A3 0].flatten).map AV.lf) 0 (((F3 h c G).map A3).length + 1) 1 ((F3 h c G ++ [0]).map A3) := by
   have := OwnRows.of ((F3 h c G ++ [0]).map A3).flatten (D0 _) rfl
   simpa using this
  generalize mxL (F3 h c G ++ [0]) = z at *
  have hcl : ((((F3 h c G).map A3).flatten.map AV.lf)).length = ((F3 h c G).map A3).length * 1 := by rw [a0a, Bi _ (D0 _)]
  generalize (F3 h c G ++ [0]).map A3 = r2 at *
  have hrow := D0 (F3 h c G)
  generalize (F3 h c G).map A3 = r1 at *
  refine Fn0.of b2q b1t rfl rfl rfl ?_
  simp only [A2]
  repeat' (first|refine W ?_|refine Y ?_|(apply p0c;(iterate 7 exact rfl))|(apply p2i 2 ce;(iterate 6 exact rfl);exact hrow)|(apply p0p;(iterate 8 exact rfl);exact hcl;exact Af rfl;exact rfl;exact B6 _ _;simp only [a0i, a0n];omega;simp only [a0i, a0n];omega)|(apply S.callV;exact rfl;exact cm;exact .cons (.one (.own rfl hown)) .nil;exact rfl;exact rfl)|refine V ?_|(refine W2 ?_ ?_<;>intro hc))
  all_goals exact D2 rfl rfl rfl
abbrev zM : List Lf := [.s ⟨#[]⟩, .i 0, .i 0, .i 0, .i 0]
def mvA : Option MoveR -> AV
 | some m => .tup [A1 m.row, .b true]
 | none => .tup [A1 zM, .b false]
theorem A3v (m : MoveR) (n : ByteArray) : Fn0 Tryz.prog 174 [A1 m.row, .rop [.s n]] (.b (decide (m.set = n))) := by
 refine Fn0.of Tryz.func174 Tryz.ntmps174 rfl rfl rfl ?_
 simp only [A2]
 repeat' (first
  | refine W ?_

  | refine V ?_
  | (refine W2 ?_ ?_<;>intro hc))
 all_goals exact A4 (by simp) Tryz.results174 rfl (by rfl)
theorem A9f {q : CueR} {n : ByteArray} (h : mvI q n < 0) : mvO q n = none := if_pos h
theorem A9g {q : CueR} {n : ByteArray} (h : ¬ mvI q n < 0) : ∃ m, q.moves[(mvI q n).toNat]? = some m /\ mvO q n = some m := by
 have h2 : mvI q n < (q.moves.length : Nat) := L6 _ _
 obtain ⟨m, hm⟩ := Aa (l := q.moves) (k := (mvI q n).toNat) (by omega)
 exact ⟨m, hm, by unfold mvO;rw [if_neg h, hm]⟩
theorem Vx (q : CueR) (n : ByteArray) (hl : q.moves.length <= 9223372036854775807) : Fn0 Tryz.prog 121 [A1 q.row, .s n] (mvA (mvO q n)) := by
 have hc : Fn0 Tryz.prog 173 [.sl (q.moves.map MoveR.row), .fn (.func 174) [] [.rop [.s n]]] (.i (mvI q n)) :=
  N2 q.moves MoveR.row (fun m => m.set = n) _ _ (fun _ => rfl) hl rfl fun m _ => A3v m n
 by_cases h : mvI q n < 0
 ·rw [A9f h]
  generalize mvI q n = i at *
  refine Fn0.of Tryz.func121 Tryz.ntmps121 rfl rfl rfl ?_
  simp only [A2]
  repeat' (first|refine W ?_|(apply S.callV;exact rfl;exact hc;exact .cons (.one (.lf _)) (.cons (.fn (.cons (.ptr0 (cs := [.s n]) rfl) .nil)) .nil);exact rfl;exact rfl)|refine Y ?_|refine V ?_|(refine W2 ?_ ?_<;>intro hc))
  all_goals exact ⟨.inr rfl, [A1 zM, .b false], by rw [Tryz.results121];exact .cons (Res.row zM rfl rfl rfl rfl rfl) (.cons (.tmp rfl) .nil), .tup (.cons (.agg (A6 zM)) (.cons (.one (.lf _)) .nil))⟩
 ·obtain ⟨m, hm, e⟩ := A9g h
  have hb := I3 (R := MoveR.row) hm
  rw [e]
  generalize mvI q n = i at *
  refine Fn0.of Tryz.func121 Tryz.ntmps121 rfl rfl rfl ?_
  simp only [A2]
  repeat' (first|refine W ?_|(apply S.callV;exact rfl;exact hc;exact .cons (.one (.lf _)) (.cons (.fn (.cons (.ptr0 (cs := [.s n]) rfl) .nil)) .nil);exact rfl;exact rfl)|refine Y ?_|refine V ?_|(refine W2 ?_ ?_<;>intro hc))
  all_goals exact ⟨.inr rfl, [A1 m.row, .b true], by rw [Tryz.results121];exact .cons (Res.row m.row rfl rfl rfl rfl rfl) (.cons (.tmp rfl) .nil), .tup (.cons (.agg (A6 m.row)) (.cons (.one (.lf _)) .nil))⟩
abbrev plA (Z : List (List Lf)) (sS lL : List Int) : List Lf := [.sl Z, .sl (sS.map A3), .sl (lL.map A3)]
theorem A0k (c : SheetR) (Z : List (List Lf)) (sS lL : List Int) (hS : sS.length = c.cues.length) (hL : lL.length = c.cues.length) (h60 : c.cues.length <= 60) (hm : ∀ q ∈ c.cues, q.moves.length <= 140737488355328) (bS : ∀ i, 0 <= sS.getD i 0 /\ sS.getD i 0 <= 257698037760) (bL : ∀ i, 0 <= lL.getD i 0 /\ lL.getD i 0 <= 2147483648) :
  Fn0 Tryz.prog 79 [A1 (plA Z sS lL), A1 c.row] (.b (decide (U7 c sS lL))) := by
 have hle : (c.cues.map CueR.row).length = c.cues.length := a0a _
 refine Fn0.of Tryz.func79 Tryz.ntmps79 rfl rfl rfl ?_
 simp only [A2]
 repeat' (first
  | refine W ?_

  | refine V ?_
  | (refine W2 ?_ ?_<;>intro hc))
 refine p0d (fun i => i <= c.cues.length /\ ∀ i', i' < i -> ∀ q, c.cues[i']? = some q -> ∀ k r, k < i' -> c.cues[k]? = some r -> ∀ m ∈ q.moves, Nw c sS lL i' k q r m) (fun i => c.cues.length - i) (fun i => [(16, .i i), (15, .i (c.cues.map CueR.row).length), (14, .sl (c.cues.map CueR.row)), (2, .ptr 0 0), (3, .ptr 1 0)]) (fun _ => [.live ((plA Z sS lL).map .lf), .live (c.row.map .lf)]) 0 ⟨a0o _, by intro j hj;omega⟩ CW CH ?_
 rintro i ⟨hi, hall⟩
 by_cases hlt : i < c.cues.length
 ·have h1 : (i : Int) < ((c.cues.map CueR.row).length : Nat) := by omega
  obtain ⟨q, hq⟩ := Aa hlt
  have hb := Ab (R := CueR.row) hq
  obtain ⟨x, hx⟩ := Aa (l := sS) (k := i) (by omega)
  have hbx := Ab (R := A3) hx
  have hqm := hm q (a0c hq)
  have hle2 : ((c.cues.map CueR.row).take ((i : Nat) : Int).toNat).length = i := by rw [a0t];omega
  have hle3 : (q.moves.map MoveR.row).length = q.moves.length := a0a _
  repeat' (first|refine W ?_|refine Y ?_|(apply p1s;(iterate 3 exact rfl);omega;(intro row hr;obtain ⟨z, _, rfl⟩ := a1b.1 hr;rfl))|refine V ?_|(refine W2 ?_ ?_<;>intro hc))
  refine p0d (fun k => k <= i /\ ∀ k', k' < k -> ∀ r, c.cues[k']? = some r -> ∀ m ∈ q.moves, Nw c sS lL i k' q r m) (fun k => i - k) (fun k => [(26, .i k), (25, .i ((c.cues.map CueR.row).take ((i : Nat) : Int).toNat).length), (24, .sl ((c.cues.map CueR.row).take ((i : Nat) : Int).toNat)), (5, .i i), (6, .ptr 2 0), (16, .i i), (15, .i (c.cues.map CueR.row).length), (14, .sl (c.cues.map CueR.row)), (2, .ptr 0 0), (3, .ptr 1 0)]) (fun _ => [.live ((plA Z sS lL).map .lf), .live (c.row.map .lf), .live (q.row.map .lf)]) 0 ⟨a0o _, by intro j hj;omega⟩ CW CH ?_
  rintro k ⟨hk, hin⟩
  by_cases hlk : k < i
  ·have h2 : (k : Int) < (((c.cues.map CueR.row).take ((i : Nat) : Int).toNat).length : Nat) := by omega
   obtain ⟨r, hr⟩ := Aa (l := c.cues) (k := k) (by omega)
   have hbr : ((c.cues.map CueR.row).take ((i : Nat) : Int).toNat)[((k : Nat) : Int).toNat]? = some r.row := by rw [a1k (by omega)];exact Ab hr
   obtain ⟨y, hy⟩ := Aa (l := sS) (k := k) (by omega)
   have hby := Ab (R := A3) hy
   obtain ⟨z, hz⟩ := Aa (l := lL) (k := k) (by omega)
   have hbz := Ab (R := A3) hz
   have by_ := bS k
   have bz := bL k
   rw [a0p, hy] at by_
   rw [a0p, hz] at bz
   simp only [a1i] at by_ bz
   have hrm := hm r (a0c hr)
   have hQ : ∀ m, Nw c sS lL i k q r m ↔ ((mvO r m.set).isSome = true -> y + z <= x) := fun m => by
    unfold Nw
    rw [a0p, a0p, a0p, hx, hy, hz]
    rfl
   repeat' (first|refine W ?_|refine Y ?_|(apply p0b A0 (by decide +kernel))|refine V ?_|(refine W2 ?_ ?_<;>intro hc))
   refine p0d (fun j => j <= q.moves.length /\ ∀ m ∈ q.moves.take j, Nw c sS lL i k q r m) (fun j => q.moves.length - j) (fun j => [(34, .i j), (33, .i (q.moves.map MoveR.row).length), (32, .sl (q.moves.map MoveR.row)), (7, .i k), (8, .ptr 3 0), (26, .i k), (25, .i ((c.cues.map CueR.row).take ((i : Nat) : Int).toNat).length), (24, .sl ((c.cues.map CueR.row).take ((i : Nat) : Int).toNat)), (5, .i i), (6, .ptr 2 0), (16, .i i), (15, .i (c.cues.map CueR.row).length), (14, .sl (c.cues.map CueR.row)), (2, .ptr 0 0), (3, .ptr 1 0)]) (fun _ => [.live ((plA Z sS lL).map .lf), .live (c.row.map .lf), .live (q.row.map .lf), .live (r.row.map .lf)]) 0 ⟨a0o _, by simp⟩ CW CH ?_
   rintro j ⟨hj, hjn⟩
   by_cases hlj : j < q.moves.length
   ·have h3 : (j : Int) < ((q.moves.map MoveR.row).length : Nat) := by omega
    obtain ⟨m, hmj⟩ := Aa hlj
    have hbm := Ab (R := MoveR.row) hmj
    have cm := Vx r m.set (by omega)
    by_cases ho : Nw c sS lL i k q r m
    ·have hnx : ∀ m' ∈ q.moves.take (j + 1), Nw c sS lL i k q r m' := fun m' hm' => by
      rw [a0x, hmj] at hm'
      rcases a0u.1 hm' with hm' | hm'
      ·exact hjn m' hm'
      ·obtain rfl : m' = m := by simpa using hm'
       exact ho
     have ho2 := (hQ m).1 ho
     cases e : mvO r m.set with
     | none =>
      rw [e] at cm
      change Fn0 _ _ _ (.tup [A1 zM, .b false]) at cm
      repeat' (first|refine W ?_|refine Y ?_|(apply p0b A0 (by decide +kernel))|refine V ?_|(refine W2 ?_ ?_<;>intro hc))
      all_goals (try change Next _ _ _ _ _ _)
      all_goals exact Next.go (j + 1) ⟨by omega, hnx⟩ (by omega) (.cons (by rw [show (((j + 1 : Nat) : Int)) = (j : Int) + 1 by omega];rfl) rfl CW) CH
     | some m' =>
      rw [e] at cm ho2
      change Fn0 _ _ _ (.tup [A1 m'.row, .b true]) at cm
      have hn : ¬ x < y + z := by have := ho2 rfl;omega
      repeat' (first|refine W ?_|refine Y ?_|(apply p0b A0 (by decide +kernel))|refine V ?_|(refine W2 ?_ ?_<;>intro hc))
      all_goals (try change Next _ _ _ _ _ _)
      all_goals exact Next.go (j + 1) ⟨by omega, hnx⟩ (by omega) (.cons (by rw [show (((j + 1 : Nat) : Int)) = (j : Int) + 1 by omega];rfl) rfl CW) CH
    ·have hno : ¬ U7 c sS lL := fun h => ho (h i q hq k r hlk hr m (a0c hmj))
     rw [decide_eq_false hno]
     rw [hQ] at ho
     cases e : mvO r m.set with
     | none =>
      rw [e] at ho
      exact absurd (fun h => by cases h) ho
     | some m' =>
      rw [e] at cm
      change Fn0 _ _ _ (.tup [A1 m'.row, .b true]) at cm
      have hn : x < y + z := by
       by_cases hh : x < y + z
       ·exact hh
       ·exact absurd (fun _ => by omega) ho
      repeat' (first|refine W ?_|refine Y ?_|(apply p0b A0 (by decide +kernel))|refine V ?_|(refine W2 ?_ ?_<;>intro hc))
      all_goals exact A4 (by simp) Tryz.results79 rfl rfl
   ·have h3 : ¬ (j : Int) < ((q.moves.map MoveR.row).length : Nat) := by omega
    rw [a0h (by omega)] at hjn
    repeat' (first|refine W ?_|refine Y ?_|(apply p0b A0 (by decide +kernel))|refine V ?_|(refine W2 ?_ ?_<;>intro hc))
    all_goals (try change Next _ _ _ _ _ _)
    all_goals exact Next.go (k + 1) ⟨by omega, fun k' hk' r' hr' m hm' => by
     by_cases ek : k' = k
     ·subst ek
      rw [hr] at hr'
      injection hr' with hr'
      subst hr'
      exact hjn m hm'
     ·exact hin k' (by omega) r' hr' m hm'⟩ (by omega) (.cons (by rw [show (((k + 1 : Nat) : Int)) = (k : Int) + 1 by omega];rfl) rfl CW) CH
  ·have h2 : ¬ (k : Int) < (((c.cues.map CueR.row).take ((i : Nat) : Int).toNat).length : Nat) := by omega
   repeat' (first|refine W ?_|refine Y ?_|(apply p0b A0 (by decide +kernel))|refine V ?_|(refine W2 ?_ ?_<;>intro hc))
   all_goals (try change Next _ _ _ _ _ _)
   all_goals exact Next.go (i + 1) ⟨by omega, fun i' hi' q' hq' k' r' hk' hr' m hm' => by
    by_cases ei : i' = i
    ·subst ei
     rw [hq] at hq'
     injection hq' with hq'
     subst hq'
     exact hin k' (by omega) r' hr' m hm'
    ·exact hall i' (by omega) q' hq' k' r' hk' hr' m hm'⟩ (by omega) (.cons (by rw [show (((i + 1 : Nat) : Int)) = (i : Int) + 1 by omega];rfl) rfl CW) CH
 ·have h1 : ¬ (i : Int) < ((c.cues.map CueR.row).length : Nat) := by omega
  have hyes : U7 c sS lL := fun i' q hq k r hk hr m hm => hall i' (by have := (a0g.1 hq).1;omega) q hq k r hk hr m hm
  rw [decide_eq_true hyes]
  repeat' (first
   | refine W ?_

   | refine V ?_
   | (refine W2 ?_ ?_<;>intro hc))
  all_goals exact A4 (by simp) Tryz.results79 rfl rfl
theorem p4l {N : Nat} {ops : Array Oper} {m : Option Nat} {K : Tm -> AH -> Prop} {tm : Tm} {H : AH} {rest : List Oper} {ty : TypeId} {pos : String} {af : Array Edge} {d : Nat} {t : TypeId} {x : Operand} {P : Program} {a : Int} (hx : evT tm x = some (.val (.int .i64 a))) (h0 : -9223372036854775808 < a /\ a <= 9223372036854775807) (hN : Nat.ble (d + 1) N = true) (h : Reg m P N ops rest ((d, .val (.int .i64 (-a))) :: tm) H K) : Reg m P N ops (⟨some d, .unOp .neg t x, ty, pos, af, none⟩ :: rest) tm H K :=
 S.val (OpV.neg rfl hx h0.1 h0.2) hN h
theorem M0 {q : Rat} (h : Fits q) : -9223372036854775808 < q.num /\ q.num <= 9223372036854775807 := by
 have := h.1
 omega
theorem Xm {q : Rat} (h : Fits q) : Fits (-q) := ⟨by rw [Rat.neg_num, Int.natAbs_neg];exact h.1, by rw [Rat.neg_den];exact h.2⟩
def L9 (s z : Int) (up : Prop) [Decidable up] (x : PcQ) : Prop := Fits (A9 s 1000 + x.f) /\ (up -> Fits ((z : Rat) + x.a)) /\ (¬ up -> Fits ((z : Rat) - x.a))
theorem A6y {s z : Int} {up : Prop} [Decidable up] {x : PcQ} (h : L9 s z up x) (hx : x.ok) : (Bt s z up x).ok := by
 unfold Bt
 split
 ·rename_i hu;exact ⟨h.1, h.2.1 hu, hx.b, hx.c⟩
 ·rename_i hu;exact ⟨h.1, h.2.2 hu, Xm hx.b, Xm hx.c⟩
theorem A3o {s z : Int} {up : Prop} [Decidable up] {x : PcQ} (h : ¬ L9 s z up x) : ¬ (Bt s z up x).ok := fun k => h (by
 unfold Bt at k
 split at k
 ·rename_i hu;exact ⟨k.f, fun _ => k.a, fun hn => absurd hu hn⟩
 ·rename_i hu;exact ⟨k.f, fun hn => absurd hn hu, fun _ => k.a⟩)
theorem Adc (u v b c : Rat) : PcQ.row ⟨u, v, -b, -c⟩ = [.i u.num, .i u.den, .i v.num, .i v.den, .i (-b.num), .i b.den, .i (-c.num), .i c.den] := by simp [PcQ.row, Rat.neg_num, Rat.neg_den]
theorem A7f (x : PcQ) (s z : Int) (up : Prop) [Decidable up] (hx : x.ok) (hs : 0 <= s /\ s <= 257698037760) (hz : -1048576 <= z /\ z <= 1048576) (h : L9 s z up x) : Fn0 Tryz.prog 123 [A1 x.row, .i s, .i z, .b (decide up)] (.tup [A1 (Bt s z up x).row, .i 0]) := by
 have fs : Fits (A9 s 1000) := Br (by omega) (by omega) (by omega) (by omega)
 have fz : Fits (z : Rat) := Cq (by omega) (by omega)
 have c1 := Fw s 1000 (by decide) (by omega) (by omega) (by decide) (by decide) fs
 have c2 := Hl (A9 s 1000) x.f fs hx.f
 rw [Jd h.1] at c2
 have c3 := Il z
 have nb := M0 hx.b
 have nc := M0 hx.c
 unfold Bt
 by_cases hu : up
 ·have c4 := Hl (z : Rat) x.a fz hx.a
  rw [Jd (h.2.1 hu)] at c4
  change Fn0 _ _ [A1 [.i z, .i 1], _] _ at c4
  rw [if_pos hu, decide_eq_true hu]
  obtain ⟨f, a, b, c⟩ := x
  dsimp only at *
  generalize A9 s 1000 + f = u at *
  generalize (z : Rat) + a = v at *
  generalize A9 s 1000 = w at *
  refine Fn0.of a8o a8b rfl rfl rfl ?_
  simp only [A2]
  repeat' (first|refine W ?_|refine Y ?_|(refine p1i (id := 8) A0 ?_)|(apply Ords.nil;decide +kernel)|(apply p0o 0;exact rfl;decide +kernel;decide +kernel;decide +kernel;exact rfl;exact rfl)|(apply p0y 2;exact rfl;decide +kernel;decide +kernel;decide +kernel;(iterate 3 exact rfl))|(apply p0o 5;exact rfl;decide +kernel;decide +kernel;decide +kernel;exact rfl;exact rfl)|(apply p0j 6;exact rfl;decide +kernel;decide +kernel;decide +kernel;(iterate 3 exact rfl))|(apply p0j 7;exact rfl;decide +kernel;decide +kernel;decide +kernel;(iterate 3 exact rfl))|(apply p0y 8;exact rfl;decide +kernel;decide +kernel;decide +kernel;(iterate 3 exact rfl))|(apply p1a 10;exact rfl;decide +kernel;decide +kernel;decide +kernel;exact rfl;exact rfl)|(apply Ords.two (i := 1) (j := 2);decide +kernel;exact rfl;exact rfl)|(apply Ords.two (i := 1) (j := 3);decide +kernel;exact rfl;exact rfl)|(apply Ords.one (i := 2);decide +kernel;exact rfl)|(apply Ords.one (i := 1);decide +kernel;exact rfl)|(apply Ords.one (i := 3);decide +kernel;exact rfl)|(apply Ords.one (i := 4);decide +kernel;exact rfl)|(apply Ords.one (i := 9);decide +kernel;exact rfl)|(apply Ords.one (i := 8);decide +kernel;exact rfl)|(apply Ords.one (i := 10);decide +kernel;exact rfl)|(apply Ords.one (i := 7);decide +kernel;exact rfl)|refine V ?_|(refine W2 ?_ ?_<;>intro hc))
  all_goals exact ⟨.inr rfl, [A1 (PcQ.row ⟨u, v, b, c⟩), .i 0], by rw [a7c];exact .cons (Res.row (PcQ.row ⟨u, v, b, c⟩) rfl rfl rfl rfl rfl) (.cons (.tmp rfl) .nil), .tup (.cons (.agg (A6 (PcQ.row ⟨u, v, b, c⟩))) (.cons (.one (.lf _)) .nil))⟩
 ·have c4 := Fx (z : Rat) x.a fz hx.a
  rw [Jd (h.2.2 hu)] at c4
  change Fn0 _ _ [A1 [.i z, .i 1], _] _ at c4
  rw [if_neg hu, decide_eq_false hu, Adc]
  obtain ⟨f, a, b, c⟩ := x
  dsimp only at *
  generalize A9 s 1000 + f = u at *
  generalize (z : Rat) - a = v at *
  generalize A9 s 1000 = w at *
  refine Fn0.of a8o a8b rfl rfl rfl ?_
  simp only [A2]
  repeat' (first|refine W ?_|refine Y ?_|(apply p4l;exact rfl;(first|exact nb|exact nc);exact rfl)|(refine p1i (id := 11) A0 ?_)|(apply Ords.nil;decide +kernel)|(apply p0o 0;exact rfl;decide +kernel;decide +kernel;decide +kernel;exact rfl;exact rfl)|(apply p0y 2;exact rfl;decide +kernel;decide +kernel;decide +kernel;(iterate 3 exact rfl))|(apply p0o 5;exact rfl;decide +kernel;decide +kernel;decide +kernel;exact rfl;exact rfl)|(apply p0j 6;exact rfl;decide +kernel;decide +kernel;decide +kernel;(iterate 3 exact rfl))|(apply p0j 7;exact rfl;decide +kernel;decide +kernel;decide +kernel;(iterate 3 exact rfl))|(apply p0y 8;exact rfl;decide +kernel;decide +kernel;decide +kernel;(iterate 3 exact rfl))|(apply p1a 10;exact rfl;decide +kernel;decide +kernel;decide +kernel;exact rfl;exact rfl)|(apply Ords.two (i := 1) (j := 2);decide +kernel;exact rfl;exact rfl)|(apply Ords.two (i := 1) (j := 3);decide +kernel;exact rfl;exact rfl)|(apply Ords.one (i := 2);decide +kernel;exact rfl)|(apply Ords.one (i := 1);decide +kernel;exact rfl)|(apply Ords.one (i := 3);decide +kernel;exact rfl)|(apply Ords.one (i := 4);decide +kernel;exact rfl)|(apply Ords.one (i := 9);decide +kernel;exact rfl)|(apply Ords.one (i := 8);decide +kernel;exact rfl)|(apply Ords.one (i := 10);decide +kernel;exact rfl)|(apply Ords.one (i := 7);decide +kernel;exact rfl)|refine V ?_|(refine W2 ?_ ?_<;>intro hc))
  all_goals exact ⟨.inr rfl, [A1 [.i u.num, .i u.den, .i v.num, .i v.den, .i (-b.num), .i b.den, .i (-c.num), .i c.den], .i 0], by rw [a7c];exact .cons (Res.row [.i u.num, .i u.den, .i v.num, .i v.den, .i (-b.num), .i b.den, .i (-c.num), .i c.den] rfl rfl rfl rfl rfl) (.cons (.tmp rfl) .nil), .tup (.cons (.agg (A6 [.i u.num, .i u.den, .i v.num, .i v.den, .i (-b.num), .i b.den, .i (-c.num), .i c.den])) (.cons (.one (.lf _)) .nil))⟩
abbrev Kr (a1 a2 a3 a4 a5 a6 a7 a8 : Int) : List Lf := [.i a1, .i a2, .i a3, .i a4, .i a5, .i a6, .i a7, .i a8]
theorem Wi (x : PcQ) (s z : Int) (up : Prop) [Decidable up] (hx : x.ok) (hs : 0 <= s /\ s <= 257698037760) (hz : -1048576 <= z /\ z <= 1048576) (h : ¬ L9 s z up x) : ∃ a1 a2 a3 a4 a5 a6 a7 a8 : Int, Fn0 Tryz.prog 123 [A1 x.row, .i s, .i z, .b (decide up)] (.tup [A1 (Kr a1 a2 a3 a4 a5 a6 a7 a8), .i 5]) := by
 have fs : Fits (A9 s 1000) := Br (by omega) (by omega) (by omega) (by omega)
 have fz : Fits (z : Rat) := Cq (by omega) (by omega)
 have c1 := Fw s 1000 (by decide) (by omega) (by omega) (by decide) (by decide) fs
 have c2 := Hl (A9 s 1000) x.f fs hx.f
 have c3 := Il z
 have nb := M0 hx.b
 have nc := M0 hx.c
 by_cases hf : Fits (A9 s 1000 + x.f)
 ·rw [Jd hf] at c2
  by_cases hu : up
  ·have c4 := Hl (z : Rat) x.a fz hx.a
   have hn : ¬ Fits ((z : Rat) + x.a) := fun k => h ⟨hf, fun _ => k, fun n => absurd hu n⟩
   rw [On hn] at c4
   change Fn0 _ _ [A1 [.i z, .i 1], _] _ at c4
   rw [decide_eq_true hu]
   obtain ⟨f, a, b, c⟩ := x
   dsimp only at *
   generalize A9 s 1000 + f = u at *
   generalize A9 s 1000 = w at *
   refine ⟨u.num, u.den, 0, 0, b.num, b.den, c.num, c.den, ?_⟩
   refine Fn0.of a8o a8b rfl rfl rfl ?_
   simp only [A2]
   repeat' (first|refine W ?_|refine Y ?_|(refine p1i (id := 8) A0 ?_)|(apply Ords.nil;decide +kernel)|(apply p0o 0;exact rfl;decide +kernel;decide +kernel;decide +kernel;exact rfl;exact rfl)|(apply p0y 2;exact rfl;decide +kernel;decide +kernel;decide +kernel;(iterate 3 exact rfl))|(apply p0o 5;exact rfl;decide +kernel;decide +kernel;decide +kernel;exact rfl;exact rfl)|(apply p0j 6;exact rfl;decide +kernel;decide +kernel;decide +kernel;(iterate 3 exact rfl))|(apply p0j 7;exact rfl;decide +kernel;decide +kernel;decide +kernel;(iterate 3 exact rfl))|(apply p0y 8;exact rfl;decide +kernel;decide +kernel;decide +kernel;(iterate 3 exact rfl))|(apply p1a 10;exact rfl;decide +kernel;decide +kernel;decide +kernel;exact rfl;exact rfl)|(apply Ords.two (i := 1) (j := 2);decide +kernel;exact rfl;exact rfl)|(apply Ords.two (i := 1) (j := 3);decide +kernel;exact rfl;exact rfl)|(apply Ords.one (i := 2);decide +kernel;exact rfl)|(apply Ords.one (i := 1);decide +kernel;exact rfl)|(apply Ords.one (i := 3);decide +kernel;exact rfl)|(apply Ords.one (i := 4);decide +kernel;exact rfl)|(apply Ords.one (i := 9);decide +kernel;exact rfl)|(apply Ords.one (i := 8);decide +kernel;exact rfl)|(apply Ords.one (i := 10);decide +kernel;exact rfl)|(apply Ords.one (i := 7);decide +kernel;exact rfl)|refine V ?_|(refine W2 ?_ ?_<;>intro hc))
   all_goals exact ⟨.inr rfl, [A1 (Kr u.num u.den 0 0 b.num b.den c.num c.den), .i 5], by rw [a7c];exact .cons (Res.row (Kr u.num u.den 0 0 b.num b.den c.num c.den) rfl rfl rfl rfl rfl) (.cons (.tmp rfl) .nil), .tup (.cons (.agg (A6 (Kr u.num u.den 0 0 b.num b.den c.num c.den))) (.cons (.one (.lf _)) .nil))⟩
  ·have c4 := Fx (z : Rat) x.a fz hx.a
   have hn : ¬ Fits ((z : Rat) - x.a) := fun k => h ⟨hf, fun n => absurd n hu, fun _ => k⟩
   rw [On hn] at c4
   change Fn0 _ _ [A1 [.i z, .i 1], _] _ at c4
   rw [decide_eq_false hu]
   obtain ⟨f, a, b, c⟩ := x
   dsimp only at *
   generalize A9 s 1000 + f = u at *
   generalize A9 s 1000 = w at *
   refine ⟨u.num, u.den, 0, 0, -b.num, b.den, -c.num, c.den, ?_⟩
   refine Fn0.of a8o a8b rfl rfl rfl ?_
   simp only [A2]
   repeat' (first|refine W ?_|refine Y ?_|(apply p4l;exact rfl;(first|exact nb|exact nc);exact rfl)|(refine p1i (id := 11) A0 ?_)|(apply Ords.nil;decide +kernel)|(apply p0o 0;exact rfl;decide +kernel;decide +kernel;decide +kernel;exact rfl;exact rfl)|(apply p0y 2;exact rfl;decide +kernel;decide +kernel;decide +kernel;(iterate 3 exact rfl))|(apply p0o 5;exact rfl;decide +kernel;decide +kernel;decide +kernel;exact rfl;exact rfl)|(apply p0j 6;exact rfl;decide +kernel;decide +kernel;decide +kernel;(iterate 3 exact rfl))|(apply p0j 7;exact rfl;decide +kernel;decide +kernel;decide +kernel;(iterate 3 exact rfl))|(apply p0y 8;exact rfl;decide +kernel;decide +kernel;decide +kernel;(iterate 3 exact rfl))|(apply p1a 10;exact rfl;decide +kernel;decide +kernel;decide +kernel;exact rfl;exact rfl)|(apply Ords.two (i := 1) (j := 2);decide +kernel;exact rfl;exact rfl)|(apply Ords.two (i := 1) (j := 3);decide +kernel;exact rfl;exact rfl)|(apply Ords.one (i := 2);decide +kernel;exact rfl)|(apply Ords.one (i := 1);decide +kernel;exact rfl)|(apply Ords.one (i := 3);decide +kernel;exact rfl)|(apply Ords.one (i := 4);decide +kernel;exact rfl)|(apply Ords.one (i := 9);decide +kernel;exact rfl)|(apply Ords.one (i := 8);decide +kernel;exact rfl)|(apply Ords.one (i := 10);decide +kernel;exact rfl)|(apply Ords.one (i := 7);decide +kernel;exact rfl)|refine V ?_|(refine W2 ?_ ?_<;>intro hc))
   all_goals exact ⟨.inr rfl, [A1 (Kr u.num u.den 0 0 (-b.num) b.den (-c.num) c.den), .i 5], by rw [a7c];exact .cons (Res.row (Kr u.num u.den 0 0 (-b.num) b.den (-c.num) c.den) rfl rfl rfl rfl rfl) (.cons (.tmp rfl) .nil), .tup (.cons (.agg (A6 (Kr u.num u.den 0 0 (-b.num) b.den (-c.num) c.den))) (.cons (.one (.lf _)) .nil))⟩
 ·rw [On hf] at c2
  obtain ⟨f, a, b, c⟩ := x
  dsimp only at *
  generalize A9 s 1000 = w at *
  refine ⟨0, 0, 0, 0, 0, 0, 0, 0, ?_⟩
  refine Fn0.of a8o a8b rfl rfl rfl ?_
  simp only [A2]
  repeat' (first|refine W ?_|refine Y ?_|refine V ?_|(refine W2 ?_ ?_<;>intro hc))
  all_goals exact ⟨.inr rfl, [A1 (Kr 0 0 0 0 0 0 0 0), .i 5], by rw [a7c];exact .cons (Res.row (Kr 0 0 0 0 0 0 0 0) rfl rfl rfl rfl rfl) (.cons (.tmp rfl) .nil), .tup (.cons (.agg (A6 (Kr 0 0 0 0 0 0 0 0))) (.cons (.one (.lf _)) .nil))⟩
theorem moveIn.range {h : HouseR} (hv : Cn h) {m : MoveR} (hm : moveIn h m) : 0 <= m.to /\ m.to <= 1048576 := by
 obtain ⟨_, s, _, h3, h4, h5⟩ := hm
 obtain ⟨_, _, _, _, _, hs, _⟩ := hv
 obtain ⟨⟨_, _, s1, s2, s3, _⟩, _⟩ := hs s (a0c h3)
 omega
theorem Pu : ∀ (l : List PcQ) (i : Nat) (x y : PcQ), l[i]? = some x -> As (i * 8) (y.row.map .lf) (Bl l) = Bl (l.set i y)
 | [], i, x, v, h => by simp at h
 | y :: l, 0, x, v, h => by
  rw [a7k, C9, C9]
  simp [PcQ.row, As, E2]
 | y :: l, i + 1, x, v, h => by
  rw [a5e, C9, C9, <- Pu l i x v (by simpa using h), show (i + 1) * 8 = i * 8 + 8 by omega]
  simp [PcQ.row, As]
theorem A30 {α : Type} {l : List α} (h : l ≠ []) : ∃ A x, l = A ++ [x] := ⟨l.dropLast, l.getLast h, (a9y h).symm⟩
theorem Aan (p q : Rat) : (p.num = q.num /\ (p.den : Int) = q.den) ↔ p = q := ⟨fun ⟨h1, h2⟩ => Rat.ext h1 (by omega), fun h => by subst h;exact ⟨rfl, rfl⟩⟩
noncomputable def A3a (h : HouseR) (c : SheetR) (sS : List Int) (k : Nat) (s : SetR) : List PcQ := if Js h c sS k s = 0 then Mf h c sS k s else []
theorem Abq {h : HouseR} {c : SheetR} {sS : List Int} {k i : Nat} {n : ByteArray} {q : CueR} (hq : c.cues[i]? = some q) : He h c sS k n i = match mvO q n with | some m => R4 (sS.getD i 0) ((D9 h c i).getD k 0) m | none => [] := by unfold He;rw [hq];rfl
theorem Sd {α β : Type} (f : β -> α -> β) (a : β) {l : List α} {j : Nat} {x : α} (h : l[j]? = some x) : (l.take (j + 1)).foldl f a = f ((l.take j).foldl f a) x := by rw [a0x, h, a4s];rfl
theorem Aad (h : HouseR) (c : SheetR) (G : List Int) (p : PlanOk h c G) (hc : c.fits) {k : Nat} {s : SetR} (hs : h.sets[k]? = some s) :
  Fn0 Tryz.prog 80 [A1 (plA (trL h c) (stL h c G) (Cv h c)), A1 h.row, A1 c.row, .i k] (.tup [.sl ((A3a h c (stL h c G) k s).map PcQ.row), .i (Js h c (stL h c G) k s)]) := by
 have h60 := p.v.2.1
 have hs60 : h.sets.length <= 60 := p.v.1.2.2.2.1
 have hlk := (a0g.1 hs).1
 have hbs := Ab (R := SetR.row) hs
 obtain ⟨⟨_, _, s1, s2, s3, _⟩, _⟩ := p.v.1.2.2.2.2.2.1 s (a0c hs)
 have w0 := Il 0
 have w1 := Il s.high
 have hle : (c.cues.map CueR.row).length = c.cues.length := a0a _
 have hle2 : (h.sets.map SetR.row).length = h.sets.length := a0a _
 have hfs : Fits (s.high : Rat) := Cq (by omega) (by omega)
 have bS := p.st
 have hSl := I5 h c G
 have hle3 : ((stL h c G).map A3).length = c.cues.length := by rw [a0a, hSl]
 have hle4 : (trL h c).length = c.cues.length + 1 := by unfold trL Fi;rw [a0a, a0a, a6k]
 generalize stL h c G = sS at *
 have hne := Ua h c sS k s
 have hpl := Ym h c sS k s
 refine Fn0.of Tryz.func80 Tryz.ntmps80 rfl rfl rfl ?_
 simp only [A2]
 repeat' (first|refine W ?_|refine Y ?_|(apply p1c;(iterate 6 exact rfl))|(apply p0e 12 A0 (by decide +kernel);simp only [td])|refine V ?_|(refine W2 ?_ ?_<;>intro hc))
 refine T.kill 3 ?_
 refine p0d (fun i => i <= c.cues.length /\ ∀ j, j < i -> okC (He h c sS k s.name j)) (fun i => c.cues.length - i) (fun i => [(39, .i i), (38, .i (c.cues.map CueR.row).length), (37, .sl (c.cues.map CueR.row)), (11, .own 4 0 (D5 h c sS k s i).length 8), (4, .ptr 0 0), (5, .ptr 1 0), (6, .ptr 2 0), (3, .i k)]) (fun i => [.live ((plA (trL h c) sS (Cv h c)).map .lf), .live (h.row.map .lf), .live (c.row.map .lf), .dead, .live (Bl (D5 h c sS k s i))]) 0 ⟨a0o _, by intro j hj;omega⟩ CW CG ?_
 rintro i ⟨hi, hok⟩
 have hpi := hpl i
 by_cases hlt : i < c.cues.length
 ·have h1 : (i : Int) < ((c.cues.map CueR.row).length : Nat) := by omega
  obtain ⟨q, hq⟩ := Aa hlt
  have hb := Ab (R := CueR.row) hq
  have hbt := A7h (h := h) hi
  have g := Nv p.v hq
  obtain ⟨z, hz⟩ := Aa (l := D9 h c i) (k := k) (by rw [g.len];exact hlk)
  have hbz := Ab (R := A3) hz
  have hz1 := g.trims k z s hz hs
  obtain ⟨x, hx⟩ := Aa (l := sS) (k := i) (by omega)
  have hbx := Ab (R := A3) hx
  have hqm := hc.2.2 q (a0c hq)
  have cm := Vx q s.name (by omega)
  have hnew := Abq (h := h) (sS := sS) (k := k) (n := s.name) hq
  rw [a0p, a0p, hx, hz, a1i, a1i] at hnew
  have hlz : ((D9 h c i).map A3).length = h.sets.length := by rw [a0a, g.len]
  have hK0 : D5 h c sS k s (i + 1) = (He h c sS k s.name i).foldl Cg (D5 h c sS k s i) := rfl
  have hne0 := hne i
  have hskip : He h c sS k s.name i = [] -> D5 h c sS k s (i + 1) = D5 h c sS k s i /\ ∀ j, j < i + 1 -> okC (He h c sS k s.name j) := fun e => ⟨by rw [hK0, e];rfl, fun j hj => by
   by_cases ej : j = i
   ·subst ej;rw [e];intro p hp;cases hp
   ·exact hok j (by omega)⟩
  have hbad : ¬ okC (He h c sS k s.name i) -> A3a h c sS k s = [] /\ Js h c sS k s = 5 := fun hn => by
   have hB : Wv h c sS k s := ⟨i, hlt, hn⟩
   have he : Js h c sS k s = 5 := if_pos hB
   exact ⟨by unfold A3a;rw [he];exact if_neg (by decide), he⟩
  cases e : mvO q s.name with
  | none =>
   rw [e] at cm hnew
   change Fn0 _ _ _ (.tup [A1 zM, .b false]) at cm
   obtain ⟨hK, hok2⟩ := hskip hnew
   generalize D5 h c sS k s i = O at *
   repeat' (first|refine W ?_|refine Y ?_|(apply p0e 13 A0 (by decide +kernel);simp only [td])|refine V ?_|(refine W2 ?_ ?_<;>intro hc))
   all_goals (first|(change Next _ _ _ _ _ _)|(trace_state;fail))
   all_goals exact Next.go (i + 1) ⟨by omega, hok2⟩ (by omega) (by rw [hK, show (((i + 1 : Nat) : Int)) = (i : Int) + 1 by omega];exact CW) (by rw [hK];exact .live rfl (.live rfl (.live rfl (.dead (.live (Cw _ _) .nil)))))
  | some m =>
   rw [e] at cm hnew
   change Fn0 _ _ _ (.tup [A1 m.row, .b true]) at cm
   by_cases ez : m.to = z
   ·have hnew2 : He h c sS k s.name i = [] := by rw [hnew];show R4 _ _ _ = [];unfold R4;rw [if_pos ez]
    obtain ⟨hK, hok2⟩ := hskip hnew2
    generalize D5 h c sS k s i = O at *
    repeat' (first|refine W ?_|refine Y ?_|(apply p0e 13 A0 (by decide +kernel);simp only [td])|refine V ?_|(refine W2 ?_ ?_<;>intro hc))
    all_goals (first|(change Next _ _ _ _ _ _)|(trace_state;fail))
    all_goals exact Next.go (i + 1) ⟨by omega, hok2⟩ (by omega) (by rw [hK, show (((i + 1 : Nat) : Int)) = (i : Int) + 1 by omega];exact CW) (by rw [hK];exact .live rfl (.live rfl (.live rfl (.dead (.live (Cw _ _) .nil)))))
   ·have hmq := Abp e
    obtain ⟨_, _, _, _, _, hmv, _⟩ := g.right
    have hmi := hmv m hmq
    have hmr := hmi.range p.v.1
    have hmp := hmi.1
    have hd : 1 <= max (m.to - z) (z - m.to) /\ max (m.to - z) (z - m.to) <= 1048576 := by omega
    have cc := Sv _ m hmp hd
    rw [<- A2r] at cc
    have hcq := A2q hmp hd
    have hql := S5 (max (m.to - z) (z - m.to)) m
    have hnew2 : He h c sS k s.name i = (H5 (max (m.to - z) (z - m.to)) m).map (Bt x z (z < m.to)) := by rw [hnew];show R4 _ _ _ = _;unfold R4;rw [if_neg ez]
    rw [hnew2] at hK0 hbad
    generalize H5 (max (m.to - z) (z - m.to)) m = ws at *
    have hxr : 0 <= x /\ x <= 257698037760 := by have := bS i;rw [a0p, hx] at this;simpa using this
    have hlw : (ws.map PcQ.row).length = ws.length := a0a _
    have hstep : ∀ j y, ws[j]? = some y -> ((ws.map (Bt x z (z < m.to))).take (j + 1)).foldl Cg (D5 h c sS k s i) = Cg (((ws.map (Bt x z (z < m.to))).take j).foldl Cg (D5 h c sS k s i)) (Bt x z (z < m.to) y) := fun j y hy => Sd _ _ (by rw [a0e, hy];rfl)
    have hoj : ∀ j, ((ws.map (Bt x z (z < m.to))).take j).foldl Cg (D5 h c sS k s i) ≠ [] := fun j => Rb _ _ hne0
    have hlj : ∀ j, (((ws.map (Bt x z (z < m.to))).take j).foldl Cg (D5 h c sS k s i)).length <= 4 * i + 5 := fun j => by
     have h1 := O2 ((ws.map (Bt x z (z < m.to))).take j) (D5 h c sS k s i)
     have h2 : ((ws.map (Bt x z (z < m.to))).take j).length <= ws.length := by rw [a0t, a0a];omega
     omega
    repeat' (first|refine W ?_|refine Y ?_|(apply p0e 13 A0 (by decide +kernel);simp only [td])|refine V ?_|(refine W2 ?_ ?_<;>intro hc))
    refine T.kill 5 ?_
    refine p0d (fun j => j <= ws.length /\ okC ((ws.map (Bt x z (z < m.to))).take j)) (fun j => ws.length - j) (fun j => [(90, .i j), (89, .i (ws.map PcQ.row).length), (88, .sl (ws.map PcQ.row)), (16, .i z), (14, .ptr 6 0), (12, .i i), (39, .i i), (38, .i (c.cues.map CueR.row).length), (37, .sl (c.cues.map CueR.row)), (11, .own 4 0 (((ws.map (Bt x z (z < m.to))).take j).foldl Cg (D5 h c sS k s i)).length 8), (4, .ptr 0 0), (5, .ptr 1 0), (6, .ptr 2 0), (3, .i k)]) (fun j => [.live ((plA (trL h c) sS (Cv h c)).map .lf), .live (h.row.map .lf), .live (c.row.map .lf), .dead, .live (Bl (((ws.map (Bt x z (z < m.to))).take j).foldl Cg (D5 h c sS k s i))), .dead, .live (m.row.map .lf)]) 0 ⟨a0o _, by intro p hp;cases hp⟩ CW (.live rfl (.live rfl (.live rfl (.dead (.live (Cw _ _) CG))))) ?_
    rintro j ⟨hj, hjo⟩
    by_cases hlj2 : j < ws.length
    ·have h2 : (j : Int) < ((ws.map PcQ.row).length : Nat) := by omega
     obtain ⟨y, hy⟩ := Aa hlj2
     have hby := Ab (R := PcQ.row) hy
     have hyo := hcq y (a0c hy)
     have hsj := hstep j y hy
     have hlj3 := hlj j
     obtain ⟨aA, l, hA⟩ := A30 (hoj j)
     have hlj4 : (aA ++ [l]).length <= 4 * i + 5 := by rw [<- hA];exact hlj3
     rw [hA] at hsj ⊢
     have hln : (aA ++ [l]).length = aA.length + 1 := by simp
     have hlg : (aA ++ [l])[aA.length]? = some l := by simp
     have hld := Ps _ _ _ hlg
     have hcl := Cc (aA ++ [l])
     by_cases hp : L9 x z (z < m.to) y
     ·have cp := A7f y x z (z < m.to) hyo hxr (by omega) hp
      have hpo := A6y hp hyo
      have hst := Pu (aA ++ [l]) aA.length l (Bt x z (z < m.to) y) hlg
      have hjo2 : okC ((ws.map (Bt x z (z < m.to))).take (j + 1)) := by
       rw [a0x, a0e, hy]
       intro p' hp'
       rcases a0u.1 hp' with hp' | hp'
       ·exact hjo p' hp'
       ·obtain rfl : p' = Bt x z (z < m.to) y := by simpa using hp'
        exact hpo
      rw [show (aA ++ [l]).set aA.length (Bt x z (z < m.to) y) = aA ++ [Bt x z (z < m.to) y] by rw [a6s _ _ (a0l _), a5y];rfl] at hst
      generalize Bt x z (z < m.to) y = v at *
      by_cases hf : l.f = v.f
      ·have hf2 := (Aan l.f v.f).2 hf
       rw [A6h _ _ _ hf] at hsj
       repeat' (first|refine W ?_|refine Y ?_|(apply p0e 17 A0 (by decide +kernel);simp only [td])|(apply p0b A0 (by decide +kernel))|(apply S.indexO (o2 := aA.length * 8);(iterate 4 exact rfl);omega;omega)|(apply p1u;(iterate 4 exact rfl);exact hld;(rw [Cc];omega))|(apply p3w;(iterate 3 exact rfl))|(apply p2a;(iterate 6 exact rfl);(rw [Cc];omega))|refine V ?_|(refine W2 ?_ ?_<;>intro hc))
       all_goals (first|(change Next _ _ _ _ _ _)|(trace_state;fail))
       all_goals exact Next.go (j + 1) ⟨by omega, hjo2⟩ (by omega) (by rw [hsj, show (aA ++ [v]).length = (aA ++ [l]).length by simp, show (((j + 1 : Nat) : Int)) = (j : Int) + 1 by omega];exact CW) (by rw [hsj];exact .live rfl (.live rfl (.live rfl (.dead (p2g hst (Cw _ _) CG)))))
      ·have hf2 : ¬ (l.f.num = v.f.num /\ (l.f.den : Int) = v.f.den) := fun k => hf ((Aan l.f v.f).1 k)
       rw [A9x _ _ _ hf] at hsj
       have happ := Eo (aA ++ [l]) [v]
       repeat' (first|refine W ?_|refine Y ?_|(apply p0e 17 A0 (by decide +kernel);simp only [td])|(apply p0b A0 (by decide +kernel))|(apply S.indexO (o2 := aA.length * 8);(iterate 4 exact rfl);omega;omega)|(apply p1u;(iterate 4 exact rfl);exact hld;(rw [Cc];omega))|(apply p3w;(iterate 3 exact rfl))|(apply p0c;(iterate 7 exact rfl))|(apply p0p;(iterate 8 exact rfl);exact hcl;exact Af rfl;exact rfl;exact B6 _ _;simp only [a0i, a0n];omega;simp only [a0i, a0n];omega)|refine V ?_|(refine W2 ?_ ?_<;>intro hc))
       all_goals (first|(change Next _ _ _ _ _ _)|(trace_state;fail))
       all_goals exact Next.go (j + 1) ⟨by omega, hjo2⟩ (by omega) (by rw [hsj, show (((j + 1 : Nat) : Int)) = (j : Int) + 1 by omega, show (aA ++ [l] ++ [v]).length = (aA ++ [l]).length + 1 by simp];exact CW) (by rw [hsj];exact .live rfl (.live rfl (.live rfl (.dead (p2g happ.symm (Cw _ _) CG)))))
     ·obtain ⟨a1, a2, a3, a4, a5, a6, a7, a8, cp⟩ := Wi y x z (z < m.to) hyo hxr (by omega) hp
      obtain ⟨e1, e2⟩ := hbad fun ho => A3o hp (ho _ (a1b.2 ⟨y, a0c hy, rfl⟩))
      rw [e1, e2]
      repeat' (first|refine W ?_|refine Y ?_|(apply p0e 17 A0 (by decide +kernel);simp only [td])|(refine p0z 8 rfl ?_;apply T.ret;change Bj _ _ _ _ _)|refine V ?_|(refine W2 ?_ ?_<;>intro hc))
      all_goals exact D2 rfl rfl rfl
    ·have h2 : ¬ (j : Int) < ((ws.map PcQ.row).length : Nat) := by omega
     rw [a0h (by rw [a0a];omega)] at hjo ⊢
     rw [<- hK0]
     repeat' (first|refine W ?_|refine Y ?_|refine V ?_|(refine W2 ?_ ?_<;>intro hc))
     all_goals (first|(change Next _ _ _ _ _ _)|(trace_state;fail))
     all_goals exact Next.go (i + 1) ⟨by omega, fun j hj => by
      by_cases ej : j = i
      ·subst ej;rw [hnew2];exact hjo
      ·exact hok j (by omega)⟩ (by omega) (by rw [show (((i + 1 : Nat) : Int)) = (i : Int) + 1 by omega];exact CW) (.live rfl (.live rfl (.live rfl (.dead (.live (Cw _ _) .nil)))))
 ·have h1 : ¬ (i : Int) < ((c.cues.map CueR.row).length : Nat) := by omega
  obtain rfl : i = c.cues.length := by omega
  have hB : ¬ Wv h c sS k s := fun ⟨j, hj, hn⟩ => hn (hok j hj)
  have he : Js h c sS k s = if 200 < (Mf h c sS k s).length then 4 else 0 := if_neg hB
  have hown := P7 (Mf h c sS k s)
  have hpL : D5 h c sS k s c.cues.length = Mf h c sS k s := rfl
  unfold A3a
  rw [he]
  rw [hpL] at hpi ⊢
  generalize Mf h c sS k s = O at *
  refine T.freeze 11 rfl rfl hown ?_
  have hlO : (O.map PcQ.row).length = O.length := a0a _
  by_cases hl : 200 < O.length
  ·have h3 : ((O.map PcQ.row).length : Int) > 200 := by omega
   rw [if_pos hl, if_neg (by decide)]
   repeat' (first|refine W ?_|refine Y ?_|(refine p0z 8 rfl ?_;apply T.ret;change Bj _ _ _ _ _)|refine V ?_|(refine W2 ?_ ?_<;>intro hc))
   all_goals exact D2 rfl rfl rfl
  ·have h3 : ¬ ((O.map PcQ.row).length : Int) > 200 := by omega
   rw [if_neg hl, if_pos rfl]
   repeat' (first|refine W ?_|refine Y ?_|refine V ?_|(refine W2 ?_ ?_<;>intro hc))
   all_goals exact D2 rfl rfl rfl
end Go.Proofs.YtlapbaiejnaeiaaGreatDoor
