/- The law of the clearance of a show, but for the reading of its arguments. No conditions but those of each statement. -/
import Derived.Test.YtocoehahhohpgaaGreatPn
set_option linter.unusedSimpArgs false
set_option linter.unusedVariables false
namespace Go.Proofs.YtocoehahhohpgaaGreat
open Go Go.RowKit
theorem Ac3 (b : Nat) (X1 X2 X3 : List Lf) (A B C : List AV) (hA : A.all (AV.clear b) = true) (hB : B.all (AV.clear b) = true) (hC : C.all (AV.clear b) = true) : AH.clear b 0 [.live (X1.map .lf), .live (X2.map .lf), .live (X3.map .lf), .live A, .live B, .live C] = true := by
 simp only [AH.clear, HB.clear, Ah, hA, hB, hC, Bool.or_true, Bool.and_true, Bool.true_and]
 cases Nat.beq 0 b <;> cases Nat.beq (0 + 1) b <;> cases Nat.beq (0 + 1 + 1) b <;> cases Nat.beq (0 + 1 + 1 + 1) b <;> cases Nat.beq (0 + 1 + 1 + 1 + 1) b <;> cases Nat.beq (0 + 1 + 1 + 1 + 1 + 1) b <;> rfl
theorem Aax {h : HouseR} {c : SheetR} {G : List Int} (e : ckE h c G = 0) : acB h c G ↔ (ckL h c G).length = 0 /\ (chK h c G).length = 0 := ⟨fun k => k.2, fun k => ⟨e, k⟩⟩
theorem Abk {h : HouseR} {c : SheetR} {G : List Int} (hf : h.fits) (e : ckE h c G = 0) : ∃ u1 u2 u3 : Int, D1 (crQ h c G) (crE h c G) = .tup [A1 [.i u1, .i u2], .i u3] /\ (¬ (ckL h c G).length = 0 -> u3 = 0 -> u1 < 0) := by
 by_cases k : crE h c G = 0
 ·refine ⟨(crQ h c G).num, (crQ h c G).den, 0, by rw [k];rfl, fun hl _ => ?_⟩
  exact (Qc _).2 (Aat hf e hl k)
 ·exact ⟨0, 0, crE h c G, if_neg k, fun _ k2 => absurd k2 k⟩
set_option maxHeartbeats 64000000 in
theorem Vu (h : HouseR) (c : SheetR) (hf : h.fits) (hc : c.fits) (G : List Int) (hG : G.length <= 4611686018427387904) : Fn0 Tryz.prog 7 [A1 h.row, A1 c.row, .sl (G.map A3)] (.b true) := by
 have aw := A57
 have lg := A3m h c hf hc G
 by_cases hl : Ju h c G
 ·rw [decide_eq_true hl] at lg
  refine Fn0.of Tryz.func7 Tryz.ntmps7 rfl rfl rfl ?_
  simp only [A2]
  repeat' (first
   | refine W ?_
   | refine Y ?_
   | refine V ?_
   | (refine W2 ?_ ?_ <;> intro hc))
  all_goals exact A6 (by simp) Tryz.results7 rfl rfl
 rw [decide_eq_false hl] at lg
 have ck := G4 h c hf hc G hG
 have ca := Ua h c hf hc G hG
 by_cases e : ckE h c G = 0
 ·obtain ⟨a0, _⟩ := Pe e
  have cb := Mh h c hf hc G hG a0
  have ce := Qx h c hf hc G hG a0 trivial
  obtain ⟨p, _⟩ := He a0
  have cc := Of h c hc G p
  have cl := Sz h c hf hc G hG
  obtain ⟨u1, u2, u3, hu, hn⟩ := Abk hf e
  have hac := Aax e
  rw [hu] at cl
  rw [e] at ck ca
  have h60 : c.cues.length <= 60 := by have := p.v.2.1;omega
  have hle : ((ckL h c G).map ConR.row).length = (ckL h c G).length := List.length_map _
  have hlb : (Cq h c G c.cues.length).length = c.cues.length := N1 h c G _
  have hlE : ((Cc h c G).map A3).length = c.cues.length := by rw [List.length_map, Cc, Fk]
  have n1 : ¬ ¬ (((Cq h c G c.cues.length).length : Nat) : Int) = (((Cc h c G).map A3).length : Nat) := fun k => k (by omega)
  have n2 : ¬ ¬ (0 : Int) = 0 := fun k => k rfl
  refine Fn0.of Tryz.func7 Tryz.ntmps7 rfl rfl rfl ?_
  simp only [A2]
  repeat' (first
   | refine W ?_
   | refine Y ?_|(refine T.meetR 12 ([(7, .sl ((ckL h c G).map ConR.row)), (9, .b (decide (acB h c G))), (3, .ptr 0 0), (4, .ptr 1 0), (2, .sl (G.map A3))]) ([.live (h.row.map .lf), .live (c.row.map .lf), .live ([Lf.i u1, Lf.i u2].map .lf)]) ?_ ?_)
   | refine V ?_
   | (refine W2 ?_ ?_ <;> intro hc))
  all_goals first
   | exact T.met CW CH
   | (exfalso;simp only [hac] at *;omega)
   | skip
  refine T.kill 3 ?_
  refine T.kill 4 ?_
  refine T.loopS (fun k => k <= c.cues.length) (fun k => c.cues.length - k) (fun k => [(101, .i k), (100, .i (Cq h c G c.cues.length).length), (99, .sl (Cq h c G c.cues.length)), (17, rT 3 1 k), (18, rT 4 1 k), (15, .sl ((Cc h c G).map A3)), (4, .ptr 1 0), (7, .sl ((ckL h c G).map ConR.row)), (9, .b (decide (acB h c G)))]) (fun k => [.live (h.row.map .lf), .live (c.row.map .lf), .live ([Lf.i u1, Lf.i u2].map .lf), rB (A8 ((stL h c G).take k)) k, rB (A8 ((Av h c).take k)) k]) 0 (Nat.zero_le _) CW CH ?_
  intro k hk
  by_cases hlt : k < c.cues.length
  ·have h1 : (k : Int) < ((Cq h c G c.cues.length).length : Nat) := by omega
   obtain ⟨q, hq⟩ := A9 hlt
   obtain ⟨x, hx⟩ := A9 (l := stL h c G) (k := k) (by rw [C0];exact hlt)
   obtain ⟨y, hy⟩ := A9 (l := Av h c) (k := k) (by rw [Eh];exact hlt)
   have gx : (stL h c G).getD k 0 = x := by rw [List.getD_eq_getElem?_getD, hx];rfl
   have gy : (Av h c).getD k 0 = y := by rw [List.getD_eq_getElem?_getD, hy];rfl
   have hb : (Cq h c G c.cues.length)[((k : Nat) : Int).toNat]? = some [.s q.name, .i x] := by
    rw [Int.toNat_natCast, Cq, List.getElem?_map, List.getElem?_range hlt, Option.map_some, Qk, hq, gx];rfl
   have hb2 : ((Cc h c G).map A3)[((k : Nat) : Int).toNat]? = some (A3 (x + y)) := by
    rw [Int.toNat_natCast, List.getElem?_map, show (Cc h c G)[k]? = some (x + y) by rw [Cc, Dj, List.getElem?_map, List.getElem?_range hlt, Option.map_some, G3, gx, gy]];rfl
   have px := p.st k
   have py := p.ln k
   rw [gx] at px
   rw [gy] at py
   have hxy : x + y - x = y := by omega
   have hS1 : A8 ((stL h c G).take (k + 1)) = A8 ((stL h c G).take k) ++ ([A3 x].flatten).map AV.lf := by rw [B7 hx, Dk]
   have hS2 : A8 ((Av h c).take (k + 1)) = A8 ((Av h c).take k) ++ ([A3 (x + y - x)].flatten).map AV.lf := by rw [hxy, B7 hy, Dk]
   cases k with
   | zero =>
    repeat' (first
     | refine W ?_
     | refine Y ?_|(refine T.ordersR (id := 22) A0 ?_;apply Ords.takeMove 0;exact rfl;decide +kernel;decide +kernel;decide +kernel;exact rfl;exact rfl;apply Ords.takeF 1;exact rfl;decide +kernel;decide +kernel;decide +kernel;exact inferInstance;exact rfl;exact rfl;exact rfl;apply Ords.takeMove 5;exact rfl;decide +kernel;decide +kernel;decide +kernel;exact rfl;exact rfl;apply Ords.takeMove 6;exact rfl;decide +kernel;decide +kernel;decide +kernel;exact rfl;exact rfl;apply Ords.takeMove 7;exact rfl;decide +kernel;decide +kernel;decide +kernel;exact rfl;exact rfl;apply Ords.takeIndex 8;exact rfl;decide +kernel;decide +kernel;decide +kernel;exact rfl;exact inferInstance;exact inferInstance;exact rfl;exact rfl;assumption;omega;exact rfl;apply Ords.takeF 10;exact rfl;decide +kernel;decide +kernel;decide +kernel;exact inferInstance;exact rfl;exact rfl;exact rfl)|(refine (show Ords _ _ _ _ 10 _ _ _ from ?_);first|(apply Ords.three (i := 2) (j := 9) (k := 11);decide +kernel;exact rfl;exact rfl;exact rfl))|(refine (show Ords _ _ _ _ 9 _ _ _ from ?_);first|(apply Ords.three (i := 3) (j := 9) (k := 11);decide +kernel;exact rfl;exact rfl;exact rfl)|(apply Ords.two (i := 2) (j := 11);decide +kernel;exact rfl;exact rfl)|(apply Ords.two (i := 2) (j := 9);decide +kernel;exact rfl;exact rfl))|(refine (show Ords _ _ _ _ 8 _ _ _ from ?_);first|(apply Ords.three (i := 4) (j := 9) (k := 11);decide +kernel;exact rfl;exact rfl;exact rfl)|(apply Ords.two (i := 3) (j := 11);decide +kernel;exact rfl;exact rfl)|(apply Ords.two (i := 3) (j := 9);decide +kernel;exact rfl;exact rfl)|(apply Ords.takeArith 12;exact rfl;decide +kernel;decide +kernel;decide +kernel;(iterate 4 exact rfl);omega))|(refine (show Ords _ _ _ _ 7 _ _ _ from ?_);first|(apply Ords.two (i := 9) (j := 11);decide +kernel;exact rfl;exact rfl)|(apply Ords.two (i := 4) (j := 11);decide +kernel;exact rfl;exact rfl)|(apply Ords.two (i := 4) (j := 9);decide +kernel;exact rfl;exact rfl)|(apply Ords.two (i := 2) (j := 13);decide +kernel;exact rfl;exact rfl)|(apply Ords.takeArith 12;exact rfl;decide +kernel;decide +kernel;decide +kernel;(iterate 4 exact rfl);omega))|(refine (show Ords _ _ _ _ 6 _ _ _ from ?_);first|(apply Ords.one (i := 11);decide +kernel;exact rfl)|(apply Ords.one (i := 9);decide +kernel;exact rfl)|(apply Ords.two (i := 3) (j := 13);decide +kernel;exact rfl;exact rfl)|(apply Ords.one (i := 2);decide +kernel;exact rfl)|(apply Ords.takeArith 12;exact rfl;decide +kernel;decide +kernel;decide +kernel;(iterate 4 exact rfl);omega))|(refine (show Ords _ _ _ _ 5 _ _ _ from ?_);first|(apply Ords.two (i := 4) (j := 13);decide +kernel;exact rfl;exact rfl)|(apply Ords.one (i := 3);decide +kernel;exact rfl)|(apply Ords.takeArith 12;exact rfl;decide +kernel;decide +kernel;decide +kernel;(iterate 4 exact rfl);omega))|(refine (show Ords _ _ _ _ 4 _ _ _ from ?_);first|(apply Ords.one (i := 13);decide +kernel;exact rfl)|(apply Ords.one (i := 4);decide +kernel;exact rfl))|(refine (show Ords _ _ _ _ 3 _ _ _ from ?_);first|(apply Ords.one (i := 14);decide +kernel;exact rfl))|(refine (show Ords _ _ _ _ 2 _ _ _ from ?_);first|(apply Ords.one (i := 15);decide +kernel;exact rfl))|(refine (show Ords _ _ _ _ 1 _ _ _ from ?_);first|(apply Ords.one (i := 16);decide +kernel;exact rfl))|(refine (show Ords _ _ _ _ 0 _ _ _ from ?_);first|(apply Ords.nil;decide +kernel))|(apply S.buildSlice1;(iterate 7 exact rfl))|(apply S.appendN 3 (rows := []);(iterate 8 exact rfl);exact Ae rfl;exact rfl;exact Nat.le_of_ble_eq_true rfl;exact Nat.le_of_ble_eq_true rfl)|(apply S.appendN 4 (rows := []);(iterate 8 exact rfl);exact Ae rfl;exact rfl;exact Nat.le_of_ble_eq_true rfl;exact Nat.le_of_ble_eq_true rfl)
     | refine V ?_
     | (refine W2 ?_ ?_ <;> intro hc))
    all_goals (try change Next _ _ _ _ _ _)
    all_goals exact Next.go 1 (by omega) (by omega) CW (by
     show CovH _ _ [_, _, _, .live (A8 ((stL h c G).take (0 + 1))), .live (A8 ((Av h c).take (0 + 1)))]
     rw [hS1, hS2];exact .live rfl CH)
   | succ k =>
    have hc1 : (A8 ((stL h c G).take (k + 1))).length = (k + 1) * 1 := by rw [C2, List.length_take, C0];omega
    have hc2 : (A8 ((Av h c).take (k + 1))).length = (k + 1) * 1 := by rw [C2, List.length_take, Eh];omega
    repeat' (first
     | refine W ?_
     | refine Y ?_|(refine T.ordersR (id := 22) A0 ?_;apply Ords.takeMove 0;exact rfl;decide +kernel;decide +kernel;decide +kernel;exact rfl;exact rfl;apply Ords.takeF 1;exact rfl;decide +kernel;decide +kernel;decide +kernel;exact inferInstance;exact rfl;exact rfl;exact rfl;apply Ords.takeMove 5;exact rfl;decide +kernel;decide +kernel;decide +kernel;exact rfl;exact rfl;apply Ords.takeMove 6;exact rfl;decide +kernel;decide +kernel;decide +kernel;exact rfl;exact rfl;apply Ords.takeMove 7;exact rfl;decide +kernel;decide +kernel;decide +kernel;exact rfl;exact rfl;apply Ords.takeIndex 8;exact rfl;decide +kernel;decide +kernel;decide +kernel;exact rfl;exact inferInstance;exact inferInstance;exact rfl;exact rfl;assumption;omega;exact rfl;apply Ords.takeF 10;exact rfl;decide +kernel;decide +kernel;decide +kernel;exact inferInstance;exact rfl;exact rfl;exact rfl)|(refine (show Ords _ _ _ _ 10 _ _ _ from ?_);first|(apply Ords.three (i := 2) (j := 9) (k := 11);decide +kernel;exact rfl;exact rfl;exact rfl))|(refine (show Ords _ _ _ _ 9 _ _ _ from ?_);first|(apply Ords.three (i := 3) (j := 9) (k := 11);decide +kernel;exact rfl;exact rfl;exact rfl)|(apply Ords.two (i := 2) (j := 11);decide +kernel;exact rfl;exact rfl)|(apply Ords.two (i := 2) (j := 9);decide +kernel;exact rfl;exact rfl))|(refine (show Ords _ _ _ _ 8 _ _ _ from ?_);first|(apply Ords.three (i := 4) (j := 9) (k := 11);decide +kernel;exact rfl;exact rfl;exact rfl)|(apply Ords.two (i := 3) (j := 11);decide +kernel;exact rfl;exact rfl)|(apply Ords.two (i := 3) (j := 9);decide +kernel;exact rfl;exact rfl)|(apply Ords.takeArith 12;exact rfl;decide +kernel;decide +kernel;decide +kernel;(iterate 4 exact rfl);omega))|(refine (show Ords _ _ _ _ 7 _ _ _ from ?_);first|(apply Ords.two (i := 9) (j := 11);decide +kernel;exact rfl;exact rfl)|(apply Ords.two (i := 4) (j := 11);decide +kernel;exact rfl;exact rfl)|(apply Ords.two (i := 4) (j := 9);decide +kernel;exact rfl;exact rfl)|(apply Ords.two (i := 2) (j := 13);decide +kernel;exact rfl;exact rfl)|(apply Ords.takeArith 12;exact rfl;decide +kernel;decide +kernel;decide +kernel;(iterate 4 exact rfl);omega))|(refine (show Ords _ _ _ _ 6 _ _ _ from ?_);first|(apply Ords.one (i := 11);decide +kernel;exact rfl)|(apply Ords.one (i := 9);decide +kernel;exact rfl)|(apply Ords.two (i := 3) (j := 13);decide +kernel;exact rfl;exact rfl)|(apply Ords.one (i := 2);decide +kernel;exact rfl)|(apply Ords.takeArith 12;exact rfl;decide +kernel;decide +kernel;decide +kernel;(iterate 4 exact rfl);omega))|(refine (show Ords _ _ _ _ 5 _ _ _ from ?_);first|(apply Ords.two (i := 4) (j := 13);decide +kernel;exact rfl;exact rfl)|(apply Ords.one (i := 3);decide +kernel;exact rfl)|(apply Ords.takeArith 12;exact rfl;decide +kernel;decide +kernel;decide +kernel;(iterate 4 exact rfl);omega))|(refine (show Ords _ _ _ _ 4 _ _ _ from ?_);first|(apply Ords.one (i := 13);decide +kernel;exact rfl)|(apply Ords.one (i := 4);decide +kernel;exact rfl))|(refine (show Ords _ _ _ _ 3 _ _ _ from ?_);first|(apply Ords.one (i := 14);decide +kernel;exact rfl))|(refine (show Ords _ _ _ _ 2 _ _ _ from ?_);first|(apply Ords.one (i := 15);decide +kernel;exact rfl))|(refine (show Ords _ _ _ _ 1 _ _ _ from ?_);first|(apply Ords.one (i := 16);decide +kernel;exact rfl))|(refine (show Ords _ _ _ _ 0 _ _ _ from ?_);first|(apply Ords.nil;decide +kernel))|(apply S.buildSlice1;(iterate 7 exact rfl))|(apply S.appendO;(iterate 4 exact rfl);exact Ac3 _ _ _ _ _ _ _ (by first | exact Ah _ _|(rw [<- List.map_append];exact Ah _ _)) (by first | exact Ah _ _|(rw [<- List.map_append];exact Ah _ _)) rfl;exact rfl;exact rfl;exact rfl;(first | exact hc1 | exact hc2);exact Ae rfl;exact rfl;exact Ah _ _;simp only [List.length_cons, List.length_nil];omega;simp only [List.length_cons, List.length_nil];omega)
     | refine V ?_
     | (refine W2 ?_ ?_ <;> intro hc))
    all_goals (try change Next _ _ _ _ _ _)
    all_goals exact Next.go (k + 2) (by omega) (by omega) CW (by
     show CovH _ _ [_, _, _, .live (A8 ((stL h c G).take (k + 1 + 1))), .live (A8 ((Av h c).take (k + 1 + 1)))]
     rw [hS1, hS2];exact .live rfl (.live rfl (.live rfl (.live (by rw [<- List.map_append];exact Ag _ _) (.live (by rw [<- List.map_append];exact Ag _ _) .nil)))))
  ·have h1 : ¬ (k : Int) < ((Cq h c G c.cues.length).length : Nat) := by omega
   obtain rfl : k = c.cues.length := by omega
   have t1 : (stL h c G).take c.cues.length = stL h c G := List.take_of_length_le (by rw [C0];omega)
   have t2 : (Av h c).take c.cues.length = Av h c := List.take_of_length_le (by rw [Eh];omega)
   rw [t1, t2]
   refine T.sealR 17 3 (rows := (stL h c G).map A3) (Bw _) (by rw [List.length_map, C0]) rfl rfl ?_
   refine T.sealR 18 4 (rows := (Av h c).map A3) (Bw _) (by rw [List.length_map, Eh]) rfl rfl ?_
   by_cases z1 : (ckL h c G).length = 0
   ·have z2 : (((ckL h c G).map ConR.row).length : Int) = 0 := by omega
    by_cases z3 : (chK h c G).length = 0
    ·have z4 : ((chK h c G).length : Int) = 0 := by omega
     have hbq : (decide (acB h c G) == decide (((chK h c G).length : Int) = 0)) = true := by rw [decide_eq_true (hac.2 ⟨z1, z3⟩), decide_eq_true z4];rfl
     repeat' (first
      | refine W ?_
      | refine Y ?_|(apply S.boolEqB;exact rfl;exact rfl;exact hbq;exact rfl)|(apply S.boolNeB;exact rfl;exact rfl;exact hbq;exact rfl)
      | refine V ?_
      | (refine W2 ?_ ?_ <;> intro hc))
     all_goals exact A6 (by simp) Tryz.results7 rfl rfl
    ·have z4 : ¬ ((chK h c G).length : Int) = 0 := by omega
     have hbq : (decide (acB h c G) == decide (((chK h c G).length : Int) = 0)) = true := by rw [decide_eq_false (fun q => z3 (hac.1 q).2), decide_eq_false z4];rfl
     repeat' (first
      | refine W ?_
      | refine Y ?_|(apply S.boolEqB;exact rfl;exact rfl;exact hbq;exact rfl)|(apply S.boolNeB;exact rfl;exact rfl;exact hbq;exact rfl)
      | refine V ?_
      | (refine W2 ?_ ?_ <;> intro hc))
     all_goals exact A6 (by simp) Tryz.results7 rfl rfl
   ·have z2 : ¬ (((ckL h c G).map ConR.row).length : Int) = 0 := by omega
    have hbq : (decide (acB h c G) == false) = true := by rw [decide_eq_false fun q => z1 (hac.1 q).1];rfl
    repeat' (first
     | refine W ?_
     | refine Y ?_|(apply S.boolEqB;exact rfl;exact rfl;exact hbq;exact rfl)|(apply S.boolNeB;exact rfl;exact rfl;exact hbq;exact rfl)
     | refine V ?_
     | (refine W2 ?_ ?_ <;> intro hc))
    all_goals exact A6 (by simp) Tryz.results7 rfl rfl
 ·rw [A8x e] at ck
  rw [decide_eq_false (show ¬ acB h c G from fun k => e k.1)] at ca
  generalize ckE h c G = x at *
  have n2 : ¬ ¬ x = x := fun k => k rfl
  refine Fn0.of Tryz.func7 Tryz.ntmps7 rfl rfl rfl ?_
  simp only [A2]
  repeat' (first
   | refine W ?_
   | refine Y ?_
   | refine V ?_
   | (refine W2 ?_ ?_ <;> intro hc))
  all_goals exact A6 (by simp) Tryz.results7 rfl rfl
end Go.Proofs.YtocoehahhohpgaaGreat
