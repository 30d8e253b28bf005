/- Contracts: links.Clash of any starts and lengths that fit the sheet. No conditions but those of each statement. -/
import Derived.Test.YtocoehahhohpgaaGreatPa
import Derived.Test.YtocoehahhohpgaaGreatPi
set_option linter.unusedSimpArgs false
set_option linter.unusedVariables false
namespace Go.Proofs.YtocoehahhohpgaaGreat
open Go Go.RowKit
def cuA (c : SheetR) (n : ByteArray) : Nat := (Bq c.cues n).toNat
def nmA (c : SheetR) (a : Nat) : ByteArray := (c.cues[a]?.map CueR.name).getD ⟨#[]⟩
def clB (Z X : List Int) (a b : Nat) : Prop := Z.getD b 0 + X.getD b 0 <= Z.getD a 0 \/ Z.getD a 0 + X.getD a 0 <= Z.getD b 0
instance (Z X : List Int) (a b : Nat) : Decidable (clB Z X a b) := by unfold clB;exact inferInstance
def clR (c : SheetR) (Z X : List Int) (i : Nat) (a b : Nat) : List (List Lf) := if clB Z X a b then [] else [[.i i, .s (nmA c (if Z.getD b 0 < Z.getD a 0 then a else b))]]
def clK (c : SheetR) (Z X : List Int) : Nat -> List (List Lf)
 | 0 => []
 | k + 1 => clK c Z X k ++ (match c.apart[k]? with | some p => clR c Z X k (cuA c p.1) (cuA c p.2) | none => [])
theorem A6q {c : SheetR} {Z X : List Int} {k : Nat} {p : ByteArray × ByteArray} (h : c.apart[k]? = some p) : clK c Z X (k + 1) = clK c Z X k ++ clR c Z X k (cuA c p.1) (cuA c p.2) := by
 show _ ++ _ = _
 rw [h]
theorem U4 (c : SheetR) (Z X : List Int) : ∀ k, ∀ r ∈ clK c Z X k, r.length = 2
 | 0, r, hr => by cases hr
 | k + 1, r, hr => by
  rcases List.mem_append.1 hr with hr | hr
  ·exact U4 c Z X k r hr
  ·cases hp : c.apart[k]? with
   | none => rw [hp] at hr;cases hr
   | some p =>
    rw [hp] at hr
    simp only [clR] at hr
    split at hr
    ·cases hr
    ·obtain rfl := List.mem_singleton.1 hr;rfl
theorem A60 (c : SheetR) (Z X : List Int) : ∀ k, (clK c Z X k).length <= k
 | 0 => Nat.le_refl 0
 | k + 1 => by
  have := A60 c Z X k
  show (clK c Z X k ++ _).length <= _
  rw [List.length_append]
  cases hp : c.apart[k]? with
  | none => simp;omega
  | some p =>
   simp only [clR]
   split <;> simp <;> omega
theorem Pv {l : List Int} {i : Nat} (h : i < l.length) : l[i]? = some (l.getD i 0) := by
 rw [List.getD_eq_getElem?_getD, List.getElem?_eq_getElem h];rfl
set_option maxHeartbeats 16000000 in
theorem Zf (h : HouseR) (c : SheetR) (v : validP h c) (hc : c.fits) (Z X : List Int) (hz : Z.length = c.cues.length) (hx : X.length = c.cues.length) (bz : ∀ i, 0 <= Z.getD i 0 /\ Z.getD i 0 <= 1099511627776) (bx : ∀ i, 0 <= X.getD i 0 /\ X.getD i 0 <= 1099511627776) :
  Fn0 Tryz.prog 32 [A1 c.row, .sl (Z.map A3), .sl (X.map A3)] (.tup [.sl (clK c Z X c.apart.length), .i 0]) := by
 have cl := Ji h c v hc
 obtain ⟨hc1, hc2, _⟩ := hc
 have h60 := v.2.1
 obtain ⟨hp1, hp2⟩ := v.2.2.2
 have hle : (c.cues.map CueR.row).length = c.cues.length := List.length_map _
 have hle2 : (c.apart.map Ab).length = c.apart.length := List.length_map _
 have hlz : (Z.map A3).length = Z.length := List.length_map _
 have hlx : (X.map A3).length = X.length := List.length_map _
 have w1 := E7 Z Hk 68 (by omega) Ko
 have w2 := E7 X Hk 68 (by omega) Ko
 have nw : ∀ l : List Int, (∀ i, 0 <= l.getD i 0 /\ l.getD i 0 <= 1099511627776) -> ¬ ∃ x ∈ l, Hk x := by
  rintro l hl ⟨x, hx, hw⟩
  obtain ⟨i, hi⟩ := List.getElem?_of_mem hx
  have := hl i
  rw [List.getD_eq_getElem?_getD, hi] at this
  simp only [Hk, Option.getD_some] at hw this
  omega
 rw [decide_eq_false (nw Z bz)] at w1
 rw [decide_eq_false (nw X bx)] at w2
 have n1 : ¬ ¬ (((Z.map A3).length : Nat) : Int) = ((c.cues.map CueR.row).length : Nat) := fun k => k (by omega)
 have n2 : ¬ ¬ (((X.map A3).length : Nat) : Int) = ((c.cues.map CueR.row).length : Nat) := fun k => k (by omega)
 refine Fn0.of Tryz.func32 Tryz.ntmps32 rfl rfl rfl ?_
 simp only [A2]
 repeat' (first
  | refine W ?_
  | refine Y ?_
  | refine V ?_
  | (refine W2 ?_ ?_ <;> intro hc))
 refine T.kill 1 ?_
 refine T.loopS (fun k => k <= c.apart.length) (fun k => c.apart.length - k) (fun k => [(46, .i k), (45, .i (c.apart.map Ab).length), (44, .sl (c.apart.map Ab)), (9, rT 1 2 (clK c Z X k).length), (1, .sl (Z.map A3)), (2, .sl (X.map A3)), (3, .ptr 0 0)]) (fun k => [.live (c.row.map .lf), rB (J4 (clK c Z X k)) (clK c Z X k).length]) 0 (Nat.zero_le _) CW CG ?_
 intro k hk
 by_cases hlt : k < c.apart.length
 ·have h1 : (k : Int) < ((c.apart.map Ab).length : Nat) := by omega
  obtain ⟨p, hp⟩ := A9 hlt
  have hb := Ac (R := Ab) hp
  obtain ⟨⟨g1, g2⟩, g3, _⟩ := hp2 k p hp
  have hpm : p ∈ c.apart := List.mem_of_getElem? hp
  have f1 := Du c p.1 hc1
  have f2 := Du c p.2 hc1
  have ha1 : Bq c.cues p.1 < c.cues.length := Lm _ _
  have hb1 : Bq c.cues p.2 < c.cues.length := Lm _ _
  have ea : Bq c.cues p.1 = (cuA c p.1 : Nat) := by unfold cuA;omega
  have eb : Bq c.cues p.2 = (cuA c p.2 : Nat) := by unfold cuA;omega
  have hS := A6q (Z := Z) (X := X) hp
  rw [ea] at f1 ha1
  rw [eb] at f2 hb1
  generalize cuA c p.1 = a at *
  generalize cuA c p.2 = b at *
  have za := Ac (R := A3) (Pv (l := Z) (i := a) (by omega))
  have zb := Ac (R := A3) (Pv (l := Z) (i := b) (by omega))
  have xa := Ac (R := A3) (Pv (l := X) (i := a) (by omega))
  have xb := Ac (R := A3) (Pv (l := X) (i := b) (by omega))
  have bza := bz a
  have bzb := bz b
  have bxa := bx a
  have bxb := bx b
  obtain ⟨qa, hqa⟩ := A9 (l := c.cues) (k := a) (by omega)
  obtain ⟨qb, hqb⟩ := A9 (l := c.cues) (k := b) (by omega)
  have ca := Ac (R := CueR.row) hqa
  have cb := Ac (R := CueR.row) hqb
  have na : nmA c a = qa.name := by unfold nmA;rw [hqa];rfl
  have nb : nmA c b = qb.name := by unfold nmA;rw [hqb];rfl
  have hln := A60 c Z X k
  have hcl := V2 (U4 c Z X k) rfl
  have hS1 : (Z.getD b 0 + X.getD b 0 <= Z.getD a 0 \/ Z.getD a 0 + X.getD a 0 <= Z.getD b 0) -> clK c Z X (k + 1) = clK c Z X k := fun g => by rw [hS, clR, if_pos (show clB Z X a b from g), List.append_nil]
  have hS2 : ¬ (Z.getD b 0 + X.getD b 0 <= Z.getD a 0 \/ Z.getD a 0 + X.getD a 0 <= Z.getD b 0) -> Z.getD b 0 < Z.getD a 0 -> clK c Z X (k + 1) = clK c Z X k ++ [[.i k, .s qa.name]] := fun g g' => by rw [hS, clR, if_neg (show ¬ clB Z X a b from g), if_pos g', na]
  have hS3 : ¬ (Z.getD b 0 + X.getD b 0 <= Z.getD a 0 \/ Z.getD a 0 + X.getD a 0 <= Z.getD b 0) -> ¬ Z.getD b 0 < Z.getD a 0 -> clK c Z X (k + 1) = clK c Z X k ++ [[.i k, .s qb.name]] := fun g g' => by rw [hS, clR, if_neg (show ¬ clB Z X a b from g), if_neg g', nb]
  clear hS
  cases hn : (clK c Z X k).length with
  | zero =>
   have hc0 : clK c Z X k = [] := List.eq_nil_of_length_eq_zero hn
   repeat' (first
    | refine W ?_
    | refine Y ?_|(apply T.drawAll A0 (by decide +kernel))|(apply T.draw 10 A0 (by decide +kernel);simp only [td])|(apply T.draw 9 A0 (by decide +kernel);simp only [td])|(apply T.draw 8 A0 (by decide +kernel);simp only [td])|(apply T.draw 7 A0 (by decide +kernel);simp only [td])|(apply S.loadL;exact rfl;exact rfl;exact rfl;decide +kernel;exact rfl)|(apply S.fieldL;exact rfl;exact rfl;decide +kernel;exact rfl)|(apply S.idxAP;(iterate 4 exact rfl);exact ⟨by decide, by decide⟩;exact rfl)|(apply S.buildSlice1;(iterate 7 exact rfl))|(apply S.appendN 1 (rows := []);(iterate 8 exact rfl);exact Ae rfl;exact rfl;exact Nat.le_of_ble_eq_true rfl;exact Nat.le_of_ble_eq_true rfl)|(apply S.buildN;exact rfl;exact rfl;exact rfl)
    | refine V ?_
    | (refine W2 ?_ ?_ <;> intro hc))
   all_goals (try change Next _ _ _ _ _ _)
   all_goals first
    | (have hS := hS1 (by omega);rw [hc0] at hS
       exact Next.go (k + 1) (by omega) (by omega) (.cons rfl rfl (.cons rfl rfl (.cons rfl rfl (.cons (by rw [hS];rfl) (Eg _ _ _ _ (Nat.le_refl 2)) CW)))) (by rw [hS];exact .live rfl (.dead .nil)))
    | (have hS := hS2 (by omega) (by omega);rw [hc0] at hS
       exact Next.go (k + 1) (by omega) (by omega) (.cons rfl rfl (.cons rfl rfl (.cons rfl rfl (.cons (by rw [hS];rfl) (Eg _ _ _ _ (Nat.le_refl 2)) CW)))) (by rw [hS];exact .live rfl (.live rfl .nil)))
    | (have hS := hS3 (by omega) (by omega);rw [hc0] at hS
       exact Next.go (k + 1) (by omega) (by omega) (.cons rfl rfl (.cons rfl rfl (.cons rfl rfl (.cons (by rw [hS];rfl) (Eg _ _ _ _ (Nat.le_refl 2)) CW)))) (by rw [hS];exact .live rfl (.live rfl .nil)))
  | succ m =>
   have hcl2 : (J4 (clK c Z X k)).length = (m + 1) * 2 := by rw [hcl, hn]
   repeat' (first
    | refine W ?_
    | refine Y ?_|(apply T.drawAll A0 (by decide +kernel))|(apply T.draw 10 A0 (by decide +kernel);simp only [td])|(apply T.draw 9 A0 (by decide +kernel);simp only [td])|(apply T.draw 8 A0 (by decide +kernel);simp only [td])|(apply T.draw 7 A0 (by decide +kernel);simp only [td])|(apply S.loadL;exact rfl;exact rfl;exact rfl;decide +kernel;exact rfl)|(apply S.fieldL;exact rfl;exact rfl;decide +kernel;exact rfl)|(apply S.idxAP;(iterate 4 exact rfl);exact ⟨by decide, by decide⟩;exact rfl)|(apply S.buildSlice1;(iterate 7 exact rfl))|(apply S.appendO;(iterate 8 exact rfl);exact hcl2;exact Ae rfl;exact rfl;exact Ah _ _;simp only [List.length_cons, List.length_nil];omega;simp only [List.length_cons, List.length_nil];omega)|(apply S.buildN;exact rfl;exact rfl;exact rfl)
    | refine V ?_
    | (refine W2 ?_ ?_ <;> intro hc))
   all_goals (try change Next _ _ _ _ _ _)
   all_goals first
    | (have hS := hS1 (by omega)
       exact Next.go (k + 1) (by omega) (by omega) (.cons rfl rfl (.cons rfl rfl (.cons rfl rfl (.cons (by rw [hS, hn];rfl) (Eg _ _ _ _ (Nat.le_refl 2)) CW)))) (by rw [hS, hn];exact .live rfl (.live (Ag _ _) .nil)))
    | (have hS := hS2 (by omega) (by omega)
       exact Next.go (k + 1) (by omega) (by omega) (.cons rfl rfl (.cons rfl rfl (.cons rfl rfl (.cons (by rw [hS, List.length_append, hn];rfl) (Eg _ _ _ _ (Nat.le_refl 2)) CW)))) (by rw [hS, List.length_append, hn, Lq];exact .live rfl (.live (by rw [<- List.map_append];exact Ag _ _) .nil)))
    | (have hS := hS3 (by omega) (by omega)
       exact Next.go (k + 1) (by omega) (by omega) (.cons rfl rfl (.cons rfl rfl (.cons rfl rfl (.cons (by rw [hS, List.length_append, hn];rfl) (Eg _ _ _ _ (Nat.le_refl 2)) CW)))) (by rw [hS, List.length_append, hn, Lq];exact .live rfl (.live (by rw [<- List.map_append];exact Ag _ _) .nil)))
 ·have h1 : ¬ (k : Int) < ((c.apart.map Ab).length : Nat) := by omega
  obtain rfl : k = c.apart.length := by omega
  refine T.sealR 9 1 (rows := clK c Z X c.apart.length) (U4 _ _ _ _) rfl rfl rfl ?_
  repeat' (first
   | refine W ?_

   | refine V ?_
   | (refine W2 ?_ ?_ <;> intro hc))
  exact D2 rfl rfl rfl
noncomputable def chK (h : HouseR) (c : SheetR) (G : List Int) : List (List Lf) := clK c (stL h c G) (Av h c) c.apart.length
noncomputable def acP (h : HouseR) (c : SheetR) (G : List Int) : Prop := (ckL h c G).length = 0 /\ (chK h c G).length = 0
noncomputable instance (h : HouseR) (c : SheetR) (G : List Int) : Decidable (acP h c G) := Classical.propDecidable _
theorem Eh (h : HouseR) (c : SheetR) : (Av h c).length = c.cues.length := Dz h c _
theorem Of (h : HouseR) (c : SheetR) (hc : c.fits) (G : List Int) (p : PlanOk h c G) : Fn0 Tryz.prog 32 [A1 c.row, .sl ((stL h c G).map A3), .sl ((Av h c).map A3)] (.tup [.sl (chK h c G), .i 0]) :=
 Zf h c p.v hc _ _ (C0 h c G) (Eh h c) (fun i => by have := p.st i;omega) fun i => by have := p.ln i;omega
theorem Abz (b : Nat) (X1 X2 : List Lf) (A B C : List AV) (hA : A.all (AV.clear b) = true) (hB : B.all (AV.clear b) = true) (hC : C.all (AV.clear b) = true) : AH.clear b 0 [.live (X1.map .lf), .live (X2.map .lf), .live A, .live B, .live C] = true := by
 simp only [AH.clear, HB.clear, Ah, hA, hB, hC, Bool.or_true, Bool.and_true, Bool.true_and]
 cases Nat.beq 0 b <;> cases Nat.beq (0 + 1) b <;> cases Nat.beq (0 + 1 + 1) b <;> cases Nat.beq (0 + 1 + 1 + 1) b <;> cases Nat.beq (0 + 1 + 1 + 1 + 1) b <;> rfl
set_option maxHeartbeats 32000000 in
theorem Vr (h : HouseR) (c : SheetR) (hf : h.fits) (hc : c.fits) (G : List Int) (hG : G.length <= 4611686018427387904) (e : ckE h c G = 0) :
  Fn0 Tryz.prog 26 [A1 h.row, A1 c.row, .sl (G.map A3)] (.tup [.b (decide (acP h c G)), .i 0]) := by
 have ck := G4 h c hf hc G hG
 rw [e] at ck
 obtain ⟨a0, _⟩ := Pe e
 have cb := Mh h c hf hc G hG a0
 have ce := Qx h c hf hc G hG a0 trivial
 obtain ⟨p, _⟩ := He a0
 have cc := Of h c hc G p
 have h60 : c.cues.length <= 60 := by have := p.v.2.1;omega
 have hle : ((ckL h c G).map ConR.row).length = (ckL h c G).length := List.length_map _
 have hlb : (Cq h c G c.cues.length).length = c.cues.length := N1 h c G _
 refine Fn0.of Tryz.func26 Tryz.ntmps26 rfl rfl rfl ?_
 simp only [A2]
 repeat' (first
  | refine W ?_
  | refine Y ?_
  | refine V ?_
  | (refine W2 ?_ ?_ <;> intro hc))
 refine T.kill 2 ?_
 refine T.kill 3 ?_
 refine T.loopS (fun k => k <= c.cues.length) (fun k => c.cues.length - k) (fun k => [(49, .i k), (48, .i (Cq h c G c.cues.length).length), (47, .sl (Cq h c G c.cues.length)), (12, rT 2 1 k), (13, rT 3 1 k), (11, .sl ((Cc h c G).map A3)), (4, .ptr 1 0), (8, .sl ((ckL h c G).map ConR.row))]) (fun k => [.live (h.row.map .lf), .live (c.row.map .lf), rB (A8 ((stL h c G).take k)) k, rB (A8 ((Av h c).take k)) k]) 0 (Nat.zero_le _) CW CH ?_
 intro k hk
 by_cases hlt : k < c.cues.length
 ·have h1 : (k : Int) < ((Cq h c G c.cues.length).length : Nat) := by omega
  obtain ⟨q, hq⟩ := A9 hlt
  obtain ⟨x, hx⟩ := A9 (l := stL h c G) (k := k) (by rw [C0];exact hlt)
  obtain ⟨y, hy⟩ := A9 (l := Av h c) (k := k) (by rw [Eh];exact hlt)
  have gx : (stL h c G).getD k 0 = x := by rw [List.getD_eq_getElem?_getD, hx];rfl
  have gy : (Av h c).getD k 0 = y := by rw [List.getD_eq_getElem?_getD, hy];rfl
  have hb : (Cq h c G c.cues.length)[((k : Nat) : Int).toNat]? = some [.s q.name, .i x] := by
   rw [Int.toNat_natCast, Cq, List.getElem?_map, List.getElem?_range hlt, Option.map_some, Qk, hq, gx];rfl
  have hb2 : ((Cc h c G).map A3)[((k : Nat) : Int).toNat]? = some (A3 (x + y)) := by
   rw [Int.toNat_natCast, List.getElem?_map, show (Cc h c G)[k]? = some (x + y) by rw [Cc, Dj, List.getElem?_map, List.getElem?_range hlt, Option.map_some, G3, gx, gy]];rfl
  have px := p.st k
  have py := p.ln k
  rw [gx] at px
  rw [gy] at py
  have hxy : x + y - x = y := by omega
  have hS1 : A8 ((stL h c G).take (k + 1)) = A8 ((stL h c G).take k) ++ ([A3 x].flatten).map AV.lf := by rw [B7 hx, Dk]
  have hS2 : A8 ((Av h c).take (k + 1)) = A8 ((Av h c).take k) ++ ([A3 (x + y - x)].flatten).map AV.lf := by rw [hxy, B7 hy, Dk]
  cases k with
  | zero =>
   repeat' (first
    | refine W ?_
    | refine Y ?_|(refine T.ordersR (id := 14) A0 ?_;apply Ords.takeMove 0;exact rfl;decide +kernel;decide +kernel;decide +kernel;exact rfl;exact rfl;apply Ords.takeF 1;exact rfl;decide +kernel;decide +kernel;decide +kernel;exact inferInstance;exact rfl;exact rfl;exact rfl;apply Ords.takeMove 5;exact rfl;decide +kernel;decide +kernel;decide +kernel;exact rfl;exact rfl;apply Ords.takeMove 6;exact rfl;decide +kernel;decide +kernel;decide +kernel;exact rfl;exact rfl;apply Ords.takeMove 7;exact rfl;decide +kernel;decide +kernel;decide +kernel;exact rfl;exact rfl;apply Ords.takeIndex 8;exact rfl;decide +kernel;decide +kernel;decide +kernel;exact rfl;exact inferInstance;exact inferInstance;exact rfl;exact rfl;assumption;omega;exact rfl;apply Ords.takeF 10;exact rfl;decide +kernel;decide +kernel;decide +kernel;exact inferInstance;exact rfl;exact rfl;exact rfl)|(refine (show Ords _ _ _ _ 10 _ _ _ from ?_);first|(apply Ords.three (i := 2) (j := 9) (k := 11);decide +kernel;exact rfl;exact rfl;exact rfl))|(refine (show Ords _ _ _ _ 9 _ _ _ from ?_);first|(apply Ords.three (i := 3) (j := 9) (k := 11);decide +kernel;exact rfl;exact rfl;exact rfl)|(apply Ords.two (i := 2) (j := 11);decide +kernel;exact rfl;exact rfl)|(apply Ords.two (i := 2) (j := 9);decide +kernel;exact rfl;exact rfl))|(refine (show Ords _ _ _ _ 8 _ _ _ from ?_);first|(apply Ords.three (i := 4) (j := 9) (k := 11);decide +kernel;exact rfl;exact rfl;exact rfl)|(apply Ords.two (i := 3) (j := 11);decide +kernel;exact rfl;exact rfl)|(apply Ords.two (i := 3) (j := 9);decide +kernel;exact rfl;exact rfl)|(apply Ords.takeArith 12;exact rfl;decide +kernel;decide +kernel;decide +kernel;(iterate 4 exact rfl);omega))|(refine (show Ords _ _ _ _ 7 _ _ _ from ?_);first|(apply Ords.two (i := 9) (j := 11);decide +kernel;exact rfl;exact rfl)|(apply Ords.two (i := 4) (j := 11);decide +kernel;exact rfl;exact rfl)|(apply Ords.two (i := 4) (j := 9);decide +kernel;exact rfl;exact rfl)|(apply Ords.two (i := 2) (j := 13);decide +kernel;exact rfl;exact rfl)|(apply Ords.takeArith 12;exact rfl;decide +kernel;decide +kernel;decide +kernel;(iterate 4 exact rfl);omega))|(refine (show Ords _ _ _ _ 6 _ _ _ from ?_);first|(apply Ords.one (i := 11);decide +kernel;exact rfl)|(apply Ords.one (i := 9);decide +kernel;exact rfl)|(apply Ords.two (i := 3) (j := 13);decide +kernel;exact rfl;exact rfl)|(apply Ords.one (i := 2);decide +kernel;exact rfl)|(apply Ords.takeArith 12;exact rfl;decide +kernel;decide +kernel;decide +kernel;(iterate 4 exact rfl);omega))|(refine (show Ords _ _ _ _ 5 _ _ _ from ?_);first|(apply Ords.two (i := 4) (j := 13);decide +kernel;exact rfl;exact rfl)|(apply Ords.one (i := 3);decide +kernel;exact rfl)|(apply Ords.takeArith 12;exact rfl;decide +kernel;decide +kernel;decide +kernel;(iterate 4 exact rfl);omega))|(refine (show Ords _ _ _ _ 4 _ _ _ from ?_);first|(apply Ords.one (i := 13);decide +kernel;exact rfl)|(apply Ords.one (i := 4);decide +kernel;exact rfl))|(refine (show Ords _ _ _ _ 3 _ _ _ from ?_);first|(apply Ords.one (i := 14);decide +kernel;exact rfl))|(refine (show Ords _ _ _ _ 2 _ _ _ from ?_);first|(apply Ords.one (i := 15);decide +kernel;exact rfl))|(refine (show Ords _ _ _ _ 1 _ _ _ from ?_);first|(apply Ords.one (i := 16);decide +kernel;exact rfl))|(refine (show Ords _ _ _ _ 0 _ _ _ from ?_);first|(apply Ords.nil;decide +kernel))|(apply S.buildSlice1;(iterate 7 exact rfl))|(apply S.appendN 2 (rows := []);(iterate 8 exact rfl);exact Ae rfl;exact rfl;exact Nat.le_of_ble_eq_true rfl;exact Nat.le_of_ble_eq_true rfl)|(apply S.appendN 3 (rows := []);(iterate 8 exact rfl);exact Ae rfl;exact rfl;exact Nat.le_of_ble_eq_true rfl;exact Nat.le_of_ble_eq_true rfl)
    | refine V ?_
    | (refine W2 ?_ ?_ <;> intro hc))
   all_goals (try change Next _ _ _ _ _ _)
   all_goals exact Next.go 1 (by omega) (by omega) CV (by
    show CovH _ _ [_, _, .live (A8 ((stL h c G).take (0 + 1))), .live (A8 ((Av h c).take (0 + 1)))]
    rw [hS1, hS2];exact .live rfl CH)
  | succ k =>
   have hc1 : (A8 ((stL h c G).take (k + 1))).length = (k + 1) * 1 := by rw [C2, List.length_take, C0];omega
   have hc2 : (A8 ((Av h c).take (k + 1))).length = (k + 1) * 1 := by rw [C2, List.length_take, Eh];omega
   repeat' (first
    | refine W ?_
    | refine Y ?_|(refine T.ordersR (id := 14) A0 ?_;apply Ords.takeMove 0;exact rfl;decide +kernel;decide +kernel;decide +kernel;exact rfl;exact rfl;apply Ords.takeF 1;exact rfl;decide +kernel;decide +kernel;decide +kernel;exact inferInstance;exact rfl;exact rfl;exact rfl;apply Ords.takeMove 5;exact rfl;decide +kernel;decide +kernel;decide +kernel;exact rfl;exact rfl;apply Ords.takeMove 6;exact rfl;decide +kernel;decide +kernel;decide +kernel;exact rfl;exact rfl;apply Ords.takeMove 7;exact rfl;decide +kernel;decide +kernel;decide +kernel;exact rfl;exact rfl;apply Ords.takeIndex 8;exact rfl;decide +kernel;decide +kernel;decide +kernel;exact rfl;exact inferInstance;exact inferInstance;exact rfl;exact rfl;assumption;omega;exact rfl;apply Ords.takeF 10;exact rfl;decide +kernel;decide +kernel;decide +kernel;exact inferInstance;exact rfl;exact rfl;exact rfl)|(refine (show Ords _ _ _ _ 10 _ _ _ from ?_);first|(apply Ords.three (i := 2) (j := 9) (k := 11);decide +kernel;exact rfl;exact rfl;exact rfl))|(refine (show Ords _ _ _ _ 9 _ _ _ from ?_);first|(apply Ords.three (i := 3) (j := 9) (k := 11);decide +kernel;exact rfl;exact rfl;exact rfl)|(apply Ords.two (i := 2) (j := 11);decide +kernel;exact rfl;exact rfl)|(apply Ords.two (i := 2) (j := 9);decide +kernel;exact rfl;exact rfl))|(refine (show Ords _ _ _ _ 8 _ _ _ from ?_);first|(apply Ords.three (i := 4) (j := 9) (k := 11);decide +kernel;exact rfl;exact rfl;exact rfl)|(apply Ords.two (i := 3) (j := 11);decide +kernel;exact rfl;exact rfl)|(apply Ords.two (i := 3) (j := 9);decide +kernel;exact rfl;exact rfl)|(apply Ords.takeArith 12;exact rfl;decide +kernel;decide +kernel;decide +kernel;(iterate 4 exact rfl);omega))|(refine (show Ords _ _ _ _ 7 _ _ _ from ?_);first|(apply Ords.two (i := 9) (j := 11);decide +kernel;exact rfl;exact rfl)|(apply Ords.two (i := 4) (j := 11);decide +kernel;exact rfl;exact rfl)|(apply Ords.two (i := 4) (j := 9);decide +kernel;exact rfl;exact rfl)|(apply Ords.two (i := 2) (j := 13);decide +kernel;exact rfl;exact rfl)|(apply Ords.takeArith 12;exact rfl;decide +kernel;decide +kernel;decide +kernel;(iterate 4 exact rfl);omega))|(refine (show Ords _ _ _ _ 6 _ _ _ from ?_);first|(apply Ords.one (i := 11);decide +kernel;exact rfl)|(apply Ords.one (i := 9);decide +kernel;exact rfl)|(apply Ords.two (i := 3) (j := 13);decide +kernel;exact rfl;exact rfl)|(apply Ords.one (i := 2);decide +kernel;exact rfl)|(apply Ords.takeArith 12;exact rfl;decide +kernel;decide +kernel;decide +kernel;(iterate 4 exact rfl);omega))|(refine (show Ords _ _ _ _ 5 _ _ _ from ?_);first|(apply Ords.two (i := 4) (j := 13);decide +kernel;exact rfl;exact rfl)|(apply Ords.one (i := 3);decide +kernel;exact rfl)|(apply Ords.takeArith 12;exact rfl;decide +kernel;decide +kernel;decide +kernel;(iterate 4 exact rfl);omega))|(refine (show Ords _ _ _ _ 4 _ _ _ from ?_);first|(apply Ords.one (i := 13);decide +kernel;exact rfl)|(apply Ords.one (i := 4);decide +kernel;exact rfl))|(refine (show Ords _ _ _ _ 3 _ _ _ from ?_);first|(apply Ords.one (i := 14);decide +kernel;exact rfl))|(refine (show Ords _ _ _ _ 2 _ _ _ from ?_);first|(apply Ords.one (i := 15);decide +kernel;exact rfl))|(refine (show Ords _ _ _ _ 1 _ _ _ from ?_);first|(apply Ords.one (i := 16);decide +kernel;exact rfl))|(refine (show Ords _ _ _ _ 0 _ _ _ from ?_);first|(apply Ords.nil;decide +kernel))|(apply S.buildSlice1;(iterate 7 exact rfl))|(apply S.appendO;(iterate 4 exact rfl);exact Abz _ _ _ _ _ _ (by first | exact Ah _ _|(rw [<- List.map_append];exact Ah _ _)) (by first | exact Ah _ _|(rw [<- List.map_append];exact Ah _ _)) rfl;exact rfl;exact rfl;exact rfl;(first | exact hc1 | exact hc2);exact Ae rfl;exact rfl;exact Ah _ _;simp only [List.length_cons, List.length_nil];omega;simp only [List.length_cons, List.length_nil];omega)
    | refine V ?_
    | (refine W2 ?_ ?_ <;> intro hc))
   all_goals (try change Next _ _ _ _ _ _)
   all_goals exact Next.go (k + 2) (by omega) (by omega) CV (by
    show CovH _ _ [_, _, .live (A8 ((stL h c G).take (k + 1 + 1))), .live (A8 ((Av h c).take (k + 1 + 1)))]
    rw [hS1, hS2];exact .live rfl (.live rfl (.live (by rw [<- List.map_append];exact Ag _ _) (.live (by rw [<- List.map_append];exact Ag _ _) .nil))))
 ·have h1 : ¬ (k : Int) < ((Cq h c G c.cues.length).length : Nat) := by omega
  obtain rfl : k = c.cues.length := by omega
  have t1 : (stL h c G).take c.cues.length = stL h c G := List.take_of_length_le (by rw [C0];omega)
  have t2 : (Av h c).take c.cues.length = Av h c := List.take_of_length_le (by rw [Eh];omega)
  rw [t1, t2]
  refine T.sealR 12 2 (rows := (stL h c G).map A3) (Bw _) (by rw [List.length_map, C0]) rfl rfl ?_
  refine T.sealR 13 3 (rows := (Av h c).map A3) (Bw _) (by rw [List.length_map, Eh]) rfl rfl ?_
  by_cases z1 : (ckL h c G).length = 0
  ·have z2 : (((ckL h c G).map ConR.row).length : Int) = 0 := by omega
   by_cases z3 : (chK h c G).length = 0
   ·have z4 : ((chK h c G).length : Int) = 0 := by omega
    rw [decide_eq_true (show acP h c G from ⟨z1, z3⟩)]
    repeat' (first
     | refine W ?_
     | refine Y ?_
     | refine V ?_
     | (refine W2 ?_ ?_ <;> intro hc))
    all_goals rw [decide_eq_true z4]
    all_goals exact D2 rfl rfl rfl
   ·have z4 : ¬ ((chK h c G).length : Int) = 0 := by omega
    rw [decide_eq_false (show ¬ acP h c G from fun q => z3 q.2)]
    repeat' (first
     | refine W ?_
     | refine Y ?_
     | refine V ?_
     | (refine W2 ?_ ?_ <;> intro hc))
    all_goals rw [decide_eq_false z4]
    all_goals exact D2 rfl rfl rfl
  ·have z2 : ¬ (((ckL h c G).map ConR.row).length : Int) = 0 := by omega
   rw [decide_eq_false (show ¬ acP h c G from fun q => z1 q.1)]
   repeat' (first
    | refine W ?_
    | refine Y ?_
    | refine V ?_
    | (refine W2 ?_ ?_ <;> intro hc))
   all_goals rw [decide_eq_false z2]
   all_goals exact D2 rfl rfl rfl
end Go.Proofs.YtocoehahhohpgaaGreat
