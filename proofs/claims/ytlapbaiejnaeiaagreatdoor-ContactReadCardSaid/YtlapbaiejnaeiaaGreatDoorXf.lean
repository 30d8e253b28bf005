/- The example of the chapter of claims: the claim of a house without sets. No conditions but those of each statement. -/
import Derived.Test.YtlapbaiejnaeiaaGreatDoorXc
import Derived.Test.YtlapbaiejnaeiaaGreatDoorPe
import Derived.Test.YtlapbaiejnaeiaaGreatDoorXa
import Derived.Test.YtlapbaiejnaeiaaGreatDoorXd
import Derived.Test.YtlapbaiejnaeiaaGreatDoorXe
set_option linter.unusedSimpArgs false
set_option linter.unusedVariables false
namespace Go.Proofs.YtlapbaiejnaeiaaGreatDoor
open Go Go.RowKit
def houseN : HouseR := ⟨⟨#[104]⟩, 7000, [], []⟩
def sheetN : SheetR := ⟨[], []⟩
theorem Ok : Bx houseN := by
 refine ⟨by decide, by decide, by decide, by decide, ?_, (fun s hs => by cases hs), ?_⟩
 ·simp [houseN, Ld]
 ·simp [houseN]
theorem Jj : houseN.fits := ⟨by decide, by decide, fun s hs => by cases hs⟩
theorem Qq : sheetN.fits := ⟨by decide, by decide, fun s hs => by cases hs⟩
theorem Yr : validP houseN sheetN := by
 refine ⟨Ok, by decide, ?_, ?_⟩
 ·simp [sheetN, S3]
 ·simp [sheetN, Ip]
theorem alN : alE houseN sheetN [] = 0 := by
 have hb : ¬ Jy houseN sheetN := fun ⟨k, hk, _⟩ => absurd hk (Nat.not_lt_zero k)
 unfold alE
 rw [if_pos Yr]
 unfold mdE
 rw [if_neg hb]
 have h0 : D8 houseN { cues := [], apart := [] } 0 = [] := rfl
 simp [stE, sheetN, Cs, Ap, Cq, h0]
theorem Z8 : M2 houseN sheetN [] = 0 := by
 unfold M2 Cr
 rfl
theorem Sg (h : HouseR) (hf : h.fits) (hp : Bx h) (h0 : h.sets = []) : Fn0 Tryz.prog 50 [A4 h.row] (.tup [.sl [], .i 0]) := by
 have hv := Ga h hf
 rw [decide_eq_true hp] at hv
 have h1 : ¬ (0 : Int) < ((h.sets.map SetR.row).length : Nat) := by rw [h0];decide
 skip
 refine Fn0.of Tryz.func50 Tryz.ntmps50 rfl rfl rfl ?_
 simp only [A0]
 repeat' (first
  | refine W ?_
  | refine Y ?_
  | refine V ?_
  | (refine W2 ?_ ?_ <;> intro hc))
 refine T.loopS (fun (_ : Unit) => True) (fun _ => 0) (fun _ => [(17, .i 0), (4, .val (.slice none 0 0)), (16, .i (h.sets.map SetR.row).length)]) (fun _ => []) () trivial CW .nil ?_
 intro _ _
 repeat' (first
  | refine W ?_
  | refine Y ?_|(refine T.nilU 2 rfl ?_;apply T.ret;change B6 _ _ _ _ _)
  | refine V ?_
  | (refine W2 ?_ ?_ <;> intro hc))
 all_goals exact D2 rfl rfl rfl
set_option maxHeartbeats 16000000 in
theorem Rx : Fn0 Tryz.prog 49 [A4 houseN.row, A4 sheetN.row, .sl (([] : List Int).map A1)] (.tup [.sl [], .i 0]) := by
 have ce := X6 houseN sheetN Jj Qq [] (by decide) alN
 rw [Z8] at ce
 have cm := Lc 0 1000 (by decide) (by omega) (by omega) (by decide) (by decide) (by decide)
 have cp := Sg houseN Jj Ok rfl
 change Fn0 _ _ _ (.tup [_, .i 0]) at cm
 have h1 : ¬ (0 : Int) < (([] : List (List Lf)).length : Nat) := by decide
 refine Fn0.of Tryz.func49 Tryz.ntmps49 rfl rfl rfl ?_
 simp only [A0]
 repeat' (first
  | refine W ?_
  | refine Y ?_|(refine S.inline [(8, .ptr 2 0)] Tryz.func74 Tryz.ntmps74 rfl rfl rfl rfl rfl rfl rfl CW rfl ?_;intro vs;simp only [A0, List.cons_append, List.nil_append])
  | refine V ?_
  | (refine W2 ?_ ?_ <;> intro hc))
 refine T.loopS (fun (_ : Unit) => True) (fun _ => 0) (fun _ => [(49, .i 0), (48, .i ([] : List (List Lf)).length), (47, .sl []), (3, .fn (.func 75) [] [.ptr 2 0])]) (fun _ => [.live (houseN.row.map .lf), .live (sheetN.row.map .lf), .live [.val (.slice none 0 0)], .gho [.ptr 2 0] vs]) () trivial CW (.live rfl (.live rfl (.live rfl (.gho rfl .nil)))) ?_
 intro _ _
 repeat' (first
  | refine W ?_
  | refine Y ?_|(apply T.ret;(first | change Vl Tryz.prog Tryz.f74 _ _ _ _ _ _|(dsimp only [Hd, Lk];change Vl Tryz.prog Tryz.f74 _ _ _ _ _ _));refine ⟨.inr rfl, [_], .cons (.tmp rfl) .nil, rfl, ?_⟩;show Reg none _ _ _ _ _ _ _)|(refine T.nilU 6 rfl ?_;apply T.ret;change B6 _ _ _ _ _)
  | refine V ?_
  | (refine W2 ?_ ?_ <;> intro hc))
 all_goals exact D2 rfl rfl rfl
theorem Ry : Fn0 Tryz.prog 20 [A4 houseN.row, A4 sheetN.row, .sl (([] : List Int).map A1)] (.tup [.sl [], .i 0]) := by
 have cc := Rx
 refine Fn0.of Tryz.func20 Tryz.ntmps20 rfl rfl rfl ?_
 simp only [A0]
 repeat' (first
  | refine W ?_
  | refine Y ?_
  | refine V ?_
  | (refine W2 ?_ ?_ <;> intro hc))
 all_goals exact D2 rfl rfl rfl
set_option maxHeartbeats 4000000 in
theorem Ea {α : Type} (l : List α) (R : α -> List Lf) (p : α -> Prop) [DecidablePred p] (g : FuncId) (caps : List AV) (hR : ∀ x, (R x).length = 4) (hl : l.length <= 9223372036854775807) (hcaps : caps.all AV.cap = true) (hg : ∀ x ∈ l, Fn0 Tryz.prog g (.agg ((R x).map .lf) :: caps) (.b (decide (p x)))) :
  Fn0 Tryz.prog 13 [.sl (l.map R), .fn (.func g) [] caps] (.b (decide (∃ x ∈ l, p x))) := by
 refine Fn0.of Tryz.func13 Tryz.ntmps13 rfl rfl rfl ?_
 simp only [A0]
 repeat' (first
  | refine W ?_
  | (apply S.call;exact rfl;exact Gg hcaps;exact K8 l R p g caps hR hl hcaps hg;exact rfl)
  | refine V ?_
  | (refine W2 ?_ ?_ <;> intro hc))
 all_goals exact A3 (by simp) Tryz.results13 rfl (by rw [Fk p l])
def Hg (x : ConR) : Prop := (x.a.size : Int) > 60 \/ (x.b.size : Int) > 60
instance (x : ConR) : Decidable (Hg x) := by unfold Hg;exact inferInstance
theorem Ua (x : ConR) : Fn0 Tryz.prog 29 [A4 x.row] (.b (decide (Hg x))) := by
 refine Fn0.of Tryz.func29 Tryz.ntmps29 rfl rfl rfl ?_
 simp only [A0]
 repeat' (first
  | refine W ?_
  | refine Y ?_
  | refine V ?_
  | (refine W2 ?_ ?_ <;> intro hc))
 all_goals exact A3 (by simp) Tryz.results29 rfl (by simp [Hg, *])
theorem Sa (x : ConR) : Fn0 Tryz.prog 14 [A4 x.row] (.b (decide (¬ A9 x))) := by
 have cr := N4 x
 refine Fn0.of Tryz.func14 Tryz.ntmps14 rfl rfl rfl ?_
 simp only [A0]
 repeat' (first
  | refine W ?_
  | refine Y ?_
  | refine V ?_
  | (refine W2 ?_ ?_ <;> intro hc))
 all_goals exact A3 (by simp) Tryz.results14 rfl (by simp)
def G5 (l : List ConR) : Prop := (30 < l.length /\ l.length <= 1000) \/ 1005 < l.length \/ (l.length <= 30 /\ ∃ x ∈ l, Hg x)
noncomputable instance (l : List ConR) : Decidable (G5 l) := Classical.propDecidable _
theorem Ov (l : List ConR) (hl : l.length <= 9223372036854775807) : Fn0 Tryz.prog 8 [.sl (l.map ConR.row)] (.b (decide (G5 l))) := by
 have hle : (l.map ConR.row).length = l.length := List.length_map _
 have cc := Ea l ConR.row Hg 29 [] (fun _ => rfl) hl rfl fun x _ => Ua x
 by_cases hw : ∃ x ∈ l, Hg x
 ·rw [decide_eq_true hw] at cc
  refine Fn0.of Tryz.func8 Tryz.ntmps8 rfl rfl rfl ?_
  simp only [A0]
  repeat' (first
   | refine W ?_
   | refine Y ?_
   | refine V ?_
   | (refine W2 ?_ ?_ <;> intro hc))
  all_goals exact A3 (by simp) Tryz.results8 rfl (by first|(congr 1;symm;rw [decide_eq_true_iff];unfold G5;simp only [hw, and_true];omega)|(congr 1;symm;rw [decide_eq_false_iff_not];unfold G5;simp only [hw, and_true];omega))
 ·rw [decide_eq_false hw] at cc
  refine Fn0.of Tryz.func8 Tryz.ntmps8 rfl rfl rfl ?_
  simp only [A0]
  repeat' (first
   | refine W ?_
   | refine Y ?_
   | refine V ?_
   | (refine W2 ?_ ?_ <;> intro hc))
  all_goals exact A3 (by simp) Tryz.results8 rfl (by first|(congr 1;symm;rw [decide_eq_true_iff];unfold G5;simp only [hw, and_false, or_false];omega)|(congr 1;symm;rw [decide_eq_false_iff_not];unfold G5;simp only [hw, and_false, or_false];omega))
def Gc : ConR := ⟨⟨#[97]⟩, ⟨#[98]⟩, 2285, 2286⟩
theorem I0 : A9 Gc := ⟨by decide +kernel, by decide +kernel, by decide⟩
theorem Vg : ofL (Aa [Gc]) = ⟨#[97, 32, 98, 32, 50, 50, 56, 53, 32, 50, 50, 56, 54, 10]⟩ := by
 apply Bl
 rw [Aq]
 decide +kernel
theorem tryC_par : Fm (Aa [Gc]) = [Gc] /\ El (Aa [Gc]) = 0 := Gm ⟨rfl, fun x hx => by obtain rfl := List.mem_singleton.1 hx;exact I0, by decide⟩
set_option maxHeartbeats 16000000 in
theorem Mw : Fn0 Tryz.prog 7 [] (.b true) := by
 have ct := Ed [Gc] (by decide) (fun x hx => by obtain rfl := List.mem_singleton.1 hx;exact I0)
 have cp := Fy (Aa [Gc]) (by have := Gw (l := [Gc]) (fun x hx => by obtain rfl := List.mem_singleton.1 hx;exact I0);simp only [List.length_cons, List.length_nil] at this;omega)
 rw [tryC_par.1, tryC_par.2] at cp
 rw [Vg] at ct cp
 have ce := Ha [Gc] [Gc] (by decide) (by decide)
 rw [decide_eq_true rfl] at ce
 have cc := (Ry).nils (args := [A4 houseN.row, A4 sheetN.row, .val (.slice none 0 0)]) rfl
 refine Fn0.of Tryz.func7 Tryz.ntmps7 rfl rfl rfl ?_
 simp only [A0]
 repeat' (first
  | refine W ?_
  | refine Y ?_|(apply S.buildSlice1;(iterate 7 exact rfl))
  | refine V ?_
  | (refine W2 ?_ ?_ <;> intro hc))
 all_goals exact A3 (by simp) Tryz.results7 rfl rfl
theorem Lv (s : ByteArray) (h : 262144 < s.size) : Fn0 Tryz.prog 10 [.s s] (.tup [.sl (([] : List ConR).map ConR.row), .i 4]) := by
 have h0 : (s.size : Int) > 262144 := by omega
 refine Fn0.of Tryz.func10 Tryz.ntmps10 rfl rfl rfl ?_
 simp only [A0]
 repeat' (first
  | refine W ?_
  | refine Y ?_|(refine T.nilU 2 rfl ?_;apply T.ret;change B6 _ _ _ _ _)
  | refine V ?_
  | (refine W2 ?_ ?_ <;> intro hc))
 all_goals exact D2 rfl rfl rfl
theorem M9 (s : ByteArray) (h : 262144 < s.size) : Fn0 Tryz.prog 11 [.s s] (.tup [.sl (([] : List ConR).map ConR.row), .i 4]) := by
 have h0 : (s.size : Int) > 262144 := by omega
 refine Fn0.of Tryz.func11 Tryz.ntmps11 rfl rfl rfl ?_
 simp only [A0]
 repeat' (first
  | refine W ?_
  | refine Y ?_|(refine T.nilU 2 rfl ?_;apply T.ret;change B6 _ _ _ _ _)
  | refine V ?_
  | (refine W2 ?_ ?_ <;> intro hc))
 all_goals exact D2 rfl rfl rfl
theorem Ka (s : ByteArray) : ofL s.data.toList = s := by
 apply Bl
 rw [Aq]
theorem Y4 (s : List UInt8) : (Fm s).length <= 1000 := by
 by_cases h : ∃ l, Ce s l
 ·obtain ⟨l, hg⟩ := h
  rw [(Gm hg).1]
  exact hg.2.2
 ·rw [(Fc h).1]
  exact Nat.zero_le _
theorem Si (s : ByteArray) : ∃ (P : List ConR) (e : Int), P.length <= 1000 /\ Fn0 Tryz.prog 10 [.s s] (.tup [.sl (P.map ConR.row), .i e]) /\ Fn0 Tryz.prog 11 [.s s] (.tup [.sl (P.map ConR.row), .i e]) := by
 by_cases h : 262144 < s.size
 ·exact ⟨[], 4, Nat.zero_le _, Lv s h, M9 s h⟩
 ·have hl : s.data.toList.length <= 262144 := by rw [Array.length_toList];exact Nat.not_lt.1 h
  have h1 := Fy s.data.toList hl
  have h2 := Uq s.data.toList hl
  rw [Ka] at h1 h2
  exact ⟨_, _, Y4 _, h1, h2⟩
set_option maxHeartbeats 32000000 in
theorem K9 (l : List ConR) (hl : l.length <= 9223372036854775807) (s : ByteArray) : Fn0 Tryz.prog 3 [.sl (l.map ConR.row), .s s] (.b true) := by
 have hle : (l.map ConR.row).length = l.length := List.length_map _
 have ca := Mw
 have cw := Ov l hl
 by_cases hw : G5 l
 ·rw [decide_eq_true hw] at cw
  refine Fn0.of Tryz.func3 Tryz.ntmps3 rfl rfl rfl ?_
  simp only [A0]
  repeat' (first
   | refine W ?_
   | refine Y ?_
   | refine V ?_
   | (refine W2 ?_ ?_ <;> intro hc))
  all_goals exact A3 (by simp) Tryz.results3 rfl (by simp)
 rw [decide_eq_false hw] at cw
 by_cases z1 : (s.size : Int) > 262149
 ·have z2 : (s.size : Int) > 2000 := by omega
  have z3 : ¬ (s.size : Int) <= 262144 := by omega
  refine Fn0.of Tryz.func3 Tryz.ntmps3 rfl rfl rfl ?_
  simp only [A0]
  repeat' (first
   | refine W ?_
   | refine Y ?_
   | refine V ?_
   | (refine W2 ?_ ?_ <;> intro hc))
  all_goals exact A3 (by simp) Tryz.results3 rfl (by simp)
 by_cases z2 : (s.size : Int) > 2000 /\ (s.size : Int) <= 262144
 ·obtain ⟨z2, z3⟩ := z2
  refine Fn0.of Tryz.func3 Tryz.ntmps3 rfl rfl rfl ?_
  simp only [A0]
  repeat' (first
   | refine W ?_
   | refine Y ?_
   | refine V ?_
   | (refine W2 ?_ ?_ <;> intro hc))
  all_goals exact A3 (by simp) Tryz.results3 rfl (by simp)
 have zz : (¬ (s.size : Int) > 2000) \/ ((s.size : Int) > 2000 /\ ¬ (s.size : Int) <= 262144) := by omega
 obtain ⟨P, e, hP, cp, cr⟩ := Si s
 have ce := Ha P P (by omega) (by omega)
 rw [decide_eq_true rfl] at ce
 have he : ¬ ¬ e = e := fun k => k rfl
 clear z2 hw
 by_cases hl1 : l.length > 1000
 ·have ct := Nd l hl1
  have g1 : ((l.map ConR.row).length : Int) > 1000 := by omega
  refine Fn0.of Tryz.func3 Tryz.ntmps3 rfl rfl rfl ?_
  simp only [A0]
  rcases zz with z3 | ⟨z3, z4⟩
  all_goals repeat' (first
   | refine W ?_
   | refine Y ?_
   | refine V ?_
   | (refine W2 ?_ ?_ <;> intro hc))
  all_goals exact A3 (by simp) Tryz.results3 rfl (by simp)
 have g1 : ¬ ((l.map ConR.row).length : Int) > 1000 := by omega
 have cc := Ea l ConR.row (fun x => ¬ A9 x) 14 [] (fun _ => rfl) hl rfl fun x _ => Sa x
 by_cases hr : ∀ x ∈ l, A9 x
 ·have ct := Ed l (by omega) hr
  have cq := Ph l (by omega) hr
  rw [decide_eq_false (fun ⟨x, hx, k⟩ => k (hr x hx))] at cc
  refine Fn0.of Tryz.func3 Tryz.ntmps3 rfl rfl rfl ?_
  simp only [A0]
  rcases zz with z3 | ⟨z3, z4⟩
  all_goals repeat' (first
   | refine W ?_
   | refine Y ?_
   | refine V ?_
   | (refine W2 ?_ ?_ <;> intro hc))
  all_goals exact A3 (by simp) Tryz.results3 rfl (by simp)
 ·have ct := I9 l (by omega) hr
  have hx : ∃ x ∈ l, ¬ A9 x := by
   refine Classical.byContradiction fun k => hr fun x hx => Classical.byContradiction fun k2 => k ⟨x, hx, k2⟩
  rw [decide_eq_true hx] at cc
  refine Fn0.of Tryz.func3 Tryz.ntmps3 rfl rfl rfl ?_
  simp only [A0]
  rcases zz with z3 | ⟨z3, z4⟩
  all_goals repeat' (first
   | refine W ?_
   | refine Y ?_
   | refine V ?_
   | (refine W2 ?_ ?_ <;> intro hc))
  all_goals exact A3 (by simp) Tryz.results3 rfl (by simp)
theorem Wv {s : List UInt8} (h : El s = 0) : Ce s (Fm s) := by
 by_cases hg : ∃ l, Ce s l
 ·obtain ⟨l, hg⟩ := hg
  rw [(Gm hg).1]
  exact hg
 ·rw [(Fc hg).2] at h
  exact absurd h (by decide)
theorem Sh (s : List UInt8) : El s = 0 \/ El s = 7 := by
 unfold El
 split
 ·exact .inl rfl
 ·exact .inr rfl
theorem T0 {l : List ConR} (h : ∀ x ∈ l, A9 x) : (Aa l).count 10 = l.length := by
 unfold Aa
 rw [Jd, List.length_map]
 intro ws hws w hw
 obtain ⟨x, hx, rfl⟩ := List.mem_map.1 hws
 exact Gx (h x hx) (.inr rfl) _ (List.mem_map.2 ⟨w, hw, rfl⟩)
theorem Xa (l : List ConR) (k : Nat) : ofL (Aa (l.take k)) ++ ofL (Aa (l.drop k)) = ofL (Aa l) := by
 apply Bl
 rw [Cx, Aq, Aq, Aq, <- Fq, List.take_append_drop]
set_option maxHeartbeats 32000000 in
theorem L0 (l : List ConR) (hl : l.length <= 9223372036854775807) (s : ByteArray) (c : Int) (c0 : 0 <= c) (c1 : c <= 255) : Fn0 Tryz.prog 4 [.sl (l.map ConR.row), .s s, .val (.int .u8 c)] (.b true) := by
 have hle : (l.map ConR.row).length = l.length := List.length_map _
 have ca := Mw
 by_cases h30 : l.length > 30
 ·have g0 : ((l.map ConR.row).length : Int) > 30 := by omega
  refine Fn0.of Tryz.func4 Tryz.ntmps4 rfl rfl rfl ?_
  simp only [A0]
  repeat' (first
   | refine W ?_
   | refine Y ?_
   | refine V ?_
   | (refine W2 ?_ ?_ <;> intro hc))
  all_goals exact A3 (by simp) Tryz.results4 rfl (by simp)
 have g0 : ¬ ((l.map ConR.row).length : Int) > 30 := by omega
 have cw := Ov l hl
 by_cases hw : G5 l
 ·rw [decide_eq_true hw] at cw
  refine Fn0.of Tryz.func4 Tryz.ntmps4 rfl rfl rfl ?_
  simp only [A0]
  repeat' (first
   | refine W ?_
   | refine Y ?_
   | refine V ?_
   | (refine W2 ?_ ?_ <;> intro hc))
  all_goals exact A3 (by simp) Tryz.results4 rfl (by simp)
 rw [decide_eq_false hw] at cw
 by_cases hs : (s.size : Int) > 2000
 ·skip
  refine Fn0.of Tryz.func4 Tryz.ntmps4 rfl rfl rfl ?_
  simp only [A0]
  repeat' (first
   | refine W ?_
   | refine Y ?_
   | refine V ?_
   | (refine W2 ?_ ?_ <;> intro hc))
  all_goals exact A3 (by simp) Tryz.results4 rfl (by simp)
 have hsl : s.data.toList.length <= 262144 := by
  have : s.data.toList.length = s.size := by rw [Array.length_toList];rfl
  omega
 have cp := Fy s.data.toList hsl
 rw [Ka] at cp
 have hq : ∃ (P : List ConR) (e : Int), Fn0 Tryz.prog 10 [.s s] (.tup [.sl (P.map ConR.row), .i e]) /\ ((e = 0 /\ Fn0 Tryz.prog 9 [.sl (P.map ConR.row)] (.tup [.s s, .i 0])) \/ e = 7) := by
  refine ⟨_, _, cp, ?_⟩
  rcases Sh s.data.toList with hp | hp
  ·have hg := Wv hp
   have ct := Ed _ hg.2.2 hg.2.1
   rw [<- hg.1, Ka] at ct
   exact .inl ⟨hp, ct⟩
  ·exact .inr hp
 clear cp hw
 have z0 : ¬ ¬ (0 : Int) = 0 := fun k => k rfl
 have zs : ¬ ¬ s = s := fun k => k rfl
 by_cases hr : ∀ x ∈ l, A9 x
 ·have ht := Ed l (by omega) hr
  have hz := Gw hr
  have hp := Fy (Aa l) (by omega)
  obtain ⟨p1, p2⟩ := Gm (s := Aa l) (l := l) ⟨rfl, hr, by omega⟩
  rw [p1, p2] at hp
  have ce := Ha l l (by omega) (by omega)
  rw [decide_eq_true rfl] at ce
  have cn := V7 (ofL (Aa l)) 10
  rw [Aq, Lib.countByte, T0 hr] at cn
  have zn : ¬ ¬ ((l.length : Nat) : Int) = ((l.map ConR.row).length : Nat) := by omega
  have zw : IntKind.i64.wrap c = c := wrap_i64 (by omega) (by omega)
  have k0 : 0 <= c % (((l.map ConR.row).length : Nat) + 1 : Int) := Int.emod_nonneg _ (by omega)
  have k1 : c % (((l.map ConR.row).length : Nat) + 1 : Int) < ((l.map ConR.row).length : Nat) + 1 := Int.emod_lt_of_pos _ (by omega)
  generalize hk : c % (((l.map ConR.row).length : Nat) + 1 : Int) = k at k0 k1
  have t1 := Ed (l.take k.toNat) (by rw [List.length_take];omega) (fun x hx => hr x (List.mem_of_mem_take hx))
  have t2 := Ed (l.drop k.toNat) (by rw [List.length_drop];omega) (fun x hx => hr x (List.mem_of_mem_drop hx))
  rw [List.map_take] at t1
  rw [List.map_drop] at t2
  have zt := Xa l k.toNat
  have y1 : (ofL (Aa (l.take k.toNat))).size <= 100000 := by
   have := Gw (l := l.take k.toNat) (fun x hx => hr x (List.mem_of_mem_take hx))
   rw [List.length_take] at this
   rw [Bs];omega
  have y2 : (ofL (Aa (l.drop k.toNat))).size <= 100000 := by
   have := Gw (l := l.drop k.toNat) (fun x hx => hr x (List.mem_of_mem_drop hx))
   rw [List.length_drop] at this
   rw [Bs];omega
  clear p1 p2 hz
  refine Fn0.of Tryz.func4 Tryz.ntmps4 rfl rfl rfl ?_
  simp only [A0]
  obtain ⟨P, e, cp, ⟨rfl, ct⟩ | rfl⟩ := hq
  all_goals repeat' (first
   | refine W ?_
   | refine Y ?_|(apply S.conv;exact rfl;exact zw;exact rfl)|(apply S.rem;exact rfl;exact rfl;exact rfl;omega;(try rw [hk]))|(apply S.sliceTo;exact rfl;exact rfl;exact rfl;omega;(intro row hr;obtain ⟨z, _, rfl⟩ := List.mem_map.1 hr;rfl))|(apply S.sliceFrom;exact rfl;exact rfl;exact rfl;omega;(intro row hr;obtain ⟨z, _, rfl⟩ := List.mem_map.1 hr;rfl))|(apply S.strAdd;exact rfl;exact rfl;exact rfl;omega)
   | refine V ?_
   | (refine W2 ?_ ?_ <;> intro hc))
  all_goals exact A3 (by simp) Tryz.results4 rfl (by simp [zt])
 ·have ht := I9 l (by omega) hr
  refine Fn0.of Tryz.func4 Tryz.ntmps4 rfl rfl rfl ?_
  simp only [A0]
  obtain ⟨P, e, cp, ⟨rfl, ct⟩ | rfl⟩ := hq
  all_goals repeat' (first
   | refine W ?_
   | refine Y ?_
   | refine V ?_
   | (refine W2 ?_ ?_ <;> intro hc))
  all_goals exact A3 (by simp) Tryz.results4 rfl (by simp)
end Go.Proofs.YtlapbaiejnaeiaaGreatDoor
