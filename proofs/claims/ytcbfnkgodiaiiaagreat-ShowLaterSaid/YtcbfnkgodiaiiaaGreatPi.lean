/- Contracts: lists of contacts;the law's example, awake, large. No conditions but those of each statement. -/
import Derived.Test.YtcbfnkgodiaiiaaGreatPa
import Derived.Test.YtcbfnkgodiaiiaaGreatPh
import Derived.Test.YtcbfnkgodiaiiaaGreatOs
set_option linter.unusedSimpArgs false
set_option linter.unusedVariables false
namespace Go.Proofs.YtcbfnkgodiaiiaaGreat
open Go Go.RowKit
theorem Uq (x y : ConR) : eqC x.a x.b x.lo x.hi y.a y.b y.lo y.hi ↔ x = y := by
 obtain ⟨a, b, u, v⟩ := x
 obtain ⟨a', b', u', v'⟩ := y
 simp [eqC]
instance : DecidableEq ConR := fun x y => decidable_of_iff _ (Uq x y)
set_option maxHeartbeats 8000000 in
theorem A3r (a b : List ConR) (ha : a.length <= 1000000) (hb : b.length <= 1000000) : Fn0 Tryz.prog 15 [.sl (a.map ConR.row), .sl (b.map ConR.row)] (.b (decide (a = b))) := by
 have hla : (a.map ConR.row).length = a.length := List.length_map _
 have hlb : (b.map ConR.row).length = b.length := List.length_map _
 by_cases hl : a.length = b.length
 ·have hl1 : ((a.map ConR.row).length : Int) = ((b.map ConR.row).length : Nat) := by omega
  refine Fn0.of Tryz.func15 Tryz.ntmps15 rfl rfl rfl ?_
  simp only [A2]
  repeat' (first
   | refine W ?_

   | refine V ?_
   | (refine W2 ?_ ?_ <;> intro hc))
  refine T.loopS (fun k => k <= a.length /\ a.take k = b.take k) (fun k => a.length - k) (fun k => [(13, .i k), (12, .i (a.map ConR.row).length), (0, .sl (a.map ConR.row)), (1, .sl (b.map ConR.row))]) (fun _ => []) 0 ⟨Nat.zero_le _, rfl⟩ CW .nil ?_
  rintro k ⟨hk, heq⟩
  by_cases hlt : k < a.length
  ·have h1 : (k : Int) < ((a.map ConR.row).length : Nat) := by omega
   obtain ⟨x, hx⟩ := A9 hlt
   obtain ⟨y, hy⟩ := A9 (l := b) (k := k) (by omega)
   have hbx := Ac (R := ConR.row) hx
   have hby := Ac (R := ConR.row) hy
   by_cases e : eqC x.a x.b x.lo x.hi y.a y.b y.lo y.hi
   ·repeat' (first
    | refine W ?_
    | (apply T.drawAll A0 (by decide +kernel)) | refine Y ?_|(apply S.eqCon rfl;exact rfl;exact rfl;exact rfl)|(apply S.neCon rfl;exact rfl;exact rfl;exact rfl)
    | refine V ?_
    | (refine W2 ?_ ?_ <;> intro hc))
    all_goals (try change Next _ _ _ _ _ _)
    all_goals exact Next.go (k + 1) ⟨by omega, Xa heq hx hy ((Uq x y).1 e)⟩ (by omega) CW .nil
   ·repeat' (first
    | refine W ?_
    | (apply T.drawAll A0 (by decide +kernel)) | refine Y ?_|(apply S.eqCon rfl;exact rfl;exact rfl;exact rfl)|(apply S.neCon rfl;exact rfl;exact rfl;exact rfl)
    | refine V ?_
    | (refine W2 ?_ ?_ <;> intro hc))
    all_goals exact A5 (by simp) Tryz.results15 rfl (congrArg Value.bool (decide_eq_false fun k => by subst k;rw [hx] at hy;injection hy with hy;exact e ((Uq x y).2 hy)).symm)
  ·have h1 : ¬ (k : Int) < ((a.map ConR.row).length : Nat) := by omega
   rw [List.take_of_length_le (by omega), List.take_of_length_le (by omega)] at heq
   repeat' (first
    | refine W ?_

    | refine V ?_
    | (refine W2 ?_ ?_ <;> intro hc))
   exact A5 (by simp) Tryz.results15 rfl (congrArg Value.bool (decide_eq_true heq).symm)
 ·have hl1 : ¬ ((a.map ConR.row).length : Int) = ((b.map ConR.row).length : Nat) := by omega
  refine Fn0.of Tryz.func15 Tryz.ntmps15 rfl rfl rfl ?_
  simp only [A2]
  repeat' (first
   | refine W ?_

   | refine V ?_
   | (refine W2 ?_ ?_ <;> intro hc))
  all_goals exact A5 (by simp) Tryz.results15 rfl (congrArg Value.bool (decide_eq_false fun e => hl (by rw [e])).symm)
/-! ### The example -/
abbrev sxS (n : ByteArray) (high hang : Int) : SetR := ⟨n, 0, 0, high, 4000, [0, 4000], 0, 0, 1, 1, 0, [⟨⟨#[120]⟩, 0, 4000, 0, hang, 10, 10⟩], []⟩
abbrev sxH (hang high : Int) : HouseR := ⟨⟨#[104]⟩, 9000, [sxS ⟨#[97]⟩ 5000 hang, sxS ⟨#[98]⟩ high 0], []⟩
abbrev sxC : SheetR := ⟨[], []⟩
theorem sx_sets : De (sxS ⟨#[97]⟩ 5000 1000) /\ De (sxS ⟨#[98]⟩ 4500 0) /\ De (sxS ⟨#[98]⟩ 4000 0) /\ De (sxS ⟨#[98]⟩ 4001 0) := by
 refine ⟨?_, ?_, ?_, ?_⟩
 all_goals
  refine ⟨by decide +kernel, by decide, by decide, by decide, by decide, by decide, by decide, ?_, by decide, by decide, by decide, by decide, by decide, ?_, ?_⟩
  ·exact ⟨by decide, by decide, by decide⟩
  ·refine ⟨by decide, by decide, fun x hx => ?_, by simp⟩
   simp only [List.mem_cons, List.not_mem_nil, or_false] at hx
   subst hx
   exact ⟨⟨by decide +kernel, by decide, by decide, by decide, by decide⟩, by decide, by decide, by decide⟩
  ·exact ⟨by decide, by decide, by simp, by decide⟩
theorem sx_houses : C8 (sxH 1000 4500) /\ C8 (sxH 1000 4000) /\ C8 (sxH 1000 4001) := by
 refine ⟨?_, ?_, ?_⟩
 all_goals
  refine ⟨by decide +kernel, by decide, by decide, by decide, ⟨by decide, by simp, by decide⟩, ?_, by decide +kernel⟩
  intro s hs
  simp only [List.mem_cons, List.not_mem_nil, or_false] at hs
  rcases hs with rfl | rfl
  ·exact ⟨sx_sets.1, by decide⟩
  ·exact ⟨by first | exact sx_sets.2.1 | exact sx_sets.2.2.1 | exact sx_sets.2.2.2, by decide⟩
theorem K3 {h : HouseR} (hp : C8 h) : validP h sxC := ⟨hp, by decide, fun i q h => by simp at h, by decide, fun i p h => by simp at h⟩
theorem Acb {h : HouseR} (v : validP h sxC) : PlanOk h sxC [] := ⟨v, fun ⟨k, hk, _⟩ => by simp at hk, rfl, fun ⟨x, hx, _⟩ => by simp [F1] at hx, fun ⟨x, hx, _⟩ => by simp at hx⟩
theorem Wl {h : HouseR} (v : validP h sxC) : alE h sxC [] = 0 := by
 unfold alE
 rw [if_pos v]
 exact (Acb v).zero
theorem Tv (hang high : Int) : (sxH hang high).fits := ⟨Nat.le_of_ble_eq_true rfl, Nat.le_of_ble_eq_true rfl, fun s hs => by
 simp only [List.mem_cons, List.not_mem_nil, or_false] at hs
 rcases hs with rfl | rfl <;> exact ⟨Nat.le_of_ble_eq_true rfl, Nat.le_of_ble_eq_true rfl, Nat.le_of_ble_eq_true rfl⟩⟩
theorem Kg : sxC.fits := ⟨by decide, by decide, fun q hq => by simp at hq⟩
theorem A7i {h : HouseR} {n : ByteArray} {s : SetR} (hs : Gn h n = some s) : Bj h sxC [] n = 0 /\ B8 h sxC [] n = [⟨0, (s.high : Rat), 0, 0⟩] := by
 have ho : Ig sxC (stL h sxC []) (Br h sxC) := fun i q hq => by simp at hq
 have hb : ¬ U8 h sxC (stL h sxC []) (Du h n) s := fun ⟨i, hi, _⟩ => by simp at hi
 unfold Bj B8
 rw [hs]
 refine ⟨?_, rfl⟩
 show (if Ig sxC (stL h sxC []) (Br h sxC) then Fh h sxC (stL h sxC []) (Du h n) s else 13) = 0
 rw [if_pos ho]
 unfold Fh
 rw [if_neg hb]
 rfl
theorem Z9 (p : PcQ) : Ah [p] := fun i hi => by simp at hi
abbrev sxP : ByteArray × ByteArray := (⟨#[97]⟩, ⟨#[98]⟩)
theorem A2x (hang high : Int) : ctR (sxH hang high) sxC [] sxP = pr3 (Ee (sxS ⟨#[97]⟩ 5000 hang) (sxS ⟨#[98]⟩ high 0) [⟨0, ((5000 : Int) : Rat), 0, 0⟩] [⟨0, (high : Rat), 0, 0⟩] (Ds (sxH hang high) sxC [])) := by
 have h1 : Gn (sxH hang high) sxP.1 = some (sxS ⟨#[97]⟩ 5000 hang) := rfl
 have h2 : Gn (sxH hang high) sxP.2 = some (sxS ⟨#[98]⟩ high 0) := rfl
 obtain ⟨a1, a2⟩ := A7i h1
 obtain ⟨b1, b2⟩ := A7i h2
 unfold ctR
 rw [h1, h2]
 dsimp only
 rw [if_pos a1, if_pos b1, a2, b2]
 unfold frT
 rw [if_pos ⟨Z9 _, Z9 _⟩]
theorem Ww (hang high : Int) (hn : Da (sxS ⟨#[97]⟩ 5000 hang) (sxS ⟨#[98]⟩ high 0)) : Cz (sxH hang high) = [sxP] := by
 show Cu [sxS ⟨#[97]⟩ 5000 hang, sxS ⟨#[98]⟩ high 0] 2 = [sxP]
 simp [Cu, Ao, hn]
theorem sx_con1 : ckE (sxH 1000 4500) sxC [] = 0 /\ ckL (sxH 1000 4500) sxC [] = [⟨⟨#[97]⟩, ⟨#[98]⟩, 0, 0⟩] := by
 have v := K3 sx_houses.1
 have hp := Ww 1000 4500 (by decide +kernel)
 have hc : ctR (sxH 1000 4500) sxC [] sxP = (0, 0, 0) := by rw [A2x];decide +kernel
 have he : F2 (sxH 1000 4500) sxC [] (Cz (sxH 1000 4500)) = 0 := M8 fun q hq => by
  rw [hp] at hq
  obtain rfl := List.mem_singleton.1 hq
  unfold Bp;rw [hc];exact .inl rfl
 have e0 : ckE (sxH 1000 4500) sxC [] = 0 := by unfold ckE;rw [if_pos (Wl v)];exact he
 refine ⟨e0, ?_⟩
 rw [(Kx e0).2, hp]
 unfold D5
 simp [Hu, hc]
theorem sx_con2 : ckE (sxH 1000 4000) sxC [] = 0 /\ ckL (sxH 1000 4000) sxC [] = [] := by
 have v := K3 sx_houses.2.1
 have hp := Ww 1000 4000 (by decide +kernel)
 have hc : ctR (sxH 1000 4000) sxC [] sxP = (0, 0, 12) := by rw [A2x];decide +kernel
 have he : F2 (sxH 1000 4000) sxC [] (Cz (sxH 1000 4000)) = 0 := M8 fun q hq => by
  rw [hp] at hq
  obtain rfl := List.mem_singleton.1 hq
  unfold Bp;rw [hc];exact .inr rfl
 have e0 : ckE (sxH 1000 4000) sxC [] = 0 := by unfold ckE;rw [if_pos (Wl v)];exact he
 refine ⟨e0, ?_⟩
 rw [(Kx e0).2, hp]
 unfold D5
 simp [Hu, hc]
theorem sx_con3 : ckE (sxH 1000 4001) sxC [] = 0 /\ (ckL (sxH 1000 4001) sxC []).length = 1 := by
 have v := K3 sx_houses.2.2
 have hp := Ww 1000 4001 (by decide +kernel)
 have hc : ctR (sxH 1000 4001) sxC [] sxP = (0, 0, 0) := by rw [A2x];decide +kernel
 have he : F2 (sxH 1000 4001) sxC [] (Cz (sxH 1000 4001)) = 0 := M8 fun q hq => by
  rw [hp] at hq
  obtain rfl := List.mem_singleton.1 hq
  unfold Bp;rw [hc];exact .inl rfl
 have e0 : ckE (sxH 1000 4001) sxC [] = 0 := by unfold ckE;rw [if_pos (Wl v)];exact he
 refine ⟨e0, ?_⟩
 rw [(Kx e0).2, hp]
 unfold D5
 simp [Hu, hc]
theorem Fn0.nil3 {P : Program} {f : FuncId} {a b r : AV} (h : Fn0 P f [a, b, .sl []] r) : Fn0 P f [a, b, .val (.slice none 0 0)] r := ⟨h.ent, fun L w vs hG hL hl hv => h.run L w vs hG hL hl fun i x v hx hu => by
 match i, hx with
 | 0, hx => exact hv 0 x v hx hu
 | 1, hx => exact hv 1 x v hx hu
 | 2, hx =>
  simp only [List.getElem?_cons_succ, List.getElem?_cons_zero, Option.some.injEq] at hx
  subst hx
  have := (hv 2 _ v rfl hu).val_eq
  subst this
  exact .lf _ _ .slnil
 | i + 3, hx => simp at hx⟩
def Og (n : Int) : Prop := n < 0 \/ n > 1099511627776
instance (n : Int) : Decidable (Og n) := by unfold Og;exact inferInstance
theorem A0h (n : Int) : Fn0 Tryz.prog 68 [.i n] (.b (decide (Og n))) := by
 refine Fn0.of Tryz.func68 Tryz.ntmps68 rfl rfl rfl ?_
 simp only [A2]
 repeat' (first
  | refine W ?_

  | refine V ?_
  | (refine W2 ?_ ?_ <;> intro hc))
 all_goals exact A5 (by simp) Tryz.results68 rfl (by simp [Og, *])
theorem Yr (h : HouseR) (v : validP h sxC) : Fn0 Tryz.prog 38 [A1 sxC.row, .sl [], .sl []] (.tup [.sl [], .i 0]) := by
 have cl := Oz h sxC v Kg
 have cw := Ib [] Og 68 (by simp) A0h
 rw [decide_eq_false (by simp)] at cw
 change Fn0 _ _ [.sl [], _] _ at cw
 have n1 : ¬ ¬ ((([] : List (List Lf)).length : Nat) : Int) = ((([] : List CueR).map CueR.row).length : Nat) := fun k => k rfl
 refine Fn0.of Tryz.func38 Tryz.ntmps38 rfl rfl rfl ?_
 simp only [A2]
 repeat' (first
  | refine W ?_
  | refine Y ?_
  | refine V ?_
  | (refine W2 ?_ ?_ <;> intro hc))
 refine T.loopS (fun k : Nat => k = 0) (fun _ => 0) (fun _ => [(46, .i 0), (45, .i 0), (44, .sl []), (9, .val (.slice none 0 0))]) (fun _ => [.live (sxC.row.map .lf)]) 0 rfl CW CG ?_
 intro k hk
 subst hk
 have h1 : ¬ (0 : Int) < 0 := by decide
 repeat' (first
  | refine W ?_
  | refine Y ?_|(refine T.nilU 6 rfl ?_;apply T.ret;change C7 _ _ _ _ _)
  | refine V ?_
  | (refine W2 ?_ ?_ <;> intro hc))
 all_goals exact D2 rfl rfl rfl
theorem Lm (h : HouseR) (hf : h.fits) (v : validP h sxC) (e : ckE h sxC [] = 0) : Fn0 Tryz.prog 16 [A1 h.row, A1 sxC.row, .sl []] (.tup [.b (decide ((ckL h sxC []).length = 0)), .i 0]) := by
 have ck := Iz h sxC hf Kg [] (by simp)
 rw [e] at ck
 have a0 := Wl v
 have cb := A36 h sxC hf Kg [] (by simp) a0
 have ce := A8e h sxC hf Kg [] (by simp) a0 trivial
 have cc := Yr h v
 change Fn0 _ _ [_, _, .sl []] _ at ck
 change Fn0 _ _ [_, _, .sl []] (.tup [.sl [], _]) at cb
 change Fn0 _ _ [_, _, .sl []] (.tup [.sl [], _]) at ce
 have hle : ((ckL h sxC []).map ConR.row).length = (ckL h sxC []).length := List.length_map _
 generalize ckL h sxC [] = LL at *
 by_cases hz : LL.length = 0
 case' pos =>
  have hz2 : ((LL.map ConR.row).length : Int) = 0 := by omega
  have hz3 : ((([] : List (List Lf)).length : Nat) : Int) = 0 := rfl
  rw [decide_eq_true hz]
 case' neg =>
  have hz2 : ¬ ((LL.map ConR.row).length : Int) = 0 := by omega
  rw [decide_eq_false hz]
 all_goals
  refine Fn0.of Tryz.func16 Tryz.ntmps16 rfl rfl rfl ?_
  simp only [A2]
  repeat' (first
   | refine W ?_
   | refine Y ?_
   | refine V ?_
   | (refine W2 ?_ ?_ <;> intro hc))
  refine T.loopS (fun k : Nat => k = 0) (fun _ => 0) (fun _ => [(49, .i 0), (48, .i 0), (47, .sl []), (12, .val (.slice none 0 0)), (13, .val (.slice none 0 0)), (4, .ptr 1 0), (8, .sl (LL.map ConR.row))]) (fun _ => [.live (h.row.map .lf), .live (sxC.row.map .lf)]) 0 rfl CW CG ?_
  intro k hk
  subst hk
  refine T.nilU 12 rfl ?_
  refine T.nilU 13 rfl ?_
  have h1 : ¬ (0 : Int) < 0 := by decide
  repeat' (first
   | refine W ?_
   | refine Y ?_
   | refine V ?_
   | (refine W2 ?_ ?_ <;> intro hc))
  all_goals exact D2 rfl rfl rfl
theorem Qw (n : ByteArray) (high hang : Int) : Fn0 Tryz.prog 46 [.s n, .i high, .i hang] (A1 (sxS n high hang).row) := by
 refine Fn0.of Tryz.func46 Tryz.ntmps46 rfl rfl rfl ?_
 simp only [A2]
 repeat' (first
  | refine W ?_
  | (apply S.buildSliceF;(iterate 8 exact rfl)) | refine Y ?_
  | refine V ?_
  | (refine W2 ?_ ?_ <;> intro hc))
 all_goals exact ⟨.inr rfl, [A1 (sxS n high hang).row], .cons (Res.row (sxS n high hang).row rfl rfl rfl rfl rfl) .nil, .one (.agg (show OutL _ _ ((sxS n high hang).row.map .lf) from A7 (sxS n high hang).row))⟩
theorem Nk (hang high : Int) : Fn0 Tryz.prog 20 [.i hang, .i high] (A1 (sxH hang high).row) := by
 have c1 := Qw ⟨#[97]⟩ 5000 hang
 have c2 := Qw ⟨#[98]⟩ high 0
 refine Fn0.of Tryz.func20 Tryz.ntmps20 rfl rfl rfl ?_
 simp only [A2]
 repeat' (first
  | refine W ?_
  | (apply S.buildSliceF;(iterate 8 exact rfl)) | refine Y ?_|(apply S.callF;exact rfl;exact rfl;(first | exact c1 | exact c2);exact rfl;exact rfl)
  | refine V ?_
  | (refine W2 ?_ ?_ <;> intro hc))
 all_goals exact ⟨.inr rfl, [A1 (sxH hang high).row], .cons (Res.row (sxH hang high).row rfl rfl rfl rfl rfl) .nil, .one (.agg (show OutL _ _ ((sxH hang high).row.map .lf) from A7 (sxH hang high).row))⟩
set_option maxHeartbeats 8000000 in
theorem A63 : Fn0 Tryz.prog 6 [] (.b true) := by
 have x1 := Nk 1000 4500
 have x2 := Nk 1000 4000
 have x3 := Nk 1000 4001
 have k1 := Fn0.nil3 (Iz (sxH 1000 4500) sxC (Tv _ _) Kg [] (by simp))
 rw [sx_con1.1, sx_con1.2] at k1
 have k2 := Fn0.nil3 (Lm (sxH 1000 4000) (Tv _ _) (K3 sx_houses.2.1) sx_con2.1)
 rw [sx_con2.2, decide_eq_true (by rfl)] at k2
 have k3 := Fn0.nil3 (Lm (sxH 1000 4001) (Tv _ _) (K3 sx_houses.2.2) sx_con3.1)
 rw [sx_con3.2, decide_eq_false (by decide)] at k3
 have q1 := A3r [⟨⟨#[97]⟩, ⟨#[98]⟩, 0, 0⟩] [⟨⟨#[97]⟩, ⟨#[98]⟩, 0, 0⟩] (by simp) (by simp)
 rw [decide_eq_true rfl] at q1
 refine Fn0.of Tryz.func6 Tryz.ntmps6 rfl rfl rfl ?_
 simp only [A2]
 repeat' (first
  | refine W ?_
  | (apply S.buildSliceF;(iterate 8 exact rfl)) | refine Y ?_
  | refine V ?_
  | (refine W2 ?_ ?_ <;> intro hc))
 all_goals exact A5 (by simp) Tryz.results6 rfl rfl
def Jx (h : HouseR) (c : SheetR) (G : List Int) : Prop := ¬ (S0 h 4 /\ Sh c 6 /\ G.length <= 100)
noncomputable instance (h : HouseR) (c : SheetR) (G : List Int) : Decidable (Jx h c G) := Classical.propDecidable _
theorem A77 (h : HouseR) (c : SheetR) (hf : h.fits) (hc : c.fits) (G : List Int) : Fn0 Tryz.prog 7 [A1 h.row, A1 c.row, .sl (G.map A3)] (.b (decide (Jx h c G))) := by
 have c1 := A6z h 4 (by decide) hf
 have c2 := A6h c 6 (by decide) hc
 have hle : (G.map A3).length = G.length := List.length_map _
 by_cases h1 : S0 h 4
 ·rw [decide_eq_true h1] at c1
  by_cases h2 : Sh c 6
  ·rw [decide_eq_true h2] at c2
   by_cases h3 : ((G.map A3).length : Int) > 100
   ·rw [decide_eq_true (show Jx h c G from fun k => by have := k.2.2;omega)]
    refine Fn0.of Tryz.func7 Tryz.ntmps7 rfl rfl rfl ?_
    simp only [A2]
    repeat' (first
     | refine W ?_
     | refine Y ?_
     | refine V ?_
     | (refine W2 ?_ ?_ <;> intro hc))
    all_goals exact A5 (by simp) Tryz.results7 rfl (congrArg Value.bool (decide_eq_true h3))
   ·rw [decide_eq_false (show ¬ Jx h c G from fun k => k ⟨h1, h2, by omega⟩)]
    refine Fn0.of Tryz.func7 Tryz.ntmps7 rfl rfl rfl ?_
    simp only [A2]
    repeat' (first
     | refine W ?_
     | refine Y ?_
     | refine V ?_
     | (refine W2 ?_ ?_ <;> intro hc))
    all_goals exact A5 (by simp) Tryz.results7 rfl (congrArg Value.bool (decide_eq_false h3))
  ·rw [decide_eq_false h2] at c2
   rw [decide_eq_true (show Jx h c G from fun k => h2 k.2.1)]
   refine Fn0.of Tryz.func7 Tryz.ntmps7 rfl rfl rfl ?_
   simp only [A2]
   repeat' (first
    | refine W ?_
    | refine Y ?_
    | refine V ?_
    | (refine W2 ?_ ?_ <;> intro hc))
   all_goals exact A5 (by simp) Tryz.results7 rfl rfl
 ·rw [decide_eq_false h1] at c1
  rw [decide_eq_true (show Jx h c G from fun k => h1 k.1)]
  refine Fn0.of Tryz.func7 Tryz.ntmps7 rfl rfl rfl ?_
  simp only [A2]
  repeat' (first
   | refine W ?_
   | refine Y ?_
   | refine V ?_
   | (refine W2 ?_ ?_ <;> intro hc))
  all_goals exact A5 (by simp) Tryz.results7 rfl rfl
end Go.Proofs.YtcbfnkgodiaiiaaGreat
