/- Contracts: lists of contacts;the law's example, awake, large. No conditions but those of each statement. -/
import Derived.Test.YtbceahipbdmocaaGreatPa
import Derived.Test.YtbceahipbdmocaaGreatPh
import Derived.Test.YtbceahipbdmocaaGreatOs
set_option linter.unusedSimpArgs false
set_option linter.unusedVariables false
namespace Go.Proofs.YtbceahipbdmocaaGreat
open Go Go.RowKit
theorem La (x y : ConR) : eqC x.a x.b x.lo x.hi y.a y.b y.lo y.hi ↔ x = y := by
 obtain ⟨a, b, u, v⟩ := x
 obtain ⟨a', b', u', v'⟩ := y
 simp [eqC]
instance : DecidableEq ConR := fun x y => decidable_of_iff _ (La x y)
set_option maxHeartbeats 8000000 in
theorem A1z (a b : List ConR) (ha : a.length <= 1000000) (hb : b.length <= 1000000) : Fn0 Tryz.prog 26 [.sl (a.map ConR.row), .sl (b.map ConR.row)] (.b (decide (a = b))) := by
 have hla : (a.map ConR.row).length = a.length := List.length_map _
 have hlb : (b.map ConR.row).length = b.length := List.length_map _
 by_cases hl : a.length = b.length
 ·have hl1 : ((a.map ConR.row).length : Int) = ((b.map ConR.row).length : Nat) := by omega
  refine Fn0.of Tryz.func26 Tryz.ntmps26 rfl rfl rfl ?_
  simp only [A1]
  repeat' (first
   | refine W ?_

   | refine V ?_
   | (refine W2 ?_ ?_ <;> intro hc))
  refine T.loopS (fun k => k <= a.length /\ a.take k = b.take k) (fun k => a.length - k) (fun k => [(13, .i k), (12, .i (a.map ConR.row).length), (0, .sl (a.map ConR.row)), (1, .sl (b.map ConR.row))]) (fun _ => []) 0 ⟨Nat.zero_le _, rfl⟩ CW .nil ?_
  rintro k ⟨hk, heq⟩
  by_cases hlt : k < a.length
  ·have h1 : (k : Int) < ((a.map ConR.row).length : Nat) := by omega
   obtain ⟨x, hx⟩ := Ab hlt
   obtain ⟨y, hy⟩ := Ab (l := b) (k := k) (by omega)
   have hbx := Ac (R := ConR.row) hx
   have hby := Ac (R := ConR.row) hy
   by_cases e : eqC x.a x.b x.lo x.hi y.a y.b y.lo y.hi
   ·repeat' (first
    | refine W ?_
    | (apply T.drawAll A0 (by decide +kernel)) | refine Y ?_|(apply S.eqCon rfl;exact rfl;exact rfl;exact rfl)|(apply S.neCon rfl;exact rfl;exact rfl;exact rfl)
    | refine V ?_
    | (refine W2 ?_ ?_ <;> intro hc))
    all_goals (try change Next _ _ _ _ _ _)
    all_goals exact Next.go (k + 1) ⟨by omega, X9 heq hx hy ((La x y).1 e)⟩ (by omega) CW .nil
   ·repeat' (first
    | refine W ?_
    | (apply T.drawAll A0 (by decide +kernel)) | refine Y ?_|(apply S.eqCon rfl;exact rfl;exact rfl;exact rfl)|(apply S.neCon rfl;exact rfl;exact rfl;exact rfl)
    | refine V ?_
    | (refine W2 ?_ ?_ <;> intro hc))
    all_goals exact A8 (by simp) Tryz.results26 rfl (congrArg Value.bool (decide_eq_false fun k => by subst k;rw [hx] at hy;injection hy with hy;exact e ((La x y).2 hy)).symm)
  ·have h1 : ¬ (k : Int) < ((a.map ConR.row).length : Nat) := by omega
   rw [List.take_of_length_le (by omega), List.take_of_length_le (by omega)] at heq
   repeat' (first
    | refine W ?_

    | refine V ?_
    | (refine W2 ?_ ?_ <;> intro hc))
   exact A8 (by simp) Tryz.results26 rfl (congrArg Value.bool (decide_eq_true heq).symm)
 ·have hl1 : ¬ ((a.map ConR.row).length : Int) = ((b.map ConR.row).length : Nat) := by omega
  refine Fn0.of Tryz.func26 Tryz.ntmps26 rfl rfl rfl ?_
  simp only [A1]
  repeat' (first
   | refine W ?_

   | refine V ?_
   | (refine W2 ?_ ?_ <;> intro hc))
  all_goals exact A8 (by simp) Tryz.results26 rfl (congrArg Value.bool (decide_eq_false fun e => hl (by rw [e])).symm)
set_option maxHeartbeats 8000000 in
theorem A3i (a : List ConR) (p : ConR) (ha : a.length <= 1000000) : Fn0 Tryz.prog 65 [.sl (a.map ConR.row), A2 p.row] (.i (idx (fun q => q = p) a)) := by
 have hla : (a.map ConR.row).length = a.length := List.length_map _
 refine Fn0.of Tryz.func65 Tryz.ntmps65 rfl rfl rfl ?_
 simp only [A1]
 repeat' (first
  | refine W ?_

  | refine V ?_
  | (refine W2 ?_ ?_ <;> intro hc))
 refine T.loopS (fun k => k <= a.length /\ ∀ x ∈ a.take k, ¬ x = p) (fun k => a.length - k) (fun k => [(8, .i k), (7, .i (a.map ConR.row).length), (0, .sl (a.map ConR.row)), (3, .ptr 0 0)]) (fun _ => [.live (p.row.map .lf)]) 0 ⟨Nat.zero_le _, by simp⟩ CW CH ?_
 rintro k ⟨hk, hno⟩
 by_cases hlt : k < a.length
 ·have h1 : (k : Int) < ((a.map ConR.row).length : Nat) := by omega
  obtain ⟨x, hx⟩ := Ab hlt
  have hbx := Ac (R := ConR.row) hx
  by_cases e : eqC p.a p.b p.lo p.hi x.a x.b x.lo x.hi
  ·repeat' (first
   | refine W ?_
   | (apply T.drawAll A0 (by decide +kernel)) | refine Y ?_|(apply S.eqCon rfl;exact rfl;exact rfl;exact rfl)|(apply S.neCon rfl;exact rfl;exact rfl;exact rfl)
   | refine V ?_
   | (refine W2 ?_ ?_ <;> intro hc))
   all_goals exact A8 (by simp) Tryz.results65 rfl (congrArg (Value.int .i64) (F5 hx hno ((La p x).1 e).symm).symm)
  ·repeat' (first
   | refine W ?_
   | (apply T.drawAll A0 (by decide +kernel)) | refine Y ?_|(apply S.eqCon rfl;exact rfl;exact rfl;exact rfl)|(apply S.neCon rfl;exact rfl;exact rfl;exact rfl)
   | refine V ?_
   | (refine W2 ?_ ?_ <;> intro hc))
   all_goals (try change Next _ _ _ _ _ _)
   all_goals exact Next.go (k + 1) ⟨by omega, fun y hy => by
     rw [B9 hx] at hy
     rcases List.mem_append.1 hy with hy | hy
     ·exact hno y hy
     ·obtain rfl : y = x := by simpa using hy
      exact fun k => e ((La p y).2 k.symm)⟩ (by omega) CW CH
 ·have h1 : ¬ (k : Int) < ((a.map ConR.row).length : Nat) := by omega
  repeat' (first
   | refine W ?_

   | refine V ?_
   | (refine W2 ?_ ?_ <;> intro hc))
  exact A8 (by simp) Tryz.results65 rfl (congrArg (Value.int .i64) (Ys hno (by omega)).symm)
theorem Wh (a : List ConR) (p : ConR) (ha : a.length <= 1000000) : Fn0 Tryz.prog 28 [.sl (a.map ConR.row), A2 p.row] (.b (decide (∃ x ∈ a, x = p))) := by
 have ci := A3i a p ha
 have hi : 0 <= idx (fun q => q = p) a ↔ ∃ x ∈ a, x = p := decide_eq_decide.1 (Ig (fun q => q = p) a)
 rw [show decide (∃ x ∈ a, x = p) = decide (idx (fun q => q = p) a >= 0) from decide_eq_decide.2 hi.symm]
 clear hi
 generalize idx (fun q => q = p) a = n at *
 refine Fn0.of Tryz.func28 Tryz.ntmps28 rfl rfl rfl ?_
 simp only [A1]
 repeat' (first
  | refine W ?_
  | refine Y ?_
  | refine V ?_
  | (refine W2 ?_ ?_ <;> intro hc))
 all_goals exact A8 (by simp) Tryz.results28 rfl (by rfl)
/-! ### The example -/
abbrev sxS (n : ByteArray) (high hang : Int) : SetR := ⟨n, 0, 0, high, 4000, [0, 4000], 0, 0, 1, 1, 0, [⟨⟨#[120]⟩, 0, 4000, 0, hang, 10, 10⟩], []⟩
abbrev sxH (hang high : Int) : HouseR := ⟨⟨#[104]⟩, 9000, [sxS ⟨#[97]⟩ 5000 hang, sxS ⟨#[98]⟩ high 0], []⟩
abbrev sxC : SheetR := ⟨[], []⟩
theorem A7l : Cy (sxS ⟨#[97]⟩ 5000 1000) /\ Cy (sxS ⟨#[98]⟩ 4500 0) /\ Cy (sxS ⟨#[98]⟩ 4000 0) /\ Cy (sxS ⟨#[98]⟩ 4001 0) := by
 refine ⟨?_, ?_, ?_, ?_⟩
 all_goals
  refine ⟨by decide +kernel, by decide, by decide, by decide, by decide, by decide, by decide, ?_, by decide, by decide, by decide, by decide, by decide, ?_, ?_⟩
  ·exact ⟨by decide, by decide, by decide⟩
  ·refine ⟨by decide, by decide, fun x hx => ?_, by simp⟩
   simp only [List.mem_cons, List.not_mem_nil, or_false] at hx
   subst hx
   exact ⟨⟨by decide +kernel, by decide, by decide, by decide, by decide⟩, by decide, by decide, by decide⟩
  ·exact ⟨by decide, by decide, by simp, by decide⟩
theorem Aca : C0 (sxH 1000 4500) /\ C0 (sxH 1000 4000) /\ C0 (sxH 1000 4001) := by
 refine ⟨?_, ?_, ?_⟩
 all_goals
  refine ⟨by decide +kernel, by decide, by decide, by decide, ⟨by decide, by simp, by decide⟩, ?_, by decide +kernel⟩
  intro s hs
  simp only [List.mem_cons, List.not_mem_nil, or_false] at hs
  rcases hs with rfl | rfl
  ·exact ⟨A7l.1, by decide⟩
  ·exact ⟨by first | exact A7l.2.1 | exact A7l.2.2.1 | exact A7l.2.2.2, by decide⟩
theorem Kd {h : HouseR} (hp : C0 h) : validP h sxC := ⟨hp, by decide, fun i q h => by simp at h, by decide, fun i p h => by simp at h⟩
theorem Aa4 {h : HouseR} (v : validP h sxC) : PlanOk h sxC [] := ⟨v, fun ⟨k, hk, _⟩ => by simp at hk, rfl, fun ⟨x, hx, _⟩ => by simp [Fo] at hx, fun ⟨x, hx, _⟩ => by simp at hx⟩
theorem Wk {h : HouseR} (v : validP h sxC) : alE h sxC [] = 0 := by
 unfold alE
 rw [if_pos v]
 exact (Aa4 v).zero
theorem Uk (hang high : Int) : (sxH hang high).fits := ⟨Nat.le_of_ble_eq_true rfl, Nat.le_of_ble_eq_true rfl, fun s hs => by
 simp only [List.mem_cons, List.not_mem_nil, or_false] at hs
 rcases hs with rfl | rfl <;> exact ⟨Nat.le_of_ble_eq_true rfl, Nat.le_of_ble_eq_true rfl, Nat.le_of_ble_eq_true rfl⟩⟩
theorem Jt : sxC.fits := ⟨by decide, by decide, fun q hq => by simp at hq⟩
theorem A4e {h : HouseR} {n : ByteArray} {s : SetR} (hs : Jx h n = some s) : D9 h sxC [] n = 0 /\ Cw h sxC [] n = [⟨0, (s.high : Rat), 0, 0⟩] := by
 have ho : O7 sxC (stL h sxC []) (C3 h sxC) := fun i q hq => by simp at hq
 have hb : ¬ Un h sxC (stL h sxC []) (Nr h n) s := fun ⟨i, hi, _⟩ => by simp at hi
 unfold D9 Cw
 rw [hs]
 refine ⟨?_, rfl⟩
 show (if O7 sxC (stL h sxC []) (C3 h sxC) then Hl h sxC (stL h sxC []) (Nr h n) s else 13) = 0
 rw [if_pos ho]
 unfold Hl
 rw [if_neg hb]
 rfl
theorem Yf (p : PcQ) : Ba [p] := fun i hi => by simp at hi
abbrev sxP : ByteArray × ByteArray := (⟨#[97]⟩, ⟨#[98]⟩)
theorem A2w (hang high : Int) : ctR (sxH hang high) sxC [] sxP = pr3 (Ip (sxS ⟨#[97]⟩ 5000 hang) (sxS ⟨#[98]⟩ high 0) [⟨0, ((5000 : Int) : Rat), 0, 0⟩] [⟨0, (high : Rat), 0, 0⟩] (Gg (sxH hang high) sxC [])) := by
 have h1 : Jx (sxH hang high) sxP.1 = some (sxS ⟨#[97]⟩ 5000 hang) := rfl
 have h2 : Jx (sxH hang high) sxP.2 = some (sxS ⟨#[98]⟩ high 0) := rfl
 obtain ⟨a1, a2⟩ := A4e h1
 obtain ⟨b1, b2⟩ := A4e h2
 unfold ctR
 rw [h1, h2]
 dsimp only
 rw [if_pos a1, if_pos b1, a2, b2]
 unfold frT
 rw [if_pos ⟨Yf _, Yf _⟩]
theorem Yc (hang high : Int) (hn : Dv (sxS ⟨#[97]⟩ 5000 hang) (sxS ⟨#[98]⟩ high 0)) : Ca (sxH hang high) = [sxP] := by
 show C6 [sxS ⟨#[97]⟩ 5000 hang, sxS ⟨#[98]⟩ high 0] 2 = [sxP]
 simp [C6, Al, hn]
theorem sx_con1 : ckE (sxH 1000 4500) sxC [] = 0 /\ ckL (sxH 1000 4500) sxC [] = [⟨⟨#[97]⟩, ⟨#[98]⟩, 0, 0⟩] := by
 have v := Kd Aca.1
 have hp := Yc 1000 4500 (by decide +kernel)
 have hc : ctR (sxH 1000 4500) sxC [] sxP = (0, 0, 0) := by rw [A2w];decide +kernel
 have he : He (sxH 1000 4500) sxC [] (Ca (sxH 1000 4500)) = 0 := L8 fun q hq => by
  rw [hp] at hq
  obtain rfl := List.mem_singleton.1 hq
  unfold Dd;rw [hc];exact .inl rfl
 have e0 : ckE (sxH 1000 4500) sxC [] = 0 := by unfold ckE;rw [if_pos (Wk v)];exact he
 refine ⟨e0, ?_⟩
 rw [(To e0).2, hp]
 unfold Ci
 simp [Mt, hc]
theorem sx_con2 : ckE (sxH 1000 4000) sxC [] = 0 /\ ckL (sxH 1000 4000) sxC [] = [] := by
 have v := Kd Aca.2.1
 have hp := Yc 1000 4000 (by decide +kernel)
 have hc : ctR (sxH 1000 4000) sxC [] sxP = (0, 0, 12) := by rw [A2w];decide +kernel
 have he : He (sxH 1000 4000) sxC [] (Ca (sxH 1000 4000)) = 0 := L8 fun q hq => by
  rw [hp] at hq
  obtain rfl := List.mem_singleton.1 hq
  unfold Dd;rw [hc];exact .inr rfl
 have e0 : ckE (sxH 1000 4000) sxC [] = 0 := by unfold ckE;rw [if_pos (Wk v)];exact he
 refine ⟨e0, ?_⟩
 rw [(To e0).2, hp]
 unfold Ci
 simp [Mt, hc]
theorem sx_con3 : ckE (sxH 1000 4001) sxC [] = 0 /\ (ckL (sxH 1000 4001) sxC []).length = 1 := by
 have v := Kd Aca.2.2
 have hp := Yc 1000 4001 (by decide +kernel)
 have hc : ctR (sxH 1000 4001) sxC [] sxP = (0, 0, 0) := by rw [A2w];decide +kernel
 have he : He (sxH 1000 4001) sxC [] (Ca (sxH 1000 4001)) = 0 := L8 fun q hq => by
  rw [hp] at hq
  obtain rfl := List.mem_singleton.1 hq
  unfold Dd;rw [hc];exact .inl rfl
 have e0 : ckE (sxH 1000 4001) sxC [] = 0 := by unfold ckE;rw [if_pos (Wk v)];exact he
 refine ⟨e0, ?_⟩
 rw [(To e0).2, hp]
 unfold Ci
 simp [Mt, hc]
theorem Fn0.nil3 {P : Program} {f : FuncId} {a b r : AV} (h : Fn0 P f [a, b, .sl []] r) : Fn0 P f [a, b, .val (.slice none 0 0)] r := ⟨h.ent, fun L w vs hG hL hl hv => h.run L w vs hG hL hl fun i x v hx hu => by
 match i, hx with
 | 0, hx => exact hv 0 x v hx hu
 | 1, hx => exact hv 1 x v hx hu
 | 2, hx =>
  simp only [List.getElem?_cons_succ, List.getElem?_cons_zero, Option.some.injEq] at hx
  subst hx
  have := (hv 2 _ v rfl hu).val_eq
  subst this
  exact .lf _ _ .slnil
 | i + 3, hx => simp at hx⟩
def Oi (n : Int) : Prop := n < 0 \/ n > 1099511627776
instance (n : Int) : Decidable (Oi n) := by unfold Oi;exact inferInstance
theorem A08 (n : Int) : Fn0 Tryz.prog 72 [.i n] (.b (decide (Oi n))) := by
 refine Fn0.of Tryz.func72 Tryz.ntmps72 rfl rfl rfl ?_
 simp only [A1]
 repeat' (first
  | refine W ?_

  | refine V ?_
  | (refine W2 ?_ ?_ <;> intro hc))
 all_goals exact A8 (by simp) Tryz.results72 rfl (by simp [Oi, *])
theorem Xv (h : HouseR) (v : validP h sxC) : Fn0 Tryz.prog 35 [A2 sxC.row, .sl [], .sl []] (.tup [.sl [], .i 0]) := by
 have cl := Nm h sxC v Jt
 have cw := Hp [] Oi 72 (by simp) A08
 rw [decide_eq_false (by simp)] at cw
 change Fn0 _ _ [.sl [], _] _ at cw
 have n1 : ¬ ¬ ((([] : List (List Lf)).length : Nat) : Int) = ((([] : List CueR).map CueR.row).length : Nat) := fun k => k rfl
 refine Fn0.of Tryz.func35 Tryz.ntmps35 rfl rfl rfl ?_
 simp only [A1]
 repeat' (first
  | refine W ?_
  | refine Y ?_
  | refine V ?_
  | (refine W2 ?_ ?_ <;> intro hc))
 refine T.loopS (fun k : Nat => k = 0) (fun _ => 0) (fun _ => [(46, .i 0), (45, .i 0), (44, .sl []), (9, .val (.slice none 0 0))]) (fun _ => [.live (sxC.row.map .lf)]) 0 rfl CW CG ?_
 intro k hk
 subst hk
 have h1 : ¬ (0 : Int) < 0 := by decide
 repeat' (first
  | refine W ?_
  | refine Y ?_|(refine T.nilU 6 rfl ?_;apply T.ret;change C2 _ _ _ _ _)
  | refine V ?_
  | (refine W2 ?_ ?_ <;> intro hc))
 all_goals exact D2 rfl rfl rfl
theorem Lp (h : HouseR) (hf : h.fits) (v : validP h sxC) (e : ckE h sxC [] = 0) : Fn0 Tryz.prog 29 [A2 h.row, A2 sxC.row, .sl []] (.tup [.b (decide ((ckL h sxC []).length = 0)), .i 0]) := by
 have ck := I3 h sxC hf Jt [] (by simp)
 rw [e] at ck
 have a0 := Wk v
 have cb := A23 h sxC hf Jt [] (by simp) a0
 have ce := A7w h sxC hf Jt [] (by simp) a0 trivial
 have cc := Xv h v
 change Fn0 _ _ [_, _, .sl []] _ at ck
 change Fn0 _ _ [_, _, .sl []] (.tup [.sl [], _]) at cb
 change Fn0 _ _ [_, _, .sl []] (.tup [.sl [], _]) at ce
 have hle : ((ckL h sxC []).map ConR.row).length = (ckL h sxC []).length := List.length_map _
 generalize ckL h sxC [] = LL at *
 by_cases hz : LL.length = 0
 case' pos =>
  have hz2 : ((LL.map ConR.row).length : Int) = 0 := by omega
  have hz3 : ((([] : List (List Lf)).length : Nat) : Int) = 0 := rfl
  rw [decide_eq_true hz]
 case' neg =>
  have hz2 : ¬ ((LL.map ConR.row).length : Int) = 0 := by omega
  rw [decide_eq_false hz]
 all_goals
  refine Fn0.of Tryz.func29 Tryz.ntmps29 rfl rfl rfl ?_
  simp only [A1]
  repeat' (first
   | refine W ?_
   | refine Y ?_
   | refine V ?_
   | (refine W2 ?_ ?_ <;> intro hc))
  refine T.loopS (fun k : Nat => k = 0) (fun _ => 0) (fun _ => [(49, .i 0), (48, .i 0), (47, .sl []), (12, .val (.slice none 0 0)), (13, .val (.slice none 0 0)), (4, .ptr 1 0), (8, .sl (LL.map ConR.row))]) (fun _ => [.live (h.row.map .lf), .live (sxC.row.map .lf)]) 0 rfl CW CG ?_
  intro k hk
  subst hk
  refine T.nilU 12 rfl ?_
  refine T.nilU 13 rfl ?_
  have h1 : ¬ (0 : Int) < 0 := by decide
  repeat' (first
   | refine W ?_
   | refine Y ?_
   | refine V ?_
   | (refine W2 ?_ ?_ <;> intro hc))
  all_goals exact D2 rfl rfl rfl
theorem Qs (n : ByteArray) (high hang : Int) : Fn0 Tryz.prog 76 [.s n, .i high, .i hang] (A2 (sxS n high hang).row) := by
 refine Fn0.of Tryz.func76 Tryz.ntmps76 rfl rfl rfl ?_
 simp only [A1]
 repeat' (first
  | refine W ?_
  | (apply S.buildSliceF;(iterate 8 exact rfl)) | refine Y ?_
  | refine V ?_
  | (refine W2 ?_ ?_ <;> intro hc))
 all_goals exact ⟨.inr rfl, [A2 (sxS n high hang).row], .cons (Res.row (sxS n high hang).row rfl rfl rfl rfl rfl) .nil, .one (.agg (show OutL _ _ ((sxS n high hang).row.map .lf) from A9 (sxS n high hang).row))⟩
theorem Mo (hang high : Int) : Fn0 Tryz.prog 36 [.i hang, .i high] (A2 (sxH hang high).row) := by
 have c1 := Qs ⟨#[97]⟩ 5000 hang
 have c2 := Qs ⟨#[98]⟩ high 0
 refine Fn0.of Tryz.func36 Tryz.ntmps36 rfl rfl rfl ?_
 simp only [A1]
 repeat' (first
  | refine W ?_
  | (apply S.buildSliceF;(iterate 8 exact rfl)) | refine Y ?_|(apply S.callF;exact rfl;exact rfl;(first | exact c1 | exact c2);exact rfl;exact rfl)
  | refine V ?_
  | (refine W2 ?_ ?_ <;> intro hc))
 all_goals exact ⟨.inr rfl, [A2 (sxH hang high).row], .cons (Res.row (sxH hang high).row rfl rfl rfl rfl rfl) .nil, .one (.agg (show OutL _ _ ((sxH hang high).row.map .lf) from A9 (sxH hang high).row))⟩
set_option maxHeartbeats 8000000 in
theorem A5u : Fn0 Tryz.prog 9 [] (.b true) := by
 have x1 := Mo 1000 4500
 have x2 := Mo 1000 4000
 have x3 := Mo 1000 4001
 have k1 := Fn0.nil3 (I3 (sxH 1000 4500) sxC (Uk _ _) Jt [] (by simp))
 rw [sx_con1.1, sx_con1.2] at k1
 have k2 := Fn0.nil3 (Lp (sxH 1000 4000) (Uk _ _) (Kd Aca.2.1) sx_con2.1)
 rw [sx_con2.2, decide_eq_true (by rfl)] at k2
 have k3 := Fn0.nil3 (Lp (sxH 1000 4001) (Uk _ _) (Kd Aca.2.2) sx_con3.1)
 rw [sx_con3.2, decide_eq_false (by decide)] at k3
 have q1 := A1z [⟨⟨#[97]⟩, ⟨#[98]⟩, 0, 0⟩] [⟨⟨#[97]⟩, ⟨#[98]⟩, 0, 0⟩] (by simp) (by simp)
 rw [decide_eq_true rfl] at q1
 refine Fn0.of Tryz.func9 Tryz.ntmps9 rfl rfl rfl ?_
 simp only [A1]
 repeat' (first
  | refine W ?_
  | (apply S.buildSliceF;(iterate 8 exact rfl)) | refine Y ?_
  | refine V ?_
  | (refine W2 ?_ ?_ <;> intro hc))
 all_goals exact A8 (by simp) Tryz.results9 rfl rfl
def Js (h : HouseR) (c : SheetR) (G : List Int) : Prop := ¬ (Sc h 4 /\ Ry c 6 /\ G.length <= 100)
noncomputable instance (h : HouseR) (c : SheetR) (G : List Int) : Decidable (Js h c G) := Classical.propDecidable _
theorem A5b (h : HouseR) (c : SheetR) (hf : h.fits) (hc : c.fits) (G : List Int) : Fn0 Tryz.prog 10 [A2 h.row, A2 c.row, .sl (G.map A3)] (.b (decide (Js h c G))) := by
 have c1 := A5q h 4 (by decide) hf
 have c2 := A3r c 6 (by decide) hc
 have hle : (G.map A3).length = G.length := List.length_map _
 by_cases h1 : Sc h 4
 ·rw [decide_eq_true h1] at c1
  by_cases h2 : Ry c 6
  ·rw [decide_eq_true h2] at c2
   by_cases h3 : ((G.map A3).length : Int) > 100
   ·rw [decide_eq_true (show Js h c G from fun k => by have := k.2.2;omega)]
    refine Fn0.of Tryz.func10 Tryz.ntmps10 rfl rfl rfl ?_
    simp only [A1]
    repeat' (first
     | refine W ?_
     | refine Y ?_
     | refine V ?_
     | (refine W2 ?_ ?_ <;> intro hc))
    all_goals exact A8 (by simp) Tryz.results10 rfl (congrArg Value.bool (decide_eq_true h3))
   ·rw [decide_eq_false (show ¬ Js h c G from fun k => k ⟨h1, h2, by omega⟩)]
    refine Fn0.of Tryz.func10 Tryz.ntmps10 rfl rfl rfl ?_
    simp only [A1]
    repeat' (first
     | refine W ?_
     | refine Y ?_
     | refine V ?_
     | (refine W2 ?_ ?_ <;> intro hc))
    all_goals exact A8 (by simp) Tryz.results10 rfl (congrArg Value.bool (decide_eq_false h3))
  ·rw [decide_eq_false h2] at c2
   rw [decide_eq_true (show Js h c G from fun k => h2 k.2.1)]
   refine Fn0.of Tryz.func10 Tryz.ntmps10 rfl rfl rfl ?_
   simp only [A1]
   repeat' (first
    | refine W ?_
    | refine Y ?_
    | refine V ?_
    | (refine W2 ?_ ?_ <;> intro hc))
   all_goals exact A8 (by simp) Tryz.results10 rfl rfl
 ·rw [decide_eq_false h1] at c1
  rw [decide_eq_true (show Js h c G from fun k => h1 k.1)]
  refine Fn0.of Tryz.func10 Tryz.ntmps10 rfl rfl rfl ?_
  simp only [A1]
  repeat' (first
   | refine W ?_
   | refine Y ?_
   | refine V ?_
   | (refine W2 ?_ ?_ <;> intro hc))
  all_goals exact A8 (by simp) Tryz.results10 rfl rfl
end Go.Proofs.YtbceahipbdmocaaGreat
