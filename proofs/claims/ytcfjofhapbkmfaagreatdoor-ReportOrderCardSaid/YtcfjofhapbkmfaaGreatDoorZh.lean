/- The law ReportOrder. No conditions but those of each statement. -/
import Derived.Test.YtcfjofhapbkmfaaGreatDoorZg
import Derived.Test.YtcfjofhapbkmfaaGreatDoorYj
set_option linter.unusedSimpArgs false
set_option linter.unusedVariables false
namespace Go.Proofs.YtcfjofhapbkmfaaGreatDoor
open Go Go.RowKit
set_option maxHeartbeats 4000000 in
theorem Qh (a : List ByteArray) (ha : a.length <= 1000000) : Fn0 Tryz.prog 22 [.sl (a.map Ao), .sl (a.map Ao)] (.b true) := by
 have hla : (a.map Ao).length = a.length := List.length_map _
 have hl1 : ((a.map Ao).length : Int) = ((a.map Ao).length : Nat) := rfl
 refine Fn0.of Tryz.func22 Tryz.ntmps22 rfl rfl rfl ?_
 simp only [A0]
 repeat' (first
  | refine W ?_
  | refine Y ?_
  | refine V ?_
  | (refine W2 ?_ ?_ <;> intro hc))
 all_goals (try (exfalso;omega))
 refine T.loopS (fun k => k <= a.length) (fun k => a.length - k) (fun k => [(13, .i k), (12, .i (a.map Ao).length), (0, .sl (a.map Ao)), (1, .sl (a.map Ao))]) (fun _ => []) 0 (Nat.zero_le _) CW .nil ?_
 intro k hk
 by_cases hlt : k < a.length
 ·have h1 : (k : Int) < ((a.map Ao).length : Nat) := by omega
  obtain ⟨x, hx⟩ := A7 hlt
  have hb := A9 (R := Ao) hx
  have q : ¬ ¬ x = x := fun k => k rfl
  have q2 : x = x := rfl
  repeat' (first
   | refine W ?_
   | refine Y ?_|(apply T.drawAll A1 (by decide +kernel))|(apply S.indexR;(iterate 3 exact rfl);exact hb;omega;exact rfl)|refine Za ?_
   | refine V ?_
   | (refine W2 ?_ ?_ <;> intro hc))
  all_goals (try change Next _ _ _ _ _ _)
  all_goals exact Next.go (k + 1) (by omega) (by omega) CW .nil
 ·have h1 : ¬ (k : Int) < ((a.map Ao).length : Nat) := by omega
  repeat' (first
   | refine W ?_
   | refine Y ?_
   | refine V ?_
   | (refine W2 ?_ ?_ <;> intro hc))
  all_goals exact A3 (by simp) Tryz.results22 rfl rfl
def Bk (h : HouseR) (rl : List RoofR) : List (List ByteArray) := (hwN h :: (An (Bi h) h.sets.length).map (wsI h)) ++ rl.map (hwB h)
theorem Rh (h : HouseR) (rl : List RoofR) : (Bk h rl).length = 1 + h.sets.length + rl.length := by
 unfold Bk
 rw [List.length_append, List.length_cons, List.length_map, List.length_map, Bd];omega
theorem Th (h : HouseR) (rl : List RoofR) {k x : Nat} {s : SetR} (hx : (An (Bi h) h.sets.length)[k]? = some x) (hs : h.sets[x]? = some s) : (Bk h rl)[k + 1]? = some (hwS s) := by
 have hk := (List.getElem?_eq_some_iff.1 hx).1
 unfold Bk
 rw [List.getElem?_append_left (by rw [List.length_cons, List.length_map];omega), List.getElem?_cons_succ, List.getElem?_map, hx]
 show some (wsI h x) = _
 unfold wsI
 rw [hs];rfl
theorem Pa (h : HouseR) (rl : List RoofR) : (Bk h rl).drop (1 + h.sets.length) = rl.map (hwB h) := by
 unfold Bk
 rw [List.drop_append_of_le_length (by rw [List.length_cons, List.length_map, Bd];omega), List.drop_of_length_le (by rw [List.length_cons, List.length_map, Bd];omega), List.nil_append]
set_option maxRecDepth 20000 in
set_option maxHeartbeats 64000000 in
theorem Ku (h : HouseR) (hf : h.fits) (hp : B0 h) (hs5 : Jq h 5) (rs : List (List Lf)) (e : Int) (rl : List RoofR) (cl : Fn0 Tryz.prog 21 [A2 h.row] (.tup [.sl rs, .i e])) (hLs0 : hLs h = Bk h rl) (he : e = 0 /\ rl = h.roofs \/ ¬ e = 0 /\ rl = []) : Fn0 Tryz.prog 6 [A2 h.row] (.b true) := by
 have ca := Gy
 have csm := H9 h 5 (by decide) hf
 rw [decide_eq_true hs5] at csm
 have cv := Ha h hf
 rw [decide_eq_true hp] at cv
 have h5 : h.sets.length <= 5 := by have := hs5.1;omega
 have h15 : h.roofs.length <= 15 := by have := hs5.2.1;omega
 have ct := Li h hf hp h5
 have co := Gg h hf hp h5
 have hok := V9 hp h5
 have hcl := Qm hp
 have htl := F8 _ hok
 have hll := Rh h rl
 have hrl : rl.length <= 15 := by rcases he with ⟨_, er⟩ | ⟨_, er⟩ <;> rw [er] <;> first | exact h15 | exact Nat.zero_le _
 have hTx0 : hTx h = bytesOf (Bk h rl) := by unfold hTx;rw [hLs0]
 rw [hLs0] at hok hcl htl
 rw [hTx0] at ct
 have cln := Qx (Bk h rl) hcl (by omega) (by omega)
 have f3 : ¬ ((ofL (bytesOf (Bk h rl))).size : Int) > 20000 := by rw [Ik];omega
 generalize ofL (bytesOf (Bk h rl)) = tx at *
 obtain ⟨n, hn⟩ : ∃ n, n = h.sets.length := ⟨_, rfl⟩
 obtain ⟨L, hL⟩ : ∃ L, L = iN (An (Bi h) h.sets.length) := ⟨_, rfl⟩
 have hLl : L.length = h.sets.length := by rw [hL, Mc, Bd]
 have hll2 : (L.map A5).length = h.sets.length := by rw [List.length_map, hLl]
 have hll3 : (h.sets.map SetR.row).length = h.sets.length := List.length_map _
 have hll4 : (h.roofs.map RoofR.row).length = h.roofs.length := List.length_map _
 rw [<- hL] at co
 have hlr : ((Bk h rl).map At).length = 1 + h.sets.length + rl.length := by rw [List.length_map, hll]
 have f5 : ¬ ¬ (((L.map A5).length : Nat) : Int) = ((h.sets.map SetR.row).length : Nat) := by omega
 have ceq := Qh (hwN h) (by simp [hwN])
 have hb0 : ((Bk h rl).map At)[(0 : Int).toNat]? = some (At (hwN h)) := by
  unfold Bk;rfl
 have hh := hp.2.1
 have hh2 := hp.2.2.1
 have ci := Bn h.height (by omega) (by omega)
 have hdr : ((Bk h rl).map At).drop (1 + (((L.map A5).length : Nat) : Int)).toNat = rl.map fun x => At (hwB h x) := by
  rw [show (1 + (((L.map A5).length : Nat) : Int)).toNat = 1 + h.sets.length by omega, <- List.map_drop, Pa, List.map_map];rfl
 have hrr := Hc (Bk h rl)
 have hrx : ∀ (j : Nat) (x : RoofR), rl[j]? = some x -> h.roofs[j]? = some x := by
  rcases he with ⟨_, er⟩ | ⟨_, er⟩
  ·rw [er];exact fun j x hx => hx
  ·rw [er];intro j x hx;simp at hx
 have hat := fun (k x : Nat) (s : SetR) hx hs => Th h rl (k := k) (x := x) (s := s) hx hs
 rcases he with he | he
 ·have e1 := he.1
  have f4 : ¬ ¬ ((((Bk h rl).map At).length : Nat) : Int) = 1 + (((L.map A5).length : Nat) : Int) + ((h.roofs.map RoofR.row).length : Nat) := by (have := congrArg List.length he.2;omega)
  generalize hM : (Bk h rl).map At = M at *
  refine Fn0.of Tryz.func6 Tryz.ntmps6 rfl rfl rfl ?_
  simp only [A0]
  repeat' (first
   | refine W ?_
   | (apply S.indexR;(iterate 3 exact rfl);exact hb0;omega;exact rfl) | refine Y ?_|(apply T.drawN 1 25 A1 (by decide +kernel);simp only [td])|(apply T.drawRN 1 25 A1 (by decide +kernel);simp only [td])|(apply S.buildSliceF;(iterate 8 exact rfl))|(apply S.callV;exact rfl;exact ceq;exact .cons (.one (.lf _)) (.cons (.one (.lf _)) .nil);exact rfl;exact rfl)|refine Za ?_
   | refine V ?_
   | (refine W2 ?_ ?_ <;> intro hc))
  refine T.loopS (fun k => k <= n) (fun k => n - k) (fun k => [(91, .i (k : Nat)), (90, .i (L.map A5).length), (89, .sl (L.map A5)), (9, .sl M), (5, .sl (L.map A5)), (1, .ptr 0 0)]) (fun k => [.live (h.row.map .lf)]) 0 (Nat.zero_le _) CW (.live rfl .nil) ?_
  intro k hk
  by_cases hlt : k < n
  ·have h1 : ((k : Nat) : Int) < ((L.map A5).length : Nat) := by omega
   obtain ⟨x, hx⟩ := A7 (l := An (Bi h) h.sets.length) (k := k) (by rw [Bd];omega)
   have hxn : x < h.sets.length := ordP_mem.1 (List.mem_of_getElem? hx)
   have hxL : L[k]? = some (x : Int) := by rw [hL, iN, List.getElem?_map, hx];rfl
   have hb1 := A9 (R := A5) hxL
   obtain ⟨s, hs⟩ := A7 hxn
   have hb2 := A9 (R := SetR.row) hs
   have hb3 : M[(1 + ((k : Nat) : Int)).toNat]? = some [.sl ((hwS s).map Ao)] := by
    rw [<- hM, show (1 + ((k : Nat) : Int)).toNat = k + 1 by omega, List.getElem?_map, hat k x s hx hs];rfl
   have hsp := (hp.2.2.2.2.2.1 s (List.mem_of_getElem? hs)).1
   have r3 := hsp.2.1
   have c1 := Bn s.depth (by omega) (by omega)
   have hx0 : ¬ ((x : Nat) : Int) < 0 := by omega
   have hx1 : ¬ ((x : Nat) : Int) >= ((h.sets.map SetR.row).length : Nat) := by omega
   have hx2 : ¬ ((h.sets.map SetR.row).length : Nat) <= ((x : Nat) : Int) := by omega
   have w0 : ((hwS s).map Ao)[(0 : Int).toNat]? = some [.s ⟨#[115, 101, 116]⟩] := rfl
   have w1 : ((hwS s).map Ao)[(1 : Int).toNat]? = some [.s s.name] := rfl
   have w3 : ((hwS s).map Ao)[(3 : Int).toNat]? = some [.s (Ad s.depth)] := rfl
   have w8 : ((hwS s).map Ao)[(8 : Int).toNat]? = some [.s (hwX s)] := rfl
   have wl : ¬ ¬ ((((hwS s).map Ao).length : Nat) : Int) = 9 := fun k => k rfl
   have wll : ((hwS s).map Ao).length = 9 := rfl
   have q0 : ¬ ¬ (⟨#[115, 101, 116]⟩ : ByteArray) = ⟨#[115, 101, 116]⟩ := fun k => k rfl
   have q1 : ¬ ¬ s.name = s.name := fun k => k rfl
   have q3 : ¬ ¬ Ad s.depth = Ad s.depth := fun k => k rfl
   have q8 : ¬ ¬ (⟨#[104, 111, 108, 100, 115]⟩ : ByteArray) = ⟨#[104, 111, 108, 100, 115]⟩ := fun k => k rfl
   have q9 : ¬ ¬ (⟨#[115, 108, 105, 112, 115]⟩ : ByteArray) = ⟨#[115, 108, 105, 112, 115]⟩ := fun k => k rfl
   have q7 : ¬ (⟨#[115, 108, 105, 112, 115]⟩ : ByteArray) = ⟨#[104, 111, 108, 100, 115]⟩ := by decide
   generalize (hwS s).map Ao = ww at *
   by_cases hold : G9 s
   ·have hX : hwX s = ⟨#[104, 111, 108, 100, 115]⟩ := if_pos hold
    rw [hX] at w8
    repeat' (first
     | refine W ?_
     | (apply S.indexR;(iterate 3 exact rfl);exact hb1;omega;exact rfl)|(apply S.indexR;(iterate 3 exact rfl);exact hb2;omega;exact rfl)|(apply S.indexR;(iterate 3 exact rfl);exact hb3;omega;exact rfl)|(apply S.indexR;(iterate 3 exact rfl);exact w0;omega;exact rfl)|(apply S.indexR;(iterate 3 exact rfl);exact w1;omega;exact rfl)|(apply S.indexR;(iterate 3 exact rfl);exact w3;omega;exact rfl)|(apply S.indexR;(iterate 3 exact rfl);exact w8;omega;exact rfl) | refine Y ?_|(apply T.drawN 1 57 A1 (by decide +kernel);simp only [td])|(apply T.drawRN 1 57 A1 (by decide +kernel);simp only [td])|refine Za ?_
     | refine V ?_
     | (refine W2 ?_ ?_ <;> intro hc))
    all_goals (change Next _ _ _ _ _ _)
    all_goals exact Next.go (k + 1) (by omega) (by omega) CW (.live rfl .nil)
   ·have hX : hwX s = ⟨#[115, 108, 105, 112, 115]⟩ := if_neg hold
    rw [hX] at w8
    repeat' (first
     | refine W ?_
     | (apply S.indexR;(iterate 3 exact rfl);exact hb1;omega;exact rfl)|(apply S.indexR;(iterate 3 exact rfl);exact hb2;omega;exact rfl)|(apply S.indexR;(iterate 3 exact rfl);exact hb3;omega;exact rfl)|(apply S.indexR;(iterate 3 exact rfl);exact w0;omega;exact rfl)|(apply S.indexR;(iterate 3 exact rfl);exact w1;omega;exact rfl)|(apply S.indexR;(iterate 3 exact rfl);exact w3;omega;exact rfl)|(apply S.indexR;(iterate 3 exact rfl);exact w8;omega;exact rfl) | refine Y ?_|(apply T.drawN 1 57 A1 (by decide +kernel);simp only [td])|(apply T.drawRN 1 57 A1 (by decide +kernel);simp only [td])|refine Za ?_
     | refine V ?_
     | (refine W2 ?_ ?_ <;> intro hc))
    all_goals (change Next _ _ _ _ _ _)
    all_goals exact Next.go (k + 1) (by omega) (by omega) CW (.live rfl .nil)
  have h1 : ¬ ((k : Nat) : Int) < ((L.map A5).length : Nat) := by omega
  have hlen : (rl.map fun x => At (hwB h x)).length = rl.length := List.length_map _
  repeat' (first
   | refine W ?_
   | refine Y ?_|(apply S.sliceFrom;(iterate 3 exact rfl);omega;exact hrr;rw [hdr])|refine Za ?_
   | refine V ?_
   | (refine W2 ?_ ?_ <;> intro hc))
  refine T.loopS (fun j => j <= rl.length) (fun j => rl.length - j) (fun j => [(165, .i (j : Nat)), (164, .i (rl.map fun x => At (hwB h x)).length), (163, .sl (rl.map fun x => At (hwB h x))), (1, .ptr 0 0)]) (fun j => [.live (h.row.map .lf)]) 0 (Nat.zero_le _) CW (.live rfl .nil) ?_
  intro j hj
  by_cases hjt : j < rl.length
  ·have h2 : ((j : Nat) : Int) < ((rl.map fun x => At (hwB h x)).length : Nat) := by omega
   obtain ⟨x, hx⟩ := A7 hjt
   have hb1 : (rl.map fun x => At (hwB h x))[((j : Nat) : Int).toNat]? = some [.sl ((hwB h x).map Ao)] := A9 (R := fun x => At (hwB h x)) hx
   have hb2 := A9 (R := RoofR.row) (hrx j x hx)
   have hj3 := (List.getElem?_eq_some_iff.1 (hrx j x hx)).1
   have hxp := hp.2.2.2.2.1.2.1 x (List.mem_of_getElem? (hrx j x hx))
   have r3 := hxp.2.2.2.2
   have c1 := Bn x.most (by omega) (by omega)
   have w0 : ((hwB h x).map Ao)[(0 : Int).toNat]? = some [.s ⟨#[98, 101, 97, 109]⟩] := rfl
   have w1 : ((hwB h x).map Ao)[(1 : Int).toNat]? = some [.s x.name] := rfl
   have w5 : ((hwB h x).map Ao)[(5 : Int).toNat]? = some [.s (Ad x.most)] := rfl
   have wl : ¬ ¬ ((((hwB h x).map Ao).length : Nat) : Int) = 6 := fun k => k rfl
   have wll : ((hwB h x).map Ao).length = 6 := rfl
   have q0 : ¬ ¬ (⟨#[98, 101, 97, 109]⟩ : ByteArray) = ⟨#[98, 101, 97, 109]⟩ := fun k => k rfl
   have q1 : ¬ ¬ x.name = x.name := fun k => k rfl
   have q5 : ¬ ¬ Ad x.most = Ad x.most := fun k => k rfl
   generalize (hwB h x).map Ao = ww at *
   repeat' (first
    | refine W ?_
    | (apply S.indexR;(iterate 3 exact rfl);exact hb1;omega;exact rfl)|(apply S.indexR;(iterate 3 exact rfl);exact hb2;omega;exact rfl)|(apply S.indexR;(iterate 3 exact rfl);exact w0;omega;exact rfl)|(apply S.indexR;(iterate 3 exact rfl);exact w1;omega;exact rfl)|(apply S.indexR;(iterate 3 exact rfl);exact w5;omega;exact rfl) | refine Y ?_|(apply T.drawN 1 34 A1 (by decide +kernel);simp only [td])|(apply T.drawRN 1 34 A1 (by decide +kernel);simp only [td])|refine Za ?_
    | refine V ?_
    | (refine W2 ?_ ?_ <;> intro hc))
   all_goals (change Next _ _ _ _ _ _)
   all_goals exact Next.go (j + 1) (by omega) (by omega) CW (.live rfl .nil)
  ·have h2 : ¬ ((j : Nat) : Int) < ((rl.map fun x => At (hwB h x)).length : Nat) := by omega
   repeat' (first
    | refine W ?_
    | refine Y ?_
    | refine V ?_
    | (refine W2 ?_ ?_ <;> intro hc))
   all_goals exact A3 (by simp) Tryz.results6 rfl rfl
 ·have e1 := he.1
  have f4 : ¬ ¬ ((((Bk h rl).map At).length : Nat) : Int) = 1 + (((L.map A5).length : Nat) : Int) := by (have := congrArg List.length he.2;rw [List.length_nil] at this;omega)
  generalize hM : (Bk h rl).map At = M at *
  refine Fn0.of Tryz.func6 Tryz.ntmps6 rfl rfl rfl ?_
  simp only [A0]
  repeat' (first
   | refine W ?_
   | (apply S.indexR;(iterate 3 exact rfl);exact hb0;omega;exact rfl) | refine Y ?_|(apply T.drawN 1 25 A1 (by decide +kernel);simp only [td])|(apply T.drawRN 1 25 A1 (by decide +kernel);simp only [td])|(apply S.buildSliceF;(iterate 8 exact rfl))|(apply S.callV;exact rfl;exact ceq;exact .cons (.one (.lf _)) (.cons (.one (.lf _)) .nil);exact rfl;exact rfl)|refine Za ?_
   | refine V ?_
   | (refine W2 ?_ ?_ <;> intro hc))
  refine T.loopS (fun k => k <= n) (fun k => n - k) (fun k => [(91, .i (k : Nat)), (90, .i (L.map A5).length), (89, .sl (L.map A5)), (9, .sl M), (5, .sl (L.map A5)), (1, .ptr 0 0)]) (fun k => [.live (h.row.map .lf)]) 0 (Nat.zero_le _) CW (.live rfl .nil) ?_
  intro k hk
  by_cases hlt : k < n
  ·have h1 : ((k : Nat) : Int) < ((L.map A5).length : Nat) := by omega
   obtain ⟨x, hx⟩ := A7 (l := An (Bi h) h.sets.length) (k := k) (by rw [Bd];omega)
   have hxn : x < h.sets.length := ordP_mem.1 (List.mem_of_getElem? hx)
   have hxL : L[k]? = some (x : Int) := by rw [hL, iN, List.getElem?_map, hx];rfl
   have hb1 := A9 (R := A5) hxL
   obtain ⟨s, hs⟩ := A7 hxn
   have hb2 := A9 (R := SetR.row) hs
   have hb3 : M[(1 + ((k : Nat) : Int)).toNat]? = some [.sl ((hwS s).map Ao)] := by
    rw [<- hM, show (1 + ((k : Nat) : Int)).toNat = k + 1 by omega, List.getElem?_map, hat k x s hx hs];rfl
   have hsp := (hp.2.2.2.2.2.1 s (List.mem_of_getElem? hs)).1
   have r3 := hsp.2.1
   have c1 := Bn s.depth (by omega) (by omega)
   have hx0 : ¬ ((x : Nat) : Int) < 0 := by omega
   have hx1 : ¬ ((x : Nat) : Int) >= ((h.sets.map SetR.row).length : Nat) := by omega
   have hx2 : ¬ ((h.sets.map SetR.row).length : Nat) <= ((x : Nat) : Int) := by omega
   have w0 : ((hwS s).map Ao)[(0 : Int).toNat]? = some [.s ⟨#[115, 101, 116]⟩] := rfl
   have w1 : ((hwS s).map Ao)[(1 : Int).toNat]? = some [.s s.name] := rfl
   have w3 : ((hwS s).map Ao)[(3 : Int).toNat]? = some [.s (Ad s.depth)] := rfl
   have w8 : ((hwS s).map Ao)[(8 : Int).toNat]? = some [.s (hwX s)] := rfl
   have wl : ¬ ¬ ((((hwS s).map Ao).length : Nat) : Int) = 9 := fun k => k rfl
   have wll : ((hwS s).map Ao).length = 9 := rfl
   have q0 : ¬ ¬ (⟨#[115, 101, 116]⟩ : ByteArray) = ⟨#[115, 101, 116]⟩ := fun k => k rfl
   have q1 : ¬ ¬ s.name = s.name := fun k => k rfl
   have q3 : ¬ ¬ Ad s.depth = Ad s.depth := fun k => k rfl
   have q8 : ¬ ¬ (⟨#[104, 111, 108, 100, 115]⟩ : ByteArray) = ⟨#[104, 111, 108, 100, 115]⟩ := fun k => k rfl
   have q9 : ¬ ¬ (⟨#[115, 108, 105, 112, 115]⟩ : ByteArray) = ⟨#[115, 108, 105, 112, 115]⟩ := fun k => k rfl
   have q7 : ¬ (⟨#[115, 108, 105, 112, 115]⟩ : ByteArray) = ⟨#[104, 111, 108, 100, 115]⟩ := by decide
   generalize (hwS s).map Ao = ww at *
   by_cases hold : G9 s
   ·have hX : hwX s = ⟨#[104, 111, 108, 100, 115]⟩ := if_pos hold
    rw [hX] at w8
    repeat' (first
     | refine W ?_
     | (apply S.indexR;(iterate 3 exact rfl);exact hb1;omega;exact rfl)|(apply S.indexR;(iterate 3 exact rfl);exact hb2;omega;exact rfl)|(apply S.indexR;(iterate 3 exact rfl);exact hb3;omega;exact rfl)|(apply S.indexR;(iterate 3 exact rfl);exact w0;omega;exact rfl)|(apply S.indexR;(iterate 3 exact rfl);exact w1;omega;exact rfl)|(apply S.indexR;(iterate 3 exact rfl);exact w3;omega;exact rfl)|(apply S.indexR;(iterate 3 exact rfl);exact w8;omega;exact rfl) | refine Y ?_|(apply T.drawN 1 57 A1 (by decide +kernel);simp only [td])|(apply T.drawRN 1 57 A1 (by decide +kernel);simp only [td])|refine Za ?_
     | refine V ?_
     | (refine W2 ?_ ?_ <;> intro hc))
    all_goals (change Next _ _ _ _ _ _)
    all_goals exact Next.go (k + 1) (by omega) (by omega) CW (.live rfl .nil)
   ·have hX : hwX s = ⟨#[115, 108, 105, 112, 115]⟩ := if_neg hold
    rw [hX] at w8
    repeat' (first
     | refine W ?_
     | (apply S.indexR;(iterate 3 exact rfl);exact hb1;omega;exact rfl)|(apply S.indexR;(iterate 3 exact rfl);exact hb2;omega;exact rfl)|(apply S.indexR;(iterate 3 exact rfl);exact hb3;omega;exact rfl)|(apply S.indexR;(iterate 3 exact rfl);exact w0;omega;exact rfl)|(apply S.indexR;(iterate 3 exact rfl);exact w1;omega;exact rfl)|(apply S.indexR;(iterate 3 exact rfl);exact w3;omega;exact rfl)|(apply S.indexR;(iterate 3 exact rfl);exact w8;omega;exact rfl) | refine Y ?_|(apply T.drawN 1 57 A1 (by decide +kernel);simp only [td])|(apply T.drawRN 1 57 A1 (by decide +kernel);simp only [td])|refine Za ?_
     | refine V ?_
     | (refine W2 ?_ ?_ <;> intro hc))
    all_goals (change Next _ _ _ _ _ _)
    all_goals exact Next.go (k + 1) (by omega) (by omega) CW (.live rfl .nil)
  have h1 : ¬ ((k : Nat) : Int) < ((L.map A5).length : Nat) := by omega
  have hlen : (rl.map fun x => At (hwB h x)).length = rl.length := List.length_map _
  repeat' (first
   | refine W ?_
   | refine Y ?_|(apply S.sliceFrom;(iterate 3 exact rfl);omega;exact hrr;rw [hdr])|refine Za ?_
   | refine V ?_
   | (refine W2 ?_ ?_ <;> intro hc))
  refine T.loopS (fun j => j <= rl.length) (fun j => rl.length - j) (fun j => [(165, .i (j : Nat)), (164, .i (rl.map fun x => At (hwB h x)).length), (163, .sl (rl.map fun x => At (hwB h x))), (1, .ptr 0 0)]) (fun j => [.live (h.row.map .lf)]) 0 (Nat.zero_le _) CW (.live rfl .nil) ?_
  intro j hj
  by_cases hjt : j < rl.length
  ·have h2 : ((j : Nat) : Int) < ((rl.map fun x => At (hwB h x)).length : Nat) := by omega
   obtain ⟨x, hx⟩ := A7 hjt
   have hb1 : (rl.map fun x => At (hwB h x))[((j : Nat) : Int).toNat]? = some [.sl ((hwB h x).map Ao)] := A9 (R := fun x => At (hwB h x)) hx
   have hb2 := A9 (R := RoofR.row) (hrx j x hx)
   have hj3 := (List.getElem?_eq_some_iff.1 (hrx j x hx)).1
   have hxp := hp.2.2.2.2.1.2.1 x (List.mem_of_getElem? (hrx j x hx))
   have r3 := hxp.2.2.2.2
   have c1 := Bn x.most (by omega) (by omega)
   have w0 : ((hwB h x).map Ao)[(0 : Int).toNat]? = some [.s ⟨#[98, 101, 97, 109]⟩] := rfl
   have w1 : ((hwB h x).map Ao)[(1 : Int).toNat]? = some [.s x.name] := rfl
   have w5 : ((hwB h x).map Ao)[(5 : Int).toNat]? = some [.s (Ad x.most)] := rfl
   have wl : ¬ ¬ ((((hwB h x).map Ao).length : Nat) : Int) = 6 := fun k => k rfl
   have wll : ((hwB h x).map Ao).length = 6 := rfl
   have q0 : ¬ ¬ (⟨#[98, 101, 97, 109]⟩ : ByteArray) = ⟨#[98, 101, 97, 109]⟩ := fun k => k rfl
   have q1 : ¬ ¬ x.name = x.name := fun k => k rfl
   have q5 : ¬ ¬ Ad x.most = Ad x.most := fun k => k rfl
   generalize (hwB h x).map Ao = ww at *
   repeat' (first
    | refine W ?_
    | (apply S.indexR;(iterate 3 exact rfl);exact hb1;omega;exact rfl)|(apply S.indexR;(iterate 3 exact rfl);exact hb2;omega;exact rfl)|(apply S.indexR;(iterate 3 exact rfl);exact w0;omega;exact rfl)|(apply S.indexR;(iterate 3 exact rfl);exact w1;omega;exact rfl)|(apply S.indexR;(iterate 3 exact rfl);exact w5;omega;exact rfl) | refine Y ?_|(apply T.drawN 1 34 A1 (by decide +kernel);simp only [td])|(apply T.drawRN 1 34 A1 (by decide +kernel);simp only [td])|refine Za ?_
    | refine V ?_
    | (refine W2 ?_ ?_ <;> intro hc))
   all_goals (change Next _ _ _ _ _ _)
   all_goals exact Next.go (j + 1) (by omega) (by omega) CW (.live rfl .nil)
  ·have h2 : ¬ ((j : Nat) : Int) < ((rl.map fun x => At (hwB h x)).length : Nat) := by omega
   repeat' (first
    | refine W ?_
    | refine Y ?_
    | refine V ?_
    | (refine W2 ?_ ?_ <;> intro hc))
   all_goals exact A3 (by simp) Tryz.results6 rfl rfl
theorem Jf (h : HouseR) (hf : h.fits) : Fn0 Tryz.prog 6 [A2 h.row] (.b true) := by
 by_cases hs : Jq h 5
 ·by_cases hp : B0 h
  ·have h5 : h.sets.length <= 5 := by have := hs.1;omega
   by_cases b : Er h
   ·exact Ku h hf hp hs _ 0 h.roofs (Gf h hf hp h5 b) (by unfold hLs Bk;rw [if_pos b]) (.inl ⟨rfl, rfl⟩)
   ·obtain ⟨e, he, cl⟩ := Gu h hf hp h5 b
    exact Ku h hf hp hs _ e [] cl (by unfold hLs Bk;rw [if_neg b];rfl) (.inr ⟨he, rfl⟩)
  ·have ca := Gy
   have csm := H9 h 5 (by decide) hf
   rw [decide_eq_true hs] at csm
   have cv := Ha h hf
   rw [decide_eq_false hp] at cv
   refine Fn0.of Tryz.func6 Tryz.ntmps6 rfl rfl rfl ?_
   simp only [A0]
   repeat' (first
    | refine W ?_
    | refine Y ?_
    | refine V ?_
    | (refine W2 ?_ ?_ <;> intro hc))
   all_goals exact A3 (by simp) Tryz.results6 rfl rfl
 ·have ca := Gy
  have csm := H9 h 5 (by decide) hf
  rw [decide_eq_false hs] at csm
  have cv := Ha h hf
  refine Fn0.of Tryz.func6 Tryz.ntmps6 rfl rfl rfl ?_
  simp only [A0]
  repeat' (first
   | refine W ?_
   | refine Y ?_
   | refine V ?_
   | (refine W2 ?_ ?_ <;> intro hc))
  all_goals exact A3 (by simp) Tryz.results6 rfl rfl
end Go.Proofs.YtcfjofhapbkmfaaGreatDoor
