/- Contracts: First of a valid curve and times in range. No conditions but those of each statement. -/
import Derived.Test.YtcbfnkgodiaiiaaGreatPa
import Derived.Test.YtcbfnkgodiaiiaaGreatNi
set_option linter.unusedSimpArgs false
set_option linter.unusedVariables false
namespace Go.Proofs.YtcbfnkgodiaiiaaGreat
open Go.RowKit
def ptA (A : List PcQ) (fr : Rat) (i : Nat) : Rat := if 0 < i /\ fr < (A6 A i).f then (A6 A i).f else fr
def ptB (A : List PcQ) (te : Rat) (i : Nat) : Rat := if i + 1 < A.length /\ (A6 A (i + 1)).f < te then (A6 A (i + 1)).f else te
def Av (A : List PcQ) (fr te : Rat) (i : Nat) : Prop := te < ptA A fr i \/ i + 1 < A.length /\ (A6 A (i + 1)).f <= ptA A fr i
instance (A : List PcQ) (fr te : Rat) (i : Nat) : Decidable (Av A fr te i) := by unfold Av;exact inferInstance
def B5 (A : List PcQ) (fr te : Rat) (i : Nat) : Option (List Lf) :=
 if Av A fr te i then none else if vR (A6 A i) (ptA A fr i) < 0 then some (enQ (ptA A fr i)) else if Cd (A6 A i) (ptA A fr i) (ptB A te i) then some (H6 (A6 A i) (ptA A fr i) (ptB A te i)) else none
def Bc (A : List PcQ) (fr te : Rat) : Nat -> Option (List Lf)
 | 0 => none
 | k + 1 => match Bc A fr te k with
  | some r => some r
  | none => B5 A fr te k
theorem F6 {A : List PcQ} {fr te : Rat} {k : Nat} {r : List Lf} (h : Bc A fr te k = some r) : ∀ n, k <= n -> Bc A fr te n = some r := by
 intro n hn
 induction n with
 | zero => obtain rfl : k = 0 := by omega
           exact h
 | succ n ih =>
  by_cases e : k = n + 1
  ·subst e;exact h
  ·rw [Bc, ih (by omega)]
def A4 (l : List PcQ) (fr : Rat) : List PcQ := ⟨fr, (A6 l 0).a, 0, 0⟩ :: l
def B9 (l : List PcQ) (fr te : Rat) : AV := match Bc (A4 l fr) fr te (A4 l fr).length with
 | some r => .tup [A1 r, .i 0]
 | none => spE 12
def sp2 (r : List Lf) : Prop := ∃ x y, r = [.i x, .i y]
theorem Oj (q : Rat) : sp2 (enQ q) := by unfold enQ;split <;> exact ⟨_, _, rfl⟩
theorem M1 (p : PcQ) (a b : Rat) : sp2 (H6 p a b) := by unfold H6;split <;> exact ⟨_, _, rfl⟩
theorem Vm (l : List PcQ) (fr : Rat) : (A4 l fr).map PcQ.row = PcQ.row ⟨fr, (A6 l 0).a, 0, 0⟩ :: l.map PcQ.row := rfl
theorem Acf (l : List PcQ) : (l.map PcQ.row).flatten.all Lf.one = true := by
 rw [List.all_eq_true]
 intro x hx
 obtain ⟨r, hr, hx⟩ := List.mem_flatten.1 hx
 obtain ⟨p, _, rfl⟩ := List.mem_map.1 hr
 simp only [PcQ.row, List.mem_cons, List.not_mem_nil, or_false] at hx
 rcases hx with rfl | rfl | rfl | rfl | rfl | rfl | rfl | rfl <;> rfl
theorem Ab6 (l : List PcQ) (fr : Rat) : OwnRows ((PcQ.row ⟨fr, (A6 l 0).a, 0, 0⟩).map AV.lf ++ (l.map PcQ.row).flatten.map AV.lf) 0 (1 + (l.map PcQ.row).length) 8 ((A4 l fr).map PcQ.row) := by
 have := OwnRows.of ((A4 l fr).map PcQ.row).flatten (A11 (A4 l fr)) rfl
 rw [show ((A4 l fr).map PcQ.row).length = 1 + (l.map PcQ.row).length by rw [Vm, List.length_cons];omega, Vm, List.flatten_cons, List.map_append] at this
 exact this
set_option maxHeartbeats 64000000 in
theorem A3y (l : List PcQ) (fr te : Rat) (hl : okC l) (h0 : l ≠ []) (hn : l.length <= 200) (hf : Fits fr) (ht : Fits te) (hv : Fn0 Tryz.prog 95 [.sl (l.map PcQ.row)] (.b true)) (hle : fr <= te) (hr1 : Cx fr) (hr2 : Cx te) :
  Fn0 Tryz.prog 56 [.sl (l.map PcQ.row), A1 (frR fr), A1 (frR te)] (B9 l fr te) := by
 have v1 : Fn0 Tryz.prog 73 [A1 (frR fr)] (.b true) := by
  have := Gr fr.num fr.den
  rwa [hf.valid] at this
 have v2 : Fn0 Tryz.prog 73 [A1 (frR te)] (.b true) := by
  have := Gr te.num te.den
  rwa [ht.valid] at this
 have c := C0 fr te hf ht
 have r1 := T4 fr hf
 have r2 := T4 te ht
 have z := Mm
 have k0 : ¬ 0 < C2 fr te := fun h => Rat.not_lt.2 hle ((Ps _ _).1 h)
 have n1 : ¬ ¬ Cx fr := fun h => h hr1
 have n2 : ¬ ¬ Cx te := fun h => h hr2
 have hll : (l.map PcQ.row).length = l.length := List.length_map _
 have hpos : 0 < l.length := List.length_pos_iff.2 h0
 obtain ⟨x0, hx0⟩ : ∃ x, l[0]? = some x := ⟨l[0]'hpos, List.getElem?_eq_getElem _⟩
 have hb0 : (l.map PcQ.row)[(0 : Int).toNat]? = some x0.row := by rw [show (0 : Int).toNat = 0 from rfl, List.getElem?_map, hx0];rfl
 have hp0 : A6 l 0 = x0 := Bb hx0
 have hA : okC (A4 l fr) := by
  intro p hp
  rcases List.mem_cons.1 hp with rfl | hp
  ·exact ⟨hf, by rw [hp0];exact (hl x0 (List.mem_of_getElem? hx0)).a, Fits.zero, Fits.zero⟩
  ·exact hl p hp
 have hlen : (A4 l fr).length = l.length + 1 := rfl
 refine Fn0.of Tryz.func56 Tryz.ntmps56 rfl rfl rfl ?_
 simp only [A2]
 repeat' (first | refine W ?_|(apply S.call;exact rfl;exact rfl;exact hv;exact rfl)|(apply S.call;exact rfl;exact rfl;exact v1;exact rfl)|(apply S.call;exact rfl;exact rfl;exact v2;exact rfl)|(apply S.call;exact rfl;exact rfl;exact c;exact rfl)|(apply S.call;exact rfl;exact rfl;exact r1;exact rfl)|(apply S.call;exact rfl;exact rfl;exact r2;exact rfl)|(apply S.call;exact rfl;exact rfl;exact z;exact rfl)|(apply S.indexR;exact rfl;exact rfl;exact rfl;exact hb0;omega;exact rfl)|(apply T.draw 10 A0 (by decide +kernel);simp only [td])|(apply S.buildSliceO;(iterate 6 exact rfl))|(apply S.appendO;(iterate 9 exact rfl);exact A11 l;exact Acf l;exact rfl;(rw [hll];omega);(rw [hll];omega))|(refine T.freeze 8 rfl rfl (hp0 ▸ Ab6 l fr) ?_) | refine V ?_|(refine W2 ?_ ?_ <;> intro hc))
 refine T.loopS (fun i => i <= (A4 l fr).length /\ Bc (A4 l fr) fr te i = none) (fun i => (A4 l fr).length - i) (fun i => [(58, .i (i : Int)), (57, .i ((((A4 l fr).map PcQ.row).length : Nat) : Int)), (56, .sl ((A4 l fr).map PcQ.row)), (8, .sl ((A4 l fr).map PcQ.row)), (4, .ptr 0 0), (5, .ptr 1 0), (6, .ptr 2 0)]) (fun i => [.live ((frR fr).map .lf), .live ((frR te).map .lf), .live [.i 0, .i 0], .dead]) 0 ⟨Nat.zero_le _, rfl⟩ (.cons rfl rfl CW) CG ?_
 rintro i ⟨hi, hsc⟩
 have hlr : ((A4 l fr).map PcQ.row).length = (A4 l fr).length := List.length_map _
 by_cases hlt : i < (A4 l fr).length
 ·have h1 : (i : Int) < ((((A4 l fr).map PcQ.row).length : Nat) : Int) := by omega
  obtain ⟨x, hx⟩ := A9 hlt
  have hbx := Ac (R := PcQ.row) hx
  have okx := hA x (List.mem_of_getElem? hx)
  have px : A6 (A4 l fr) i = x := Bb hx
  have ca := C0 x.f fr okx.f hf
  have ka := Ps x.f fr
  have hsn : Bc (A4 l fr) fr te (i + 1) = B5 (A4 l fr) fr te i := by rw [Bc, hsc]
  obtain ⟨a, ha⟩ : ∃ a, a = ptA (A4 l fr) fr i := ⟨_, rfl⟩
  obtain ⟨b, hb⟩ : ∃ b, b = ptB (A4 l fr) te i := ⟨_, rfl⟩
  have hfa : Fits a := by
   rw [ha];unfold ptA;split
   ·rw [px];exact okx.f
   ·exact hf
  have hage : fr <= a := by
   rw [ha];unfold ptA;split
   ·rename_i h;exact Rat.le_of_lt h.2
   ·exact Rat.le_refl
  have cta := C0 a te hfa ht
  have kta := Ps a te
  have oa := Hy a hfa
  have cp := Adp x.f x.a x.b x.c okx.f okx.a okx.b okx.c
  have cv := N1 x.pt (Ex.ofQ a) okx.pt (Bq hfa)
  have cs : Fn0 Tryz.prog 106 [A1 (exR (x.pt.value (Ex.ofQ a)))] (.i (sgQ (x.pt.value (Ex.ofQ a)).val)) := Di (Mg okx.pt (Bq hfa))
  have kv : sgQ (x.pt.value (Ex.ofQ a)).val < 0 ↔ vR x a < 0 := by rw [G8, Qc (Bq hfa).2.2, Ex.val_ofQ]
  generalize sgQ (x.pt.value (Ex.ofQ a)).val = sv at cs kv
  by_cases hi0 : (0 : Int) < (i : Int)
  ·have hAx : ∀ h : fr < x.f, a = x.f := fun h => by rw [ha, ptA, if_pos ⟨by omega, by rw [px];exact h⟩, px]
   have hAx' : ∀ h : ¬ fr < x.f, a = fr := fun h => by rw [ha, ptA, if_neg fun e => h (by rw [<- px];exact e.2)]
   by_cases hlast : i + 1 < (A4 l fr).length
   ·have h2 : (i : Int) + 1 < ((((A4 l fr).map PcQ.row).length : Nat) : Int) := by omega
    obtain ⟨y, hy⟩ := A9 hlast
    have hby : ((A4 l fr).map PcQ.row)[((i : Int) + 1).toNat]? = some y.row := by rw [show ((i : Int) + 1).toNat = i + 1 by omega, List.getElem?_map, hy];rfl
    have oky := hA y (List.mem_of_getElem? hy)
    have py : A6 (A4 l fr) (i + 1) = y := Bb hy
    have cb := C0 y.f te oky.f ht
    have kb := Hg y.f te
    have cay := C0 a y.f hfa oky.f
    have kay := A1s a y.f
    have hfb : Fits b := by
     rw [hb];unfold ptB;split
     ·rw [py];exact oky.f
     ·exact ht
    have hB : ∀ h : y.f < te, b = y.f := fun h => by rw [hb, ptB, if_pos ⟨hlast, by rw [py];exact h⟩, py]
    have hB' : ∀ h : ¬ y.f < te, b = te := fun h => by rw [hb, ptB, if_neg fun e => h (by rw [<- py];exact e.2)]
    have hO : Av (A4 l fr) fr te i ↔ te < a \/ y.f <= a := by rw [Av, <- ha, py];exact ⟨fun h => h.imp_right And.right, fun h => h.imp_right fun e => ⟨hlast, e⟩⟩
    have hrg : ¬ Av (A4 l fr) fr te i -> a <= te := fun h => Rat.not_lt.1 fun e => h (hO.2 (.inl e))
    have hab : ¬ Av (A4 l fr) fr te i -> a <= b := fun h => by
     by_cases e : y.f < te
     ·rw [hB e];exact Rat.le_of_lt (Rat.not_le.1 fun e2 => h (hO.2 (.inr e2)))
     ·rw [hB' e];exact hrg h
    have hbt : b <= te := by
     by_cases e : y.f < te
     ·rw [hB e];exact Rat.le_of_lt e
     ·rw [hB' e];exact Rat.le_refl
    have ob := Hy b hfb
    have cbl := I7 x.pt (Ex.ofQ a) (Ex.ofQ b) okx.pt (Bq hfa) (Bq hfb)
    have kbl : x.pt.belowS (Ex.ofQ a) (Ex.ofQ b) ↔ Cd x a b := by rw [E5 (Bq hfa).2.2 (Bq hfb).2.2, Ex.val_ofQ, Ex.val_ofQ]
    have hst : ¬ Av (A4 l fr) fr te i -> B5 (A4 l fr) fr te i = if vR x a < 0 then some (enQ a) else if Cd x a b then some (H6 x a b) else none := fun h => by rw [B5, if_neg h, px, <- ha, <- hb]
    have hout : Av (A4 l fr) fr te i -> B5 (A4 l fr) fr te i = none := fun h => by rw [B5, if_pos h]
    have hm : ¬ Av (A4 l fr) fr te i -> Mid a /\ Mid b := fun h => ⟨Fy hfa ⟨Rat.le_trans hr1.1 hage, Rat.le_trans (hrg h) hr2.2⟩, Fy hfb ⟨Rat.le_trans hr1.1 (Rat.le_trans hage (hab h)), Rat.le_trans hbt hr2.2⟩⟩
    by_cases hO1 : Av (A4 l fr) fr te i
    ·as_aux_lemma =>
     repeat' (first | refine W ?_|(apply S.arith;(iterate 4 exact rfl);omega)|(apply S.call;exact rfl;exact rfl;exact ca;exact rfl)|(apply S.call;exact rfl;exact rfl;exact cta;exact rfl)|(apply S.indexR;exact rfl;exact rfl;exact rfl;exact hbx;omega;exact rfl)|(apply S.indexR;exact rfl;exact rfl;exact rfl;exact hby;omega;exact rfl)|(apply S.call;exact rfl;exact rfl;exact cb;exact rfl)|(apply S.call;exact rfl;exact rfl;exact cay;exact rfl)|(apply S.loadRW;(iterate 4 exact rfl))|(refine T.meetR 10 ([(9, .i (i : Int)), (10, .ptr 4 0), (11, .ptr 5 0), (12, .ptr 6 0), (58, .i (i : Int)), (57, .i ((((A4 l fr).map PcQ.row).length : Nat) : Int)), (56, .sl ((A4 l fr).map PcQ.row)), (8, .sl ((A4 l fr).map PcQ.row)), (4, .ptr 0 0), (5, .ptr 1 0), (6, .ptr 2 0)]) ([.live ((frR fr).map .lf), .live ((frR te).map .lf), .live [.i 0, .i 0], .dead, .live (x.row.map .lf), .live ((frR (a)).map .lf), .live ((frR (te)).map .lf)]) ?_ ?_)|(refine T.meetR 12 ([(9, .i (i : Int)), (10, .ptr 4 0), (11, .ptr 5 0), (12, .ptr 6 0), (58, .i (i : Int)), (57, .i ((((A4 l fr).map PcQ.row).length : Nat) : Int)), (56, .sl ((A4 l fr).map PcQ.row)), (8, .sl ((A4 l fr).map PcQ.row)), (4, .ptr 0 0), (5, .ptr 1 0), (6, .ptr 2 0)]) ([.live ((frR fr).map .lf), .live ((frR te).map .lf), .live [.i 0, .i 0], .dead, .live (x.row.map .lf), .live ((frR (a)).map .lf), .live ((frR (b)).map .lf)]) ?_ ?_)|(apply T.drawAll A0 (by decide +kernel))|(apply T.drawR 16 A0 (by decide +kernel);simp only [td])|(apply T.drawR 22 A0 (by decide +kernel);simp only [td]) | refine V ?_|(refine W2 ?_ ?_ <;> intro hc))
     all_goals first
      | exact T.met (.cons rfl rfl (.cons rfl rfl (.cons rfl rfl CW))) (by rw [hAx (ka.1 (by assumption))];exact CG)
      | exact T.met (.cons rfl rfl (.cons rfl rfl (.cons rfl rfl CW))) (by rw [hAx' (fun e => absurd (ka.2 e) (by assumption))];exact CG)
      | exact T.met (.cons rfl rfl (.cons rfl rfl (.cons rfl rfl CW))) (by rw [hB (kb.1 (by assumption))];exact CG)
      | exact T.met (.cons rfl rfl (.cons rfl rfl (.cons rfl rfl CW))) (by rw [hB' (fun e => absurd (kb.2 e) (by assumption))];exact CG)
      | (change Next _ _ _ _ _ _;exact Next.go (i + 1) ⟨by omega, by rw [hsn, hout hO1]⟩ (by omega) (.cons rfl rfl CW) CG)
      | (exfalso;rcases hO.1 hO1 with e | e;exact absurd (kta.2 e) (by assumption);exact absurd (kay.2 e) (by assumption))
    ·as_aux_lemma =>
     have q1 : ¬ 0 < C2 a te := fun e => hO1 (hO.2 (.inl (kta.1 e)))
     have q2 : ¬ 0 <= C2 a y.f := fun e => hO1 (hO.2 (.inr (kay.1 e)))
     obtain ⟨ma, mb⟩ := hm hO1
     have cen := I2 a ma
     have cf := Mx x a b okx ma mb (hab hO1)
     obtain ⟨u1, u2, hu⟩ := Oj a
     obtain ⟨w1, w2, hw⟩ := M1 x a b
     have hs := hst hO1
     rw [hu] at cen hs
     rw [hw] at cf hs
     by_cases hv0 : vR x a < 0
     ·have hv0' := kv.2 hv0
      repeat' (first | refine W ?_|(apply S.arith;(iterate 4 exact rfl);omega)|(apply S.call;exact rfl;exact rfl;exact ca;exact rfl)|(apply S.call;exact rfl;exact rfl;exact cta;exact rfl)|(apply S.indexR;exact rfl;exact rfl;exact rfl;exact hbx;omega;exact rfl)|(apply S.indexR;exact rfl;exact rfl;exact rfl;exact hby;omega;exact rfl)|(apply S.call;exact rfl;exact rfl;exact cb;exact rfl)|(apply S.call;exact rfl;exact rfl;exact cay;exact rfl)|(apply S.loadRW;(iterate 4 exact rfl))|(refine T.meetR 10 ([(9, .i (i : Int)), (10, .ptr 4 0), (11, .ptr 5 0), (12, .ptr 6 0), (58, .i (i : Int)), (57, .i ((((A4 l fr).map PcQ.row).length : Nat) : Int)), (56, .sl ((A4 l fr).map PcQ.row)), (8, .sl ((A4 l fr).map PcQ.row)), (4, .ptr 0 0), (5, .ptr 1 0), (6, .ptr 2 0)]) ([.live ((frR fr).map .lf), .live ((frR te).map .lf), .live [.i 0, .i 0], .dead, .live (x.row.map .lf), .live ((frR (a)).map .lf), .live ((frR (te)).map .lf)]) ?_ ?_)|(refine T.meetR 12 ([(9, .i (i : Int)), (10, .ptr 4 0), (11, .ptr 5 0), (12, .ptr 6 0), (58, .i (i : Int)), (57, .i ((((A4 l fr).map PcQ.row).length : Nat) : Int)), (56, .sl ((A4 l fr).map PcQ.row)), (8, .sl ((A4 l fr).map PcQ.row)), (4, .ptr 0 0), (5, .ptr 1 0), (6, .ptr 2 0)]) ([.live ((frR fr).map .lf), .live ((frR te).map .lf), .live [.i 0, .i 0], .dead, .live (x.row.map .lf), .live ((frR (a)).map .lf), .live ((frR (b)).map .lf)]) ?_ ?_)|(apply T.drawAll A0 (by decide +kernel))|(apply T.drawR 16 A0 (by decide +kernel);simp only [td])|(apply T.drawR 22 A0 (by decide +kernel);simp only [td])|(apply S.call;exact rfl;exact rfl;exact cp;exact rfl)|(apply S.call;exact rfl;exact rfl;exact oa;exact rfl)|(apply S.call;exact rfl;exact rfl;exact ob;exact rfl)|(apply S.call;exact rfl;exact rfl;exact cv;exact rfl)|(apply S.call;exact rfl;exact rfl;exact cs;exact rfl)|(apply S.call;exact rfl;exact rfl;exact cbl;exact rfl)|(apply S.call;exact rfl;exact rfl;exact cen;exact rfl)|(apply S.call;exact rfl;exact rfl;exact cf;exact rfl)|(apply T.drawR 6 A0 (by decide +kernel);simp only [td])|(apply T.draw 6 A0 (by decide +kernel);simp only [td])|(apply T.draw 7 A0 (by decide +kernel);simp only [td])|(apply T.drawR 7 A0 (by decide +kernel);simp only [td]) | refine V ?_|(refine W2 ?_ ?_ <;> intro hc))
      all_goals first
       | exact T.met (.cons rfl rfl (.cons rfl rfl (.cons rfl rfl CW))) (by rw [hAx (ka.1 (by assumption))];exact CG)
       | exact T.met (.cons rfl rfl (.cons rfl rfl (.cons rfl rfl CW))) (by rw [hAx' (fun e => absurd (ka.2 e) (by assumption))];exact CG)
       | exact T.met (.cons rfl rfl (.cons rfl rfl (.cons rfl rfl CW))) (by rw [hB (kb.1 (by assumption))];exact CG)
       | exact T.met (.cons rfl rfl (.cons rfl rfl (.cons rfl rfl CW))) (by rw [hB' (fun e => absurd (kb.2 e) (by assumption))];exact CG)
       | (rw [show B9 l fr te = .tup [A1 [.i u1, .i u2], .i 0] by unfold B9;rw [F6 (k := i + 1) (by rw [hsn, hs, if_pos hv0]) _ (by omega)]];exact ⟨.inr rfl, [A1 [.i u1, .i u2], .i 0], .cons (Res.row [.i u1, .i u2] rfl rfl rfl rfl rfl) (.cons (.tmp rfl) .nil), .tup (.cons (.agg (A7 [.i u1, .i u2])) (.cons (.one (.lf _)) .nil))⟩)
     ·have hv0' : ¬ sv < 0 := fun e => hv0 (kv.1 e)
      by_cases hbl : Cd x a b
      ·have hbl' := kbl.2 hbl
       repeat' (first | refine W ?_|(apply S.arith;(iterate 4 exact rfl);omega)|(apply S.call;exact rfl;exact rfl;exact ca;exact rfl)|(apply S.call;exact rfl;exact rfl;exact cta;exact rfl)|(apply S.indexR;exact rfl;exact rfl;exact rfl;exact hbx;omega;exact rfl)|(apply S.indexR;exact rfl;exact rfl;exact rfl;exact hby;omega;exact rfl)|(apply S.call;exact rfl;exact rfl;exact cb;exact rfl)|(apply S.call;exact rfl;exact rfl;exact cay;exact rfl)|(apply S.loadRW;(iterate 4 exact rfl))|(refine T.meetR 10 ([(9, .i (i : Int)), (10, .ptr 4 0), (11, .ptr 5 0), (12, .ptr 6 0), (58, .i (i : Int)), (57, .i ((((A4 l fr).map PcQ.row).length : Nat) : Int)), (56, .sl ((A4 l fr).map PcQ.row)), (8, .sl ((A4 l fr).map PcQ.row)), (4, .ptr 0 0), (5, .ptr 1 0), (6, .ptr 2 0)]) ([.live ((frR fr).map .lf), .live ((frR te).map .lf), .live [.i 0, .i 0], .dead, .live (x.row.map .lf), .live ((frR (a)).map .lf), .live ((frR (te)).map .lf)]) ?_ ?_)|(refine T.meetR 12 ([(9, .i (i : Int)), (10, .ptr 4 0), (11, .ptr 5 0), (12, .ptr 6 0), (58, .i (i : Int)), (57, .i ((((A4 l fr).map PcQ.row).length : Nat) : Int)), (56, .sl ((A4 l fr).map PcQ.row)), (8, .sl ((A4 l fr).map PcQ.row)), (4, .ptr 0 0), (5, .ptr 1 0), (6, .ptr 2 0)]) ([.live ((frR fr).map .lf), .live ((frR te).map .lf), .live [.i 0, .i 0], .dead, .live (x.row.map .lf), .live ((frR (a)).map .lf), .live ((frR (b)).map .lf)]) ?_ ?_)|(apply T.drawAll A0 (by decide +kernel))|(apply T.drawR 16 A0 (by decide +kernel);simp only [td])|(apply T.drawR 22 A0 (by decide +kernel);simp only [td])|(apply S.call;exact rfl;exact rfl;exact cp;exact rfl)|(apply S.call;exact rfl;exact rfl;exact oa;exact rfl)|(apply S.call;exact rfl;exact rfl;exact ob;exact rfl)|(apply S.call;exact rfl;exact rfl;exact cv;exact rfl)|(apply S.call;exact rfl;exact rfl;exact cs;exact rfl)|(apply S.call;exact rfl;exact rfl;exact cbl;exact rfl)|(apply S.call;exact rfl;exact rfl;exact cen;exact rfl)|(apply S.call;exact rfl;exact rfl;exact cf;exact rfl)|(apply T.drawR 6 A0 (by decide +kernel);simp only [td])|(apply T.draw 6 A0 (by decide +kernel);simp only [td])|(apply T.draw 7 A0 (by decide +kernel);simp only [td])|(apply T.drawR 7 A0 (by decide +kernel);simp only [td]) | refine V ?_|(refine W2 ?_ ?_ <;> intro hc))
       all_goals first
        | exact T.met (.cons rfl rfl (.cons rfl rfl (.cons rfl rfl CW))) (by rw [hAx (ka.1 (by assumption))];exact CG)
        | exact T.met (.cons rfl rfl (.cons rfl rfl (.cons rfl rfl CW))) (by rw [hAx' (fun e => absurd (ka.2 e) (by assumption))];exact CG)
        | exact T.met (.cons rfl rfl (.cons rfl rfl (.cons rfl rfl CW))) (by rw [hB (kb.1 (by assumption))];exact CG)
        | exact T.met (.cons rfl rfl (.cons rfl rfl (.cons rfl rfl CW))) (by rw [hB' (fun e => absurd (kb.2 e) (by assumption))];exact CG)
        | (rw [show B9 l fr te = .tup [A1 [.i w1, .i w2], .i 0] by unfold B9;rw [F6 (k := i + 1) (by rw [hsn, hs, if_neg hv0, if_pos hbl]) _ (by omega)]];exact ⟨.inr rfl, [A1 [.i w1, .i w2], .i 0], .cons (Res.row [.i w1, .i w2] rfl rfl rfl rfl rfl) (.cons (.tmp rfl) .nil), .tup (.cons (.agg (A7 [.i w1, .i w2])) (.cons (.one (.lf _)) .nil))⟩)
      ·have hbl' : ¬ x.pt.belowS (Ex.ofQ a) (Ex.ofQ b) := fun e => hbl (kbl.1 e)
       repeat' (first | refine W ?_|(apply S.arith;(iterate 4 exact rfl);omega)|(apply S.call;exact rfl;exact rfl;exact ca;exact rfl)|(apply S.call;exact rfl;exact rfl;exact cta;exact rfl)|(apply S.indexR;exact rfl;exact rfl;exact rfl;exact hbx;omega;exact rfl)|(apply S.indexR;exact rfl;exact rfl;exact rfl;exact hby;omega;exact rfl)|(apply S.call;exact rfl;exact rfl;exact cb;exact rfl)|(apply S.call;exact rfl;exact rfl;exact cay;exact rfl)|(apply S.loadRW;(iterate 4 exact rfl))|(refine T.meetR 10 ([(9, .i (i : Int)), (10, .ptr 4 0), (11, .ptr 5 0), (12, .ptr 6 0), (58, .i (i : Int)), (57, .i ((((A4 l fr).map PcQ.row).length : Nat) : Int)), (56, .sl ((A4 l fr).map PcQ.row)), (8, .sl ((A4 l fr).map PcQ.row)), (4, .ptr 0 0), (5, .ptr 1 0), (6, .ptr 2 0)]) ([.live ((frR fr).map .lf), .live ((frR te).map .lf), .live [.i 0, .i 0], .dead, .live (x.row.map .lf), .live ((frR (a)).map .lf), .live ((frR (te)).map .lf)]) ?_ ?_)|(refine T.meetR 12 ([(9, .i (i : Int)), (10, .ptr 4 0), (11, .ptr 5 0), (12, .ptr 6 0), (58, .i (i : Int)), (57, .i ((((A4 l fr).map PcQ.row).length : Nat) : Int)), (56, .sl ((A4 l fr).map PcQ.row)), (8, .sl ((A4 l fr).map PcQ.row)), (4, .ptr 0 0), (5, .ptr 1 0), (6, .ptr 2 0)]) ([.live ((frR fr).map .lf), .live ((frR te).map .lf), .live [.i 0, .i 0], .dead, .live (x.row.map .lf), .live ((frR (a)).map .lf), .live ((frR (b)).map .lf)]) ?_ ?_)|(apply T.drawAll A0 (by decide +kernel))|(apply T.drawR 16 A0 (by decide +kernel);simp only [td])|(apply T.drawR 22 A0 (by decide +kernel);simp only [td])|(apply S.call;exact rfl;exact rfl;exact cp;exact rfl)|(apply S.call;exact rfl;exact rfl;exact oa;exact rfl)|(apply S.call;exact rfl;exact rfl;exact ob;exact rfl)|(apply S.call;exact rfl;exact rfl;exact cv;exact rfl)|(apply S.call;exact rfl;exact rfl;exact cs;exact rfl)|(apply S.call;exact rfl;exact rfl;exact cbl;exact rfl)|(apply S.call;exact rfl;exact rfl;exact cen;exact rfl)|(apply S.call;exact rfl;exact rfl;exact cf;exact rfl)|(apply T.drawR 6 A0 (by decide +kernel);simp only [td])|(apply T.draw 6 A0 (by decide +kernel);simp only [td])|(apply T.draw 7 A0 (by decide +kernel);simp only [td])|(apply T.drawR 7 A0 (by decide +kernel);simp only [td]) | refine V ?_|(refine W2 ?_ ?_ <;> intro hc))
       all_goals first
        | exact T.met (.cons rfl rfl (.cons rfl rfl (.cons rfl rfl CW))) (by rw [hAx (ka.1 (by assumption))];exact CG)
        | exact T.met (.cons rfl rfl (.cons rfl rfl (.cons rfl rfl CW))) (by rw [hAx' (fun e => absurd (ka.2 e) (by assumption))];exact CG)
        | exact T.met (.cons rfl rfl (.cons rfl rfl (.cons rfl rfl CW))) (by rw [hB (kb.1 (by assumption))];exact CG)
        | exact T.met (.cons rfl rfl (.cons rfl rfl (.cons rfl rfl CW))) (by rw [hB' (fun e => absurd (kb.2 e) (by assumption))];exact CG)
        | (change Next _ _ _ _ _ _;exact Next.go (i + 1) ⟨by omega, by rw [hsn, hs, if_neg hv0, if_neg hbl]⟩ (by omega) (.cons rfl rfl CW) CG)
   ·have h2 : ¬ (i : Int) + 1 < ((((A4 l fr).map PcQ.row).length : Nat) : Int) := by omega
    have hB' : b = te := by rw [hb, ptB, if_neg fun e => hlast e.1]
    have hfb : Fits b := by rw [hB'];exact ht
    have hO : Av (A4 l fr) fr te i ↔ te < a := by rw [Av, <- ha];exact ⟨fun h => h.elim id fun e => absurd e.1 hlast, .inl⟩
    have hrg : ¬ Av (A4 l fr) fr te i -> a <= te := fun h => Rat.not_lt.1 fun e => h (hO.2 e)
    have hab : ¬ Av (A4 l fr) fr te i -> a <= b := fun h => by rw [hB'];exact hrg h
    have hbt : b <= te := by rw [hB'];exact Rat.le_refl
    have ob := Hy b hfb
    have cbl := I7 x.pt (Ex.ofQ a) (Ex.ofQ b) okx.pt (Bq hfa) (Bq hfb)
    have kbl : x.pt.belowS (Ex.ofQ a) (Ex.ofQ b) ↔ Cd x a b := by rw [E5 (Bq hfa).2.2 (Bq hfb).2.2, Ex.val_ofQ, Ex.val_ofQ]
    have hst : ¬ Av (A4 l fr) fr te i -> B5 (A4 l fr) fr te i = if vR x a < 0 then some (enQ a) else if Cd x a b then some (H6 x a b) else none := fun h => by rw [B5, if_neg h, px, <- ha, <- hb]
    have hout : Av (A4 l fr) fr te i -> B5 (A4 l fr) fr te i = none := fun h => by rw [B5, if_pos h]
    have hm : ¬ Av (A4 l fr) fr te i -> Mid a /\ Mid b := fun h => ⟨Fy hfa ⟨Rat.le_trans hr1.1 hage, Rat.le_trans (hrg h) hr2.2⟩, Fy hfb ⟨Rat.le_trans hr1.1 (Rat.le_trans hage (hab h)), Rat.le_trans hbt hr2.2⟩⟩
    by_cases hO1 : Av (A4 l fr) fr te i
    ·as_aux_lemma =>
     repeat' (first | refine W ?_|(apply S.arith;(iterate 4 exact rfl);omega)|(apply S.call;exact rfl;exact rfl;exact ca;exact rfl)|(apply S.call;exact rfl;exact rfl;exact cta;exact rfl)|(apply S.indexR;exact rfl;exact rfl;exact rfl;exact hbx;omega;exact rfl)|(apply S.loadRW;(iterate 4 exact rfl))|(refine T.meetR 10 ([(9, .i (i : Int)), (10, .ptr 4 0), (11, .ptr 5 0), (12, .ptr 6 0), (58, .i (i : Int)), (57, .i ((((A4 l fr).map PcQ.row).length : Nat) : Int)), (56, .sl ((A4 l fr).map PcQ.row)), (8, .sl ((A4 l fr).map PcQ.row)), (4, .ptr 0 0), (5, .ptr 1 0), (6, .ptr 2 0)]) ([.live ((frR fr).map .lf), .live ((frR te).map .lf), .live [.i 0, .i 0], .dead, .live (x.row.map .lf), .live ((frR (a)).map .lf), .live ((frR (te)).map .lf)]) ?_ ?_)|(refine T.meetR 12 ([(9, .i (i : Int)), (10, .ptr 4 0), (11, .ptr 5 0), (12, .ptr 6 0), (58, .i (i : Int)), (57, .i ((((A4 l fr).map PcQ.row).length : Nat) : Int)), (56, .sl ((A4 l fr).map PcQ.row)), (8, .sl ((A4 l fr).map PcQ.row)), (4, .ptr 0 0), (5, .ptr 1 0), (6, .ptr 2 0)]) ([.live ((frR fr).map .lf), .live ((frR te).map .lf), .live [.i 0, .i 0], .dead, .live (x.row.map .lf), .live ((frR (a)).map .lf), .live ((frR (b)).map .lf)]) ?_ ?_)|(apply T.drawAll A0 (by decide +kernel))|(apply T.drawR 16 A0 (by decide +kernel);simp only [td])|(apply T.drawR 22 A0 (by decide +kernel);simp only [td]) | refine V ?_|(refine W2 ?_ ?_ <;> intro hc))
     all_goals first
      | exact T.met (.cons rfl rfl (.cons rfl rfl (.cons rfl rfl CW))) (by rw [hAx (ka.1 (by assumption))];exact CG)
      | exact T.met (.cons rfl rfl (.cons rfl rfl (.cons rfl rfl CW))) (by rw [hAx' (fun e => absurd (ka.2 e) (by assumption))];exact CG)
      | exact T.met (.cons rfl rfl (.cons rfl rfl (.cons rfl rfl CW))) (by rw [hB'];exact CG)
      | (change Next _ _ _ _ _ _;exact Next.go (i + 1) ⟨by omega, by rw [hsn, hout hO1]⟩ (by omega) (.cons rfl rfl CW) CG)
      | exact absurd (kta.2 (hO.1 hO1)) (by assumption)
    ·as_aux_lemma =>
     have q1 : ¬ 0 < C2 a te := fun e => hO1 (hO.2 (kta.1 e))
     obtain ⟨ma, mb⟩ := hm hO1
     have cen := I2 a ma
     have cf := Mx x a b okx ma mb (hab hO1)
     obtain ⟨u1, u2, hu⟩ := Oj a
     obtain ⟨w1, w2, hw⟩ := M1 x a b
     have hs := hst hO1
     rw [hu] at cen hs
     rw [hw] at cf hs
     by_cases hv0 : vR x a < 0
     ·have hv0' := kv.2 hv0
      repeat' (first | refine W ?_|(apply S.arith;(iterate 4 exact rfl);omega)|(apply S.call;exact rfl;exact rfl;exact ca;exact rfl)|(apply S.call;exact rfl;exact rfl;exact cta;exact rfl)|(apply S.indexR;exact rfl;exact rfl;exact rfl;exact hbx;omega;exact rfl)|(apply S.loadRW;(iterate 4 exact rfl))|(refine T.meetR 10 ([(9, .i (i : Int)), (10, .ptr 4 0), (11, .ptr 5 0), (12, .ptr 6 0), (58, .i (i : Int)), (57, .i ((((A4 l fr).map PcQ.row).length : Nat) : Int)), (56, .sl ((A4 l fr).map PcQ.row)), (8, .sl ((A4 l fr).map PcQ.row)), (4, .ptr 0 0), (5, .ptr 1 0), (6, .ptr 2 0)]) ([.live ((frR fr).map .lf), .live ((frR te).map .lf), .live [.i 0, .i 0], .dead, .live (x.row.map .lf), .live ((frR (a)).map .lf), .live ((frR (te)).map .lf)]) ?_ ?_)|(refine T.meetR 12 ([(9, .i (i : Int)), (10, .ptr 4 0), (11, .ptr 5 0), (12, .ptr 6 0), (58, .i (i : Int)), (57, .i ((((A4 l fr).map PcQ.row).length : Nat) : Int)), (56, .sl ((A4 l fr).map PcQ.row)), (8, .sl ((A4 l fr).map PcQ.row)), (4, .ptr 0 0), (5, .ptr 1 0), (6, .ptr 2 0)]) ([.live ((frR fr).map .lf), .live ((frR te).map .lf), .live [.i 0, .i 0], .dead, .live (x.row.map .lf), .live ((frR (a)).map .lf), .live ((frR (b)).map .lf)]) ?_ ?_)|(apply T.drawAll A0 (by decide +kernel))|(apply T.drawR 16 A0 (by decide +kernel);simp only [td])|(apply T.drawR 22 A0 (by decide +kernel);simp only [td])|(apply S.call;exact rfl;exact rfl;exact cp;exact rfl)|(apply S.call;exact rfl;exact rfl;exact oa;exact rfl)|(apply S.call;exact rfl;exact rfl;exact ob;exact rfl)|(apply S.call;exact rfl;exact rfl;exact cv;exact rfl)|(apply S.call;exact rfl;exact rfl;exact cs;exact rfl)|(apply S.call;exact rfl;exact rfl;exact cbl;exact rfl)|(apply S.call;exact rfl;exact rfl;exact cen;exact rfl)|(apply S.call;exact rfl;exact rfl;exact cf;exact rfl)|(apply T.drawR 6 A0 (by decide +kernel);simp only [td])|(apply T.draw 6 A0 (by decide +kernel);simp only [td])|(apply T.draw 7 A0 (by decide +kernel);simp only [td])|(apply T.drawR 7 A0 (by decide +kernel);simp only [td]) | refine V ?_|(refine W2 ?_ ?_ <;> intro hc))
      all_goals first
       | exact T.met (.cons rfl rfl (.cons rfl rfl (.cons rfl rfl CW))) (by rw [hAx (ka.1 (by assumption))];exact CG)
       | exact T.met (.cons rfl rfl (.cons rfl rfl (.cons rfl rfl CW))) (by rw [hAx' (fun e => absurd (ka.2 e) (by assumption))];exact CG)
       | exact T.met (.cons rfl rfl (.cons rfl rfl (.cons rfl rfl CW))) (by rw [hB'];exact CG)
       | (rw [show B9 l fr te = .tup [A1 [.i u1, .i u2], .i 0] by unfold B9;rw [F6 (k := i + 1) (by rw [hsn, hs, if_pos hv0]) _ (by omega)]];exact ⟨.inr rfl, [A1 [.i u1, .i u2], .i 0], .cons (Res.row [.i u1, .i u2] rfl rfl rfl rfl rfl) (.cons (.tmp rfl) .nil), .tup (.cons (.agg (A7 [.i u1, .i u2])) (.cons (.one (.lf _)) .nil))⟩)
     ·have hv0' : ¬ sv < 0 := fun e => hv0 (kv.1 e)
      by_cases hbl : Cd x a b
      ·have hbl' := kbl.2 hbl
       repeat' (first | refine W ?_|(apply S.arith;(iterate 4 exact rfl);omega)|(apply S.call;exact rfl;exact rfl;exact ca;exact rfl)|(apply S.call;exact rfl;exact rfl;exact cta;exact rfl)|(apply S.indexR;exact rfl;exact rfl;exact rfl;exact hbx;omega;exact rfl)|(apply S.loadRW;(iterate 4 exact rfl))|(refine T.meetR 10 ([(9, .i (i : Int)), (10, .ptr 4 0), (11, .ptr 5 0), (12, .ptr 6 0), (58, .i (i : Int)), (57, .i ((((A4 l fr).map PcQ.row).length : Nat) : Int)), (56, .sl ((A4 l fr).map PcQ.row)), (8, .sl ((A4 l fr).map PcQ.row)), (4, .ptr 0 0), (5, .ptr 1 0), (6, .ptr 2 0)]) ([.live ((frR fr).map .lf), .live ((frR te).map .lf), .live [.i 0, .i 0], .dead, .live (x.row.map .lf), .live ((frR (a)).map .lf), .live ((frR (te)).map .lf)]) ?_ ?_)|(refine T.meetR 12 ([(9, .i (i : Int)), (10, .ptr 4 0), (11, .ptr 5 0), (12, .ptr 6 0), (58, .i (i : Int)), (57, .i ((((A4 l fr).map PcQ.row).length : Nat) : Int)), (56, .sl ((A4 l fr).map PcQ.row)), (8, .sl ((A4 l fr).map PcQ.row)), (4, .ptr 0 0), (5, .ptr 1 0), (6, .ptr 2 0)]) ([.live ((frR fr).map .lf), .live ((frR te).map .lf), .live [.i 0, .i 0], .dead, .live (x.row.map .lf), .live ((frR (a)).map .lf), .live ((frR (b)).map .lf)]) ?_ ?_)|(apply T.drawAll A0 (by decide +kernel))|(apply T.drawR 16 A0 (by decide +kernel);simp only [td])|(apply T.drawR 22 A0 (by decide +kernel);simp only [td])|(apply S.call;exact rfl;exact rfl;exact cp;exact rfl)|(apply S.call;exact rfl;exact rfl;exact oa;exact rfl)|(apply S.call;exact rfl;exact rfl;exact ob;exact rfl)|(apply S.call;exact rfl;exact rfl;exact cv;exact rfl)|(apply S.call;exact rfl;exact rfl;exact cs;exact rfl)|(apply S.call;exact rfl;exact rfl;exact cbl;exact rfl)|(apply S.call;exact rfl;exact rfl;exact cen;exact rfl)|(apply S.call;exact rfl;exact rfl;exact cf;exact rfl)|(apply T.drawR 6 A0 (by decide +kernel);simp only [td])|(apply T.draw 6 A0 (by decide +kernel);simp only [td])|(apply T.draw 7 A0 (by decide +kernel);simp only [td])|(apply T.drawR 7 A0 (by decide +kernel);simp only [td]) | refine V ?_|(refine W2 ?_ ?_ <;> intro hc))
       all_goals first
        | exact T.met (.cons rfl rfl (.cons rfl rfl (.cons rfl rfl CW))) (by rw [hAx (ka.1 (by assumption))];exact CG)
        | exact T.met (.cons rfl rfl (.cons rfl rfl (.cons rfl rfl CW))) (by rw [hAx' (fun e => absurd (ka.2 e) (by assumption))];exact CG)
        | exact T.met (.cons rfl rfl (.cons rfl rfl (.cons rfl rfl CW))) (by rw [hB'];exact CG)
        | (rw [show B9 l fr te = .tup [A1 [.i w1, .i w2], .i 0] by unfold B9;rw [F6 (k := i + 1) (by rw [hsn, hs, if_neg hv0, if_pos hbl]) _ (by omega)]];exact ⟨.inr rfl, [A1 [.i w1, .i w2], .i 0], .cons (Res.row [.i w1, .i w2] rfl rfl rfl rfl rfl) (.cons (.tmp rfl) .nil), .tup (.cons (.agg (A7 [.i w1, .i w2])) (.cons (.one (.lf _)) .nil))⟩)
      ·have hbl' : ¬ x.pt.belowS (Ex.ofQ a) (Ex.ofQ b) := fun e => hbl (kbl.1 e)
       repeat' (first | refine W ?_|(apply S.arith;(iterate 4 exact rfl);omega)|(apply S.call;exact rfl;exact rfl;exact ca;exact rfl)|(apply S.call;exact rfl;exact rfl;exact cta;exact rfl)|(apply S.indexR;exact rfl;exact rfl;exact rfl;exact hbx;omega;exact rfl)|(apply S.loadRW;(iterate 4 exact rfl))|(refine T.meetR 10 ([(9, .i (i : Int)), (10, .ptr 4 0), (11, .ptr 5 0), (12, .ptr 6 0), (58, .i (i : Int)), (57, .i ((((A4 l fr).map PcQ.row).length : Nat) : Int)), (56, .sl ((A4 l fr).map PcQ.row)), (8, .sl ((A4 l fr).map PcQ.row)), (4, .ptr 0 0), (5, .ptr 1 0), (6, .ptr 2 0)]) ([.live ((frR fr).map .lf), .live ((frR te).map .lf), .live [.i 0, .i 0], .dead, .live (x.row.map .lf), .live ((frR (a)).map .lf), .live ((frR (te)).map .lf)]) ?_ ?_)|(refine T.meetR 12 ([(9, .i (i : Int)), (10, .ptr 4 0), (11, .ptr 5 0), (12, .ptr 6 0), (58, .i (i : Int)), (57, .i ((((A4 l fr).map PcQ.row).length : Nat) : Int)), (56, .sl ((A4 l fr).map PcQ.row)), (8, .sl ((A4 l fr).map PcQ.row)), (4, .ptr 0 0), (5, .ptr 1 0), (6, .ptr 2 0)]) ([.live ((frR fr).map .lf), .live ((frR te).map .lf), .live [.i 0, .i 0], .dead, .live (x.row.map .lf), .live ((frR (a)).map .lf), .live ((frR (b)).map .lf)]) ?_ ?_)|(apply T.drawAll A0 (by decide +kernel))|(apply T.drawR 16 A0 (by decide +kernel);simp only [td])|(apply T.drawR 22 A0 (by decide +kernel);simp only [td])|(apply S.call;exact rfl;exact rfl;exact cp;exact rfl)|(apply S.call;exact rfl;exact rfl;exact oa;exact rfl)|(apply S.call;exact rfl;exact rfl;exact ob;exact rfl)|(apply S.call;exact rfl;exact rfl;exact cv;exact rfl)|(apply S.call;exact rfl;exact rfl;exact cs;exact rfl)|(apply S.call;exact rfl;exact rfl;exact cbl;exact rfl)|(apply S.call;exact rfl;exact rfl;exact cen;exact rfl)|(apply S.call;exact rfl;exact rfl;exact cf;exact rfl)|(apply T.drawR 6 A0 (by decide +kernel);simp only [td])|(apply T.draw 6 A0 (by decide +kernel);simp only [td])|(apply T.draw 7 A0 (by decide +kernel);simp only [td])|(apply T.drawR 7 A0 (by decide +kernel);simp only [td]) | refine V ?_|(refine W2 ?_ ?_ <;> intro hc))
       all_goals first
        | exact T.met (.cons rfl rfl (.cons rfl rfl (.cons rfl rfl CW))) (by rw [hAx (ka.1 (by assumption))];exact CG)
        | exact T.met (.cons rfl rfl (.cons rfl rfl (.cons rfl rfl CW))) (by rw [hAx' (fun e => absurd (ka.2 e) (by assumption))];exact CG)
        | exact T.met (.cons rfl rfl (.cons rfl rfl (.cons rfl rfl CW))) (by rw [hB'];exact CG)
        | (change Next _ _ _ _ _ _;exact Next.go (i + 1) ⟨by omega, by rw [hsn, hs, if_neg hv0, if_neg hbl]⟩ (by omega) (.cons rfl rfl CW) CG)
  ·have hAx' : a = fr := by rw [ha, ptA, if_neg fun e => hi0 (by have := e.1;omega)]
   by_cases hlast : i + 1 < (A4 l fr).length
   ·have h2 : (i : Int) + 1 < ((((A4 l fr).map PcQ.row).length : Nat) : Int) := by omega
    obtain ⟨y, hy⟩ := A9 hlast
    have hby : ((A4 l fr).map PcQ.row)[((i : Int) + 1).toNat]? = some y.row := by rw [show ((i : Int) + 1).toNat = i + 1 by omega, List.getElem?_map, hy];rfl
    have oky := hA y (List.mem_of_getElem? hy)
    have py : A6 (A4 l fr) (i + 1) = y := Bb hy
    have cb := C0 y.f te oky.f ht
    have kb := Hg y.f te
    have cay := C0 a y.f hfa oky.f
    have kay := A1s a y.f
    have hfb : Fits b := by
     rw [hb];unfold ptB;split
     ·rw [py];exact oky.f
     ·exact ht
    have hB : ∀ h : y.f < te, b = y.f := fun h => by rw [hb, ptB, if_pos ⟨hlast, by rw [py];exact h⟩, py]
    have hB' : ∀ h : ¬ y.f < te, b = te := fun h => by rw [hb, ptB, if_neg fun e => h (by rw [<- py];exact e.2)]
    have hO : Av (A4 l fr) fr te i ↔ te < a \/ y.f <= a := by rw [Av, <- ha, py];exact ⟨fun h => h.imp_right And.right, fun h => h.imp_right fun e => ⟨hlast, e⟩⟩
    have hrg : ¬ Av (A4 l fr) fr te i -> a <= te := fun h => Rat.not_lt.1 fun e => h (hO.2 (.inl e))
    have hab : ¬ Av (A4 l fr) fr te i -> a <= b := fun h => by
     by_cases e : y.f < te
     ·rw [hB e];exact Rat.le_of_lt (Rat.not_le.1 fun e2 => h (hO.2 (.inr e2)))
     ·rw [hB' e];exact hrg h
    have hbt : b <= te := by
     by_cases e : y.f < te
     ·rw [hB e];exact Rat.le_of_lt e
     ·rw [hB' e];exact Rat.le_refl
    have ob := Hy b hfb
    have cbl := I7 x.pt (Ex.ofQ a) (Ex.ofQ b) okx.pt (Bq hfa) (Bq hfb)
    have kbl : x.pt.belowS (Ex.ofQ a) (Ex.ofQ b) ↔ Cd x a b := by rw [E5 (Bq hfa).2.2 (Bq hfb).2.2, Ex.val_ofQ, Ex.val_ofQ]
    have hst : ¬ Av (A4 l fr) fr te i -> B5 (A4 l fr) fr te i = if vR x a < 0 then some (enQ a) else if Cd x a b then some (H6 x a b) else none := fun h => by rw [B5, if_neg h, px, <- ha, <- hb]
    have hout : Av (A4 l fr) fr te i -> B5 (A4 l fr) fr te i = none := fun h => by rw [B5, if_pos h]
    have hm : ¬ Av (A4 l fr) fr te i -> Mid a /\ Mid b := fun h => ⟨Fy hfa ⟨Rat.le_trans hr1.1 hage, Rat.le_trans (hrg h) hr2.2⟩, Fy hfb ⟨Rat.le_trans hr1.1 (Rat.le_trans hage (hab h)), Rat.le_trans hbt hr2.2⟩⟩
    by_cases hO1 : Av (A4 l fr) fr te i
    ·as_aux_lemma =>
     repeat' (first | refine W ?_|(apply S.arith;(iterate 4 exact rfl);omega)|(apply S.call;exact rfl;exact rfl;exact ca;exact rfl)|(apply S.call;exact rfl;exact rfl;exact cta;exact rfl)|(apply S.indexR;exact rfl;exact rfl;exact rfl;exact hbx;omega;exact rfl)|(apply S.indexR;exact rfl;exact rfl;exact rfl;exact hby;omega;exact rfl)|(apply S.call;exact rfl;exact rfl;exact cb;exact rfl)|(apply S.call;exact rfl;exact rfl;exact cay;exact rfl)|(apply S.loadRW;(iterate 4 exact rfl))|(refine T.meetR 10 ([(9, .i (i : Int)), (10, .ptr 4 0), (11, .ptr 5 0), (12, .ptr 6 0), (58, .i (i : Int)), (57, .i ((((A4 l fr).map PcQ.row).length : Nat) : Int)), (56, .sl ((A4 l fr).map PcQ.row)), (8, .sl ((A4 l fr).map PcQ.row)), (4, .ptr 0 0), (5, .ptr 1 0), (6, .ptr 2 0)]) ([.live ((frR fr).map .lf), .live ((frR te).map .lf), .live [.i 0, .i 0], .dead, .live (x.row.map .lf), .live ((frR (a)).map .lf), .live ((frR (te)).map .lf)]) ?_ ?_)|(refine T.meetR 12 ([(9, .i (i : Int)), (10, .ptr 4 0), (11, .ptr 5 0), (12, .ptr 6 0), (58, .i (i : Int)), (57, .i ((((A4 l fr).map PcQ.row).length : Nat) : Int)), (56, .sl ((A4 l fr).map PcQ.row)), (8, .sl ((A4 l fr).map PcQ.row)), (4, .ptr 0 0), (5, .ptr 1 0), (6, .ptr 2 0)]) ([.live ((frR fr).map .lf), .live ((frR te).map .lf), .live [.i 0, .i 0], .dead, .live (x.row.map .lf), .live ((frR (a)).map .lf), .live ((frR (b)).map .lf)]) ?_ ?_)|(apply T.drawAll A0 (by decide +kernel))|(apply T.drawR 16 A0 (by decide +kernel);simp only [td])|(apply T.drawR 22 A0 (by decide +kernel);simp only [td]) | refine V ?_|(refine W2 ?_ ?_ <;> intro hc))
     all_goals first
      | exact T.met (.cons rfl rfl (.cons rfl rfl (.cons rfl rfl CW))) (by rw [hAx'];exact CG)
      | exact T.met (.cons rfl rfl (.cons rfl rfl (.cons rfl rfl CW))) (by rw [hB (kb.1 (by assumption))];exact CG)
      | exact T.met (.cons rfl rfl (.cons rfl rfl (.cons rfl rfl CW))) (by rw [hB' (fun e => absurd (kb.2 e) (by assumption))];exact CG)
      | (change Next _ _ _ _ _ _;exact Next.go (i + 1) ⟨by omega, by rw [hsn, hout hO1]⟩ (by omega) (.cons rfl rfl CW) CG)
      | (exfalso;rcases hO.1 hO1 with e | e;exact absurd (kta.2 e) (by assumption);exact absurd (kay.2 e) (by assumption))
    ·as_aux_lemma =>
     have q1 : ¬ 0 < C2 a te := fun e => hO1 (hO.2 (.inl (kta.1 e)))
     have q2 : ¬ 0 <= C2 a y.f := fun e => hO1 (hO.2 (.inr (kay.1 e)))
     obtain ⟨ma, mb⟩ := hm hO1
     have cen := I2 a ma
     have cf := Mx x a b okx ma mb (hab hO1)
     obtain ⟨u1, u2, hu⟩ := Oj a
     obtain ⟨w1, w2, hw⟩ := M1 x a b
     have hs := hst hO1
     rw [hu] at cen hs
     rw [hw] at cf hs
     by_cases hv0 : vR x a < 0
     ·have hv0' := kv.2 hv0
      repeat' (first | refine W ?_|(apply S.arith;(iterate 4 exact rfl);omega)|(apply S.call;exact rfl;exact rfl;exact ca;exact rfl)|(apply S.call;exact rfl;exact rfl;exact cta;exact rfl)|(apply S.indexR;exact rfl;exact rfl;exact rfl;exact hbx;omega;exact rfl)|(apply S.indexR;exact rfl;exact rfl;exact rfl;exact hby;omega;exact rfl)|(apply S.call;exact rfl;exact rfl;exact cb;exact rfl)|(apply S.call;exact rfl;exact rfl;exact cay;exact rfl)|(apply S.loadRW;(iterate 4 exact rfl))|(refine T.meetR 10 ([(9, .i (i : Int)), (10, .ptr 4 0), (11, .ptr 5 0), (12, .ptr 6 0), (58, .i (i : Int)), (57, .i ((((A4 l fr).map PcQ.row).length : Nat) : Int)), (56, .sl ((A4 l fr).map PcQ.row)), (8, .sl ((A4 l fr).map PcQ.row)), (4, .ptr 0 0), (5, .ptr 1 0), (6, .ptr 2 0)]) ([.live ((frR fr).map .lf), .live ((frR te).map .lf), .live [.i 0, .i 0], .dead, .live (x.row.map .lf), .live ((frR (a)).map .lf), .live ((frR (te)).map .lf)]) ?_ ?_)|(refine T.meetR 12 ([(9, .i (i : Int)), (10, .ptr 4 0), (11, .ptr 5 0), (12, .ptr 6 0), (58, .i (i : Int)), (57, .i ((((A4 l fr).map PcQ.row).length : Nat) : Int)), (56, .sl ((A4 l fr).map PcQ.row)), (8, .sl ((A4 l fr).map PcQ.row)), (4, .ptr 0 0), (5, .ptr 1 0), (6, .ptr 2 0)]) ([.live ((frR fr).map .lf), .live ((frR te).map .lf), .live [.i 0, .i 0], .dead, .live (x.row.map .lf), .live ((frR (a)).map .lf), .live ((frR (b)).map .lf)]) ?_ ?_)|(apply T.drawAll A0 (by decide +kernel))|(apply T.drawR 16 A0 (by decide +kernel);simp only [td])|(apply T.drawR 22 A0 (by decide +kernel);simp only [td])|(apply S.call;exact rfl;exact rfl;exact cp;exact rfl)|(apply S.call;exact rfl;exact rfl;exact oa;exact rfl)|(apply S.call;exact rfl;exact rfl;exact ob;exact rfl)|(apply S.call;exact rfl;exact rfl;exact cv;exact rfl)|(apply S.call;exact rfl;exact rfl;exact cs;exact rfl)|(apply S.call;exact rfl;exact rfl;exact cbl;exact rfl)|(apply S.call;exact rfl;exact rfl;exact cen;exact rfl)|(apply S.call;exact rfl;exact rfl;exact cf;exact rfl)|(apply T.drawR 6 A0 (by decide +kernel);simp only [td])|(apply T.draw 6 A0 (by decide +kernel);simp only [td])|(apply T.draw 7 A0 (by decide +kernel);simp only [td])|(apply T.drawR 7 A0 (by decide +kernel);simp only [td]) | refine V ?_|(refine W2 ?_ ?_ <;> intro hc))
      all_goals first
       | exact T.met (.cons rfl rfl (.cons rfl rfl (.cons rfl rfl CW))) (by rw [hAx'];exact CG)
       | exact T.met (.cons rfl rfl (.cons rfl rfl (.cons rfl rfl CW))) (by rw [hB (kb.1 (by assumption))];exact CG)
       | exact T.met (.cons rfl rfl (.cons rfl rfl (.cons rfl rfl CW))) (by rw [hB' (fun e => absurd (kb.2 e) (by assumption))];exact CG)
       | (rw [show B9 l fr te = .tup [A1 [.i u1, .i u2], .i 0] by unfold B9;rw [F6 (k := i + 1) (by rw [hsn, hs, if_pos hv0]) _ (by omega)]];exact ⟨.inr rfl, [A1 [.i u1, .i u2], .i 0], .cons (Res.row [.i u1, .i u2] rfl rfl rfl rfl rfl) (.cons (.tmp rfl) .nil), .tup (.cons (.agg (A7 [.i u1, .i u2])) (.cons (.one (.lf _)) .nil))⟩)
     ·have hv0' : ¬ sv < 0 := fun e => hv0 (kv.1 e)
      by_cases hbl : Cd x a b
      ·have hbl' := kbl.2 hbl
       repeat' (first | refine W ?_|(apply S.arith;(iterate 4 exact rfl);omega)|(apply S.call;exact rfl;exact rfl;exact ca;exact rfl)|(apply S.call;exact rfl;exact rfl;exact cta;exact rfl)|(apply S.indexR;exact rfl;exact rfl;exact rfl;exact hbx;omega;exact rfl)|(apply S.indexR;exact rfl;exact rfl;exact rfl;exact hby;omega;exact rfl)|(apply S.call;exact rfl;exact rfl;exact cb;exact rfl)|(apply S.call;exact rfl;exact rfl;exact cay;exact rfl)|(apply S.loadRW;(iterate 4 exact rfl))|(refine T.meetR 10 ([(9, .i (i : Int)), (10, .ptr 4 0), (11, .ptr 5 0), (12, .ptr 6 0), (58, .i (i : Int)), (57, .i ((((A4 l fr).map PcQ.row).length : Nat) : Int)), (56, .sl ((A4 l fr).map PcQ.row)), (8, .sl ((A4 l fr).map PcQ.row)), (4, .ptr 0 0), (5, .ptr 1 0), (6, .ptr 2 0)]) ([.live ((frR fr).map .lf), .live ((frR te).map .lf), .live [.i 0, .i 0], .dead, .live (x.row.map .lf), .live ((frR (a)).map .lf), .live ((frR (te)).map .lf)]) ?_ ?_)|(refine T.meetR 12 ([(9, .i (i : Int)), (10, .ptr 4 0), (11, .ptr 5 0), (12, .ptr 6 0), (58, .i (i : Int)), (57, .i ((((A4 l fr).map PcQ.row).length : Nat) : Int)), (56, .sl ((A4 l fr).map PcQ.row)), (8, .sl ((A4 l fr).map PcQ.row)), (4, .ptr 0 0), (5, .ptr 1 0), (6, .ptr 2 0)]) ([.live ((frR fr).map .lf), .live ((frR te).map .lf), .live [.i 0, .i 0], .dead, .live (x.row.map .lf), .live ((frR (a)).map .lf), .live ((frR (b)).map .lf)]) ?_ ?_)|(apply T.drawAll A0 (by decide +kernel))|(apply T.drawR 16 A0 (by decide +kernel);simp only [td])|(apply T.drawR 22 A0 (by decide +kernel);simp only [td])|(apply S.call;exact rfl;exact rfl;exact cp;exact rfl)|(apply S.call;exact rfl;exact rfl;exact oa;exact rfl)|(apply S.call;exact rfl;exact rfl;exact ob;exact rfl)|(apply S.call;exact rfl;exact rfl;exact cv;exact rfl)|(apply S.call;exact rfl;exact rfl;exact cs;exact rfl)|(apply S.call;exact rfl;exact rfl;exact cbl;exact rfl)|(apply S.call;exact rfl;exact rfl;exact cen;exact rfl)|(apply S.call;exact rfl;exact rfl;exact cf;exact rfl)|(apply T.drawR 6 A0 (by decide +kernel);simp only [td])|(apply T.draw 6 A0 (by decide +kernel);simp only [td])|(apply T.draw 7 A0 (by decide +kernel);simp only [td])|(apply T.drawR 7 A0 (by decide +kernel);simp only [td]) | refine V ?_|(refine W2 ?_ ?_ <;> intro hc))
       all_goals first
        | exact T.met (.cons rfl rfl (.cons rfl rfl (.cons rfl rfl CW))) (by rw [hAx'];exact CG)
        | exact T.met (.cons rfl rfl (.cons rfl rfl (.cons rfl rfl CW))) (by rw [hB (kb.1 (by assumption))];exact CG)
        | exact T.met (.cons rfl rfl (.cons rfl rfl (.cons rfl rfl CW))) (by rw [hB' (fun e => absurd (kb.2 e) (by assumption))];exact CG)
        | (rw [show B9 l fr te = .tup [A1 [.i w1, .i w2], .i 0] by unfold B9;rw [F6 (k := i + 1) (by rw [hsn, hs, if_neg hv0, if_pos hbl]) _ (by omega)]];exact ⟨.inr rfl, [A1 [.i w1, .i w2], .i 0], .cons (Res.row [.i w1, .i w2] rfl rfl rfl rfl rfl) (.cons (.tmp rfl) .nil), .tup (.cons (.agg (A7 [.i w1, .i w2])) (.cons (.one (.lf _)) .nil))⟩)
      ·have hbl' : ¬ x.pt.belowS (Ex.ofQ a) (Ex.ofQ b) := fun e => hbl (kbl.1 e)
       repeat' (first | refine W ?_|(apply S.arith;(iterate 4 exact rfl);omega)|(apply S.call;exact rfl;exact rfl;exact ca;exact rfl)|(apply S.call;exact rfl;exact rfl;exact cta;exact rfl)|(apply S.indexR;exact rfl;exact rfl;exact rfl;exact hbx;omega;exact rfl)|(apply S.indexR;exact rfl;exact rfl;exact rfl;exact hby;omega;exact rfl)|(apply S.call;exact rfl;exact rfl;exact cb;exact rfl)|(apply S.call;exact rfl;exact rfl;exact cay;exact rfl)|(apply S.loadRW;(iterate 4 exact rfl))|(refine T.meetR 10 ([(9, .i (i : Int)), (10, .ptr 4 0), (11, .ptr 5 0), (12, .ptr 6 0), (58, .i (i : Int)), (57, .i ((((A4 l fr).map PcQ.row).length : Nat) : Int)), (56, .sl ((A4 l fr).map PcQ.row)), (8, .sl ((A4 l fr).map PcQ.row)), (4, .ptr 0 0), (5, .ptr 1 0), (6, .ptr 2 0)]) ([.live ((frR fr).map .lf), .live ((frR te).map .lf), .live [.i 0, .i 0], .dead, .live (x.row.map .lf), .live ((frR (a)).map .lf), .live ((frR (te)).map .lf)]) ?_ ?_)|(refine T.meetR 12 ([(9, .i (i : Int)), (10, .ptr 4 0), (11, .ptr 5 0), (12, .ptr 6 0), (58, .i (i : Int)), (57, .i ((((A4 l fr).map PcQ.row).length : Nat) : Int)), (56, .sl ((A4 l fr).map PcQ.row)), (8, .sl ((A4 l fr).map PcQ.row)), (4, .ptr 0 0), (5, .ptr 1 0), (6, .ptr 2 0)]) ([.live ((frR fr).map .lf), .live ((frR te).map .lf), .live [.i 0, .i 0], .dead, .live (x.row.map .lf), .live ((frR (a)).map .lf), .live ((frR (b)).map .lf)]) ?_ ?_)|(apply T.drawAll A0 (by decide +kernel))|(apply T.drawR 16 A0 (by decide +kernel);simp only [td])|(apply T.drawR 22 A0 (by decide +kernel);simp only [td])|(apply S.call;exact rfl;exact rfl;exact cp;exact rfl)|(apply S.call;exact rfl;exact rfl;exact oa;exact rfl)|(apply S.call;exact rfl;exact rfl;exact ob;exact rfl)|(apply S.call;exact rfl;exact rfl;exact cv;exact rfl)|(apply S.call;exact rfl;exact rfl;exact cs;exact rfl)|(apply S.call;exact rfl;exact rfl;exact cbl;exact rfl)|(apply S.call;exact rfl;exact rfl;exact cen;exact rfl)|(apply S.call;exact rfl;exact rfl;exact cf;exact rfl)|(apply T.drawR 6 A0 (by decide +kernel);simp only [td])|(apply T.draw 6 A0 (by decide +kernel);simp only [td])|(apply T.draw 7 A0 (by decide +kernel);simp only [td])|(apply T.drawR 7 A0 (by decide +kernel);simp only [td]) | refine V ?_|(refine W2 ?_ ?_ <;> intro hc))
       all_goals first
        | exact T.met (.cons rfl rfl (.cons rfl rfl (.cons rfl rfl CW))) (by rw [hAx'];exact CG)
        | exact T.met (.cons rfl rfl (.cons rfl rfl (.cons rfl rfl CW))) (by rw [hB (kb.1 (by assumption))];exact CG)
        | exact T.met (.cons rfl rfl (.cons rfl rfl (.cons rfl rfl CW))) (by rw [hB' (fun e => absurd (kb.2 e) (by assumption))];exact CG)
        | (change Next _ _ _ _ _ _;exact Next.go (i + 1) ⟨by omega, by rw [hsn, hs, if_neg hv0, if_neg hbl]⟩ (by omega) (.cons rfl rfl CW) CG)
   ·have h2 : ¬ (i : Int) + 1 < ((((A4 l fr).map PcQ.row).length : Nat) : Int) := by omega
    have hB' : b = te := by rw [hb, ptB, if_neg fun e => hlast e.1]
    have hfb : Fits b := by rw [hB'];exact ht
    have hO : Av (A4 l fr) fr te i ↔ te < a := by rw [Av, <- ha];exact ⟨fun h => h.elim id fun e => absurd e.1 hlast, .inl⟩
    have hrg : ¬ Av (A4 l fr) fr te i -> a <= te := fun h => Rat.not_lt.1 fun e => h (hO.2 e)
    have hab : ¬ Av (A4 l fr) fr te i -> a <= b := fun h => by rw [hB'];exact hrg h
    have hbt : b <= te := by rw [hB'];exact Rat.le_refl
    have ob := Hy b hfb
    have cbl := I7 x.pt (Ex.ofQ a) (Ex.ofQ b) okx.pt (Bq hfa) (Bq hfb)
    have kbl : x.pt.belowS (Ex.ofQ a) (Ex.ofQ b) ↔ Cd x a b := by rw [E5 (Bq hfa).2.2 (Bq hfb).2.2, Ex.val_ofQ, Ex.val_ofQ]
    have hst : ¬ Av (A4 l fr) fr te i -> B5 (A4 l fr) fr te i = if vR x a < 0 then some (enQ a) else if Cd x a b then some (H6 x a b) else none := fun h => by rw [B5, if_neg h, px, <- ha, <- hb]
    have hout : Av (A4 l fr) fr te i -> B5 (A4 l fr) fr te i = none := fun h => by rw [B5, if_pos h]
    have hm : ¬ Av (A4 l fr) fr te i -> Mid a /\ Mid b := fun h => ⟨Fy hfa ⟨Rat.le_trans hr1.1 hage, Rat.le_trans (hrg h) hr2.2⟩, Fy hfb ⟨Rat.le_trans hr1.1 (Rat.le_trans hage (hab h)), Rat.le_trans hbt hr2.2⟩⟩
    by_cases hO1 : Av (A4 l fr) fr te i
    ·as_aux_lemma =>
     repeat' (first | refine W ?_|(apply S.arith;(iterate 4 exact rfl);omega)|(apply S.call;exact rfl;exact rfl;exact ca;exact rfl)|(apply S.call;exact rfl;exact rfl;exact cta;exact rfl)|(apply S.indexR;exact rfl;exact rfl;exact rfl;exact hbx;omega;exact rfl)|(apply S.loadRW;(iterate 4 exact rfl))|(refine T.meetR 10 ([(9, .i (i : Int)), (10, .ptr 4 0), (11, .ptr 5 0), (12, .ptr 6 0), (58, .i (i : Int)), (57, .i ((((A4 l fr).map PcQ.row).length : Nat) : Int)), (56, .sl ((A4 l fr).map PcQ.row)), (8, .sl ((A4 l fr).map PcQ.row)), (4, .ptr 0 0), (5, .ptr 1 0), (6, .ptr 2 0)]) ([.live ((frR fr).map .lf), .live ((frR te).map .lf), .live [.i 0, .i 0], .dead, .live (x.row.map .lf), .live ((frR (a)).map .lf), .live ((frR (te)).map .lf)]) ?_ ?_)|(refine T.meetR 12 ([(9, .i (i : Int)), (10, .ptr 4 0), (11, .ptr 5 0), (12, .ptr 6 0), (58, .i (i : Int)), (57, .i ((((A4 l fr).map PcQ.row).length : Nat) : Int)), (56, .sl ((A4 l fr).map PcQ.row)), (8, .sl ((A4 l fr).map PcQ.row)), (4, .ptr 0 0), (5, .ptr 1 0), (6, .ptr 2 0)]) ([.live ((frR fr).map .lf), .live ((frR te).map .lf), .live [.i 0, .i 0], .dead, .live (x.row.map .lf), .live ((frR (a)).map .lf), .live ((frR (b)).map .lf)]) ?_ ?_)|(apply T.drawAll A0 (by decide +kernel))|(apply T.drawR 16 A0 (by decide +kernel);simp only [td])|(apply T.drawR 22 A0 (by decide +kernel);simp only [td]) | refine V ?_|(refine W2 ?_ ?_ <;> intro hc))
     all_goals first
      | exact T.met (.cons rfl rfl (.cons rfl rfl (.cons rfl rfl CW))) (by rw [hAx'];exact CG)
      | exact T.met (.cons rfl rfl (.cons rfl rfl (.cons rfl rfl CW))) (by rw [hB'];exact CG)
      | (change Next _ _ _ _ _ _;exact Next.go (i + 1) ⟨by omega, by rw [hsn, hout hO1]⟩ (by omega) (.cons rfl rfl CW) CG)
      | exact absurd (kta.2 (hO.1 hO1)) (by assumption)
    ·as_aux_lemma =>
     have q1 : ¬ 0 < C2 a te := fun e => hO1 (hO.2 (kta.1 e))
     obtain ⟨ma, mb⟩ := hm hO1
     have cen := I2 a ma
     have cf := Mx x a b okx ma mb (hab hO1)
     obtain ⟨u1, u2, hu⟩ := Oj a
     obtain ⟨w1, w2, hw⟩ := M1 x a b
     have hs := hst hO1
     rw [hu] at cen hs
     rw [hw] at cf hs
     by_cases hv0 : vR x a < 0
     ·have hv0' := kv.2 hv0
      repeat' (first | refine W ?_|(apply S.arith;(iterate 4 exact rfl);omega)|(apply S.call;exact rfl;exact rfl;exact ca;exact rfl)|(apply S.call;exact rfl;exact rfl;exact cta;exact rfl)|(apply S.indexR;exact rfl;exact rfl;exact rfl;exact hbx;omega;exact rfl)|(apply S.loadRW;(iterate 4 exact rfl))|(refine T.meetR 10 ([(9, .i (i : Int)), (10, .ptr 4 0), (11, .ptr 5 0), (12, .ptr 6 0), (58, .i (i : Int)), (57, .i ((((A4 l fr).map PcQ.row).length : Nat) : Int)), (56, .sl ((A4 l fr).map PcQ.row)), (8, .sl ((A4 l fr).map PcQ.row)), (4, .ptr 0 0), (5, .ptr 1 0), (6, .ptr 2 0)]) ([.live ((frR fr).map .lf), .live ((frR te).map .lf), .live [.i 0, .i 0], .dead, .live (x.row.map .lf), .live ((frR (a)).map .lf), .live ((frR (te)).map .lf)]) ?_ ?_)|(refine T.meetR 12 ([(9, .i (i : Int)), (10, .ptr 4 0), (11, .ptr 5 0), (12, .ptr 6 0), (58, .i (i : Int)), (57, .i ((((A4 l fr).map PcQ.row).length : Nat) : Int)), (56, .sl ((A4 l fr).map PcQ.row)), (8, .sl ((A4 l fr).map PcQ.row)), (4, .ptr 0 0), (5, .ptr 1 0), (6, .ptr 2 0)]) ([.live ((frR fr).map .lf), .live ((frR te).map .lf), .live [.i 0, .i 0], .dead, .live (x.row.map .lf), .live ((frR (a)).map .lf), .live ((frR (b)).map .lf)]) ?_ ?_)|(apply T.drawAll A0 (by decide +kernel))|(apply T.drawR 16 A0 (by decide +kernel);simp only [td])|(apply T.drawR 22 A0 (by decide +kernel);simp only [td])|(apply S.call;exact rfl;exact rfl;exact cp;exact rfl)|(apply S.call;exact rfl;exact rfl;exact oa;exact rfl)|(apply S.call;exact rfl;exact rfl;exact ob;exact rfl)|(apply S.call;exact rfl;exact rfl;exact cv;exact rfl)|(apply S.call;exact rfl;exact rfl;exact cs;exact rfl)|(apply S.call;exact rfl;exact rfl;exact cbl;exact rfl)|(apply S.call;exact rfl;exact rfl;exact cen;exact rfl)|(apply S.call;exact rfl;exact rfl;exact cf;exact rfl)|(apply T.drawR 6 A0 (by decide +kernel);simp only [td])|(apply T.draw 6 A0 (by decide +kernel);simp only [td])|(apply T.draw 7 A0 (by decide +kernel);simp only [td])|(apply T.drawR 7 A0 (by decide +kernel);simp only [td]) | refine V ?_|(refine W2 ?_ ?_ <;> intro hc))
      all_goals first
       | exact T.met (.cons rfl rfl (.cons rfl rfl (.cons rfl rfl CW))) (by rw [hAx'];exact CG)
       | exact T.met (.cons rfl rfl (.cons rfl rfl (.cons rfl rfl CW))) (by rw [hB'];exact CG)
       | (rw [show B9 l fr te = .tup [A1 [.i u1, .i u2], .i 0] by unfold B9;rw [F6 (k := i + 1) (by rw [hsn, hs, if_pos hv0]) _ (by omega)]];exact ⟨.inr rfl, [A1 [.i u1, .i u2], .i 0], .cons (Res.row [.i u1, .i u2] rfl rfl rfl rfl rfl) (.cons (.tmp rfl) .nil), .tup (.cons (.agg (A7 [.i u1, .i u2])) (.cons (.one (.lf _)) .nil))⟩)
     ·have hv0' : ¬ sv < 0 := fun e => hv0 (kv.1 e)
      by_cases hbl : Cd x a b
      ·have hbl' := kbl.2 hbl
       repeat' (first | refine W ?_|(apply S.arith;(iterate 4 exact rfl);omega)|(apply S.call;exact rfl;exact rfl;exact ca;exact rfl)|(apply S.call;exact rfl;exact rfl;exact cta;exact rfl)|(apply S.indexR;exact rfl;exact rfl;exact rfl;exact hbx;omega;exact rfl)|(apply S.loadRW;(iterate 4 exact rfl))|(refine T.meetR 10 ([(9, .i (i : Int)), (10, .ptr 4 0), (11, .ptr 5 0), (12, .ptr 6 0), (58, .i (i : Int)), (57, .i ((((A4 l fr).map PcQ.row).length : Nat) : Int)), (56, .sl ((A4 l fr).map PcQ.row)), (8, .sl ((A4 l fr).map PcQ.row)), (4, .ptr 0 0), (5, .ptr 1 0), (6, .ptr 2 0)]) ([.live ((frR fr).map .lf), .live ((frR te).map .lf), .live [.i 0, .i 0], .dead, .live (x.row.map .lf), .live ((frR (a)).map .lf), .live ((frR (te)).map .lf)]) ?_ ?_)|(refine T.meetR 12 ([(9, .i (i : Int)), (10, .ptr 4 0), (11, .ptr 5 0), (12, .ptr 6 0), (58, .i (i : Int)), (57, .i ((((A4 l fr).map PcQ.row).length : Nat) : Int)), (56, .sl ((A4 l fr).map PcQ.row)), (8, .sl ((A4 l fr).map PcQ.row)), (4, .ptr 0 0), (5, .ptr 1 0), (6, .ptr 2 0)]) ([.live ((frR fr).map .lf), .live ((frR te).map .lf), .live [.i 0, .i 0], .dead, .live (x.row.map .lf), .live ((frR (a)).map .lf), .live ((frR (b)).map .lf)]) ?_ ?_)|(apply T.drawAll A0 (by decide +kernel))|(apply T.drawR 16 A0 (by decide +kernel);simp only [td])|(apply T.drawR 22 A0 (by decide +kernel);simp only [td])|(apply S.call;exact rfl;exact rfl;exact cp;exact rfl)|(apply S.call;exact rfl;exact rfl;exact oa;exact rfl)|(apply S.call;exact rfl;exact rfl;exact ob;exact rfl)|(apply S.call;exact rfl;exact rfl;exact cv;exact rfl)|(apply S.call;exact rfl;exact rfl;exact cs;exact rfl)|(apply S.call;exact rfl;exact rfl;exact cbl;exact rfl)|(apply S.call;exact rfl;exact rfl;exact cen;exact rfl)|(apply S.call;exact rfl;exact rfl;exact cf;exact rfl)|(apply T.drawR 6 A0 (by decide +kernel);simp only [td])|(apply T.draw 6 A0 (by decide +kernel);simp only [td])|(apply T.draw 7 A0 (by decide +kernel);simp only [td])|(apply T.drawR 7 A0 (by decide +kernel);simp only [td]) | refine V ?_|(refine W2 ?_ ?_ <;> intro hc))
       all_goals first
        | exact T.met (.cons rfl rfl (.cons rfl rfl (.cons rfl rfl CW))) (by rw [hAx'];exact CG)
        | exact T.met (.cons rfl rfl (.cons rfl rfl (.cons rfl rfl CW))) (by rw [hB'];exact CG)
        | (rw [show B9 l fr te = .tup [A1 [.i w1, .i w2], .i 0] by unfold B9;rw [F6 (k := i + 1) (by rw [hsn, hs, if_neg hv0, if_pos hbl]) _ (by omega)]];exact ⟨.inr rfl, [A1 [.i w1, .i w2], .i 0], .cons (Res.row [.i w1, .i w2] rfl rfl rfl rfl rfl) (.cons (.tmp rfl) .nil), .tup (.cons (.agg (A7 [.i w1, .i w2])) (.cons (.one (.lf _)) .nil))⟩)
      ·have hbl' : ¬ x.pt.belowS (Ex.ofQ a) (Ex.ofQ b) := fun e => hbl (kbl.1 e)
       repeat' (first | refine W ?_|(apply S.arith;(iterate 4 exact rfl);omega)|(apply S.call;exact rfl;exact rfl;exact ca;exact rfl)|(apply S.call;exact rfl;exact rfl;exact cta;exact rfl)|(apply S.indexR;exact rfl;exact rfl;exact rfl;exact hbx;omega;exact rfl)|(apply S.loadRW;(iterate 4 exact rfl))|(refine T.meetR 10 ([(9, .i (i : Int)), (10, .ptr 4 0), (11, .ptr 5 0), (12, .ptr 6 0), (58, .i (i : Int)), (57, .i ((((A4 l fr).map PcQ.row).length : Nat) : Int)), (56, .sl ((A4 l fr).map PcQ.row)), (8, .sl ((A4 l fr).map PcQ.row)), (4, .ptr 0 0), (5, .ptr 1 0), (6, .ptr 2 0)]) ([.live ((frR fr).map .lf), .live ((frR te).map .lf), .live [.i 0, .i 0], .dead, .live (x.row.map .lf), .live ((frR (a)).map .lf), .live ((frR (te)).map .lf)]) ?_ ?_)|(refine T.meetR 12 ([(9, .i (i : Int)), (10, .ptr 4 0), (11, .ptr 5 0), (12, .ptr 6 0), (58, .i (i : Int)), (57, .i ((((A4 l fr).map PcQ.row).length : Nat) : Int)), (56, .sl ((A4 l fr).map PcQ.row)), (8, .sl ((A4 l fr).map PcQ.row)), (4, .ptr 0 0), (5, .ptr 1 0), (6, .ptr 2 0)]) ([.live ((frR fr).map .lf), .live ((frR te).map .lf), .live [.i 0, .i 0], .dead, .live (x.row.map .lf), .live ((frR (a)).map .lf), .live ((frR (b)).map .lf)]) ?_ ?_)|(apply T.drawAll A0 (by decide +kernel))|(apply T.drawR 16 A0 (by decide +kernel);simp only [td])|(apply T.drawR 22 A0 (by decide +kernel);simp only [td])|(apply S.call;exact rfl;exact rfl;exact cp;exact rfl)|(apply S.call;exact rfl;exact rfl;exact oa;exact rfl)|(apply S.call;exact rfl;exact rfl;exact ob;exact rfl)|(apply S.call;exact rfl;exact rfl;exact cv;exact rfl)|(apply S.call;exact rfl;exact rfl;exact cs;exact rfl)|(apply S.call;exact rfl;exact rfl;exact cbl;exact rfl)|(apply S.call;exact rfl;exact rfl;exact cen;exact rfl)|(apply S.call;exact rfl;exact rfl;exact cf;exact rfl)|(apply T.drawR 6 A0 (by decide +kernel);simp only [td])|(apply T.draw 6 A0 (by decide +kernel);simp only [td])|(apply T.draw 7 A0 (by decide +kernel);simp only [td])|(apply T.drawR 7 A0 (by decide +kernel);simp only [td]) | refine V ?_|(refine W2 ?_ ?_ <;> intro hc))
       all_goals first
        | exact T.met (.cons rfl rfl (.cons rfl rfl (.cons rfl rfl CW))) (by rw [hAx'];exact CG)
        | exact T.met (.cons rfl rfl (.cons rfl rfl (.cons rfl rfl CW))) (by rw [hB'];exact CG)
        | (change Next _ _ _ _ _ _;exact Next.go (i + 1) ⟨by omega, by rw [hsn, hs, if_neg hv0, if_neg hbl]⟩ (by omega) (.cons rfl rfl CW) CG)
 ·have h1 : ¬ (i : Int) < ((((A4 l fr).map PcQ.row).length : Nat) : Int) := by omega
  obtain rfl : i = (A4 l fr).length := by omega
  repeat' (first | refine W ?_ | refine V ?_|(refine W2 ?_ ?_ <;> intro hc))
  rw [show B9 l fr te = spE 12 by unfold B9;rw [hsc]]
  exact ⟨.inr rfl, [A1 [.i 0, .i 0], .i 12], .cons (Res.row [.i 0, .i 0] rfl rfl rfl rfl rfl) (.cons (.tmp rfl) .nil), .tup (.cons (.agg (A7 [.i 0, .i 0])) (.cons (.one (.lf _)) .nil))⟩
end Go.Proofs.YtcbfnkgodiaiiaaGreat
