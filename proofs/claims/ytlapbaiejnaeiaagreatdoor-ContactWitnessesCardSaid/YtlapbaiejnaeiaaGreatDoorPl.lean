/- Lemmas of the proof. -/
import Derived.Test.YtlapbaiejnaeiaaGreatDoorMj
import Derived.Test.YtlapbaiejnaeiaaGreatDoorNi
set_option linter.all false
set_option maxHeartbeats 64000000
namespace Go.Proofs.YtlapbaiejnaeiaaGreatDoor
open Go.RowKit
def a3j := @Rat.le_refl
def ptA (A : List PcQ) (fr : Rat) (i : Nat) : Rat := if 0 < i /\ fr < (A8 A i).f then (A8 A i).f else fr
def ptB (A : List PcQ) (te : Rat) (i : Nat) : Rat := if i + 1 < A.length /\ (A8 A (i + 1)).f < te then (A8 A (i + 1)).f else te
def Ar (A : List PcQ) (fr te : Rat) (i : Nat) : Prop := te < ptA A fr i \/ i + 1 < A.length /\ (A8 A (i + 1)).f <= ptA A fr i
instance (A : List PcQ) (fr te : Rat) (i : Nat) : Decidable (Ar A fr te i) := by unfold Ar;exact inferInstance
def Ax (A : List PcQ) (fr te : Rat) (i : Nat) : Option (List Lf) :=
 if Ar A fr te i then none else if vR (A8 A i) (ptA A fr i) < 0 then some (enQ (ptA A fr i)) else if B5 (A8 A i) (ptA A fr i) (ptB A te i) then some (H9 (A8 A i) (ptA A fr i) (ptB A te i)) else none
def Cu (A : List PcQ) (fr te : Rat) : Nat -> Option (List Lf)
 | 0 => none
 | k + 1 => match Cu A fr te k with
  | some r => some r
  | none => Ax A fr te k
theorem Em {A : List PcQ} {fr te : Rat} {k : Nat} {r : List Lf} (h : Cu A fr te k = some r) : ∀ n, k <= n -> Cu A fr te n = some r := by
 intro n hn
 induction n with
 | zero => obtain rfl : k = 0 := by omega
           exact h
 | succ n ih =>
  by_cases e : k = n + 1
  ·subst e;exact h
  ·rw [Cu, ih (by omega)]
def A5 (l : List PcQ) (fr : Rat) : List PcQ := ⟨fr, (A8 l 0).a, 0, 0⟩ :: l
def B9 (l : List PcQ) (fr te : Rat) : AV := match Cu (A5 l fr) fr te (A5 l fr).length with
 | some r => .tup [A1 r, .i 0]
 | none => spE 12
def sp2 (r : List Lf) : Prop := ∃ x y, r = [.i x, .i y]
theorem S9 (q : Rat) : sp2 (enQ q) := by unfold enQ;split <;> exact ⟨_, _, rfl⟩
theorem P0 (p : PcQ) (a b : Rat) : sp2 (H9 p a b) := by unfold H9;split <;> exact ⟨_, _, rfl⟩
theorem Uo (l : List PcQ) (fr : Rat) : (A5 l fr).map PcQ.row = PcQ.row ⟨fr, (A8 l 0).a, 0, 0⟩ :: l.map PcQ.row := rfl
theorem Ac0 (l : List PcQ) : (l.map PcQ.row).flatten.all Lf.one = true := by
 rw [a0k]
 intro x hx
 obtain ⟨r, hr, hx⟩ := a5q.1 hx
 obtain ⟨p, _, rfl⟩ := a1b.1 hr
 simp only [PcQ.row, a1j, a2e, or_false] at hx
 rcases hx with rfl | rfl | rfl | rfl | rfl | rfl | rfl | rfl <;> rfl
theorem Aat (l : List PcQ) (fr : Rat) : OwnRows ((PcQ.row ⟨fr, (A8 l 0).a, 0, 0⟩).map AV.lf ++ (l.map PcQ.row).flatten.map AV.lf) 0 (1 + (l.map PcQ.row).length) 8 ((A5 l fr).map PcQ.row) := by
 have := OwnRows.of ((A5 l fr).map PcQ.row).flatten (A1l (A5 l fr)) rfl
 rw [show ((A5 l fr).map PcQ.row).length = 1 + (l.map PcQ.row).length by rw [Uo, a0i];omega, Uo, a3d, a1u] at this
 exact this
theorem A6k (l : List PcQ) (fr te : Rat) (hl : okC l) (h0 : l ≠ []) (hn : l.length <= 200) (hf : Fits fr) (ht : Fits te) (hv : Fn0 Tryz.prog 124 [.sl (l.map PcQ.row)] (.b true)) (hle : fr <= te) (hr1 : Ba fr) (hr2 : Ba te) :
  Fn0 Tryz.prog 95 [.sl (l.map PcQ.row), A1 (frR fr), A1 (frR te)] (B9 l fr te) := by
 have v1 : Fn0 Tryz.prog 84 [A1 (frR fr)] (.b true) := by
  have := G9 fr.num fr.den
  rwa [hf.valid] at this
 have v2 : Fn0 Tryz.prog 84 [A1 (frR te)] (.b true) := by
  have := G9 te.num te.den
  rwa [ht.valid] at this
 have c := Bw fr te hf ht
 have r1 := Sz fr hf
 have r2 := Sz te ht
 have z := Mg
 have k0 : ¬ 0 < C4 fr te := fun h => a2m.2 hle ((Ov _ _).1 h)
 have n1 : ¬ ¬ Ba fr := fun h => h hr1
 have n2 : ¬ ¬ Ba te := fun h => h hr2
 have hll : (l.map PcQ.row).length = l.length := a0a _
 have hpos : 0 < l.length := a1n.2 h0
 obtain ⟨x0, hx0⟩ : ∃ x, l[0]? = some x := ⟨l[0]'hpos, a0b _⟩
 have hb0 : (l.map PcQ.row)[(0 : Int).toNat]? = some x0.row := by rw [show (0 : Int).toNat = 0 from rfl, a0e, hx0];rfl
 have hp0 : A8 l 0 = x0 := Ck hx0
 have hA : okC (A5 l fr) := by
  intro p hp
  rcases a1j.1 hp with rfl | hp
  ·exact ⟨hf, by rw [hp0];exact (hl x0 (a0c hx0)).a, Fits.zero, Fits.zero⟩
  ·exact hl p hp
 have hlen : (A5 l fr).length = l.length + 1 := rfl
 refine Fn0.of Tryz.func95 Tryz.ntmps95 rfl rfl rfl ?_
 simp only [A2]
 repeat' (first|refine W ?_|(apply S.call;exact rfl;exact rfl;exact hv;exact rfl)|(apply S.call;exact rfl;exact rfl;exact v1;exact rfl)|(apply S.call;exact rfl;exact rfl;exact v2;exact rfl)|(apply S.call;exact rfl;exact rfl;exact c;exact rfl)|(apply S.call;exact rfl;exact rfl;exact r1;exact rfl)|(apply S.call;exact rfl;exact rfl;exact r2;exact rfl)|(apply S.call;exact rfl;exact rfl;exact z;exact rfl)|(apply S.indexR;(iterate 3 exact rfl);exact hb0;omega;exact rfl)|(apply p0e 10 A0 (by decide +kernel);simp only [td])|(apply p1c;(iterate 6 exact rfl))|(apply p0p;(iterate 9 exact rfl);exact A1l l;exact Ac0 l;exact rfl;(rw [hll];omega);(rw [hll];omega))|(refine T.freeze 8 rfl rfl (hp0 ▸ Aat l fr) ?_)|refine V ?_|(refine W2 ?_ ?_<;>intro hc))
 refine p0d (fun i => i <= (A5 l fr).length /\ Cu (A5 l fr) fr te i = none) (fun i => (A5 l fr).length - i) (fun i => [(58, .i (i : Int)), (57, .i ((((A5 l fr).map PcQ.row).length : Nat) : Int)), (56, .sl ((A5 l fr).map PcQ.row)), (8, .sl ((A5 l fr).map PcQ.row)), (4, .ptr 0 0), (5, .ptr 1 0), (6, .ptr 2 0)]) (fun i => [.live ((frR fr).map .lf), .live ((frR te).map .lf), .live [.i 0, .i 0], .dead]) 0 ⟨a0o _, rfl⟩ (.cons rfl rfl CW) CG ?_
 rintro i ⟨hi, hsc⟩
 have hlr : ((A5 l fr).map PcQ.row).length = (A5 l fr).length := a0a _
 by_cases hlt : i < (A5 l fr).length
 ·have h1 : (i : Int) < ((((A5 l fr).map PcQ.row).length : Nat) : Int) := by omega
  obtain ⟨x, hx⟩ := Aa hlt
  have hbx := Ab (R := PcQ.row) hx
  have okx := hA x (a0c hx)
  have px : A8 (A5 l fr) i = x := Ck hx
  have ca := Bw x.f fr okx.f hf
  have ka := Ov x.f fr
  have hsn : Cu (A5 l fr) fr te (i + 1) = Ax (A5 l fr) fr te i := by rw [Cu, hsc]
  obtain ⟨a, ha⟩ : ∃ a, a = ptA (A5 l fr) fr i := ⟨_, rfl⟩
  obtain ⟨b, hb⟩ : ∃ b, b = ptB (A5 l fr) te i := ⟨_, rfl⟩
  have hfa : Fits a := by
   rw [ha];unfold ptA;split
   ·rw [px];exact okx.f
   ·exact hf
  have hage : fr <= a := by
   rw [ha];unfold ptA;split
   ·rename_i h;exact a2c h.2
   ·exact a3j
  have cta := Bw a te hfa ht
  have kta := Ov a te
  have oa := H7 a hfa
  have cp := Ae7 x.f x.a x.b x.c okx.f okx.a okx.b okx.c
  have cv := Me x.pt (Ex.ofQ a) okx.pt (Bn hfa)
  have cs : Fn0 Tryz.prog 144 [A1 (exR (x.pt.value (Ex.ofQ a)))] (.i (sgQ (x.pt.value (Ex.ofQ a)).val)) := Dc (Ln okx.pt (Bn hfa))
  have kv : sgQ (x.pt.value (Ex.ofQ a)).val < 0 ↔ vR x a < 0 := by rw [G0, Pb (Bn hfa).2.2, p0n]
  generalize sgQ (x.pt.value (Ex.ofQ a)).val = sv at cs kv
  by_cases hi0 : (0 : Int) < (i : Int)
  ·have hAx : ∀ h : fr < x.f, a = x.f := fun h => by rw [ha, ptA, if_pos ⟨by omega, by rw [px];exact h⟩, px]
   have hAx' : ∀ h : ¬ fr < x.f, a = fr := fun h => by rw [ha, ptA, if_neg fun e => h (by rw [<- px];exact e.2)]
   by_cases hlast : i + 1 < (A5 l fr).length
   ·have h2 : (i : Int) + 1 < ((((A5 l fr).map PcQ.row).length : Nat) : Int) := by omega
    obtain ⟨y, hy⟩ := Aa hlast
    have hby : ((A5 l fr).map PcQ.row)[((i : Int) + 1).toNat]? = some y.row := by rw [show ((i : Int) + 1).toNat = i + 1 by omega, a0e, hy];rfl
    have oky := hA y (a0c hy)
    have py : A8 (A5 l fr) (i + 1) = y := Ck hy
    have cb := Bw y.f te oky.f ht
    have kb := Gt y.f te
    have cay := Bw a y.f hfa oky.f
    have kay := A0v a y.f
    have hfb : Fits b := by
     rw [hb];unfold ptB;split
     ·rw [py];exact oky.f
     ·exact ht
    have hB : ∀ h : y.f < te, b = y.f := fun h => by rw [hb, ptB, if_pos ⟨hlast, by rw [py];exact h⟩, py]
    have hB' : ∀ h : ¬ y.f < te, b = te := fun h => by rw [hb, ptB, if_neg fun e => h (by rw [<- py];exact e.2)]
    have hO : Ar (A5 l fr) fr te i ↔ te < a \/ y.f <= a := by rw [Ar, <- ha, py];exact ⟨fun h => h.imp_right And.right, fun h => h.imp_right fun e => ⟨hlast, e⟩⟩
    have hrg : ¬ Ar (A5 l fr) fr te i -> a <= te := fun h => a2m.1 fun e => h (hO.2 (.inl e))
    have hab : ¬ Ar (A5 l fr) fr te i -> a <= b := fun h => by
     by_cases e : y.f < te
     ·rw [hB e];exact a2c (a2f.1 fun e2 => h (hO.2 (.inr e2)))
     ·rw [hB' e];exact hrg h
    have hbt : b <= te := by
     by_cases e : y.f < te
     ·rw [hB e];exact a2c e
     ·rw [hB' e];exact a3j
    have ob := H7 b hfb
    have cbl := I1 x.pt (Ex.ofQ a) (Ex.ofQ b) okx.pt (Bn hfa) (Bn hfb)
    have kbl : x.pt.belowS (Ex.ofQ a) (Ex.ofQ b) ↔ B5 x a b := by rw [Dr (Bn hfa).2.2 (Bn hfb).2.2, p0n, p0n]
    have hst : ¬ Ar (A5 l fr) fr te i -> Ax (A5 l fr) fr te i = if vR x a < 0 then some (enQ a) else if B5 x a b then some (H9 x a b) else none := fun h => by rw [Ax, if_neg h, px, <- ha, <- hb]
    have hout : Ar (A5 l fr) fr te i -> Ax (A5 l fr) fr te i = none := fun h => by rw [Ax, if_pos h]
    have hm : ¬ Ar (A5 l fr) fr te i -> Mid a /\ Mid b := fun h => ⟨Fg hfa ⟨a0r hr1.1 hage, a0r (hrg h) hr2.2⟩, Fg hfb ⟨a0r hr1.1 (a0r hage (hab h)), a0r hbt hr2.2⟩⟩
    by_cases hO1 : Ar (A5 l fr) fr te i
    ·as_aux_lemma =>
     repeat' (first|refine W ?_|(apply S.arith;(iterate 4 exact rfl);omega)|(apply S.call;exact rfl;exact rfl;exact ca;exact rfl)|(apply S.call;exact rfl;exact rfl;exact cta;exact rfl)|(apply S.indexR;(iterate 3 exact rfl);exact hbx;omega;exact rfl)|(apply S.indexR;(iterate 3 exact rfl);exact hby;omega;exact rfl)|(apply S.call;exact rfl;exact rfl;exact cb;exact rfl)|(apply S.call;exact rfl;exact rfl;exact cay;exact rfl)|(apply p0k;(iterate 4 exact rfl))|(refine p1f 10 ([(9, .i (i : Int)), (10, .ptr 4 0), (11, .ptr 5 0), (12, .ptr 6 0), (58, .i (i : Int)), (57, .i ((((A5 l fr).map PcQ.row).length : Nat) : Int)), (56, .sl ((A5 l fr).map PcQ.row)), (8, .sl ((A5 l fr).map PcQ.row)), (4, .ptr 0 0), (5, .ptr 1 0), (6, .ptr 2 0)]) ([.live ((frR fr).map .lf), .live ((frR te).map .lf), .live [.i 0, .i 0], .dead, .live (x.row.map .lf), .live ((frR (a)).map .lf), .live ((frR (te)).map .lf)]) ?_ ?_)|(refine p1f 12 ([(9, .i (i : Int)), (10, .ptr 4 0), (11, .ptr 5 0), (12, .ptr 6 0), (58, .i (i : Int)), (57, .i ((((A5 l fr).map PcQ.row).length : Nat) : Int)), (56, .sl ((A5 l fr).map PcQ.row)), (8, .sl ((A5 l fr).map PcQ.row)), (4, .ptr 0 0), (5, .ptr 1 0), (6, .ptr 2 0)]) ([.live ((frR fr).map .lf), .live ((frR te).map .lf), .live [.i 0, .i 0], .dead, .live (x.row.map .lf), .live ((frR (a)).map .lf), .live ((frR (b)).map .lf)]) ?_ ?_)|(apply p0b A0 (by decide +kernel))|(apply p0f 16 A0 (by decide +kernel);simp only [td])|(apply p0f 22 A0 (by decide +kernel);simp only [td])|refine V ?_|(refine W2 ?_ ?_<;>intro hc))
     all_goals first
      | exact p1n (.cons rfl rfl (.cons rfl rfl (.cons rfl rfl CW))) (by rw [hAx (ka.1 (by assumption))];exact CG)
      | exact p1n (.cons rfl rfl (.cons rfl rfl (.cons rfl rfl CW))) (by rw [hAx' (fun e => absurd (ka.2 e) (by assumption))];exact CG)
      | exact p1n (.cons rfl rfl (.cons rfl rfl (.cons rfl rfl CW))) (by rw [hB (kb.1 (by assumption))];exact CG)
      | exact p1n (.cons rfl rfl (.cons rfl rfl (.cons rfl rfl CW))) (by rw [hB' (fun e => absurd (kb.2 e) (by assumption))];exact CG)
      | (change Next _ _ _ _ _ _;exact Next.go (i + 1) ⟨by omega, by rw [hsn, hout hO1]⟩ (by omega) (.cons rfl rfl CW) CG)
      | (exfalso;rcases hO.1 hO1 with e | e;exact absurd (kta.2 e) (by assumption);exact absurd (kay.2 e) (by assumption))
    ·as_aux_lemma =>
     have q1 : ¬ 0 < C4 a te := fun e => hO1 (hO.2 (.inl (kta.1 e)))
     have q2 : ¬ 0 <= C4 a y.f := fun e => hO1 (hO.2 (.inr (kay.1 e)))
     obtain ⟨ma, mb⟩ := hm hO1
     have cen := Hk a ma
     have cf := Md x a b okx ma mb (hab hO1)
     obtain ⟨u1, u2, hu⟩ := S9 a
     obtain ⟨w1, w2, hw⟩ := P0 x a b
     have hs := hst hO1
     rw [hu] at cen hs
     rw [hw] at cf hs
     have way : (vR x a < 0 /\ sv < 0) \/ (¬ vR x a < 0 /\ ¬ sv < 0 /\ B5 x a b /\ x.pt.belowS (Ex.ofQ a) (Ex.ofQ b)) \/ (¬ vR x a < 0 /\ ¬ sv < 0 /\ ¬ B5 x a b /\ ¬ x.pt.belowS (Ex.ofQ a) (Ex.ofQ b)) := by
      by_cases hv0 : vR x a < 0
      ·exact .inl ⟨hv0, kv.2 hv0⟩
      ·have k := fun e => hv0 (kv.1 e)
       by_cases hbl : B5 x a b
       ·exact .inr (.inl ⟨hv0, k, hbl, kbl.2 hbl⟩)
       ·exact .inr (.inr ⟨hv0, k, hbl, fun e => hbl (kbl.1 e)⟩)
     rcases way with ⟨hv0, hv0'⟩ | ⟨hv0, hv0', hbl, hbl'⟩ | ⟨hv0, hv0', hbl, hbl'⟩
     all_goals as_aux_lemma =>
      skip
      repeat' (first|refine W ?_|(apply S.arith;(iterate 4 exact rfl);omega)|(apply S.call;exact rfl;exact rfl;exact ca;exact rfl)|(apply S.call;exact rfl;exact rfl;exact cta;exact rfl)|(apply S.indexR;(iterate 3 exact rfl);exact hbx;omega;exact rfl)|(apply S.indexR;(iterate 3 exact rfl);exact hby;omega;exact rfl)|(apply S.call;exact rfl;exact rfl;exact cb;exact rfl)|(apply S.call;exact rfl;exact rfl;exact cay;exact rfl)|(apply p0k;(iterate 4 exact rfl))|(refine p1f 10 ([(9, .i (i : Int)), (10, .ptr 4 0), (11, .ptr 5 0), (12, .ptr 6 0), (58, .i (i : Int)), (57, .i ((((A5 l fr).map PcQ.row).length : Nat) : Int)), (56, .sl ((A5 l fr).map PcQ.row)), (8, .sl ((A5 l fr).map PcQ.row)), (4, .ptr 0 0), (5, .ptr 1 0), (6, .ptr 2 0)]) ([.live ((frR fr).map .lf), .live ((frR te).map .lf), .live [.i 0, .i 0], .dead, .live (x.row.map .lf), .live ((frR (a)).map .lf), .live ((frR (te)).map .lf)]) ?_ ?_)|(refine p1f 12 ([(9, .i (i : Int)), (10, .ptr 4 0), (11, .ptr 5 0), (12, .ptr 6 0), (58, .i (i : Int)), (57, .i ((((A5 l fr).map PcQ.row).length : Nat) : Int)), (56, .sl ((A5 l fr).map PcQ.row)), (8, .sl ((A5 l fr).map PcQ.row)), (4, .ptr 0 0), (5, .ptr 1 0), (6, .ptr 2 0)]) ([.live ((frR fr).map .lf), .live ((frR te).map .lf), .live [.i 0, .i 0], .dead, .live (x.row.map .lf), .live ((frR (a)).map .lf), .live ((frR (b)).map .lf)]) ?_ ?_)|(apply p0b A0 (by decide +kernel))|(apply p0f 16 A0 (by decide +kernel);simp only [td])|(apply p0f 22 A0 (by decide +kernel);simp only [td])|(apply S.call;exact rfl;exact rfl;exact cp;exact rfl)|(apply S.call;exact rfl;exact rfl;exact oa;exact rfl)|(apply S.call;exact rfl;exact rfl;exact ob;exact rfl)|(apply S.call;exact rfl;exact rfl;exact cv;exact rfl)|(apply S.call;exact rfl;exact rfl;exact cs;exact rfl)|(apply S.call;exact rfl;exact rfl;exact cbl;exact rfl)|(apply S.call;exact rfl;exact rfl;exact cen;exact rfl)|(apply S.call;exact rfl;exact rfl;exact cf;exact rfl)|(apply p0f 6 A0 (by decide +kernel);simp only [td])|(apply p0e 6 A0 (by decide +kernel);simp only [td])|(apply p0e 7 A0 (by decide +kernel);simp only [td])|(apply p0f 7 A0 (by decide +kernel);simp only [td])|refine V ?_|(refine W2 ?_ ?_<;>intro hc))
      all_goals first
       | exact p1n (.cons rfl rfl (.cons rfl rfl (.cons rfl rfl CW))) (by rw [hAx (ka.1 (by assumption))];exact CG)
       | exact p1n (.cons rfl rfl (.cons rfl rfl (.cons rfl rfl CW))) (by rw [hAx' (fun e => absurd (ka.2 e) (by assumption))];exact CG)
       | exact p1n (.cons rfl rfl (.cons rfl rfl (.cons rfl rfl CW))) (by rw [hB (kb.1 (by assumption))];exact CG)
       | exact p1n (.cons rfl rfl (.cons rfl rfl (.cons rfl rfl CW))) (by rw [hB' (fun e => absurd (kb.2 e) (by assumption))];exact CG)
       | (rw [show B9 l fr te = .tup [A1 [.i u1, .i u2], .i 0] by unfold B9;rw [Em (k := i + 1) (by rw [hsn, hs, if_pos hv0]) _ (by omega)]];exact ⟨.inr rfl, [A1 [.i u1, .i u2], .i 0], .cons (Res.row [.i u1, .i u2] rfl rfl rfl rfl rfl) (.cons (.tmp rfl) .nil), .tup (.cons (.agg (A6 [.i u1, .i u2])) (.cons (.one (.lf _)) .nil))⟩)
       | (rw [show B9 l fr te = .tup [A1 [.i w1, .i w2], .i 0] by unfold B9;rw [Em (k := i + 1) (by rw [hsn, hs, if_neg hv0, if_pos hbl]) _ (by omega)]];exact ⟨.inr rfl, [A1 [.i w1, .i w2], .i 0], .cons (Res.row [.i w1, .i w2] rfl rfl rfl rfl rfl) (.cons (.tmp rfl) .nil), .tup (.cons (.agg (A6 [.i w1, .i w2])) (.cons (.one (.lf _)) .nil))⟩)
       | (change Next _ _ _ _ _ _;exact Next.go (i + 1) ⟨by omega, by rw [hsn, hs, if_neg hv0, if_neg hbl]⟩ (by omega) (.cons rfl rfl CW) CG)
   ·have h2 : ¬ (i : Int) + 1 < ((((A5 l fr).map PcQ.row).length : Nat) : Int) := by omega
    have hB' : b = te := by rw [hb, ptB, if_neg fun e => hlast e.1]
    have hfb : Fits b := by rw [hB'];exact ht
    have hO : Ar (A5 l fr) fr te i ↔ te < a := by rw [Ar, <- ha];exact ⟨fun h => h.elim id fun e => absurd e.1 hlast, .inl⟩
    have hrg : ¬ Ar (A5 l fr) fr te i -> a <= te := fun h => a2m.1 fun e => h (hO.2 e)
    have hab : ¬ Ar (A5 l fr) fr te i -> a <= b := fun h => by rw [hB'];exact hrg h
    have hbt : b <= te := by rw [hB'];exact a3j
    have ob := H7 b hfb
    have cbl := I1 x.pt (Ex.ofQ a) (Ex.ofQ b) okx.pt (Bn hfa) (Bn hfb)
    have kbl : x.pt.belowS (Ex.ofQ a) (Ex.ofQ b) ↔ B5 x a b := by rw [Dr (Bn hfa).2.2 (Bn hfb).2.2, p0n, p0n]
    have hst : ¬ Ar (A5 l fr) fr te i -> Ax (A5 l fr) fr te i = if vR x a < 0 then some (enQ a) else if B5 x a b then some (H9 x a b) else none := fun h => by rw [Ax, if_neg h, px, <- ha, <- hb]
    have hout : Ar (A5 l fr) fr te i -> Ax (A5 l fr) fr te i = none := fun h => by rw [Ax, if_pos h]
    have hm : ¬ Ar (A5 l fr) fr te i -> Mid a /\ Mid b := fun h => ⟨Fg hfa ⟨a0r hr1.1 hage, a0r (hrg h) hr2.2⟩, Fg hfb ⟨a0r hr1.1 (a0r hage (hab h)), a0r hbt hr2.2⟩⟩
    by_cases hO1 : Ar (A5 l fr) fr te i
    ·as_aux_lemma =>
     repeat' (first|refine W ?_|(apply S.arith;(iterate 4 exact rfl);omega)|(apply S.call;exact rfl;exact rfl;exact ca;exact rfl)|(apply S.call;exact rfl;exact rfl;exact cta;exact rfl)|(apply S.indexR;(iterate 3 exact rfl);exact hbx;omega;exact rfl)|(apply p0k;(iterate 4 exact rfl))|(refine p1f 10 ([(9, .i (i : Int)), (10, .ptr 4 0), (11, .ptr 5 0), (12, .ptr 6 0), (58, .i (i : Int)), (57, .i ((((A5 l fr).map PcQ.row).length : Nat) : Int)), (56, .sl ((A5 l fr).map PcQ.row)), (8, .sl ((A5 l fr).map PcQ.row)), (4, .ptr 0 0), (5, .ptr 1 0), (6, .ptr 2 0)]) ([.live ((frR fr).map .lf), .live ((frR te).map .lf), .live [.i 0, .i 0], .dead, .live (x.row.map .lf), .live ((frR (a)).map .lf), .live ((frR (te)).map .lf)]) ?_ ?_)|(refine p1f 12 ([(9, .i (i : Int)), (10, .ptr 4 0), (11, .ptr 5 0), (12, .ptr 6 0), (58, .i (i : Int)), (57, .i ((((A5 l fr).map PcQ.row).length : Nat) : Int)), (56, .sl ((A5 l fr).map PcQ.row)), (8, .sl ((A5 l fr).map PcQ.row)), (4, .ptr 0 0), (5, .ptr 1 0), (6, .ptr 2 0)]) ([.live ((frR fr).map .lf), .live ((frR te).map .lf), .live [.i 0, .i 0], .dead, .live (x.row.map .lf), .live ((frR (a)).map .lf), .live ((frR (b)).map .lf)]) ?_ ?_)|(apply p0b A0 (by decide +kernel))|(apply p0f 16 A0 (by decide +kernel);simp only [td])|(apply p0f 22 A0 (by decide +kernel);simp only [td])|refine V ?_|(refine W2 ?_ ?_<;>intro hc))
     all_goals first
      | exact p1n (.cons rfl rfl (.cons rfl rfl (.cons rfl rfl CW))) (by rw [hAx (ka.1 (by assumption))];exact CG)
      | exact p1n (.cons rfl rfl (.cons rfl rfl (.cons rfl rfl CW))) (by rw [hAx' (fun e => absurd (ka.2 e) (by assumption))];exact CG)
      | exact p1n (.cons rfl rfl (.cons rfl rfl (.cons rfl rfl CW))) (by rw [hB'];exact CG)
      | (change Next _ _ _ _ _ _;exact Next.go (i + 1) ⟨by omega, by rw [hsn, hout hO1]⟩ (by omega) (.cons rfl rfl CW) CG)
      | exact absurd (kta.2 (hO.1 hO1)) (by assumption)
    ·as_aux_lemma =>
     have q1 : ¬ 0 < C4 a te := fun e => hO1 (hO.2 (kta.1 e))
     obtain ⟨ma, mb⟩ := hm hO1
     have cen := Hk a ma
     have cf := Md x a b okx ma mb (hab hO1)
     obtain ⟨u1, u2, hu⟩ := S9 a
     obtain ⟨w1, w2, hw⟩ := P0 x a b
     have hs := hst hO1
     rw [hu] at cen hs
     rw [hw] at cf hs
     have way : (vR x a < 0 /\ sv < 0) \/ (¬ vR x a < 0 /\ ¬ sv < 0 /\ B5 x a b /\ x.pt.belowS (Ex.ofQ a) (Ex.ofQ b)) \/ (¬ vR x a < 0 /\ ¬ sv < 0 /\ ¬ B5 x a b /\ ¬ x.pt.belowS (Ex.ofQ a) (Ex.ofQ b)) := by
      by_cases hv0 : vR x a < 0
      ·exact .inl ⟨hv0, kv.2 hv0⟩
      ·have k := fun e => hv0 (kv.1 e)
       by_cases hbl : B5 x a b
       ·exact .inr (.inl ⟨hv0, k, hbl, kbl.2 hbl⟩)
       ·exact .inr (.inr ⟨hv0, k, hbl, fun e => hbl (kbl.1 e)⟩)
     rcases way with ⟨hv0, hv0'⟩ | ⟨hv0, hv0', hbl, hbl'⟩ | ⟨hv0, hv0', hbl, hbl'⟩
     all_goals as_aux_lemma =>
      skip
      repeat' (first|refine W ?_|(apply S.arith;(iterate 4 exact rfl);omega)|(apply S.call;exact rfl;exact rfl;exact ca;exact rfl)|(apply S.call;exact rfl;exact rfl;exact cta;exact rfl)|(apply S.indexR;(iterate 3 exact rfl);exact hbx;omega;exact rfl)|(apply p0k;(iterate 4 exact rfl))|(refine p1f 10 ([(9, .i (i : Int)), (10, .ptr 4 0), (11, .ptr 5 0), (12, .ptr 6 0), (58, .i (i : Int)), (57, .i ((((A5 l fr).map PcQ.row).length : Nat) : Int)), (56, .sl ((A5 l fr).map PcQ.row)), (8, .sl ((A5 l fr).map PcQ.row)), (4, .ptr 0 0), (5, .ptr 1 0), (6, .ptr 2 0)]) ([.live ((frR fr).map .lf), .live ((frR te).map .lf), .live [.i 0, .i 0], .dead, .live (x.row.map .lf), .live ((frR (a)).map .lf), .live ((frR (te)).map .lf)]) ?_ ?_)|(refine p1f 12 ([(9, .i (i : Int)), (10, .ptr 4 0), (11, .ptr 5 0), (12, .ptr 6 0), (58, .i (i : Int)), (57, .i ((((A5 l fr).map PcQ.row).length : Nat) : Int)), (56, .sl ((A5 l fr).map PcQ.row)), (8, .sl ((A5 l fr).map PcQ.row)), (4, .ptr 0 0), (5, .ptr 1 0), (6, .ptr 2 0)]) ([.live ((frR fr).map .lf), .live ((frR te).map .lf), .live [.i 0, .i 0], .dead, .live (x.row.map .lf), .live ((frR (a)).map .lf), .live ((frR (b)).map .lf)]) ?_ ?_)|(apply p0b A0 (by decide +kernel))|(apply p0f 16 A0 (by decide +kernel);simp only [td])|(apply p0f 22 A0 (by decide +kernel);simp only [td])|(apply S.call;exact rfl;exact rfl;exact cp;exact rfl)|(apply S.call;exact rfl;exact rfl;exact oa;exact rfl)|(apply S.call;exact rfl;exact rfl;exact ob;exact rfl)|(apply S.call;exact rfl;exact rfl;exact cv;exact rfl)|(apply S.call;exact rfl;exact rfl;exact cs;exact rfl)|(apply S.call;exact rfl;exact rfl;exact cbl;exact rfl)|(apply S.call;exact rfl;exact rfl;exact cen;exact rfl)|(apply S.call;exact rfl;exact rfl;exact cf;exact rfl)|(apply p0f 6 A0 (by decide +kernel);simp only [td])|(apply p0e 6 A0 (by decide +kernel);simp only [td])|(apply p0e 7 A0 (by decide +kernel);simp only [td])|(apply p0f 7 A0 (by decide +kernel);simp only [td])|refine V ?_|(refine W2 ?_ ?_<;>intro hc))
      all_goals first
       | exact p1n (.cons rfl rfl (.cons rfl rfl (.cons rfl rfl CW))) (by rw [hAx (ka.1 (by assumption))];exact CG)
       | exact p1n (.cons rfl rfl (.cons rfl rfl (.cons rfl rfl CW))) (by rw [hAx' (fun e => absurd (ka.2 e) (by assumption))];exact CG)
       | exact p1n (.cons rfl rfl (.cons rfl rfl (.cons rfl rfl CW))) (by rw [hB'];exact CG)
       | (rw [show B9 l fr te = .tup [A1 [.i u1, .i u2], .i 0] by unfold B9;rw [Em (k := i + 1) (by rw [hsn, hs, if_pos hv0]) _ (by omega)]];exact ⟨.inr rfl, [A1 [.i u1, .i u2], .i 0], .cons (Res.row [.i u1, .i u2] rfl rfl rfl rfl rfl) (.cons (.tmp rfl) .nil), .tup (.cons (.agg (A6 [.i u1, .i u2])) (.cons (.one (.lf _)) .nil))⟩)
       | (rw [show B9 l fr te = .tup [A1 [.i w1, .i w2], .i 0] by unfold B9;rw [Em (k := i + 1) (by rw [hsn, hs, if_neg hv0, if_pos hbl]) _ (by omega)]];exact ⟨.inr rfl, [A1 [.i w1, .i w2], .i 0], .cons (Res.row [.i w1, .i w2] rfl rfl rfl rfl rfl) (.cons (.tmp rfl) .nil), .tup (.cons (.agg (A6 [.i w1, .i w2])) (.cons (.one (.lf _)) .nil))⟩)
       | (change Next _ _ _ _ _ _;exact Next.go (i + 1) ⟨by omega, by rw [hsn, hs, if_neg hv0, if_neg hbl]⟩ (by omega) (.cons rfl rfl CW) CG)
  ·have hAx' : a = fr := by rw [ha, ptA, if_neg fun e => hi0 (by have := e.1;omega)]
   by_cases hlast : i + 1 < (A5 l fr).length
   ·have h2 : (i : Int) + 1 < ((((A5 l fr).map PcQ.row).length : Nat) : Int) := by omega
    obtain ⟨y, hy⟩ := Aa hlast
    have hby : ((A5 l fr).map PcQ.row)[((i : Int) + 1).toNat]? = some y.row := by rw [show ((i : Int) + 1).toNat = i + 1 by omega, a0e, hy];rfl
    have oky := hA y (a0c hy)
    have py : A8 (A5 l fr) (i + 1) = y := Ck hy
    have cb := Bw y.f te oky.f ht
    have kb := Gt y.f te
    have cay := Bw a y.f hfa oky.f
    have kay := A0v a y.f
    have hfb : Fits b := by
     rw [hb];unfold ptB;split
     ·rw [py];exact oky.f
     ·exact ht
    have hB : ∀ h : y.f < te, b = y.f := fun h => by rw [hb, ptB, if_pos ⟨hlast, by rw [py];exact h⟩, py]
    have hB' : ∀ h : ¬ y.f < te, b = te := fun h => by rw [hb, ptB, if_neg fun e => h (by rw [<- py];exact e.2)]
    have hO : Ar (A5 l fr) fr te i ↔ te < a \/ y.f <= a := by rw [Ar, <- ha, py];exact ⟨fun h => h.imp_right And.right, fun h => h.imp_right fun e => ⟨hlast, e⟩⟩
    have hrg : ¬ Ar (A5 l fr) fr te i -> a <= te := fun h => a2m.1 fun e => h (hO.2 (.inl e))
    have hab : ¬ Ar (A5 l fr) fr te i -> a <= b := fun h => by
     by_cases e : y.f < te
     ·rw [hB e];exact a2c (a2f.1 fun e2 => h (hO.2 (.inr e2)))
     ·rw [hB' e];exact hrg h
    have hbt : b <= te := by
     by_cases e : y.f < te
     ·rw [hB e];exact a2c e
     ·rw [hB' e];exact a3j
    have ob := H7 b hfb
    have cbl := I1 x.pt (Ex.ofQ a) (Ex.ofQ b) okx.pt (Bn hfa) (Bn hfb)
    have kbl : x.pt.belowS (Ex.ofQ a) (Ex.ofQ b) ↔ B5 x a b := by rw [Dr (Bn hfa).2.2 (Bn hfb).2.2, p0n, p0n]
    have hst : ¬ Ar (A5 l fr) fr te i -> Ax (A5 l fr) fr te i = if vR x a < 0 then some (enQ a) else if B5 x a b then some (H9 x a b) else none := fun h => by rw [Ax, if_neg h, px, <- ha, <- hb]
    have hout : Ar (A5 l fr) fr te i -> Ax (A5 l fr) fr te i = none := fun h => by rw [Ax, if_pos h]
    have hm : ¬ Ar (A5 l fr) fr te i -> Mid a /\ Mid b := fun h => ⟨Fg hfa ⟨a0r hr1.1 hage, a0r (hrg h) hr2.2⟩, Fg hfb ⟨a0r hr1.1 (a0r hage (hab h)), a0r hbt hr2.2⟩⟩
    by_cases hO1 : Ar (A5 l fr) fr te i
    ·as_aux_lemma =>
     repeat' (first|refine W ?_|(apply S.arith;(iterate 4 exact rfl);omega)|(apply S.call;exact rfl;exact rfl;exact ca;exact rfl)|(apply S.call;exact rfl;exact rfl;exact cta;exact rfl)|(apply S.indexR;(iterate 3 exact rfl);exact hbx;omega;exact rfl)|(apply S.indexR;(iterate 3 exact rfl);exact hby;omega;exact rfl)|(apply S.call;exact rfl;exact rfl;exact cb;exact rfl)|(apply S.call;exact rfl;exact rfl;exact cay;exact rfl)|(apply p0k;(iterate 4 exact rfl))|(refine p1f 10 ([(9, .i (i : Int)), (10, .ptr 4 0), (11, .ptr 5 0), (12, .ptr 6 0), (58, .i (i : Int)), (57, .i ((((A5 l fr).map PcQ.row).length : Nat) : Int)), (56, .sl ((A5 l fr).map PcQ.row)), (8, .sl ((A5 l fr).map PcQ.row)), (4, .ptr 0 0), (5, .ptr 1 0), (6, .ptr 2 0)]) ([.live ((frR fr).map .lf), .live ((frR te).map .lf), .live [.i 0, .i 0], .dead, .live (x.row.map .lf), .live ((frR (a)).map .lf), .live ((frR (te)).map .lf)]) ?_ ?_)|(refine p1f 12 ([(9, .i (i : Int)), (10, .ptr 4 0), (11, .ptr 5 0), (12, .ptr 6 0), (58, .i (i : Int)), (57, .i ((((A5 l fr).map PcQ.row).length : Nat) : Int)), (56, .sl ((A5 l fr).map PcQ.row)), (8, .sl ((A5 l fr).map PcQ.row)), (4, .ptr 0 0), (5, .ptr 1 0), (6, .ptr 2 0)]) ([.live ((frR fr).map .lf), .live ((frR te).map .lf), .live [.i 0, .i 0], .dead, .live (x.row.map .lf), .live ((frR (a)).map .lf), .live ((frR (b)).map .lf)]) ?_ ?_)|(apply p0b A0 (by decide +kernel))|(apply p0f 16 A0 (by decide +kernel);simp only [td])|(apply p0f 22 A0 (by decide +kernel);simp only [td])|refine V ?_|(refine W2 ?_ ?_<;>intro hc))
     all_goals first
      | exact p1n (.cons rfl rfl (.cons rfl rfl (.cons rfl rfl CW))) (by rw [hAx'];exact CG)
      | exact p1n (.cons rfl rfl (.cons rfl rfl (.cons rfl rfl CW))) (by rw [hB (kb.1 (by assumption))];exact CG)
      | exact p1n (.cons rfl rfl (.cons rfl rfl (.cons rfl rfl CW))) (by rw [hB' (fun e => absurd (kb.2 e) (by assumption))];exact CG)
      | (change Next _ _ _ _ _ _;exact Next.go (i + 1) ⟨by omega, by rw [hsn, hout hO1]⟩ (by omega) (.cons rfl rfl CW) CG)
      | (exfalso;rcases hO.1 hO1 with e | e;exact absurd (kta.2 e) (by assumption);exact absurd (kay.2 e) (by assumption))
    ·as_aux_lemma =>
     have q1 : ¬ 0 < C4 a te := fun e => hO1 (hO.2 (.inl (kta.1 e)))
     have q2 : ¬ 0 <= C4 a y.f := fun e => hO1 (hO.2 (.inr (kay.1 e)))
     obtain ⟨ma, mb⟩ := hm hO1
     have cen := Hk a ma
     have cf := Md x a b okx ma mb (hab hO1)
     obtain ⟨u1, u2, hu⟩ := S9 a
     obtain ⟨w1, w2, hw⟩ := P0 x a b
     have hs := hst hO1
     rw [hu] at cen hs
     rw [hw] at cf hs
     have way : (vR x a < 0 /\ sv < 0) \/ (¬ vR x a < 0 /\ ¬ sv < 0 /\ B5 x a b /\ x.pt.belowS (Ex.ofQ a) (Ex.ofQ b)) \/ (¬ vR x a < 0 /\ ¬ sv < 0 /\ ¬ B5 x a b /\ ¬ x.pt.belowS (Ex.ofQ a) (Ex.ofQ b)) := by
      by_cases hv0 : vR x a < 0
      ·exact .inl ⟨hv0, kv.2 hv0⟩
      ·have k := fun e => hv0 (kv.1 e)
       by_cases hbl : B5 x a b
       ·exact .inr (.inl ⟨hv0, k, hbl, kbl.2 hbl⟩)
       ·exact .inr (.inr ⟨hv0, k, hbl, fun e => hbl (kbl.1 e)⟩)
     rcases way with ⟨hv0, hv0'⟩ | ⟨hv0, hv0', hbl, hbl'⟩ | ⟨hv0, hv0', hbl, hbl'⟩
     all_goals as_aux_lemma =>
      skip
      repeat' (first|refine W ?_|(apply S.arith;(iterate 4 exact rfl);omega)|(apply S.call;exact rfl;exact rfl;exact ca;exact rfl)|(apply S.call;exact rfl;exact rfl;exact cta;exact rfl)|(apply S.indexR;(iterate 3 exact rfl);exact hbx;omega;exact rfl)|(apply S.indexR;(iterate 3 exact rfl);exact hby;omega;exact rfl)|(apply S.call;exact rfl;exact rfl;exact cb;exact rfl)|(apply S.call;exact rfl;exact rfl;exact cay;exact rfl)|(apply p0k;(iterate 4 exact rfl))|(refine p1f 10 ([(9, .i (i : Int)), (10, .ptr 4 0), (11, .ptr 5 0), (12, .ptr 6 0), (58, .i (i : Int)), (57, .i ((((A5 l fr).map PcQ.row).length : Nat) : Int)), (56, .sl ((A5 l fr).map PcQ.row)), (8, .sl ((A5 l fr).map PcQ.row)), (4, .ptr 0 0), (5, .ptr 1 0), (6, .ptr 2 0)]) ([.live ((frR fr).map .lf), .live ((frR te).map .lf), .live [.i 0, .i 0], .dead, .live (x.row.map .lf), .live ((frR (a)).map .lf), .live ((frR (te)).map .lf)]) ?_ ?_)|(refine p1f 12 ([(9, .i (i : Int)), (10, .ptr 4 0), (11, .ptr 5 0), (12, .ptr 6 0), (58, .i (i : Int)), (57, .i ((((A5 l fr).map PcQ.row).length : Nat) : Int)), (56, .sl ((A5 l fr).map PcQ.row)), (8, .sl ((A5 l fr).map PcQ.row)), (4, .ptr 0 0), (5, .ptr 1 0), (6, .ptr 2 0)]) ([.live ((frR fr).map .lf), .live ((frR te).map .lf), .live [.i 0, .i 0], .dead, .live (x.row.map .lf), .live ((frR (a)).map .lf), .live ((frR (b)).map .lf)]) ?_ ?_)|(apply p0b A0 (by decide +kernel))|(apply p0f 16 A0 (by decide +kernel);simp only [td])|(apply p0f 22 A0 (by decide +kernel);simp only [td])|(apply S.call;exact rfl;exact rfl;exact cp;exact rfl)|(apply S.call;exact rfl;exact rfl;exact oa;exact rfl)|(apply S.call;exact rfl;exact rfl;exact ob;exact rfl)|(apply S.call;exact rfl;exact rfl;exact cv;exact rfl)|(apply S.call;exact rfl;exact rfl;exact cs;exact rfl)|(apply S.call;exact rfl;exact rfl;exact cbl;exact rfl)|(apply S.call;exact rfl;exact rfl;exact cen;exact rfl)|(apply S.call;exact rfl;exact rfl;exact cf;exact rfl)|(apply p0f 6 A0 (by decide +kernel);simp only [td])|(apply p0e 6 A0 (by decide +kernel);simp only [td])|(apply p0e 7 A0 (by decide +kernel);simp only [td])|(apply p0f 7 A0 (by decide +kernel);simp only [td])|refine V ?_|(refine W2 ?_ ?_<;>intro hc))
      all_goals first
       | exact p1n (.cons rfl rfl (.cons rfl rfl (.cons rfl rfl CW))) (by rw [hAx'];exact CG)
       | exact p1n (.cons rfl rfl (.cons rfl rfl (.cons rfl rfl CW))) (by rw [hB (kb.1 (by assumption))];exact CG)
       | exact p1n (.cons rfl rfl (.cons rfl rfl (.cons rfl rfl CW))) (by rw [hB' (fun e => absurd (kb.2 e) (by assumption))];exact CG)
       | (rw [show B9 l fr te = .tup [A1 [.i u1, .i u2], .i 0] by unfold B9;rw [Em (k := i + 1) (by rw [hsn, hs, if_pos hv0]) _ (by omega)]];exact ⟨.inr rfl, [A1 [.i u1, .i u2], .i 0], .cons (Res.row [.i u1, .i u2] rfl rfl rfl rfl rfl) (.cons (.tmp rfl) .nil), .tup (.cons (.agg (A6 [.i u1, .i u2])) (.cons (.one (.lf _)) .nil))⟩)
       | (rw [show B9 l fr te = .tup [A1 [.i w1, .i w2], .i 0] by unfold B9;rw [Em (k := i + 1) (by rw [hsn, hs, if_neg hv0, if_pos hbl]) _ (by omega)]];exact ⟨.inr rfl, [A1 [.i w1, .i w2], .i 0], .cons (Res.row [.i w1, .i w2] rfl rfl rfl rfl rfl) (.cons (.tmp rfl) .nil), .tup (.cons (.agg (A6 [.i w1, .i w2])) (.cons (.one (.lf _)) .nil))⟩)
       | (change Next _ _ _ _ _ _;exact Next.go (i + 1) ⟨by omega, by rw [hsn, hs, if_neg hv0, if_neg hbl]⟩ (by omega) (.cons rfl rfl CW) CG)
   ·have h2 : ¬ (i : Int) + 1 < ((((A5 l fr).map PcQ.row).length : Nat) : Int) := by omega
    have hB' : b = te := by rw [hb, ptB, if_neg fun e => hlast e.1]
    have hfb : Fits b := by rw [hB'];exact ht
    have hO : Ar (A5 l fr) fr te i ↔ te < a := by rw [Ar, <- ha];exact ⟨fun h => h.elim id fun e => absurd e.1 hlast, .inl⟩
    have hrg : ¬ Ar (A5 l fr) fr te i -> a <= te := fun h => a2m.1 fun e => h (hO.2 e)
    have hab : ¬ Ar (A5 l fr) fr te i -> a <= b := fun h => by rw [hB'];exact hrg h
    have hbt : b <= te := by rw [hB'];exact a3j
    have ob := H7 b hfb
    have cbl := I1 x.pt (Ex.ofQ a) (Ex.ofQ b) okx.pt (Bn hfa) (Bn hfb)
    have kbl : x.pt.belowS (Ex.ofQ a) (Ex.ofQ b) ↔ B5 x a b := by rw [Dr (Bn hfa).2.2 (Bn hfb).2.2, p0n, p0n]
    have hst : ¬ Ar (A5 l fr) fr te i -> Ax (A5 l fr) fr te i = if vR x a < 0 then some (enQ a) else if B5 x a b then some (H9 x a b) else none := fun h => by rw [Ax, if_neg h, px, <- ha, <- hb]
    have hout : Ar (A5 l fr) fr te i -> Ax (A5 l fr) fr te i = none := fun h => by rw [Ax, if_pos h]
    have hm : ¬ Ar (A5 l fr) fr te i -> Mid a /\ Mid b := fun h => ⟨Fg hfa ⟨a0r hr1.1 hage, a0r (hrg h) hr2.2⟩, Fg hfb ⟨a0r hr1.1 (a0r hage (hab h)), a0r hbt hr2.2⟩⟩
    by_cases hO1 : Ar (A5 l fr) fr te i
    ·as_aux_lemma =>
     repeat' (first|refine W ?_|(apply S.arith;(iterate 4 exact rfl);omega)|(apply S.call;exact rfl;exact rfl;exact ca;exact rfl)|(apply S.call;exact rfl;exact rfl;exact cta;exact rfl)|(apply S.indexR;(iterate 3 exact rfl);exact hbx;omega;exact rfl)|(apply p0k;(iterate 4 exact rfl))|(refine p1f 10 ([(9, .i (i : Int)), (10, .ptr 4 0), (11, .ptr 5 0), (12, .ptr 6 0), (58, .i (i : Int)), (57, .i ((((A5 l fr).map PcQ.row).length : Nat) : Int)), (56, .sl ((A5 l fr).map PcQ.row)), (8, .sl ((A5 l fr).map PcQ.row)), (4, .ptr 0 0), (5, .ptr 1 0), (6, .ptr 2 0)]) ([.live ((frR fr).map .lf), .live ((frR te).map .lf), .live [.i 0, .i 0], .dead, .live (x.row.map .lf), .live ((frR (a)).map .lf), .live ((frR (te)).map .lf)]) ?_ ?_)|(refine p1f 12 ([(9, .i (i : Int)), (10, .ptr 4 0), (11, .ptr 5 0), (12, .ptr 6 0), (58, .i (i : Int)), (57, .i ((((A5 l fr).map PcQ.row).length : Nat) : Int)), (56, .sl ((A5 l fr).map PcQ.row)), (8, .sl ((A5 l fr).map PcQ.row)), (4, .ptr 0 0), (5, .ptr 1 0), (6, .ptr 2 0)]) ([.live ((frR fr).map .lf), .live ((frR te).map .lf), .live [.i 0, .i 0], .dead, .live (x.row.map .lf), .live ((frR (a)).map .lf), .live ((frR (b)).map .lf)]) ?_ ?_)|(apply p0b A0 (by decide +kernel))|(apply p0f 16 A0 (by decide +kernel);simp only [td])|(apply p0f 22 A0 (by decide +kernel);simp only [td])|refine V ?_|(refine W2 ?_ ?_<;>intro hc))
     all_goals first
      | exact p1n (.cons rfl rfl (.cons rfl rfl (.cons rfl rfl CW))) (by rw [hAx'];exact CG)
      | exact p1n (.cons rfl rfl (.cons rfl rfl (.cons rfl rfl CW))) (by rw [hB'];exact CG)
      | (change Next _ _ _ _ _ _;exact Next.go (i + 1) ⟨by omega, by rw [hsn, hout hO1]⟩ (by omega) (.cons rfl rfl CW) CG)
      | exact absurd (kta.2 (hO.1 hO1)) (by assumption)
    ·as_aux_lemma =>
     have q1 : ¬ 0 < C4 a te := fun e => hO1 (hO.2 (kta.1 e))
     obtain ⟨ma, mb⟩ := hm hO1
     have cen := Hk a ma
     have cf := Md x a b okx ma mb (hab hO1)
     obtain ⟨u1, u2, hu⟩ := S9 a
     obtain ⟨w1, w2, hw⟩ := P0 x a b
     have hs := hst hO1
     rw [hu] at cen hs
     rw [hw] at cf hs
     have way : (vR x a < 0 /\ sv < 0) \/ (¬ vR x a < 0 /\ ¬ sv < 0 /\ B5 x a b /\ x.pt.belowS (Ex.ofQ a) (Ex.ofQ b)) \/ (¬ vR x a < 0 /\ ¬ sv < 0 /\ ¬ B5 x a b /\ ¬ x.pt.belowS (Ex.ofQ a) (Ex.ofQ b)) := by
      by_cases hv0 : vR x a < 0
      ·exact .inl ⟨hv0, kv.2 hv0⟩
      ·have k := fun e => hv0 (kv.1 e)
       by_cases hbl : B5 x a b
       ·exact .inr (.inl ⟨hv0, k, hbl, kbl.2 hbl⟩)
       ·exact .inr (.inr ⟨hv0, k, hbl, fun e => hbl (kbl.1 e)⟩)
     rcases way with ⟨hv0, hv0'⟩ | ⟨hv0, hv0', hbl, hbl'⟩ | ⟨hv0, hv0', hbl, hbl'⟩
     all_goals as_aux_lemma =>
      skip
      repeat' (first|refine W ?_|(apply S.arith;(iterate 4 exact rfl);omega)|(apply S.call;exact rfl;exact rfl;exact ca;exact rfl)|(apply S.call;exact rfl;exact rfl;exact cta;exact rfl)|(apply S.indexR;(iterate 3 exact rfl);exact hbx;omega;exact rfl)|(apply p0k;(iterate 4 exact rfl))|(refine p1f 10 ([(9, .i (i : Int)), (10, .ptr 4 0), (11, .ptr 5 0), (12, .ptr 6 0), (58, .i (i : Int)), (57, .i ((((A5 l fr).map PcQ.row).length : Nat) : Int)), (56, .sl ((A5 l fr).map PcQ.row)), (8, .sl ((A5 l fr).map PcQ.row)), (4, .ptr 0 0), (5, .ptr 1 0), (6, .ptr 2 0)]) ([.live ((frR fr).map .lf), .live ((frR te).map .lf), .live [.i 0, .i 0], .dead, .live (x.row.map .lf), .live ((frR (a)).map .lf), .live ((frR (te)).map .lf)]) ?_ ?_)|(refine p1f 12 ([(9, .i (i : Int)), (10, .ptr 4 0), (11, .ptr 5 0), (12, .ptr 6 0), (58, .i (i : Int)), (57, .i ((((A5 l fr).map PcQ.row).length : Nat) : Int)), (56, .sl ((A5 l fr).map PcQ.row)), (8, .sl ((A5 l fr).map PcQ.row)), (4, .ptr 0 0), (5, .ptr 1 0), (6, .ptr 2 0)]) ([.live ((frR fr).map .lf), .live ((frR te).map .lf), .live [.i 0, .i 0], .dead, .live (x.row.map .lf), .live ((frR (a)).map .lf), .live ((frR (b)).map .lf)]) ?_ ?_)|(apply p0b A0 (by decide +kernel))|(apply p0f 16 A0 (by decide +kernel);simp only [td])|(apply p0f 22 A0 (by decide +kernel);simp only [td])|(apply S.call;exact rfl;exact rfl;exact cp;exact rfl)|(apply S.call;exact rfl;exact rfl;exact oa;exact rfl)|(apply S.call;exact rfl;exact rfl;exact ob;exact rfl)|(apply S.call;exact rfl;exact rfl;exact cv;exact rfl)|(apply S.call;exact rfl;exact rfl;exact cs;exact rfl)|(apply S.call;exact rfl;exact rfl;exact cbl;exact rfl)|(apply S.call;exact rfl;exact rfl;exact cen;exact rfl)|(apply S.call;exact rfl;exact rfl;exact cf;exact rfl)|(apply p0f 6 A0 (by decide +kernel);simp only [td])|(apply p0e 6 A0 (by decide +kernel);simp only [td])|(apply p0e 7 A0 (by decide +kernel);simp only [td])|(apply p0f 7 A0 (by decide +kernel);simp only [td])|refine V ?_|(refine W2 ?_ ?_<;>intro hc))
      all_goals first
       | exact p1n (.cons rfl rfl (.cons rfl rfl (.cons rfl rfl CW))) (by rw [hAx'];exact CG)
       | exact p1n (.cons rfl rfl (.cons rfl rfl (.cons rfl rfl CW))) (by rw [hB'];exact CG)
       | (rw [show B9 l fr te = .tup [A1 [.i u1, .i u2], .i 0] by unfold B9;rw [Em (k := i + 1) (by rw [hsn, hs, if_pos hv0]) _ (by omega)]];exact ⟨.inr rfl, [A1 [.i u1, .i u2], .i 0], .cons (Res.row [.i u1, .i u2] rfl rfl rfl rfl rfl) (.cons (.tmp rfl) .nil), .tup (.cons (.agg (A6 [.i u1, .i u2])) (.cons (.one (.lf _)) .nil))⟩)
       | (rw [show B9 l fr te = .tup [A1 [.i w1, .i w2], .i 0] by unfold B9;rw [Em (k := i + 1) (by rw [hsn, hs, if_neg hv0, if_pos hbl]) _ (by omega)]];exact ⟨.inr rfl, [A1 [.i w1, .i w2], .i 0], .cons (Res.row [.i w1, .i w2] rfl rfl rfl rfl rfl) (.cons (.tmp rfl) .nil), .tup (.cons (.agg (A6 [.i w1, .i w2])) (.cons (.one (.lf _)) .nil))⟩)
       | (change Next _ _ _ _ _ _;exact Next.go (i + 1) ⟨by omega, by rw [hsn, hs, if_neg hv0, if_neg hbl]⟩ (by omega) (.cons rfl rfl CW) CG)
 ·have h1 : ¬ (i : Int) < ((((A5 l fr).map PcQ.row).length : Nat) : Int) := by omega
  obtain rfl : i = (A5 l fr).length := by omega
  repeat' (first|refine W ?_|refine V ?_|(refine W2 ?_ ?_<;>intro hc))
  rw [show B9 l fr te = spE 12 by unfold B9;rw [hsc]]
  exact ⟨.inr rfl, [A1 [.i 0, .i 0], .i 12], .cons (Res.row [.i 0, .i 0] rfl rfl rfl rfl rfl) (.cons (.tmp rfl) .nil), .tup (.cons (.agg (A6 [.i 0, .i 0])) (.cons (.one (.lf _)) .nil))⟩
end Go.Proofs.YtlapbaiejnaeiaaGreatDoor
