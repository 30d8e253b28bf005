/- Contracts: the reference's findings: a line, Parse. Conditions: those of each statement (bounds on lengths). -/
import Derived.Test.YtlmppfffalaphaaGreatDoorYf
import Derived.Test.YtlmppfffalaphaaGreatDoorYa
set_option linter.unusedSimpArgs false
set_option linter.unusedVariables false
namespace Go.Proofs.YtlmppfffalaphaaGreatDoor
open Go Go.RowKit
theorem Qg (l : List UInt8) : wdS l ≠ [] := by
 by_cases h : (32 : UInt8) ∈ l
 ·obtain ⟨a, b, h1, h2⟩ := Cs h
  rw [h2, Fc h1];simp
 ·rw [Fd h];simp
theorem Pi {t : List UInt8} {w0 w1 : ByteArray} (h : wdS t = [w0, w1]) : t = w0.data.toList ++ 32 :: w1.data.toList := by
 by_cases hm : (32 : UInt8) ∈ t
 ·obtain ⟨a, b, h1, h2⟩ := Cs hm
  rw [h2, Fc h1] at h
  injection h with e1 e2
  have hb : (32 : UInt8) ∉ b := fun hb => by
   obtain ⟨a', b', h3, h4⟩ := Cs hb
   rw [h4, Fc h3] at e2
   injection e2 with _ e3
   exact Qg _ e3
  rw [Fd hb] at e2
  injection e2 with e2 _
  rw [h2, <- e1, <- e2, Ac, Ac]
 ·rw [Fd hm] at h
  injection h with _ h
  cases h
theorem Jq {x : FinR} (h : okF x) : wdS (lnF x) = [A6 x.kind, x.name] := by
 unfold lnF
 rw [Fc (G9 (by decide) _), Fd (J6 h.2.2 (by decide)), Ga]
 rfl
theorem Nx {m : Int} (h0 : 0 <= m) (h1 : m <= 9999999) (h7 : (Lib.itoa m).length <= 7) : B0 (A6 m) = m /\ Ce (A6 m) = true := by
 obtain ⟨⟨n1, n2⟩, n3⟩ := O9 (n := m) h0 (by omega)
 have hl : (A6 m).data.toList = Lib.itoa m := Ac _
 have hsz : (A6 m).size = (Lib.itoa m).length := Ae _
 have hN : As (A6 m) = 0 := by
  unfold As
  rw [if_neg]
  intro e
  rw [hl] at e
  have := n2 45 (List.mem_of_getElem? e)
  exact this.1 (by decide)
 have hb : ¬ (As (A6 m) = (A6 m).size \/ (A6 m).size > 10) := by rw [hN];omega
 have hd : C5 ((A6 m).data.toList.drop (As (A6 m))) := by rw [hN, hl];exact n2
 have hv : B0 (A6 m) = m := by
  unfold B0
  rw [if_neg hb, if_pos hd, hN, if_neg (by decide), hl]
  exact n3
 refine ⟨hv, ?_⟩
 unfold Ce
 rw [if_neg hb, if_pos hd, hv]
 exact decide_eq_true rfl
theorem Nw {s : ByteArray} (h : Ce s = true) : A6 (B0 s) = s := by
 unfold Ce at h
 split at h
 ·cases h
 ·split at h
  ·exact of_decide_eq_true h
  ·cases h
theorem Kz (s : List UInt8) (hs : s.length <= 262144) : Fn0 Tryz.prog 53 [.s (ofL s)] (.sl ((wdS s).map Di)) := (Mn s hs).pure (Kn _)
theorem Qs {α : Type} {l : List α} (h : l.length = 2) : ∃ a b, l = [a, b] := by
 match l, h with
 | [a, b], _ => exact ⟨a, b, rfl⟩
theorem Qf {t : List UInt8} {w : ByteArray} (h : w ∈ wdS t) : w.size <= t.length := by
 obtain ⟨x, hx, rfl⟩ := List.mem_map.1 h
 rw [Ae]
 exact Oo hx
set_option maxHeartbeats 16000000 in
theorem Og (t : List UInt8) (ht : t.length <= 262144) : ∃ (r0 : Int) (r1 : ByteArray) (b : Bool), Fn0 Tryz.prog 31 [.s (ofL t)] (.tup [A1 [.i r0, .s r1], .b b]) /\ (∀ x, B5 t = some x -> r0 = x.kind /\ r1 = x.name /\ b = true) /\ (B5 t = none -> b = false) := by
 have cw := Kz t ht
 have hwl : ((wdS t).map Di).length = (wdS t).length := List.length_map _
 by_cases h2 : (wdS t).length = 2
 ·obtain ⟨w0, w1, hw⟩ := Qs h2
  rw [hw] at cw
  have hwt := Pi hw
  have b0 : ([w0, w1].map Di)[(0 : Int).toNat]? = some [.s w0] := rfl
  have b1 : ([w0, w1].map Di)[(1 : Int).toNat]? = some [.s w1] := rfl
  have f0 : ¬ ¬ ((([w0, w1].map Di).length : Nat) : Int) = 2 := fun k => k rfl
  have f1 : (([w0, w1].map Di).length : Nat) = 2 := rfl
  have hnone : (∀ x, okF x -> A6 x.kind = w0 -> x.name = w1 -> False) -> B5 t = none := fun h => Eg fun x h1 h3 => by
   have := Jq h1
   rw [<- h3, hw] at this
   injection this with e1 e2
   injection e2 with e2 _
   exact h x h1 e1.symm e2.symm
  by_cases h7 : (w0.size : Int) > 7
  ·have hl := hnone fun x h1 e1 _ => by
    have := h1.2.1
    have hs : (A6 x.kind).size = (Lib.itoa x.kind).length := Ae _
    rw [e1] at hs
    omega
   refine ⟨0, ⟨#[]⟩, false, ?_, (by rw [hl];intro x e;cases e), fun _ => rfl⟩
   refine Fn0.of Tryz.func31 Tryz.ntmps31 rfl rfl rfl ?_
   simp only [A0]
   repeat' (first
    | refine W ?_
    | refine Y ?_|(apply S.indexR;(iterate 3 exact rfl);exact b0;omega;exact rfl)|(apply S.indexR;(iterate 3 exact rfl);exact b1;omega;exact rfl)|(apply T.drawAll A2 (by decide +kernel))
    | refine V ?_
    | (refine W2 ?_ ?_ <;> intro hc))
   all_goals exact ⟨.inr rfl, [A1 ([.i 0, .s ⟨#[]⟩] : List Lf), .b false], .cons (Res.row ([.i 0, .s ⟨#[]⟩] : List Lf) rfl rfl rfl rfl rfl) (.cons (.tmp rfl) .nil), .tup (.cons (.agg (A5 _)) (.cons (.one (.lf _)) .nil))⟩
  by_cases hn : At w1 = true
  ·have cn := Ej w1
   rw [decide_eq_true hn] at cn
   have ci := Pg w0 (by have := Qf (t := t) (w := w0) (by rw [hw];simp);omega)
   have hg : B5 t = (if Ce w0 = true /\ 0 <= B0 w0 then some ⟨B0 w0, w1⟩ else none) := by
    by_cases hc : Ce w0 = true /\ 0 <= B0 w0
    ·rw [if_pos hc]
     obtain ⟨c1, c2⟩ := hc
     have hbk := Nw c1
     have hok : okF ⟨B0 w0, w1⟩ := ⟨c2, by
      have hs : (A6 (B0 w0)).size = (Lib.itoa (B0 w0)).length := Ae _
      rw [hbk] at hs
      dsimp only
      omega, hn⟩
     have hlt : t = lnF ⟨B0 w0, w1⟩ := by
      unfold lnF
      dsimp only
      rw [hwt]
      congr 1
      rw [<- Ac (Lib.itoa (B0 w0))]
      exact congrArg (fun z : ByteArray => z.data.toList) hbk.symm
     rw [hlt]
     exact Eh hok
    ·rw [if_neg hc]
     refine hnone fun x h1 e1 _ => hc ?_
     obtain ⟨q1, q2⟩ := Nx h1.1 (Ki h1) h1.2.1
     rw [e1] at q1 q2
     exact ⟨q2, by rw [q1];exact h1.1⟩
   generalize B0 w0 = v at *
   generalize Ce w0 = b at *
   cases b with
   | false =>
    rw [if_neg (fun h => by cases h.1)] at hg
    refine ⟨v, w1, false, ?_, (by rw [hg];intro x e;cases e), fun _ => rfl⟩
    refine Fn0.of Tryz.func31 Tryz.ntmps31 rfl rfl rfl ?_
    simp only [A0]
    repeat' (first
     | refine W ?_
     | refine Y ?_|(apply S.indexR;(iterate 3 exact rfl);exact b0;omega;exact rfl)|(apply S.indexR;(iterate 3 exact rfl);exact b1;omega;exact rfl)|(apply T.drawAll A2 (by decide +kernel))
     | refine V ?_
     | (refine W2 ?_ ?_ <;> intro hc))
    all_goals exact ⟨.inr rfl, [A1 ([.i v, .s w1] : List Lf), .b false], .cons (Res.row ([.i v, .s w1] : List Lf) rfl rfl rfl rfl rfl) (.cons (.tmp rfl) .nil), .tup (.cons (.agg (A5 _)) (.cons (.one (.lf _)) .nil))⟩
   | true =>
    by_cases hv : v >= 0
    ·have hv2 : 0 <= v := hv
     rw [if_pos ⟨rfl, hv⟩] at hg
     refine ⟨v, w1, true, ?_, (by rw [hg];intro x e;injection e with e;subst e;exact ⟨rfl, rfl, rfl⟩), (by rw [hg];intro e;cases e)⟩
     refine Fn0.of Tryz.func31 Tryz.ntmps31 rfl rfl rfl ?_
     simp only [A0]
     repeat' (first
      | refine W ?_
      | refine Y ?_|(apply S.indexR;(iterate 3 exact rfl);exact b0;omega;exact rfl)|(apply S.indexR;(iterate 3 exact rfl);exact b1;omega;exact rfl)|(apply T.drawAll A2 (by decide +kernel))
      | refine V ?_
      | (refine W2 ?_ ?_ <;> intro hc))
     all_goals exact ⟨.inr rfl, [A1 [.i v, .s w1], .b (decide (0 <= v))], .cons (Res.row [.i v, .s w1] rfl rfl rfl rfl rfl) (.cons (.tmp rfl) .nil), by rw [decide_eq_true hv2];exact .tup (.cons (.agg (A5 _)) (.cons (.one (.lf _)) .nil))⟩
    ·have hv2 : ¬ 0 <= v := hv
     rw [if_neg (fun h => hv h.2)] at hg
     refine ⟨v, w1, false, ?_, (by rw [hg];intro x e;cases e), fun _ => rfl⟩
     refine Fn0.of Tryz.func31 Tryz.ntmps31 rfl rfl rfl ?_
     simp only [A0]
     repeat' (first
      | refine W ?_
      | refine Y ?_|(apply S.indexR;(iterate 3 exact rfl);exact b0;omega;exact rfl)|(apply S.indexR;(iterate 3 exact rfl);exact b1;omega;exact rfl)|(apply T.drawAll A2 (by decide +kernel))
      | refine V ?_
      | (refine W2 ?_ ?_ <;> intro hc))
     all_goals exact ⟨.inr rfl, [A1 [.i v, .s w1], .b (decide (0 <= v))], .cons (Res.row [.i v, .s w1] rfl rfl rfl rfl rfl) (.cons (.tmp rfl) .nil), by rw [decide_eq_false hv2];exact .tup (.cons (.agg (A5 _)) (.cons (.one (.lf _)) .nil))⟩
  ·have cn := Ej w1
   rw [decide_eq_false hn] at cn
   have hl := hnone fun x h1 _ e2 => hn (by rw [<- e2];exact h1.2.2)
   refine ⟨0, ⟨#[]⟩, false, ?_, (by rw [hl];intro x e;cases e), fun _ => rfl⟩
   refine Fn0.of Tryz.func31 Tryz.ntmps31 rfl rfl rfl ?_
   simp only [A0]
   repeat' (first
    | refine W ?_
    | refine Y ?_|(apply S.indexR;(iterate 3 exact rfl);exact b0;omega;exact rfl)|(apply S.indexR;(iterate 3 exact rfl);exact b1;omega;exact rfl)|(apply T.drawAll A2 (by decide +kernel))
    | refine V ?_
    | (refine W2 ?_ ?_ <;> intro hc))
   all_goals exact ⟨.inr rfl, [A1 ([.i 0, .s ⟨#[]⟩] : List Lf), .b false], .cons (Res.row ([.i 0, .s ⟨#[]⟩] : List Lf) rfl rfl rfl rfl rfl) (.cons (.tmp rfl) .nil), .tup (.cons (.agg (A5 _)) (.cons (.one (.lf _)) .nil))⟩
 ·have hl : B5 t = none := Eg fun x h1 h3 => h2 (by rw [h3, Jq h1];rfl)
  have f0 : ¬ ((((wdS t).map Di).length : Nat) : Int) = 2 := by omega
  refine ⟨0, ⟨#[]⟩, false, ?_, (by rw [hl];intro x e;cases e), fun _ => rfl⟩
  refine Fn0.of Tryz.func31 Tryz.ntmps31 rfl rfl rfl ?_
  simp only [A0]
  repeat' (first
   | refine W ?_
   | refine Y ?_
   | refine V ?_
   | (refine W2 ?_ ?_ <;> intro hc))
  all_goals exact ⟨.inr rfl, [A1 ([.i 0, .s ⟨#[]⟩] : List Lf), .b false], .cons (Res.row ([.i 0, .s ⟨#[]⟩] : List Lf) rfl rfl rfl rfl rfl) (.cons (.tmp rfl) .nil), .tup (.cons (.agg (A5 _)) (.cons (.one (.lf _)) .nil))⟩
theorem Hr : ∀ (o : List FinR) (x : FinR), B9 (o ++ [x]) = if B9 o >= 0 then B9 o else if x.kind > 1000000 then (o.length : Int) else -1
 | [], x => by simp [B9, idx]
 | y :: o, x => by
  have ih := Hr o x
  have hg := Cw (fun z : FinR => z.kind > 1000000) o
  unfold B9 at ih ⊢
  rw [List.cons_append, idx, idx, ih]
  by_cases h1 : y.kind > 1000000
  ·rw [if_pos h1, if_pos h1, if_pos (by omega)]
  ·rw [if_neg h1, if_neg h1]
   by_cases h2 : idx (fun z : FinR => z.kind > 1000000) o >= 0
   ·rw [if_pos h2, if_neg (by omega), if_pos (by omega)]
   ·rw [if_neg h2, if_pos (by omega : idx (fun z : FinR => z.kind > 1000000) o = -1)]
    by_cases h3 : x.kind > 1000000
    ·rw [if_pos h3, if_neg (by omega), if_neg (by decide), if_pos h3, List.length_cons];omega
    ·rw [if_neg h3, if_pos rfl, if_neg (by decide), if_neg h3]
def grV (o : List FinR) : Int := if B9 o >= 0 then B9 o + 1 else 0
theorem Ps (o : List FinR) : 0 <= grV o := by unfold grV;split <;> omega
theorem Ns (o : List FinR) (x : FinR) : grV (o ++ [x]) = if x.kind > 1000000 /\ grV o = 0 then (o.length : Int) + 1 else grV o := by
 unfold grV
 rw [Hr]
 by_cases h1 : B9 o >= 0
 ·rw [if_pos h1, if_pos h1, if_neg (by omega)]
 ·rw [if_neg h1, if_neg h1]
  by_cases h2 : x.kind > 1000000
  ·rw [if_pos h2, if_pos (by omega), if_pos ⟨h2, rfl⟩]
  ·rw [if_neg h2, if_neg (by decide), if_neg (fun h => h2 h.1)]
theorem Pr (o : List FinR) : grV o <= o.length := by
 have := J3 (fun z : FinR => z.kind > 1000000) o
 unfold grV B9
 split <;> omega
structure RefP where
 o : List FinR
 b : Nat
 i : Nat
theorem Pf (s : List UInt8) (b i : Nat) : (ofL s).extract b i = ofL ((s.drop b).take (i - b)) := by
 apply Bx
 rw [Ac, ByteArray.data_extract, Array.toList_extract]
 rfl
theorem Nh {s : List UInt8} {b i : Nat} (h1 : b <= i) (h2 : s[i]? = some 10) (h3 : (10 : UInt8) ∉ (s.drop b).take (i - b)) : Lib.cut (s.drop b) [10] = ((s.drop b).take (i - b), s.drop (i + 1), true) := by
 have hlt := (List.getElem?_eq_some_iff.1 h2).1
 have hd : s.drop b = (s.drop b).take (i - b) ++ 10 :: s.drop (i + 1) := by
  have e1 := (List.take_append_drop (i - b) (s.drop b)).symm
  rw [List.drop_drop, show b + (i - b) = i by omega] at e1
  rw [List.drop_eq_getElem_cons hlt, (List.getElem?_eq_some_iff.1 h2).2] at e1
  exact e1
 have := Fh (r := s.drop (i + 1)) h3
 rw [<- hd] at this
 exact this
theorem Mk {s : List UInt8} {b i : Nat} {c : UInt8} (h1 : b <= i) (h2 : s[i]? = some c) : (s.drop b).take (i + 1 - b) = (s.drop b).take (i - b) ++ [c] := by
 rw [show i + 1 - b = (i - b) + 1 by omega]
 exact D6 (by rw [List.getElem?_drop, show b + (i - b) = i by omega];exact h2)
set_option maxHeartbeats 64000000 in
theorem Mp (s : List UInt8) (hsz : s.length <= 262144) : Fn0 Tryz.prog 10 [.s (ofL s)] (.tup [.sl ((Bf s).1.map FinR.row), A1 [.i (Bf s).2.1.1, .i (Bf s).2.1.2], .i (Bf s).2.2]) := by
 have h0 : ¬ ((ofL s).size : Int) > 262144 := by rw [Ae];omega
 have hsz2 := Ae s
 have hl0 := Ac s
 refine Fn0.of Tryz.func10 Tryz.ntmps10 rfl rfl rfl ?_
 simp only [A0]
 repeat' (first
  | refine W ?_
  | refine Y ?_
  | refine V ?_
  | (refine W2 ?_ ?_ <;> intro hc))
 refine T.kill 1 ?_
 refine T.loopS (fun a : RefP => Ag [] s = Ag a.o (s.drop a.b) /\ a.b <= a.i /\ a.i <= s.length /\ (10 : UInt8) ∉ (s.drop a.b).take (a.i - a.b) /\ a.o.length <= a.b) (fun a => s.length - a.i) (fun a => [(0, .s (ofL s)), (3, .ptr 0 0), (5, rT 1 2 a.o.length), (6, .i (grV a.o)), (7, .i (a.b : Nat)), (8, .i ((a.o.length : Nat) + 1 : Int)), (9, .i (a.i : Nat))]) (fun a => [.live ([.i 0, .i 0].map .lf), rB (By a.o) a.o.length]) ⟨[], 0, 0⟩ ⟨rfl, Nat.le_refl _, Nat.zero_le _, by simp, Nat.zero_le _⟩ CW CH ?_
 rintro ⟨o, b, i⟩ ⟨q1, q2, q3, q4, q5⟩
 dsimp only at q1 q2 q3 q4 q5 ⊢
 have hgl := Pr o
 have hgn := Ps o
 by_cases hlt : i < s.length
 ·have h1 : (i : Int) < ((ofL s).size : Nat) := by omega
  obtain ⟨c, hc, hc2⟩ := Bh (s := ofL s) (k := i) (by omega)
  have hb : (ofL s)[((i : Int)).toNat]? = some c := hc
  rw [hl0] at hc2
  by_cases c10 : c = 10
  ·subst c10
   have e10 : ¬ ¬ ((10 : UInt8).toNat : Int) = 10 := fun k => k rfl
   have hcut := Nh q2 hc2 q4
   have hpt := Pf s b i
   have hpl : ((s.drop b).take (i - b)).length <= 262144 := by rw [List.length_take, List.length_drop];omega
   obtain ⟨r0, r1, ok, cl, hy, hn⟩ := Og ((s.drop b).take (i - b)) hpl
   rw [<- hpt] at cl
   have hne : s.drop b ≠ [] := by
    intro e
    have := congrArg List.length e
    rw [List.length_drop] at this
    simp only [List.length_nil] at this
    omega
   cases hl : B5 ((s.drop b).take (i - b)) with
   | none =>
    obtain rfl := hn hl
    rw [Gc (q1.trans (F9 hne fun _ => by rw [hcut];exact hl))]
    repeat' (first
     | refine W ?_
     | refine Y ?_|(apply S.byteAt;(iterate 3 exact rfl);omega;exact hb)|(apply S.subB;(iterate 4 exact rfl);omega)|(refine T.nilU 2 rfl ?_;apply T.ret;change Av _ _ _ _ _)
     | refine V ?_
     | (refine W2 ?_ ?_ <;> intro hc))
    all_goals exact ⟨.inr rfl, [.sl [], A1 [.i ((o.length : Int) + 1), .i 1], .i 7], .cons (.tmp rfl) (.cons (Res.row [.i ((o.length : Int) + 1), .i 1] rfl rfl rfl rfl rfl) (.cons (.tmp rfl) .nil)), .tup (.cons (.one (.lf _)) (.cons (.agg (A5 _)) (.cons (.one (.lf _)) .nil)))⟩
   | some x =>
    obtain ⟨rfl, rfl, rfl⟩ := hy x hl
    have hstep := En (o := o) hne (by rw [hcut]) (by rw [hcut];exact hl)
    rw [hcut] at hstep
    have hI : Ag [] s = Ag (o ++ [x]) (s.drop (i + 1)) := q1.trans hstep
    have hln : (o ++ [x]).length = o.length + 1 := by simp
    have hgs := Ns o x
    have hz : o.length + 1 <= i + 1 := by omega
    have hN : Ag [] s = Ag (o ++ [x]) (s.drop (i + 1)) /\ i + 1 <= i + 1 /\ i + 1 <= s.length /\ (10 : UInt8) ∉ (s.drop (i + 1)).take (i + 1 - (i + 1)) /\ (o ++ [x]).length <= i + 1 := ⟨hI, Nat.le_refl _, by omega, by rw [Nat.sub_self];simp, by rw [hln];omega⟩
    by_cases hk : x.kind > 1000000 /\ grV o = 0
    ·rw [if_pos hk] at hgs
     obtain ⟨k1, k2⟩ := hk
     have k3 : x.kind > 1000000 := k1
     generalize hgo : grV o = g at *
     cases o with
     | nil =>
      repeat' (first
       | refine W ?_
       | refine Y ?_|(apply S.byteAt;(iterate 3 exact rfl);omega;exact hb)|(apply S.subB;(iterate 4 exact rfl);omega)|(apply S.buildSlice1;(iterate 7 exact rfl))|(apply S.appendN 1 (rows := []);(iterate 8 exact rfl);exact A9 rfl;exact rfl;exact Nat.le_of_ble_eq_true rfl;exact Nat.le_of_ble_eq_true rfl)|refine Za ?_
       | refine V ?_
       | (refine W2 ?_ ?_ <;> intro hc))
      all_goals (change Next _ _ _ _ _ _)
      all_goals exact Next.go ⟨[] ++ [x], i + 1, i + 1⟩ hN (by dsimp only;omega) (by dsimp only;rw [hgs];exact CW) CH
     | cons y o =>
      have hcl : (By (y :: o)).length = (o.length + 1) * 2 := Eb (y :: o)
      have hz0 : o.length + 1 <= 262144 := by simp only [List.length_cons] at hz;omega
      have hC := Dt (y :: o) x
      repeat' (first
       | refine W ?_
       | refine Y ?_|(apply S.byteAt;(iterate 3 exact rfl);omega;exact hb)|(apply S.subB;(iterate 4 exact rfl);omega)|(apply S.buildSlice1;(iterate 7 exact rfl))|(apply S.appendO;(iterate 8 exact rfl);exact hcl;exact A9 rfl;exact rfl;exact Cg _ _;simp only [List.length_cons, List.length_nil];omega;simp only [List.length_cons, List.length_nil];omega)|(apply S.arith;(iterate 4 exact rfl);simp only [List.length_cons];omega)|refine Za ?_
       | refine V ?_
       | (refine W2 ?_ ?_ <;> intro hc))
      all_goals (change Next _ _ _ _ _ _)
      all_goals exact Next.go ⟨(y :: o) ++ [x], i + 1, i + 1⟩ hN (by dsimp only;omega) (by dsimp only;rw [hgs, hln];exact CW) (by dsimp only;rw [hln, hC];exact .live rfl (.live (by rw [<- List.map_append];exact C6 _ _) .nil))
    ·rw [if_neg hk] at hgs
     have hk2 : ¬ x.kind > 1000000 \/ ¬ grV o = 0 := by omega
     generalize hgo : grV o = g at *
     rcases o with _ | ⟨y, o⟩
     ·by_cases k1 : x.kind > 1000000
      ·have k2 : ¬ g = 0 := by omega
       repeat' (first
        | refine W ?_
        | refine Y ?_|(apply S.byteAt;(iterate 3 exact rfl);omega;exact hb)|(apply S.subB;(iterate 4 exact rfl);omega)|(apply S.buildSlice1;(iterate 7 exact rfl))|(apply S.appendN 1 (rows := []);(iterate 8 exact rfl);exact A9 rfl;exact rfl;exact Nat.le_of_ble_eq_true rfl;exact Nat.le_of_ble_eq_true rfl)|refine Za ?_
        | refine V ?_
        | (refine W2 ?_ ?_ <;> intro hc))
       all_goals (change Next _ _ _ _ _ _)
       all_goals exact Next.go ⟨[] ++ [x], i + 1, i + 1⟩ hN (by dsimp only;omega) (by dsimp only;rw [hgs];exact CW) CH
      ·skip
       repeat' (first
        | refine W ?_
        | refine Y ?_|(apply S.byteAt;(iterate 3 exact rfl);omega;exact hb)|(apply S.subB;(iterate 4 exact rfl);omega)|(apply S.buildSlice1;(iterate 7 exact rfl))|(apply S.appendN 1 (rows := []);(iterate 8 exact rfl);exact A9 rfl;exact rfl;exact Nat.le_of_ble_eq_true rfl;exact Nat.le_of_ble_eq_true rfl)|refine Za ?_
        | refine V ?_
        | (refine W2 ?_ ?_ <;> intro hc))
       all_goals (change Next _ _ _ _ _ _)
       all_goals exact Next.go ⟨[] ++ [x], i + 1, i + 1⟩ hN (by dsimp only;omega) (by dsimp only;rw [hgs];exact CW) CH
     ·have hcl : (By (y :: o)).length = (o.length + 1) * 2 := Eb (y :: o)
      have hz0 : o.length + 1 <= 262144 := by simp only [List.length_cons] at hz;omega
      have hC := Dt (y :: o) x
      by_cases k1 : x.kind > 1000000
      ·have k2 : ¬ g = 0 := by omega
       repeat' (first
        | refine W ?_
        | refine Y ?_|(apply S.byteAt;(iterate 3 exact rfl);omega;exact hb)|(apply S.subB;(iterate 4 exact rfl);omega)|(apply S.buildSlice1;(iterate 7 exact rfl))|(apply S.appendO;(iterate 8 exact rfl);exact hcl;exact A9 rfl;exact rfl;exact Cg _ _;simp only [List.length_cons, List.length_nil];omega;simp only [List.length_cons, List.length_nil];omega)|(apply S.arith;(iterate 4 exact rfl);simp only [List.length_cons];omega)|refine Za ?_
        | refine V ?_
        | (refine W2 ?_ ?_ <;> intro hc))
       all_goals (change Next _ _ _ _ _ _)
       all_goals exact Next.go ⟨(y :: o) ++ [x], i + 1, i + 1⟩ hN (by dsimp only;omega) (by dsimp only;rw [hgs, hln];exact CW) (by dsimp only;rw [hln, hC];exact .live rfl (.live (by rw [<- List.map_append];exact C6 _ _) .nil))
      ·skip
       repeat' (first
        | refine W ?_
        | refine Y ?_|(apply S.byteAt;(iterate 3 exact rfl);omega;exact hb)|(apply S.subB;(iterate 4 exact rfl);omega)|(apply S.buildSlice1;(iterate 7 exact rfl))|(apply S.appendO;(iterate 8 exact rfl);exact hcl;exact A9 rfl;exact rfl;exact Cg _ _;simp only [List.length_cons, List.length_nil];omega;simp only [List.length_cons, List.length_nil];omega)|(apply S.arith;(iterate 4 exact rfl);simp only [List.length_cons];omega)|refine Za ?_
        | refine V ?_
        | (refine W2 ?_ ?_ <;> intro hc))
       all_goals (change Next _ _ _ _ _ _)
       all_goals exact Next.go ⟨(y :: o) ++ [x], i + 1, i + 1⟩ hN (by dsimp only;omega) (by dsimp only;rw [hgs, hln];exact CW) (by dsimp only;rw [hln, hC];exact .live rfl (.live (by rw [<- List.map_append];exact C6 _ _) .nil))
  ·have e10 : ¬ (c.toNat : Int) = 10 := fun e => c10 (UInt8.toNat_inj.1 (by simpa using (by omega : c.toNat = 10)))
   have hps := Mk q2 hc2
   repeat' (first
    | refine W ?_
    | refine Y ?_|(apply S.byteAt;(iterate 3 exact rfl);omega;exact hb)|refine Za ?_
    | refine V ?_
    | (refine W2 ?_ ?_ <;> intro hc))
   all_goals (change Next _ _ _ _ _ _)
   all_goals exact Next.go ⟨o, b, i + 1⟩ ⟨q1, by dsimp only;omega, by dsimp only;omega, by dsimp only;rw [hps];simp [q4, Ne.symm c10], q5⟩ (by dsimp only;omega) (.cons rfl rfl (.cons rfl rfl (.cons rfl (Oh 2 1 2 _ (by decide)) CV))) (.live rfl (CovH.rB (C6 _ _) .nil _))
 ·obtain rfl : i = s.length := by omega
  have h1 : ¬ ((s.length : Nat) : Int) < ((ofL s).size : Nat) := by omega
  by_cases hbs : b < s.length
  ·have h2 : ((b : Nat) : Int) < ((ofL s).size : Nat) := by omega
   have hne : s.drop b ≠ [] := by
    intro e
    have := congrArg List.length e
    rw [List.length_drop] at this
    simp only [List.length_nil] at this
    omega
   have hno : (10 : UInt8) ∉ s.drop b := by
    rw [List.take_of_length_le (by rw [List.length_drop];omega)] at q4
    exact q4
   rw [Gc (q1.trans (F9 hne fun h => by rw [K9 hno] at h;cases h))]
   repeat' (first
    | refine W ?_
    | refine Y ?_|(refine T.nilU 2 rfl ?_;apply T.ret;change Av _ _ _ _ _)
    | refine V ?_
    | (refine W2 ?_ ?_ <;> intro hc))
   all_goals exact ⟨.inr rfl, [.sl [], A1 [.i ((o.length : Int) + 1), .i 1], .i 7], .cons (.tmp rfl) (.cons (Res.row [.i ((o.length : Int) + 1), .i 1] rfl rfl rfl rfl rfl) (.cons (.tmp rfl) .nil)), .tup (.cons (.one (.lf _)) (.cons (.agg (A5 _)) (.cons (.one (.lf _)) .nil)))⟩
  ·have h2 : ¬ ((b : Nat) : Int) < ((ofL s).size : Nat) := by omega
   rw [List.drop_eq_nil_of_le (by omega), Fa] at q1
   by_cases hbg : B9 o >= 0
   ·rw [Ja q1 hbg]
    have hgv : grV o = B9 o + 1 := by unfold grV;rw [if_pos hbg]
    have hg0 : grV o > 0 := by omega
    rw [<- hgv]
    generalize grV o = g at *
    repeat' (first
     | refine W ?_
     | refine Y ?_|(refine T.nilU 2 rfl ?_;apply T.ret;change Av _ _ _ _ _)
     | refine V ?_
     | (refine W2 ?_ ?_ <;> intro hc))
    all_goals exact ⟨.inr rfl, [.sl [], A1 [.i g, .i 1], .i 2], .cons (.tmp rfl) (.cons (Res.row [.i g, .i 1] rfl rfl rfl rfl rfl) (.cons (.tmp rfl) .nil)), .tup (.cons (.one (.lf _)) (.cons (.agg (A5 _)) (.cons (.one (.lf _)) .nil)))⟩
   ·have hgv : grV o = 0 := by unfold grV;rw [if_neg hbg]
    have hg0 : ¬ grV o > 0 := by omega
    by_cases hl : 1000 < o.length
    ·rw [I2 q1 hbg hl]
     generalize grV o = g at *
     cases o with
     | nil => exact absurd hl (by simp)
     | cons y o =>
      have hl2 : ((o.length + 1 : Nat) : Int) > 1000 := by simp only [List.length_cons] at hl;omega
      repeat' (first
       | refine W ?_
       | refine Y ?_|(apply S.lenRT (n := o.length + 1);(iterate 3 exact rfl))|(refine T.nilU 2 rfl ?_;apply T.ret;change Av _ _ _ _ _)
       | refine V ?_
       | (refine W2 ?_ ?_ <;> intro hc))
      all_goals exact ⟨.inr rfl, [.sl [], A1 [.i 0, .i 0], .i 4], .cons (.tmp rfl) (.cons (Res.row [.i 0, .i 0] rfl rfl rfl rfl rfl) (.cons (.tmp rfl) .nil)), .tup (.cons (.one (.lf _)) (.cons (.agg (A5 _)) (.cons (.one (.lf _)) .nil)))⟩
    ·rw [Hm q1 hbg hl]
     generalize grV o = g at *
     cases o with
     | nil =>
      repeat' (first
       | refine W ?_
       | refine Y ?_|(apply S.lenRT (n := 0) (cells := []);(iterate 3 exact rfl))|(refine T.nilU 2 rfl ?_;apply T.ret;change Av _ _ _ _ _)
       | refine V ?_
       | (refine W2 ?_ ?_ <;> intro hc))
      all_goals exact ⟨.inr rfl, [.sl [], A1 [.i 0, .i 0], .i 0], .cons (.tmp rfl) (.cons (Res.row [.i 0, .i 0] rfl rfl rfl rfl rfl) (.cons (.tmp rfl) .nil)), .tup (.cons (.one (.lf _)) (.cons (.agg (A5 _)) (.cons (.one (.lf _)) .nil)))⟩
     | cons y o =>
      have hl2 : ¬ ((o.length + 1 : Nat) : Int) > 1000 := by simp only [List.length_cons] at hl;omega
      repeat' (first
       | refine W ?_
       | refine Y ?_|(apply S.lenRT (n := o.length + 1);(iterate 3 exact rfl))
       | refine V ?_
       | (refine W2 ?_ ?_ <;> intro hc))
      all_goals exact ⟨.inr rfl, [.own 1 0 (o.length + 1) 2, A1 [.i 0, .i 0], .i 0], .cons (.tmp rfl) (.cons (Res.row [.i 0, .i 0] rfl rfl rfl rfl rfl) (.cons (.tmp rfl) .nil)), .tup (.cons (.one (.own rfl (E2 (y :: o)))) (.cons (.agg (A5 _)) (.cons (.one (.lf _)) .nil)))⟩
end Go.Proofs.YtlmppfffalaphaaGreatDoor
