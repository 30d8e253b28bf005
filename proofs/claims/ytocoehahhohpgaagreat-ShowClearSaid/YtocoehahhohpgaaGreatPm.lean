/- Contracts: show.Accepted of shows with errors;collide.Closest of any paths. No conditions but those of each statement. -/
import Derived.Test.YtocoehahhohpgaaGreatPk
import Derived.Test.YtocoehahhohpgaaGreatOr
import Derived.Test.YtocoehahhohpgaaGreatNq
set_option linter.unusedSimpArgs false
set_option linter.unusedVariables false
namespace Go.Proofs.YtocoehahhohpgaaGreat
open Go Go.RowKit
theorem Te (h : HouseR) (c : SheetR) (hf : h.fits) (hc : c.fits) (G : List Int) (hG : G.length <= 4611686018427387904) (e : ¬ ckE h c G = 0) :
  Fn0 Tryz.prog 26 [A1 h.row, A1 c.row, .sl (G.map A3)] (.tup [.b false, .i (ckE h c G)]) := by
 have ck := G4 h c hf hc G hG
 generalize ckE h c G = x at *
 refine Fn0.of Tryz.func26 Tryz.ntmps26 rfl rfl rfl ?_
 simp only [A2]
 repeat' (first
  | refine W ?_
  | refine Y ?_
  | refine V ?_
  | (refine W2 ?_ ?_ <;> intro hc))
 all_goals exact D2 rfl rfl rfl
noncomputable def acB (h : HouseR) (c : SheetR) (G : List Int) : Prop := ckE h c G = 0 /\ acP h c G
noncomputable instance (h : HouseR) (c : SheetR) (G : List Int) : Decidable (acB h c G) := Classical.propDecidable _
theorem Ua (h : HouseR) (c : SheetR) (hf : h.fits) (hc : c.fits) (G : List Int) (hG : G.length <= 4611686018427387904) :
  Fn0 Tryz.prog 26 [A1 h.row, A1 c.row, .sl (G.map A3)] (.tup [.b (decide (acB h c G)), .i (ckE h c G)]) := by
 by_cases e : ckE h c G = 0
 ·have := Vr h c hf hc G hG e
  rw [e, show decide (acB h c G) = decide (acP h c G) from decide_eq_decide.2 ⟨fun k => k.2, fun k => ⟨e, k⟩⟩]
  exact this
 ·have := Te h c hf hc G hG e
  rw [decide_eq_false (show ¬ acB h c G from fun k => e k.1)]
  exact this
noncomputable def X0 (a b : SetR) (x y : List PcQ) (te : Rat) : AV := if As x /\ As y then A31 a b x y te else .tup [A1 [.i 0, .i 0], .i 1]
theorem Yt (a b : SetR) (x y : List PcQ) (h : TwoP a b x y) (te : Rat) (ht : Fits te) (h0 : 0 <= te) (h1 : te <= 1099511627776) :
  Fn0 Tryz.prog 63 [A1 a.row, A1 b.row, .sl (x.map PcQ.row), .sl (y.map PcQ.row), A1 (frR te)] (X0 a b x y te) := by
 by_cases hs : As x /\ As y
 ·have := Zn a b x y ⟨h.pa, h.pb, h.fa, h.fb, h.ox, h.oy, h.x0, h.y0, hs.1, hs.2, h.nx, h.ny⟩ te ht h0 h1
  unfold X0
  rw [if_pos hs]
  exact this
 ·have cg := Nf a b x y h (frR te) rfl hs
  unfold X0
  rw [if_neg hs]
  refine Fn0.of Tryz.func63 Tryz.ntmps63 rfl rfl rfl ?_
  simp only [A2]
  repeat' (first
   | refine W ?_
   | refine Y ?_|(apply T.drawAll A0 (by decide +kernel))
   | refine V ?_
   | (refine W2 ?_ ?_ <;> intro hc))
  all_goals exact ⟨.inr rfl, [A1 [.i 0, .i 0], .i 1], .cons (Res.row [.i 0, .i 0] rfl rfl rfl rfl rfl) (.cons (.tmp rfl) .nil), .tup (.cons (.agg (A7 [.i 0, .i 0])) (.cons (.one (.lf _)) .nil))⟩
theorem A8z {l : List PcQ} (hl : okC l) {fr te m : Rat} {n : Nat} (h : some m ∈ LP l fr te n) : Fits m := by
 have key : ∀ p v, some m = Xy p v -> Fits m := fun p v h => by
  unfold Xy at h
  split at h
  ·rename_i k;injection h with h;subst h;exact k.2.2.2
  ·cases h
 rcases (Ip n).1 h with h | h | ⟨i, _, h | h⟩
 ·exact Mq hl h.symm
 ·exact Mq hl h.symm
 ·unfold P1 at h
  split at h
  ·simp only [List.mem_cons, List.not_mem_nil, or_false] at h
   rcases h with h | h
   ·injection h with h;subst h;exact (A0t hl i).a
   ·exact Mq hl h.symm
  ·cases h
 ·unfold P2 at h
  split at h
  ·cases h
  ·unfold xP at h
   repeat' split at h
   all_goals first | exact key _ _ (List.mem_singleton.1 h)|(simp at h;done)
theorem A1e {l : List PcQ} {fr te : Rat} {lo hi : Int} (h : Bn l fr te = .tup [A1 [.i lo, .i hi], .i 0]) : ∃ j, j < l.length + 1 /\ ∃ r, Cb (A4 l fr) fr te j = some r := by
 unfold Bn at h
 cases e : E6 (A4 l fr) fr te (A4 l fr).length with
 | none => rw [e] at h;simp [spE] at h
 | some r =>
  obtain ⟨j, hj, hst, _⟩ := Nm e
  exact ⟨j, hj, r, hst⟩
theorem A5f {l : List PcQ} {fr te r : Rat} {lo hi : Int} (hs : As l) (h0 : l ≠ []) (h : Bn l fr te = .tup [A1 [.i lo, .i hi], .i 0]) (hm : Mn (LP l fr te l.length) = some r) : r < 0 := by
 have hn : none ∉ LP l fr te l.length := fun k => by rw [Vj k] at hm;cases hm
 obtain ⟨r', e1, _, e3⟩ := Vb (Wd _ _ _ _) hn
 obtain rfl : r = r' := by rw [hm] at e1;injection e1
 refine Rat.not_le.1 fun h8 => ?_
 have pos : ∀ q, some q ∈ LP l fr te l.length -> 0 <= q := fun q hq => Rat.le_trans h8 (e3 q hq)
 have rv : ∀ (i : Nat) (t : Rat), D7 l (i : Int) t ∈ LP l fr te l.length -> 0 <= vR (A5 l i) t := fun i t hi => by
  unfold D7 at hi
  rw [if_neg (by omega), Int.toNat_natCast] at hi
  split at hi
  ·exact pos _ hi
  ·exact absurd hi hn
 have hpos := List.length_pos_iff.2 h0
 obtain ⟨q1, q2⟩ := Vo l fr
 obtain ⟨q3, q4⟩ := Vo l te
 obtain ⟨j, hj, w, hst⟩ := A1e h
 unfold Cb at hst
 split at hst
 ·cases hst
 rename_i ho
 obtain ⟨g1, g2, g3⟩ := A6r ho
 have hlen : (A4 l fr).length = l.length + 1 := rfl
 have hA : ∀ j, A5 (A4 l fr) (j + 1) = A5 l j := fun j => V7 _ _ _
 have hneg : vR (A5 (A4 l fr) j) (ptA (A4 l fr) fr j) < 0 \/ F0 (A5 (A4 l fr) j) (ptA (A4 l fr) fr j) (ptB (A4 l fr) te j) := by
  split at hst
  ·exact .inl (by assumption)
  ·split at hst
   ·exact .inr (by assumption)
   ·cases hst
 clear hst
 cases j with
 | zero =>
  have hc : ∀ t, vR (A5 (A4 l fr) 0) t = (A5 l 0).a := fun t => by
   show vR ⟨fr, (A5 l 0).a, 0, 0⟩ t = _
   unfold vR
   grind
  have ha : (A5 l 0).a < 0 := by
   rcases hneg with k | k
   ·rwa [hc] at k
   ·obtain ⟨_, s, _, _, k⟩ := Aa7 k
    rwa [hc] at k
  have h3 : ¬ (A5 l 0).f <= fr := fun k => ho (.inr ⟨by omega, by rw [hA];exact k⟩)
  have h4 : rpI l fr < 0 := by
   have := mt (Ns hs fr hpos).2 h3
   omega
  have h5 : some (A5 l 0).a ∈ LP l fr te l.length := (Ip _).2 (.inl (by unfold D7;rw [if_pos h4]))
  exact absurd (pos _ h5) (Rat.not_le.2 ha)
 | succ i =>
  have hi : i < l.length := by omega
  rw [hA] at hneg
  have hne : i + 1 < l.length -> ptA (A4 l fr) fr (i + 1) < (A5 l (i + 1)).f := fun k => Rat.not_le.1 fun k2 => ho (.inr ⟨by omega, by rw [hA];exact k2⟩)
  have hfa : (A5 l i).f <= ptA (A4 l fr) fr (i + 1) := by
   unfold ptA
   rw [hA]
   split
   ·exact Rat.le_refl
   ·rename_i k;exact Rat.not_lt.1 fun k2 => k ⟨by omega, k2⟩
  have cA : 0 <= vR (A5 l i) (ptA (A4 l fr) fr (i + 1)) := by
   by_cases k : fr < (A5 l i).f
   ·have e : ptA (A4 l fr) fr (i + 1) = (A5 l i).f := by unfold ptA;rw [hA, if_pos ⟨by omega, k⟩]
    rw [e] at g2 ⊢
    have m : some (A5 l i).a ∈ LP l fr te l.length := (Ip _).2 (.inr (.inr ⟨i, hi, .inl (by unfold P1;rw [if_pos ⟨k, Rat.le_trans g2 g3⟩];exact List.mem_cons_self)⟩))
    have := pos _ m
    unfold vR
    grind
   ·have e : ptA (A4 l fr) fr (i + 1) = fr := by unfold ptA;rw [hA, if_neg fun q => k q.2]
    rw [e] at hne hfa ⊢
    have z1 := (Ns hs fr hi).1 hfa
    have z2 : rpI l fr = i := by
     by_cases k3 : i + 1 < l.length
     ·have := mt (Ns hs fr k3).2 (Rat.not_le.2 (hne k3))
      omega
     ·omega
    exact rv i fr ((Ip _).2 (.inl (by rw [z2])))
  have hBe : ptB (A4 l fr) te (i + 1) = ptB l te i := by
   unfold ptB
   rw [hlen, hA]
   simp only [Nat.add_lt_add_iff_right]
  have hB1 : i + 1 < l.length -> (A5 l (i + 1)).f <= te -> 0 <= vR (A5 l i) (A5 l (i + 1)).f := fun k k2 => by
   refine rv i _ ((Ip _).2 (.inr (.inr ⟨i + 1, k, .inl ?_⟩)))
   unfold P1
   rw [if_pos ⟨A3h g1 (hne k), k2⟩, show ((i + 1 : Nat) : Int) - 1 = (i : Int) by omega]
   exact List.mem_cons_of_mem _ List.mem_cons_self
  have cB : 0 <= vR (A5 l i) (ptB l te i) := by
   unfold ptB
   split
   ·rename_i k;exact hB1 k.1 (Rat.le_of_lt k.2)
   ·rename_i k
    by_cases k3 : i + 1 < l.length /\ (A5 l (i + 1)).f <= te
    ·have e : te = (A5 l (i + 1)).f := Rat.le_antisymm (Rat.not_lt.1 fun k4 => k ⟨k3.1, k4⟩) k3.2
     rw [e]
     exact hB1 k3.1 (by rw [<- e];exact Rat.le_refl)
    ·have z1 := (Ns hs te hi).1 (Rat.le_trans hfa (Rat.le_trans g2 g3))
     have z2 : rpI l te = i := by
      by_cases k4 : i + 1 < l.length
      ·have := mt (Ns hs te k4).2 (fun k5 => k3 ⟨k4, k5⟩)
       omega
      ·omega
     exact rv i te ((Ip _).2 (.inr (.inl (by rw [z2]))))
  rw [hBe] at hneg
  have hAe : ptA (A4 l fr) fr (i + 1) = lsA l fr i := by
   unfold ptA lsA
   rw [hA]
   by_cases k : fr < (A5 l i).f
   ·rw [if_pos ⟨by omega, k⟩, if_neg (Rat.not_lt.2 (Rat.le_of_lt k))]
   ·rw [if_neg fun q => k q.2]
    split
    ·rfl
    ·rename_i k2;exact Rat.le_antisymm (Rat.not_lt.1 k2) (Rat.not_lt.1 k)
  rw [hAe] at hneg cA
  rcases hneg with k | ⟨hab, (k | k) | ⟨hc, k1, k2, k3⟩⟩
  ·exact Rat.not_le.2 k cA
  ·exact Rat.not_le.2 k cA
  ·exact Rat.not_le.2 k cB
  ·have hlo : ¬ G8 l fr te i := by
    rintro (q | q | q)
    ·exact Rat.not_lt.2 (Rat.le_of_lt hab) q
    ·rw [q.1] at hab;exact Rat.lt_irrefl hab
    ·have : ¬ (0 < (A5 l i).c.num) := by omega
     have k5 := (Qc (-(A5 l i).c)).2 (by grind)
     rw [show (-(A5 l i).c).num = -(A5 l i).c.num from rfl] at k5
     omega
   have hin : ∀ o, o ∈ xP (A5 l i) (lsA l fr i) (ptB l te i) -> o ∈ LP l fr te l.length := fun o q => (Ip _).2 (.inr (.inr ⟨i, hi, .inr (by unfold P2;rw [if_neg hlo];exact q)⟩))
   have v1 := (S8 hc _).1 k1
   have v2 := (Sd hc _).1 k2
   have v3 := (Yj hc).1 k3
   have v4 : lsA l fr i - (A5 l i).f < -(A5 l i).b / (2 * (A5 l i).c) := by unfold H4 at v1;grind
   have v5 : -(A5 l i).b / (2 * (A5 l i).c) < ptB l te i - (A5 l i).f := by unfold H4 at v2;grind
   have v6 : vR (A5 l i) (H4 (A5 l i)) = Gg (A5 l i) (-(A5 l i).b / (2 * (A5 l i).c)) := by
    unfold vR Gg H4
    rw [show (A5 l i).f + -(A5 l i).b / (2 * (A5 l i).c) - (A5 l i).f = -(A5 l i).b / (2 * (A5 l i).c) by grind]
   rw [v6] at v3
   unfold xP at hin
   by_cases f1 : Fits (2 * (A5 l i).c)
   ·rw [if_neg (fun k => k f1)] at hin
    by_cases f2 : Fits (-(A5 l i).b / (2 * (A5 l i).c))
    ·rw [if_neg (fun k => k f2)] at hin
     by_cases f3 : Fits (lsA l fr i - (A5 l i).f)
     ·rw [if_neg (fun k => k f3), if_pos v4] at hin
      by_cases f4 : Fits (ptB l te i - (A5 l i).f)
      ·rw [if_neg (fun k => k f4), if_pos v5] at hin
       unfold Xy at hin
       by_cases f5 : okV (A5 l i) (-(A5 l i).b / (2 * (A5 l i).c))
       ·rw [if_pos f5] at hin
        exact Rat.not_le.2 v3 (pos _ (hin _ List.mem_cons_self))
       ·rw [if_neg f5] at hin
        exact hn (hin _ List.mem_cons_self)
      ·rw [if_pos f4] at hin
       exact hn (hin _ List.mem_cons_self)
     ·rw [if_pos f3] at hin
      exact hn (hin _ List.mem_cons_self)
    ·rw [if_pos f2] at hin
     exact hn (hin _ List.mem_cons_self)
   ·rw [if_pos f1] at hin
    exact hn (hin _ List.mem_cons_self)
noncomputable def Is (a b : SetR) (x y : List PcQ) (te : Rat) : Rat × Int :=
 if As x /\ As y then (if Dc a b then (if dsE (Ai a) (Ai b) x y = 0 then ((lsK (dsL (Ai a) (Ai b) x y) 0 te (dsL (Ai a) (Ai b) x y).length).1.m, (lsK (dsL (Ai a) (Ai b) x y) 0 te (dsL (Ai a) (Ai b) x y).length).1.e) else (0, dsE (Ai a) (Ai b) x y)) else (0, 12)) else (0, 1)
theorem Tc {e : Int} (h : ¬ e = 0) : spE e = D1 0 e := (if_neg h).symm
theorem Ab9 (a b : SetR) (x y : List PcQ) (te : Rat) : X0 a b x y te = D1 (Is a b x y te).1 (Is a b x y te).2 := by
 unfold X0 Is A31 Fi
 split
 ·split
  ·split
   ·rfl
   ·rename_i h;exact Tc h
  ·exact Tc (by decide)
 ·exact Tc (by decide)
theorem A62 {a b : SetR} {x y : List PcQ} {te : Rat} (h : TwoP a b x y) (e : (Is a b x y te).2 = 0) : Fits (Is a b x y te).1 := by
 unfold Is at e ⊢
 split at e
 ·rename_i hs
  rw [if_pos hs]
  split at e
  ·rename_i hn
   rw [if_pos hn]
   split at e
   ·rename_i hd
    rw [if_pos hd]
    obtain ⟨d1, d2, d3, d4⟩ := Sy h.ox h.oy h.x0 h.y0 hs.1 hs.2 hd
    dsimp only at e ⊢
    rcases (U3 _ 0 te d2 (dsL (Ai a) (Ai b) x y).length).1 with ⟨_, h2⟩ | ⟨h1, _⟩
    ·obtain ⟨r, e1, e2, _⟩ := Vb (Wd _ _ _ _) (fun k => by rw [Vj k] at h2;cases h2)
     rw [h2] at e1
     injection e1 with e1
     exact A8z d1 (by rw [e1];exact e2)
    ·rw [h1] at e;cases e
   ·rename_i hd;exact absurd e hd
  ·cases e
 ·cases e
theorem A9r {a b : SetR} {x y : List PcQ} {te : Rat} (h : TwoP a b x y) (e1 : (frT a b x y te).2.2 = 0) (e2 : (Is a b x y te).2 = 0) : (Is a b x y te).1 < 0 := by
 unfold frT at e1
 split at e1
 ·rename_i hs
  have hp := A0s a b x y te
  rw [e1] at hp
  unfold Is at e2 ⊢
  rw [if_pos hs] at e2 ⊢
  unfold K0 at hp
  split at hp
  ·rename_i hn
   rw [if_pos hn.1] at e2 ⊢
   split at hp
   ·rename_i hd
    rw [if_pos hd] at e2 ⊢
    obtain ⟨d1, d2, d3, d4⟩ := Sy h.ox h.oy h.x0 h.y0 hs.1 hs.2 hd
    dsimp only at e2 ⊢
    rcases (U3 _ 0 te d2 (dsL (Ai a) (Ai b) x y).length).1 with ⟨_, h2⟩ | ⟨h1, _⟩
    ·exact A5f d2 d3 hp h2
    ·rw [h1] at e2;cases e2
   ·rename_i hd
    exfalso
    simp only [spE, AV.tup.injEq, List.cons.injEq, and_true] at hp
    have h2 := hp.2
    simp only [AV.lf.injEq, Lf.val.injEq, Value.int.injEq, true_and] at h2
    exact hd h2
  ·exfalso
   simp [spE] at hp
 ·cases e1
noncomputable def Bs (h : HouseR) (c : SheetR) (G : List Int) (p : ByteArray × ByteArray) : Rat × Int := match Fo h p.1, Fo h p.2 with
 | some a, some b => if Bk h c G p.1 = 0 then (if Bk h c G p.2 = 0 then Is a b (Bl h c G p.1) (Bl h c G p.2) (Di h c G) else (0, Bk h c G p.2)) else (0, Bk h c G p.1)
 | _, _ => (0, 9)
noncomputable def Ir (h : HouseR) (c : SheetR) (G : List Int) : List (ByteArray × ByteArray) -> Int
 | [] => 0
 | p :: r => if (Bs h c G p).2 = 0 then Ir h c G r else (Bs h c G p).2
def Tu : Option Rat -> Rat -> Rat
 | none, v => v
 | some b, v => Cd b v
noncomputable def H7 (h : HouseR) (c : SheetR) (G : List Int) (l : List (ByteArray × ByteArray)) : Option Rat := l.foldl (fun o p => some (Tu o (Bs h c G p).1)) none
theorem Zw {h : HouseR} {c : SheetR} {G : List Int} : ∀ {l : List (ByteArray × ByteArray)}, (∀ p ∈ l, (Bs h c G p).2 = 0) -> Ir h c G l = 0
 | [], _ => rfl
 | p :: r, hg => by rw [Ir, if_pos (hg p (by simp))];exact Zw fun q hq => hg q (by simp [hq])
theorem Yn {h : HouseR} {c : SheetR} {G : List Int} : ∀ {l : List (ByteArray × ByteArray)} {k : Nat} {p}, l[k]? = some p -> (∀ j, j < k -> ∀ q, l[j]? = some q -> (Bs h c G q).2 = 0) -> ¬ (Bs h c G p).2 = 0 -> Ir h c G l = (Bs h c G p).2
 | [], k, p, hk, _, _ => by simp at hk
 | x :: r, 0, p, hk, _, hn => by
  obtain rfl : x = p := by simpa using hk
  rw [Ir, if_neg hn]
 | x :: r, k + 1, p, hk, hj, hn => by
  rw [Ir, if_pos (hj 0 (by omega) x rfl)]
  exact Yn (k := k) (by simpa using hk) (fun j hjk q hq => hj (j + 1) (by omega) q (by simpa using hq)) hn
theorem V5 {h : HouseR} {c : SheetR} {G : List Int} : ∀ {l : List (ByteArray × ByteArray)}, Ir h c G l = 0 -> ∀ p ∈ l, (Bs h c G p).2 = 0
 | [], _, p, hp => by cases hp
 | x :: r, e, p, hp => by
  rw [Ir] at e
  split at e
  ·rcases List.mem_cons.1 hp with rfl | hp
   ·assumption
   ·exact V5 e p hp
  ·rename_i hn
   exact absurd e hn
theorem A5k (h : HouseR) (c : SheetR) (G : List Int) (l : List (ByteArray × ByteArray)) (p : ByteArray × ByteArray) : H7 h c G (l ++ [p]) = some (Tu (H7 h c G l) (Bs h c G p).1) := by
 unfold H7
 rw [List.foldl_append];rfl
theorem A9g (a b : Rat) : (Cd a b = a \/ Cd a b = b) /\ Cd a b <= a /\ Cd a b <= b := by
 unfold Cd
 split
 ·rename_i e;exact ⟨.inr rfl, Rat.le_of_lt e, Rat.le_refl⟩
 ·rename_i e;exact ⟨.inl rfl, Rat.le_refl, Rat.not_lt.1 e⟩
theorem Uq (h : HouseR) (c : SheetR) (G : List Int) : ∀ (l : List (ByteArray × ByteArray)) (m : Rat), ∃ r, l.foldl (fun o p => some (Tu o (Bs h c G p).1)) (some m) = some r /\ r <= m /\ (r = m \/ ∃ p ∈ l, r = (Bs h c G p).1) /\ ∀ p ∈ l, r <= (Bs h c G p).1
 | [], m => ⟨m, rfl, Rat.le_refl, .inl rfl, fun p hp => by cases hp⟩
 | x :: l, m => by
  obtain ⟨r, h1, h2, h3, h4⟩ := Uq h c G l (Cd m (Bs h c G x).1)
  obtain ⟨k1, k2, k3⟩ := A9g m (Bs h c G x).1
  refine ⟨r, h1, Rat.le_trans h2 k2, ?_, fun p hp => ?_⟩
  ·rcases h3 with h3 | ⟨p, hp, h3⟩
   ·rcases k1 with k1 | k1
    ·exact .inl (h3.trans k1)
    ·exact .inr ⟨x, by simp, h3.trans k1⟩
   ·exact .inr ⟨p, by simp [hp], h3⟩
  ·rcases List.mem_cons.1 hp with rfl | hp
   ·exact Rat.le_trans h2 k3
   ·exact h4 p hp
theorem O2 {h : HouseR} {c : SheetR} {G : List Int} {l : List (ByteArray × ByteArray)} (hl : l ≠ []) : ∃ r, H7 h c G l = some r /\ (∃ p ∈ l, r = (Bs h c G p).1) /\ ∀ p ∈ l, r <= (Bs h c G p).1 := by
 cases l with
 | nil => exact absurd rfl hl
 | cons x l =>
  obtain ⟨r, h1, h2, h3, h4⟩ := Uq h c G l (Bs h c G x).1
  refine ⟨r, h1, ?_, fun p hp => ?_⟩
  ·rcases h3 with h3 | ⟨p, hp, h3⟩
   ·exact ⟨x, by simp, h3⟩
   ·exact ⟨p, by simp [hp], h3⟩
  ·rcases List.mem_cons.1 hp with rfl | hp
   ·exact h2
   ·exact h4 p hp
theorem V9 {h : HouseR} {c : SheetR} {G : List Int} {p : ByteArray × ByteArray} (hp : Bu h) (hf : h.fits) (po : PlanOk h c G) (hm : p ∈ Ba h) : ∃ a b, Fo h p.1 = some a /\ Fo h p.2 = some b /\ (Bk h c G p.1 = 0 -> Bk h c G p.2 = 0 -> TwoP a b (Bl h c G p.1) (Bl h c G p.2)) := by
 obtain ⟨n1, n2⟩ := Qw hm
 obtain ⟨a, ha⟩ : ∃ a, h.sets[(Af h p.1).toNat]? = some a := Gy n1
 obtain ⟨b, hb⟩ : ∃ b, h.sets[(Af h p.2).toNat]? = some b := Gy n2
 refine ⟨a, b, ha, hb, fun e1 e2 => ?_⟩
 obtain ⟨ox, x0, nx⟩ := L0 po (n := p.1) ha e1
 obtain ⟨oy, y0, ny⟩ := L0 po (n := p.2) hb e2
 have ma := List.mem_of_getElem? ha
 have mb := List.mem_of_getElem? hb
 exact ⟨(hp.2.2.2.2.2.1 a ma).1, (hp.2.2.2.2.2.1 b mb).1, hf.2.2 a ma, hf.2.2 b mb, ox, oy, x0, y0, nx, ny⟩
theorem A3s {h : HouseR} {c : SheetR} {G : List Int} {p : ByteArray × ByteArray} (hp : Bu h) (hf : h.fits) (po : PlanOk h c G) (hm : p ∈ Ba h) (e : (Bs h c G p).2 = 0) : Fits (Bs h c G p).1 := by
 obtain ⟨a, b, ha, hb, ht⟩ := V9 hp hf po hm
 unfold Bs at e ⊢
 rw [ha, hb] at e ⊢
 dsimp only at e ⊢
 split at e
 ·rename_i e1
  rw [if_pos e1]
  split at e
  ·rename_i e2
   rw [if_pos e2]
   exact A62 (ht e1 e2) e
  ·rename_i e2;exact absurd e e2
 ·rename_i e1;exact absurd e e1
theorem A6l {h : HouseR} {c : SheetR} {G : List Int} {p : ByteArray × ByteArray} (hp : Bu h) (hf : h.fits) (po : PlanOk h c G) (hm : p ∈ Ba h) (e : (Bs h c G p).2 = 0) (k : (ctR h c G p).2.2 = 0) : (Bs h c G p).1 < 0 := by
 obtain ⟨a, b, ha, hb, ht⟩ := V9 hp hf po hm
 unfold Bs at e ⊢
 unfold ctR at k
 rw [ha, hb] at e k ⊢
 dsimp only at e k ⊢
 split at e
 ·rename_i e1
  rw [if_pos e1] at k ⊢
  split at e
  ·rename_i e2
   rw [if_pos e2] at k ⊢
   exact A9r (ht e1 e2) k e
  ·rename_i e2;exact absurd e e2
 ·rename_i e1;exact absurd e e1
noncomputable def crE (h : HouseR) (c : SheetR) (G : List Int) : Int := if alE h c G = 0 then (if Ir h c G (Ba h) = 0 then (if (Ba h).length = 0 then 12 else 0) else Ir h c G (Ba h)) else alE h c G
noncomputable def crQ (h : HouseR) (c : SheetR) (G : List Int) : Rat := (H7 h c G (Ba h)).getD 0
theorem Aat {h : HouseR} {c : SheetR} {G : List Int} (hf : h.fits) (e : ckE h c G = 0) (hl : ¬ (ckL h c G).length = 0) (k : crE h c G = 0) : crQ h c G < 0 := by
 obtain ⟨e0, el⟩ := Pe e
 have po := (He e0).1
 have hp := po.v.1
 rw [el] at hl
 obtain ⟨x, hx⟩ := List.exists_mem_of_length_pos (l := Cy h c G (Ba h)) (by omega)
 obtain ⟨hm, hc⟩ := Aa1 hx
 unfold crE at k
 rw [if_pos e0] at k
 split at k
 ·rename_i k2
  obtain ⟨r, h1, _, h3⟩ := O2 (h := h) (c := c) (G := G) (l := Ba h) (fun q => by rw [q] at hm;cases hm)
  unfold crQ
  rw [h1]
  exact A3h (h3 _ hm) (A6l hp hf po hm (V5 k2 _ hm) (by rw [hc]))
 ·rename_i k2;exact absurd k k2
end Go.Proofs.YtocoehahhohpgaaGreat
