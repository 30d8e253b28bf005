/- Plain: the contacts of a show, and their spans. No conditions but those of each statement. -/
import Derived.Test.YtbceahipbdmocaaGreatPa
import Derived.Test.YtbceahipbdmocaaGreatPc
import Derived.Test.YtbceahipbdmocaaGreatOv
import Derived.Test.YtbceahipbdmocaaGreatOn
set_option linter.unusedSimpArgs false
set_option linter.unusedVariables false
namespace Go.Proofs.YtbceahipbdmocaaGreat
open Go Go.RowKit
theorem Aa9 {q : Rat} (h : mil (As q) = q) : L2 q := by
 unfold L2
 have h1 := Gl (As q)
 rw [h] at h1
 have h2 := A16 q
 have h3 : ((1000 * q.num : Int) : Rat) = ((As q * q.den : Int) : Rat) := by
  rw [Rat.intCast_mul, Rat.intCast_mul, show ((1000 : Int) : Rat) = 1000 from rfl]
  grind
 have h4 : 1000 * q.num = As q * q.den := Rat.intCast_inj.1 h3
 rw [h4]
 exact Int.mul_emod_left _ _
theorem A95 {l : List PcQ} {fr te : Rat} {lo hi : Int} (h : Bc l fr te = .tup [A2 [.i lo, .i hi], .i 0]) (hr1 : Cm fr) (hr2 : Cm te) : hi = lo \/ hi = lo + 1 /\ mil lo < te := by
 obtain ⟨j, hst⟩ := Uv h
 unfold Bw at hst
 split at hst
 ·cases hst
 ·rename_i ho
  obtain ⟨g1, g2, g3⟩ := Xu ho
  split at hst
  ·injection hst with hst
   unfold enQ at hst
   split at hst
   ·simp only [List.cons.injEq, Lf.val.injEq, Value.int.injEq, true_and, and_true] at hst
    obtain ⟨rfl, rfl⟩ := hst
    exact .inl rfl
   ·rename_i hx
    simp only [List.cons.injEq, Lf.val.injEq, Value.int.injEq, true_and, and_true] at hst
    obtain ⟨rfl, rfl⟩ := hst
    refine .inr ⟨rfl, ?_⟩
    have h1 : mil (As (ptA (A7 l fr) fr j)) <= ptA (A7 l fr) fr j := mil_le.2 (Int.le_refl _)
    have h2 : ¬ mil (As (ptA (A7 l fr) fr j)) = ptA (A7 l fr) fr j := fun e => hx (Aa9 e)
    have h3 : mil (As (ptA (A7 l fr) fr j)) < ptA (A7 l fr) fr j := by grind
    have h4 : ptA (A7 l fr) fr j <= te := Rat.le_trans g2 g3
    grind
  ·split at hst
   ·rename_i hb
    injection hst with hst
    obtain ⟨q1, q2⟩ := Xt hr1 hr2 ⟨g1, g2, g3⟩ hb
    unfold Im at hst
    split at hst
    ·simp only [List.cons.injEq, Lf.val.injEq, Value.int.injEq, true_and, and_true] at hst
     obtain ⟨rfl, rfl⟩ := hst
     exact .inl rfl
    ·simp only [List.cons.injEq, Lf.val.injEq, Value.int.injEq, true_and, and_true] at hst
     obtain ⟨rfl, rfl⟩ := hst
     exact .inr ⟨rfl, by grind⟩
   ·cases hst
def pr3 : AV -> Int × Int × Int
 | .tup [.agg [.lf (.val (.int .i64 u)), .lf (.val (.int .i64 v))], .lf (.val (.int .i64 e))] => (u, v, e)
 | _ => (0, 0, 1)
theorem A0f (a b : SetR) (x y : List PcQ) (te : Rat) : Ip a b x y te = .tup [A2 [.i (pr3 (Ip a b x y te)).1, .i (pr3 (Ip a b x y te)).2.1], .i (pr3 (Ip a b x y te)).2.2] := by
 have key : ∃ u v e : Int, Ip a b x y te = .tup [A2 [.i u, .i v], .i e] := by
  unfold Ip
  split
  ·split
   ·exact Vt _ _ _
   ·exact ⟨0, 0, _, rfl⟩
  ·exact ⟨0, 0, 12, rfl⟩
 obtain ⟨u, v, e, h⟩ := key
 rw [h]
 rfl
theorem A5z {a b : SetR} {x y : List PcQ} {te : Rat} {n u v : Int} (hte : te = mil n) (h0 : 0 <= n) (h1 : n <= 1099511627776000) (he : Ip a b x y te = .tup [A2 [.i u, .i v], .i 0]) : 0 <= u /\ u <= v /\ v <= u + 1 /\ v <= n := by
 have r1 : Cm 0 := ⟨by decide, by decide⟩
 have hm := Gl n
 have hn0 : (0 : Rat) <= (n : Rat) := Rat.intCast_nonneg.2 h0
 have hn1 : (n : Rat) <= ((1099511627776000 : Int) : Rat) := Rat.intCast_le_intCast.2 h1
 rw [show ((1099511627776000 : Int) : Rat) = 1099511627776000 from rfl] at hn1
 have r2 : Cm te := by
  subst hte
  exact ⟨by grind, by grind⟩
 have hm0 : As 0 = 0 := by decide +kernel
 have hmn : ∀ m : Int, mil m <= te -> m <= n := fun m hle => by
  have k := Gl m
  subst hte
  have : (m : Rat) <= (n : Rat) := by grind
  exact Rat.intCast_le_intCast.1 this
 have hml : ∀ m : Int, mil m < te -> m < n := fun m hlt => by
  have k := Gl m
  subst hte
  have : (m : Rat) < (n : Rat) := by grind
  exact Rat.intCast_lt_intCast.1 this
 unfold Ip at he
 split at he
 ·split at he
  ·obtain ⟨g1, g2⟩ := Zn he r1 r2
   rw [hm0] at g1
   have g3 := hmn u g2
   rcases A95 he r1 r2 with rfl | ⟨rfl, g4⟩
   ·exact ⟨g1, Int.le_refl _, by omega, g3⟩
   ·have := hml u g4
    exact ⟨g1, by omega, by omega, by omega⟩
  ·rename_i hz
   exfalso
   simp only [spE, AV.tup.injEq, List.cons.injEq, and_true] at he
   have h2 := he.2
   simp only [AV.lf.injEq, Lf.val.injEq, Value.int.injEq, true_and] at h2
   exact hz h2
 ·exfalso
  simp [spE] at he
/-! ### Contacts -/
structure ConR where
 a : ByteArray
 b : ByteArray
 lo : Int
 hi : Int
def ConR.row (x : ConR) : List Lf := [.s x.a, .s x.b, .i x.lo, .i x.hi]
def Jx (h : HouseR) (n : ByteArray) : Option SetR := h.sets[(Aj h n).toNat]?
def Nr (h : HouseR) (n : ByteArray) : Nat := (Aj h n).toNat
noncomputable def D9 (h : HouseR) (c : SheetR) (G : List Int) (n : ByteArray) : Int := match Jx h n with
 | some s => if O7 c (stL h c G) (C3 h c) then Hl h c (stL h c G) (Nr h n) s else 13
 | none => 9
def Cw (h : HouseR) (c : SheetR) (G : List Int) (n : ByteArray) : List PcQ := match Jx h n with
 | some s => Na h c (stL h c G) (Nr h n) s
 | none => []
noncomputable instance (l : List PcQ) : Decidable (Ba l) := Classical.propDecidable _
def Gg (h : HouseR) (c : SheetR) (G : List Int) : Rat := Aa (endI h c G) 1000
noncomputable def frT (a b : SetR) (x y : List PcQ) (te : Rat) : Int × Int × Int := if Ba x /\ Ba y then pr3 (Ip a b x y te) else (0, 0, 1)
noncomputable def ctR (h : HouseR) (c : SheetR) (G : List Int) (p : ByteArray × ByteArray) : Int × Int × Int := match Jx h p.1, Jx h p.2 with
 | some a, some b => if D9 h c G p.1 = 0 then (if D9 h c G p.2 = 0 then frT a b (Cw h c G p.1) (Cw h c G p.2) (Gg h c G) else (0, 0, D9 h c G p.2)) else (0, 0, D9 h c G p.1)
 | _, _ => (0, 0, 9)
noncomputable def Mt (h : HouseR) (c : SheetR) (G : List Int) (p : ByteArray × ByteArray) : Option ConR := if (ctR h c G p).2.2 = 0 then some ⟨p.1, p.2, (ctR h c G p).1, (ctR h c G p).2.1⟩ else none
noncomputable def Ci (h : HouseR) (c : SheetR) (G : List Int) (l : List (ByteArray × ByteArray)) : List ConR := l.filterMap (Mt h c G)
def Dd (h : HouseR) (c : SheetR) (G : List Int) (p : ByteArray × ByteArray) : Prop := (ctR h c G p).2.2 = 0 \/ (ctR h c G p).2.2 = 12
theorem A85 {h : HouseR} {c : SheetR} {G : List Int} {l : List (ByteArray × ByteArray)} {p : ByteArray × ByteArray} (e : (ctR h c G p).2.2 = 0) : Ci h c G (l ++ [p]) = Ci h c G l ++ [⟨p.1, p.2, (ctR h c G p).1, (ctR h c G p).2.1⟩] := by
 unfold Ci
 rw [List.filterMap_append]
 congr 1
 simp [Mt, e]
theorem A9m {h : HouseR} {c : SheetR} {G : List Int} {l : List (ByteArray × ByteArray)} {p : ByteArray × ByteArray} (e : ¬ (ctR h c G p).2.2 = 0) : Ci h c G (l ++ [p]) = Ci h c G l := by
 unfold Ci
 rw [List.filterMap_append]
 have : List.filterMap (Mt h c G) [p] = [] := by simp [Mt, e]
 rw [this, List.append_nil]
theorem Y2 (h : HouseR) (c : SheetR) (G : List Int) (l : List (ByteArray × ByteArray)) : (Ci h c G l).length <= l.length := List.length_filterMap_le _ _
theorem Ti {l : List SetR} (hn : (l.map SetR.name).Nodup) (k : Nat) (a : SetR) : ∀ m, (Al l k a m).Nodup
 | 0 => List.nodup_nil
 | m + 1 => by
  rw [Al, List.nodup_append]
  refine ⟨Ti hn k a m, ?_, fun x hx y hy => ?_⟩
  ·split
   ·split <;> simp
   ·simp
  ·split at hy
   ·rename_i b hb
    split at hy
    ·obtain rfl := List.mem_singleton.1 hy
     obtain ⟨j, hj, b', hb', _, rfl⟩ := mem_innN.1 hx
     intro e
     simp only [Prod.mk.injEq, true_and] at e
     have := Yl hn hb' hb e
     omega
    ·cases hy
   ·cases hy
theorem Tb {l : List SetR} (hn : (l.map SetR.name).Nodup) : ∀ n, (C6 l n).Nodup
 | 0 => List.nodup_nil
 | n + 1 => by
  rw [C6, List.nodup_append]
  refine ⟨Tb hn n, ?_, fun x hx y hy => ?_⟩
  ·split
   ·exact Ti hn _ _ _
   ·exact List.nodup_nil
  ·split at hy
   ·rename_i a ha
    obtain ⟨k, hk, a', ha', hx⟩ := mem_prsK.1 hx
    obtain ⟨_, _, _, _, _, rfl⟩ := mem_innN.1 hx
    obtain ⟨_, _, _, _, _, rfl⟩ := mem_innN.1 hy
    intro e
    simp only [Prod.mk.injEq] at e
    have := Yl hn ha' ha e.1
    omega
   ·cases hy
abbrev Hd (l : List (ByteArray × ByteArray)) (p : ByteArray × ByteArray) : Int := idx (fun q => q = p) l
theorem A4v {l : List (ByteArray × ByteArray)} (hn : l.Nodup) {i : Nat} {p : ByteArray × ByteArray} (hp : l[i]? = some p) : Hd l p = i := by
 refine (J1 (p := fun q => q = p) hp rfl).2 ?_
 rintro ⟨y, hy, rfl⟩
 obtain ⟨j, hj⟩ := List.getElem?_of_mem hy
 have hji : j < i := by have := (List.getElem?_eq_some_iff.1 hj).1;simp at this;omega
 rw [List.getElem?_take_of_lt hji] at hj
 obtain ⟨h1, h2⟩ := List.getElem?_eq_some_iff.1 hp
 obtain ⟨h3, h4⟩ := List.getElem?_eq_some_iff.1 hj
 exact List.pairwise_iff_getElem.1 hn j i h3 h1 hji (by rw [h2, h4])
theorem Yq {l : List (ByteArray × ByteArray)} (hn : l.Nodup) : l.Pairwise fun p q => Hd l p < Hd l q := by
 rw [List.pairwise_iff_getElem]
 intro i j hi hj hij
 rw [A4v hn (List.getElem?_eq_getElem hi), A4v hn (List.getElem?_eq_getElem hj)]
 omega
theorem Y7 {h : HouseR} {c : SheetR} {G : List Int} {l : List (ByteArray × ByteArray)} (hn : l.Nodup) : (Ci h c G l).Pairwise fun x y => Hd l (x.a, x.b) < Hd l (y.a, y.b) := by
 unfold Ci
 rw [List.pairwise_filterMap]
 refine (Yq hn).imp fun {p q} hpq x hx y hy => ?_
 unfold Mt at hx hy
 split at hx
 ·split at hy
  ·injection hx with hx
   injection hy with hy
   subst hx hy
   exact hpq
  ·cases hy
 ·cases hx
theorem A11 {h : HouseR} {c : SheetR} {G : List Int} {l : List (ByteArray × ByteArray)} {x : ConR} (hx : x ∈ Ci h c G l) : (x.a, x.b) ∈ l /\ ctR h c G (x.a, x.b) = (x.lo, x.hi, 0) := by
 obtain ⟨p, hp, hx⟩ := List.mem_filterMap.1 hx
 unfold Mt at hx
 split at hx
 ·rename_i e
  injection hx with hx
  subst hx
  exact ⟨hp, by rw [<- e]⟩
 ·cases hx
def ltC (x m : ConR) : Prop := x.lo < m.lo \/ x.lo = m.lo /\ x.hi < m.hi
instance (x m : ConR) : Decidable (ltC x m) := by unfold ltC;exact inferInstance
def F3 (m x : ConR) : ConR := if ltC x m then x else m
def mnL : List ConR -> ConR
 | [] => ⟨⟨#[]⟩, ⟨#[]⟩, 0, 0⟩
 | x :: xs => xs.foldl F3 x
theorem Q3 : ∀ (xs : List ConR) (x : ConR), (xs.foldl F3 x = x \/ xs.foldl F3 x ∈ xs) /\ (¬ ltC x (xs.foldl F3 x)) /\ ∀ y ∈ xs, ¬ ltC y (xs.foldl F3 x)
 | [], x => ⟨.inl rfl, by unfold ltC;simp, by simp⟩
 | z :: xs, x => by
  obtain ⟨h1, h2, h3⟩ := Q3 xs (F3 x z)
  rw [List.foldl_cons]
  generalize List.foldl F3 (F3 x z) xs = r at *
  have h4 : F3 x z = x \/ F3 x z = z := by unfold F3;split <;> simp
  have h5 : ¬ ltC x r /\ ¬ ltC z r := by
   unfold F3 at h2
   split at h2
   ·rename_i h;unfold ltC at *;omega
   ·rename_i h;unfold ltC at *;omega
  refine ⟨?_, h5.1, fun y hy => ?_⟩
  ·rcases h1 with h1 | h1
   ·rcases h4 with h4 | h4
    ·exact .inl (h1.trans h4)
    ·exact .inr (by rw [h1, h4];simp)
   ·exact .inr (by simp [h1])
  ·rcases List.mem_cons.1 hy with rfl | hy
   ·exact h5.2
   ·exact h3 y hy
theorem Aa8 {l : List ConR} (h : l ≠ []) : mnL l ∈ l := by
 cases l with
 | nil => exact absurd rfl h
 | cons x xs =>
  rcases (Q3 xs x).1 with e | e
  ·show xs.foldl F3 x ∈ _
   rw [e];simp
  ·exact List.mem_cons_of_mem _ e
theorem Abt {l : List ConR} {y : ConR} (hy : y ∈ l) : ¬ ltC y (mnL l) := by
 cases l with
 | nil => cases hy
 | cons x xs =>
  rcases List.mem_cons.1 hy with rfl | hy
  ·exact (Q3 xs y).2.1
  ·exact (Q3 xs x).2.2 y hy
theorem A6v {h : HouseR} {c : SheetR} {G : List Int} (p : PlanOk h c G) {l : List (ByteArray × ByteArray)} {x : ConR} (hx : x ∈ Ci h c G l) : 0 <= x.lo /\ x.lo <= x.hi /\ x.hi <= x.lo + 1 /\ x.hi <= endI h c G := by
 obtain ⟨_, hc⟩ := A11 hx
 unfold ctR at hc
 split at hc
 ·rename_i a b _ _
  split at hc
  ·split at hc
   ·unfold frT at hc
    split at hc
    ·have hf := A0f a b (Cw h c G x.a) (Cw h c G x.b) (Gg h c G)
     rw [hc] at hf
     have := p.endI
     exact A5z (n := endI h c G) rfl this.1 (by omega) hf
    ·simp at hc
   ·rename_i e
    simp only [Prod.mk.injEq] at hc
    exact absurd hc.2.2 e
  ·rename_i e
   simp only [Prod.mk.injEq] at hc
   exact absurd hc.2.2 e
 ·simp at hc
end Go.Proofs.YtbceahipbdmocaaGreat
