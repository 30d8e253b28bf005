/- Lemmas of the proof. -/
import Derived.Test.YtlapbaiejnaeiaaGreatDoorOg
import Derived.Test.YtlapbaiejnaeiaaGreatDoorPq
import Derived.Test.YtlapbaiejnaeiaaGreatDoorPr
import Derived.Test.YtlapbaiejnaeiaaGreatDoorOm
import Derived.Test.YtlapbaiejnaeiaaGreatDoorMj
import Derived.Test.YtlapbaiejnaeiaaGreatDoorPd
import Derived.Test.YtlapbaiejnaeiaaGreatDoorPe
import Derived.Test.YtlapbaiejnaeiaaGreatDoorPc
import Derived.Test.YtlapbaiejnaeiaaGreatDoorPh
set_option linter.all false
namespace Go.Proofs.YtlapbaiejnaeiaaGreatDoor
open Go Go.RowKit
theorem Ig {b t : Rat} (h : t <= b) : C5 b t = t := by
 unfold C5
 rw [if_neg (a2m.2 h)]
theorem A54 {b t u : Rat} (h : t <= u) : C5 b t <= C5 b u := by
 unfold C5
 split
 ·rename_i h1
  rw [if_pos (Hm h1 h)]
  exact a3j
 ·rename_i h1
  split
  ·exact a2m.1 h1
  ·exact h
theorem A8g {p : PcQ} {a b fr te : Rat} {lo : Int} (hr1 : Ba fr) (hr2 : Ba te) (h : fr <= a /\ a <= b /\ b <= te) (hb : B5 p a b) (h1 : ¬ C0 p a b lo) (h2 : C0 p a b (lo + 1)) : C7 p a b = lo := by
 have ha : Ba a := ⟨a0r hr1.1 h.1, a0r h.2.1 (a0r h.2.2 hr2.2)⟩
 have hbr : Ba b := ⟨a0r hr1.1 (a0r h.1 h.2.1), a0r h.2.2 hr2.2⟩
 obtain ⟨r1, r2⟩ := Dv ha
 obtain ⟨r3, r4⟩ := Dv hbr
 have hm := Gy h.2.1
 have k1 : ¬ C0 p a b (Ah a) := fun q => by
  have h1 := q.1
  have h2 : mil (Ah a) <= a := mil_le.2 (a4m _)
  unfold C5 at h1
  split at h1
  ·rename_i h3;exact a2f.2 (Hm h3 h2) h.2.1
  ·exact a2f.2 h1 h2
 have k2 : C0 p a b (Ah b + 2) := by
  have h1 : b < mil (Ah b + 2) := a2f.1 fun q => by have := mil_le.1 q;omega
  show B5 p a (C5 b (mil (Ah b + 2)))
  unfold C5
  rw [if_pos h1]
  exact hb
 obtain ⟨s1, s2⟩ := Hr (B := C0 p a b) (n := 64) k1 k2 (by omega) (by omega)
 change ¬ C0 p a b (C7 p a b) at s1
 change C0 p a b (C7 p a b + 1) at s2
 have up : ∀ m n : Int, m <= n -> C0 p a b m -> C0 p a b n := fun m n hmn hB => Nf hB (A54 (Hz hmn))
 rcases (by omega : C7 p a b < lo \/ lo < C7 p a b \/ C7 p a b = lo) with k | k | k
 ·exact absurd (up _ _ (by omega) s2) h1
 ·exact absurd (up _ _ (by omega) h2) s1
 ·exact k
theorem A8h {p : PcQ} {a b fr te : Rat} (hr1 : Ba fr) (hr2 : Ba te) (h : fr <= a /\ a <= b /\ b <= te) (hb : B5 p a b) : ¬ C0 p a b (C7 p a b) /\ C0 p a b (C7 p a b + 1) := by
 have ha : Ba a := ⟨a0r hr1.1 h.1, a0r h.2.1 (a0r h.2.2 hr2.2)⟩
 have hbr : Ba b := ⟨a0r hr1.1 (a0r h.1 h.2.1), a0r h.2.2 hr2.2⟩
 obtain ⟨r1, r2⟩ := Dv ha
 obtain ⟨r3, r4⟩ := Dv hbr
 have hm := Gy h.2.1
 have k1 : ¬ C0 p a b (Ah a) := fun q => by
  have h1 := q.1
  have h2 : mil (Ah a) <= a := mil_le.2 (a4m _)
  unfold C5 at h1
  split at h1
  ·rename_i h3;exact a2f.2 (Hm h3 h2) h.2.1
  ·exact a2f.2 h1 h2
 have k2 : C0 p a b (Ah b + 2) := by
  have h1 : b < mil (Ah b + 2) := a2f.1 fun q => by have := mil_le.1 q;omega
  show B5 p a (C5 b (mil (Ah b + 2)))
  unfold C5
  rw [if_pos h1]
  exact hb
 exact Hr (B := C0 p a b) (n := 64) k1 k2 (by omega) (by omega)
theorem Yl {A : List PcQ} {te te' : Rat} (h : te' <= te) (i : Nat) : ptB A te' i <= ptB A te i /\ (ptB A te' i = ptB A te i \/ ptB A te' i = te') := by
 unfold ptB
 by_cases h1 : i + 1 < A.length /\ (A8 A (i + 1)).f < te'
 ·rw [if_pos h1, if_pos ⟨h1.1, Hm h1.2 h⟩]
  exact ⟨a3j, .inl rfl⟩
 ·rw [if_neg h1]
  refine ⟨?_, .inr rfl⟩
  split
  ·rename_i h2
   exact a2m.1 fun k => h1 ⟨h2.1, k⟩
  ·exact h
theorem Aa4 {A : List PcQ} {fr te : Rat} {j n : Nat} {r : List Lf} (hj : j < n) (h : Ax A fr te j = some r) (hn : ∀ i, i < j -> Ax A fr te i = none) : Cu A fr te n = some r := by
 have h0 : ∀ m, m <= j -> Cu A fr te m = none := fun m => by
  induction m with
  | zero => intro _;rfl
  | succ m ih =>
   intro hm
   rw [Cu, ih (by omega)]
   exact hn m (by omega)
 refine Em (k := j + 1) ?_ n hj
 rw [Cu, h0 j (a0l _)]
 exact h
theorem A75 {A : List PcQ} {fr te te' : Rat} {i : Nat} (h : te' <= te) (hs : Ax A fr te i = none) : Ax A fr te' i = none := by
 unfold Ax
 split
 ·rfl
 ·rename_i ho
  have ho2 : ¬ Ar A fr te i := fun k => ho (k.imp (fun k => Adl h k) id)
  unfold Ax at hs
  rw [if_neg ho2] at hs
  split at hs
  ·cases hs
  ·rename_i hv
   rw [if_neg hv]
   split at hs
   ·cases hs
   ·rename_i hb
    rw [if_neg fun k => hb (Nf k (Yl h i).1)]
theorem A9b {q : Rat} : q < mil (Ah q + 1) := a2f.1 fun k => by have := mil_le.1 k;omega
theorem A1v {P : Prop} [Decidable P] {n lo hi : Int} (h : (if P then [Lf.i n, Lf.i n] else [Lf.i n, Lf.i (n + 1)]) = [.i lo, .i hi]) : lo = n /\ lo <= hi := by
 split at h
 ·simp only [a2a, Lf.val.injEq, a3a, true_and, and_true] at h
  omega
 ·simp only [a2a, Lf.val.injEq, a3a, true_and, and_true] at h
  omega
theorem A3r {A : List PcQ} {fr te te' : Rat} {j : Nat} {lo hi : Int} (hr1 : Ba fr) (hr2 : Ba te) (h : te' <= te) (ht : te' = te \/ mil (hi + 1) <= te') (hs : Ax A fr te j = some [.i lo, .i hi]) : Ax A fr te' j = some [.i lo, .i hi] := by
 rcases ht with rfl | ht
 ·exact hs
 have hs0 := hs
 unfold Ax at hs
 split at hs
 ·cases hs
 ·rename_i ho
  obtain ⟨g1, g2, g3⟩ := R9 ho
  have key : ptA A fr j <= te' -> ¬ Ar A fr te' j := fun k1 k => k.elim (fun k => a2f.2 k k1) fun k => ho (.inr k)
  split at hs
  ·rename_i hv
   have he : enQ (ptA A fr j) = [.i lo, .i hi] := by simpa using hs
   obtain ⟨e1, e2⟩ := A1v (P := Jo (ptA A fr j)) (n := Ah (ptA A fr j)) he
   have k1 : ptA A fr j <= te' := by
    exact a0r (a2c (Hm A9b (Hz (by omega)))) ht
   unfold Ax
   rw [if_neg (key k1), if_pos hv, he]
  ·rename_i hv
   split at hs
   ·rename_i hb
    have he : H9 (A8 A j) (ptA A fr j) (ptB A te j) = [.i lo, .i hi] := by simpa using hs
    obtain ⟨e1, e2⟩ := A1v (P := Ty (A8 A j) (ptA A fr j) (C7 (A8 A j) (ptA A fr j) (ptB A te j))) (n := C7 (A8 A j) (ptA A fr j) (ptB A te j)) he
    obtain ⟨s1, s2⟩ := A8h hr1 hr2 ⟨g1, g2, g3⟩ hb
    rw [<- e1] at s1 s2
    obtain ⟨m1, m2⟩ := Yl (A := A) h j
    rcases m2 with m2 | m2
    ·have k1 : ptA A fr j <= te' := by
      have h1 : ptB A te' j <= te' := by
       unfold ptB
       split
       ·rename_i k;exact a2c k.2
       ·exact a3j
      rw [m2] at h1
      exact a0r g2 h1
     unfold Ax
     rw [if_neg (key k1), if_neg hv, m2, if_pos hb, he]
    ·have hl1 : mil (lo + 1) <= te' := a0r (Hz (by omega)) ht
     have hl0 : mil lo <= te' := a0r (Hz (by omega)) hl1
     have hte : te' <= ptB A te j := by rw [<- m2];exact m1
     have k2 : C0 (A8 A j) (ptA A fr j) te' (lo + 1) := by
      show B5 _ _ (C5 te' (mil (lo + 1)))
      rw [Ig hl1]
      have : B5 (A8 A j) (ptA A fr j) (C5 (ptB A te j) (mil (lo + 1))) := s2
      rwa [Ig (a0r hl1 hte)] at this
     have k0 : ¬ C0 (A8 A j) (ptA A fr j) te' lo := by
      show ¬ B5 _ _ (C5 te' (mil lo))
      rw [Ig hl0]
      have : ¬ B5 (A8 A j) (ptA A fr j) (C5 (ptB A te j) (mil lo)) := s1
      rwa [Ig (a0r hl0 hte)] at this
     have hb' : B5 (A8 A j) (ptA A fr j) te' := by
      have : B5 (A8 A j) (ptA A fr j) (C5 te' (mil (lo + 1))) := k2
      rw [Ig hl1] at this
      exact Nf this hl1
     have k1 : ptA A fr j <= te' := a2c hb'.1
     have hr3 : Ba te' := ⟨a0r hr1.1 (a0r g1 k1), a0r h hr2.2⟩
     have hfl := A8g hr1 hr3 ⟨g1, k1, a3j⟩ hb' k0 k2
     unfold Ax
     rw [if_neg (key k1), if_neg hv, m2, if_pos hb']
     unfold H9 at he ⊢
     rw [hfl]
     rw [<- e1] at he
     rw [he]
   ·cases hs
theorem A2v {l : List PcQ} {fr te te' : Rat} {lo hi : Int} (hr1 : Ba fr) (hr2 : Ba te) (h : te' <= te) (ht : te' = te \/ mil (hi + 1) <= te') (hf : B9 l fr te = .tup [A1 [.i lo, .i hi], .i 0]) : B9 l fr te' = .tup [A1 [.i lo, .i hi], .i 0] := by
 unfold B9 at hf ⊢
 cases e : Cu (A5 l fr) fr te (A5 l fr).length with
 | none => rw [e] at hf;simp [spE] at hf
 | some r =>
  rw [e] at hf
  have hr : r = [.i lo, .i hi] := by
   simp only [AV.tup.injEq, a2a, and_true] at hf
   have := hf
   unfold A1 at this
   simp only [AV.agg.injEq] at this
   exact (b3h (fun x y h => by injection h)).1 this
  subst hr
  obtain ⟨j, hj, hst, hn⟩ := Kg e
  rw [Aa4 hj (A3r hr1 hr2 h ht hst) fun i hi => A75 h (hn i hi)]
theorem A5b {a b : SetR} {x y : List PcQ} {te te' : Rat} {lo hi : Int} (hr2 : Ba te) (h : te' <= te) (ht : te' = te \/ mil (hi + 1) <= te') (hf : F8 a b x y te = .tup [A1 [.i lo, .i hi], .i 0]) : F8 a b x y te' = .tup [A1 [.i lo, .i hi], .i 0] := by
 unfold F8 at hf ⊢
 split at hf
 ·rename_i h1
  rw [if_pos h1]
  split at hf
  ·rename_i h2
   rw [if_pos h2]
   exact A2v ⟨by decide, by decide⟩ hr2 h ht hf
  ·exfalso
   rename_i h2
   simp only [spE, AV.tup.injEq, a2a, and_true] at hf
   have h3 := hf.2
   simp only [AV.lf.injEq, Lf.val.injEq, a3a, true_and] at h3
   exact h2 h3
 ·simp [spE] at hf
end Go.Proofs.YtlapbaiejnaeiaaGreatDoor
