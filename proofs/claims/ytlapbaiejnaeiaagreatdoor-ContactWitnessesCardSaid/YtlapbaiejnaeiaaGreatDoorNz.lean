/- Lemmas of the proof. -/
import Derived.Test.YtlapbaiejnaeiaaGreatDoorNh
import Derived.Test.YtlapbaiejnaeiaaGreatDoorNx
import Derived.Test.YtlapbaiejnaeiaaGreatDoorNy
import Derived.Lib.QuietBelow
import Derived.Test.YtlapbaiejnaeiaaGreatDoorNn
import Derived.Test.YtlapbaiejnaeiaaGreatDoorMj
import Derived.Test.YtlapbaiejnaeiaaGreatDoorMm
import Derived.Test.YtlapbaiejnaeiaaGreatDoorMh
import Derived.Test.YtlapbaiejnaeiaaGreatDoorMn
import Derived.Test.YtlapbaiejnaeiaaGreatDoorMb
import Derived.WideLaws
import Derived.Test.YtlapbaiejnaeiaaGreatDoorMa
import Derived.Lib.AtoiAll
import Derived.Lib.IndexMore
import Derived.Lib.IndexBytes
import Derived.Lib.ItoaMem
import Derived.Lib.ItoaLen
import Derived.Lib.Split
import Derived.Lib.Join
set_option linter.all false
set_option maxHeartbeats 64000000
namespace Go.Proofs.YtlapbaiejnaeiaaGreatDoor
open Go Go.RowKit
def a1w := @List.take_length
def a2g := @List.append_nil
def a2v := @List.append_assoc
def a4s := @List.foldl_append
def a5y := @Nat.sub_self
def a6s := @List.set_append_right
def a7p := @List.drop_eq_getElem_cons
def a7q := @List.foldl_nil
def a8j := @List.map_map
def b2j := @List.drop_succ_cons
def b3b := @Array.extract_size
def b3d := @Go.Sort.size_flatK
def b3k := @List.set_cons_zero
abbrev FQ := {q : Rat // Fits q}
theorem Ab6 : Fits (0 : Rat) := by decide
instance : Inhabited FQ := ⟨⟨0, Ab6⟩⟩
def D7 (x : FQ) : List Value := [.int .i64 x.1.num, .int .i64 x.1.den]
def Qr (x y : FQ) : Int := C4 x.1 y.1
theorem ltF (x y : FQ) : Go.Proofs.ltOf Qr x y = decide (x.1 < y.1) := by
 unfold Go.Proofs.ltOf Qr
 by_cases h : x.1 < y.1
 ·rw [decide_eq_true h, decide_eq_true ((Gt _ _).2 h)]
 ·rw [decide_eq_false h, decide_eq_false (fun k => h ((Gt _ _).1 k))]
theorem Aee : Go.Sort.SWO (Go.Proofs.ltOf Qr) where
 irrefl x := by rw [ltF];exact decide_eq_false (by grind)
 trans x y z h k := by
  rw [ltF, decide_eq_true_eq] at *
  grind
 ntrans x y z h k := by
  rw [ltF, decide_eq_false_iff_not] at *
  grind
theorem Yo (w : World) (L : Nat -> Prop) (x : FQ) : RelV w L Ap (A1 (frR x.1)) (.agg (D7 x).toArray) := by
 refine .agg _ (D7 x) rfl fun i y v hy hv => ?_
 match i with
 | 0 => simp [frR, D7] at hy hv;subst hy hv;exact A7 _
 | 1 => simp [frR, D7] at hy hv;subst hy hv;exact A7 _
 | i + 2 => simp [D7] at hv
theorem X7 (x y : FQ) (W : World) (hG : Glob W) : Calls Tryz.prog 138 #[.agg (D7 x).toArray, .agg (D7 y).toArray] W fun e w' => e = .returned (.int .i64 (Qr x y)) /\ ∃ q os', w' = Go.Sort.grow (W.drewN q) os' := by
 have h := (Bw x.1 y.1 x.2 y.2).run (fun _ => False) W [.agg (D7 x).toArray, .agg (D7 y).toArray] hG (fun _ h => h.elim) rfl fun i z v hz hv => by
  match i with
  | 0 => simp at hz hv;subst hz hv;exact Yo _ _ x
  | 1 => simp at hz hv;subst hz hv;exact Yo _ _ y
  | i + 2 => simp at hv
 have h2 : Calls Tryz.prog 138 #[.agg (D7 x).toArray, .agg (D7 y).toArray] W fun e w' => e = .returned (.int .i64 (Qr x y)) /\ Below W.heap.size W w' := h.mono fun e w' ⟨v, he, hv, hb⟩ => ⟨by rw [he, hv.val_eq];rfl, hb⟩
 refine (Up.calls_up h2).mono fun e w' ⟨he, hb, hd⟩ => ⟨he, ?_⟩
 obtain ⟨p, hp⟩ := regrown_of_below hb
 have hpd : w'.drawn = p.d := by rw [hp];rfl
 refine ⟨p.d - W.drawn, p.os, ?_⟩
 rw [hp]
 have : W.drewN (p.d - W.drawn) = redrawn W p.d := by
  unfold World.drewN redrawn
  rw [show W.drawn + (p.d - W.drawn) = p.d by omega]
 rw [this]
def C6 (l : List Rat) : List Lf := (l.map frR).flatten
theorem Tz (l : List Rat) : ∀ r ∈ l.map frR, r.length = 2 := by
 intro r hr
 obtain ⟨n, _, rfl⟩ := a1b.1 hr
 rfl
theorem Lr (l : List Rat) : (C6 l).length = l.length * 2 := by rw [C6, Bi _ (Tz l), a0a]
theorem W7 (l m : List Rat) : C6 (l ++ m) = C6 l ++ C6 m := by simp [C6]
def Gh (d : Array FQ) : List Rat := d.toList.map (·.1)
theorem Rv (d : Array FQ) (t : Nat) (ht : t < d.size * 2) : (C6 (Gh d))[t]? = some (.val ((Go.Sort.flatK D7 2 d)[t]!)) := by
 have h1 : t / 2 < d.size := by omega
 rw [Go.Sort.get_flatK _ _ _ _ ht, C6]
 have := It ((Gh d).map frR) (t / 2) (t % 2) (Tz _) (a5l _ (by decide))
 rw [show t / 2 * 2 + t % 2 = t by omega] at this
 rw [this, Gh, a8j, a0e, a0b (by simpa using h1), getElem!_pos d _ h1]
 rcases Nat.mod_two_eq_zero_or_one t with e | e <;> rw [e] <;> simp [D7]
theorem Ob (w : World) (blk off n : Nat) (d : Array FQ) (os : Array Obj) (k : Nat) (hk : k < w.heap.size) : (Go.Proofs.sortWorldK D7 2 w blk off n d os).heap[k]? = if blk = k then (w.heap[k]?).map (Go.Sort.onCells (Go.Sort.putCells id off (Go.Sort.flatK D7 2 d))) else w.heap[k]? := by
 show (w.heap.modify blk (Go.Sort.onCells (Go.Sort.putCells id off (Go.Sort.flatK D7 2 d))) ++ os)[k]? = _
 rw [a1l (by simpa using hk), a8f]
theorem N4 (off : Nat) (F c : Array Value) : (Go.Sort.putCells id off F c).size = c.size := by simp [Go.Sort.putCells]
theorem A1u (w : World) (blk off n : Nat) (d : Array FQ) (os : Array Obj) : Fr (fun j => j = blk) w (Go.Proofs.sortWorldK D7 2 w blk off n d os) := by
 have hs : w.heap.size <= (Go.Proofs.sortWorldK D7 2 w blk off n d os).heap.size := by
  show w.heap.size <= (w.heap.modify blk _ ++ os).size
  simp
 refine ⟨rfl, rfl, rfl, hs, fun k hk hn => by rw [Ob w blk off n d os k hk, if_neg (fun e => hn e.symm)], fun k x hx => ?_⟩
 have hk := D6 hx
 unfold World.shape? at hx ⊢
 rw [Ob w blk off n d os k hk]
 by_cases e : blk = k
 ·rw [if_pos e]
  cases hh : w.heap[k]? with
  | none => rw [hh] at hx;cases hx
  | some ob =>
   rw [hh] at hx
   cases ob with
   | cells c e fr => simpa [Go.Sort.onCells, N4] using hx
   | _ => exact hx
 ·rw [if_neg e];exact hx
def A7t (l : List Rat) (xs : List Lf) : Prop := ∃ l', xs = C6 l' /\ l'.Perm l /\ l'.Pairwise (· <= ·)
theorem Ta (l : List Rat) (hl : ∀ q ∈ l, Fits q) (hn : l.length < 4611686018427387904) : FnSort Tryz.prog 250 138 2 l.length (C6 l) (A7t l) := by
 refine ⟨⟨_, Tryz.func250, by kernel_rfl, rfl⟩, fun L w k o cap c el lo hi hG hL hLk hw hlo hcap hfit hc => ?_⟩
 let d : Array FQ := (l.pmap (fun q h => (⟨q, h⟩ : FQ)) hl).toArray
 have hd : Gh d = l := by
  simp only [Gh, d, List.map_pmap]
  rw [List.pmap_eq_map, List.map_id']
 have hds : d.size = l.length := by simp [d]
 have hkw : k < w.heap.size := Bq hw
 have hfit2 : o + l.length * 2 <= c.size := by omega
 have hH : Go.Sort.HoldsK D7 2 w k o d := by
  intro t ht
  rw [b3d] at ht
  have h1 := Rv d t ht
  rw [hd] at h1
  obtain ⟨u, h2, h3⟩ := hc t _ h1
  rw [h3.val_eq] at h2
  refine ⟨Bd hw h2, ?_⟩
  simp only [World.frozen?, hw]
  simp
  omega
 have hcmp : Go.Proofs.CmpLays Tryz.prog 138 #[] D7 2 Qr k o d.size w := fun m os dk hs x y => X7 x y _ (hG _ (A1u w k o m dk os))
 have h := Go.Proofs.AnyQ.slices_SortFunc Tryz.srt 2 Tryz.isAgg107 Tryz.sizeOf107 D7 (fun _ => rfl) (fun x v hv => by simp [D7] at hv;rcases hv with rfl | rfl <;> rfl) Qr Aee 138 #[] k o cap d w (enters_of Tryz.func138 (by kernel_rfl) rfl) hcmp hH hkw (by rw [hds];exact hn)
 rw [hds] at h
 refine h.mono ?_
 rintro e w' ⟨rfl, d', n, os, ⟨hs', _, hperm⟩, hsort, rfl⟩
 have hs2 : d'.size = l.length := by rw [hs', hds]
 have hlen : (C6 (Gh d')).length = l.length * 2 := by rw [Lr];simp [Gh, hs2]
 have hwk : (Go.Proofs.sortWorldK D7 2 w k o n d' os).heap[k]? = some (.cells (Go.Sort.putCells id o (Go.Sort.flatK D7 2 d') c) el (lo, hi)) := by
  rw [Ob w k o n d' os k hkw, if_pos rfl, hw];rfl
 refine ⟨rfl, A1u w k o n d' os, C6 (Gh d'), _, ⟨Gh d', rfl, ?_, ?_⟩, hwk, N4 _ _ _, by rw [hlen, Lr], fun j x hj => ?_⟩
 ·have hp : d'.toList.Perm d.toList := by
   have e1 : d'.extract 0 l.length = d' := by rw [<- hs2];exact b3b
   have e2 : d.extract 0 l.length = d := by rw [<- hds];exact b3b
   rw [e1, e2] at hperm
   exact hperm
  rw [<- hd]
  exact hp.map _
 ·rw [a4n]
  intro i j hi hj hij
  have hi' : i < d'.size := by simpa [Gh] using hi
  have hj' : j < d'.size := by simpa [Gh] using hj
  have := hsort i j (a0o _) hij (by omega)
  rw [ltF, decide_eq_false_iff_not, getElem!_pos d' j hj', getElem!_pos d' i hi'] at this
  simp only [Gh, List.getElem_map, Array.getElem_toList]
  grind
 ·have hjl : j < d'.size * 2 := by rw [hs2, <- hlen];exact (a0g.1 hj).1
  rw [Rv d' j hjl] at hj
  injection hj with hj
  subst hj
  refine ⟨_, ?_, .val _⟩
  simp only [Go.Sort.putCells, Array.getElem?_mapIdx]
  rw [a1o (by omega)]
  simp only [a1c]
  rw [if_pos ⟨by omega, by rw [b3d];omega⟩]
  simp
def cN (l : List Rat) : Nat -> List Rat
 | 0 => []
 | n + 1 => cN l n ++ (if n ≠ 0 /\ l[n]? = l[n - 1]? then [] else (l[n]?).toList)
theorem Oo {l : List Rat} {n : Nat} {q : Rat} (h : l[n]? = some q) (hd : n ≠ 0 -> l[n - 1]? ≠ some q) : cN l (n + 1) = cN l n ++ [q] := by
 rw [cN, if_neg, h];rfl
 rintro ⟨h1, h2⟩
 exact hd h1 (by rw [<- h2, h])
theorem Oq {l : List Rat} {n : Nat} {q : Rat} (h : l[n]? = some q) (h0 : n ≠ 0) (hd : l[n - 1]? = some q) : cN l (n + 1) = cN l n := by
 rw [cN, if_pos ⟨h0, by rw [h, hd]⟩, a2g]
theorem Ot {l : List Rat} : ∀ (n : Nat), n <= l.length -> (∀ j, 0 < j -> j < n -> l[j]? ≠ l[j - 1]?) -> cN l n = l.take n
 | 0, _, _ => by simp [cN]
 | n + 1, h, hu => by
  have hx : l[n]? = some l[n] := a0b (by omega)
  rw [Oo hx (fun h0 e => hu n (by omega) (by omega) (by rw [e, hx])), Ot n (by omega) fun j h1 h2 => hu j h1 (by omega), a0x, hx]
  rfl
theorem Rr (l : List Rat) : ∀ (n : Nat), (cN l n).length <= n
 | 0 => by simp [cN]
 | n + 1 => by
  rw [cN, a0q]
  have := Rr l n
  split
  ·simp;omega
  ·cases l[n]? <;> simp <;> omega
abbrev fa (l : List Rat) : List AV := (C6 l).map .lf
theorem Sc (l : List Rat) : (fa l).length = l.length * 2 := by rw [a0a, Lr]
theorem Hw (q : Rat) (l : List Rat) : fa (q :: l) = .i q.num :: .i q.den :: fa l := rfl
theorem Fo : ∀ {l : List Rat} {j : Nat} {q : Rat}, l[j]? = some q -> ((fa l).drop (j * 2)).take 2 = [.i q.num, .i q.den]
 | [], j, q, h => by simp at h
 | x :: l, 0, q, h => by
  simp only [a2h, a0f] at h
  subst h
  rfl
 | x :: l, j + 1, q, h => by
  rw [Hw, show (j + 1) * 2 = j * 2 + 1 + 1 by omega, b2j, b2j]
  exact Fo (by simpa using h)
theorem Xi : ∀ (l : List Rat) (j : Nat) (q : Rat), j < l.length -> As (j * 2) [.i q.num, .i q.den] (fa l) = fa (l.set j q)
 | [], j, q, h => by simp at h
 | x :: l, 0, q, h => by
  rw [b3k, Hw, Hw]
  simp [As, E2]
 | x :: l, j + 1, q, h => by
  rw [a5e, Hw, Hw, <- Xi l j q (by simpa using h), show (j + 1) * 2 = j * 2 + 2 by omega]
  simp [As]
theorem A15 : ∀ (l : List Rat) (j : Nat), (fa l).take (j * 2) = fa (l.take j)
 | [], j => by rw [show fa [] = [] from rfl, List.take_nil, List.take_nil];rfl
 | x :: l, 0 => rfl
 | x :: l, j + 1 => by
  rw [a6z, Hw, Hw, show (j + 1) * 2 = j * 2 + 1 + 1 by omega, a6z, a6z, A15 l j]
theorem Vc {l : List Rat} {j : Nat} {q : Rat} (h : l[j]? = some q) : j < l.length := (a0g.1 h).1
theorem Ih {l : List Rat} {j : Nat} {q : Rat} (h : l[j]? = some q) : j * 2 + 2 <= (fa l).length := by
 have := Vc h
 rw [Sc]
 omega
theorem Gs (n : Nat) (l : List Rat) : (fa l).all (AV.under n) = true := Aj n _
def cM (l : List Rat) (n : Nat) : List Rat := cN l n ++ l.drop (cN l n).length
theorem Ad4 (l : List Rat) (n j : Nat) (h : (cN l n).length <= j) (hn : n <= l.length) : (cM l n)[j]? = l[j]? := by
 rw [cM, a1d h, a1t]
 congr 1
 omega
theorem Ad5 (l : List Rat) (n : Nat) (hn : n <= l.length) : (cM l n).length = l.length := by
 have := Rr l n
 rw [cM, a0q, a1v]
 omega
theorem Aay {l : List Rat} {n : Nat} {q : Rat} (h : l[n]? = some q) (hd : n ≠ 0 -> l[n - 1]? ≠ some q) : (cM l n).set (cN l n).length q = cM l (n + 1) := by
 have h1 := Rr l n
 have h2 := Vc h
 have h3 : (cN l n).length < l.length := by omega
 rw [cM, cM, Oo h hd, a6s _ _ (a0l _), a5y, a0q, a6r, a2v]
 congr 1
 rw [a7p h3, b3k]
 rfl
theorem Sk {p q : Rat} (h : ¬ (p.num = q.num /\ (p.den : Int) = (q.den : Int))) : p ≠ q := by
 rintro rfl
 exact h ⟨rfl, rfl⟩
theorem Sa {p q : Rat} (h : p.num = q.num /\ (p.den : Int) = (q.den : Int)) : p = q := Rat.ext h.1 (by omega)
theorem W9 (l : List Rat) (hn : l.length <= 1000000) : FnMut Tryz.prog 251 2 l.length (C6 l) (cN l l.length).length (C6 (cN l l.length)) := by
 refine FnMut.of Tryz.func251 Tryz.ntmps251 rfl rfl rfl ?_
 have whole : (∀ j, 0 < j -> j < l.length -> l[j]? ≠ l[j - 1]?) -> cN l l.length = l := fun h => by rw [Ot _ (a0l _) h, a1w]
 by_cases h2 : (l.length : Int) < 2
 ·have hw := whole fun j h1 h3 => by omega
  repeat' (first|refine W ?_|(apply S.lenO;(iterate 3 exact rfl))|(apply T.ret;change Wl _ _ _ _ _ _ _)|refine V ?_|(refine W2 ?_ ?_<;>intro hc))
  exact ⟨.inr rfl, 0, by rw [hw];exact .cons (.tmp rfl) .nil, by rw [hw];rfl⟩
 ·repeat' (first|refine W ?_|(apply S.lenO;(iterate 3 exact rfl))|refine V ?_|(refine W2 ?_ ?_<;>intro hc))
  refine p0d (fun k => 1 <= k /\ k <= l.length /\ ∀ j, 0 < j -> j < k -> l[j]? ≠ l[j - 1]?) (fun k => l.length - k) (fun k => [(3, .i k), (0, .own 0 0 l.length 2)]) (fun k => [.live (fa l)]) 1 ⟨a0l _, by omega, fun j h1 h2 => by omega⟩ CV (.live (Gs _ _) .nil) ?_
  rintro k ⟨hk1, hk2, hu⟩
  by_cases hlt : (k : Int) < (l.length : Nat)
  ·obtain ⟨x, hx⟩ : ∃ x, l[k]? = some x := ⟨l[k], a0b (by omega)⟩
   obtain ⟨y, hy⟩ : ∃ y, l[k - 1]? = some y := ⟨l[k - 1], a0b (by omega)⟩
   by_cases he : x.num = y.num /\ (x.den : Int) = (y.den : Int)
   ·skip
    repeat' (first|refine W ?_|refine Za ?_|(apply S.lenO;(iterate 3 exact rfl))|(apply S.indexO (o2 := (k) * 2);(iterate 4 exact rfl);omega;omega)|(apply S.indexO (o2 := (k - 1) * 2);(iterate 4 exact rfl);omega;omega)|(apply p1u;(iterate 4 exact rfl);exact Fo hx;exact Ih hx)|(apply p1u;(iterate 4 exact rfl);exact Fo hy;exact Ih hy)|(apply p3w;(iterate 3 exact rfl))|(apply p0b A0 (by decide +kernel))|(apply p2m (o2 := k * 2) (l2 := l.length - k);(iterate 4 exact rfl);omega;omega;omega)|refine V ?_|(refine W2 ?_ ?_<;>intro hc))
    have hxy := Sa he
    have hc1 : (cN l (k + 1)).length = k := by rw [Oq hx (by omega) (by rw [hy, hxy]), Ot k hk2 hu, a0t];omega
    have hM1 : cM l (k + 1) = l := by rw [cM, hc1, Oq hx (by omega) (by rw [hy, hxy]), Ot k hk2 hu, a4i]
    refine p0d (fun i => 1 <= i /\ k + i <= l.length /\ (cN l (k + i)).length + 1 <= k + i) (fun i => l.length - (k + i)) (fun i => [(5, .i i), (3, .i (cN l (k + i)).length), (4, .own 0 (k * 2) (l.length - k) 2), (0, .own 0 0 l.length 2)]) (fun i => [.live (fa (cM l (k + i)))]) 1 ⟨a0l _, by omega, by omega⟩ (.cons rfl rfl (.cons (by rw [hc1];rfl) rfl CV)) (by rw [hM1];exact .live (Gs _ _) .nil) ?_
    rintro i ⟨hi1, hi2, hi3⟩
    have hcl := Rr l (k + i)
    have hML := Ad5 l (k + i) hi2
    have hg := fun j => Ad4 l (k + i) j
    have hdf := fun q => Aay (l := l) (n := k + i) (q := q)
    have hcd := fun q => Oo (l := l) (n := k + i) (q := q)
    have hcs := fun q => Oq (l := l) (n := k + i) (q := q)
    have htk : k + i = l.length -> (cM l (k + i)).take (cN l (k + i)).length = cN l l.length := fun h => by rw [cM, List.take_left', h];rfl
    by_cases hli : (i : Int) < ((l.length - k : Nat) : Int)
    ·obtain ⟨u, hu'⟩ : ∃ u, l[k + i]? = some u := ⟨l[k + i], a0b (by omega)⟩
     obtain ⟨v, hv'⟩ : ∃ v, l[k + i - 1]? = some v := ⟨l[k + i - 1], a0b (by omega)⟩
     have hgu := (hg (k + i) (by omega) hi2).trans hu'
     have hgv := (hg (k + i - 1) (by omega) hi2).trans hv'
     by_cases hs : u.num = v.num /\ (u.den : Int) = (v.den : Int)
     ·have huv := Sa hs
      have hcc := hcs u hu' (by omega) (by rw [hv', huv])
      have hMM : cM l (k + i + 1) = cM l (k + i) := by rw [cM, cM, hcc]
      repeat' (first|refine W ?_|refine Za ?_|(apply S.lenO;(iterate 3 exact rfl))|(apply S.indexO (o2 := (k + i) * 2);(iterate 4 exact rfl);omega;omega)|(apply S.indexO (o2 := (k + i - 1) * 2);(iterate 4 exact rfl);omega;omega)|(apply p1u;(iterate 4 exact rfl);exact Fo hgu;exact Ih hgu)|(apply p1u;(iterate 4 exact rfl);exact Fo hgv;exact Ih hgv)|(apply p5f;(iterate 3 exact rfl))|(apply p0b A0 (by decide +kernel))|refine V ?_|(refine W2 ?_ ?_<;>intro hc))
      change Next _ _ _ _ _ _
      exact Next.go (i + 1) ⟨by omega, by omega, by rw [<- a1h, hcc];omega⟩ (by omega) (.cons (by rw [show (((i + 1 : Nat) : Int)) = (i : Int) + 1 by omega];rfl) rfl (.cons (by rw [<- a1h, hcc];rfl) rfl CV)) (by rw [<- a1h, hMM];exact .live (Gs _ _) .nil)
     ·have huv := Sk hs
      have hdd : k + i ≠ 0 -> l[k + i - 1]? ≠ some u := fun _ e => by
       rw [hv'] at e
       injection e with e
       exact huv e.symm
      have hcc := hcd u hu' hdd
      have hMM := hdf u hu' hdd
      have hfs := Xi (cM l (k + i)) (cN l (k + i)).length u (by omega)
      rw [hMM] at hfs
      have hcl2 : (cN l (k + i + 1)).length = (cN l (k + i)).length + 1 := by rw [hcc, a0q];rfl
      generalize (cN l (k + i)).length = c at *
      repeat' (first|refine W ?_|refine Za ?_|(apply S.lenO;(iterate 3 exact rfl))|(apply S.indexO (o2 := (k + i) * 2);(iterate 4 exact rfl);omega;omega)|(apply S.indexO (o2 := (k + i - 1) * 2);(iterate 4 exact rfl);omega;omega)|(apply S.indexO (o2 := (c) * 2);(iterate 4 exact rfl);omega;omega)|(apply p1u;(iterate 4 exact rfl);exact Fo hgu;exact Ih hgu)|(apply p1u;(iterate 4 exact rfl);exact Fo hgv;exact Ih hgv)|(apply p5f;(iterate 3 exact rfl))|(apply p2a;(iterate 6 exact rfl);(rw [Sc];omega))|(apply p0b A0 (by decide +kernel))|refine V ?_|(refine W2 ?_ ?_<;>intro hc))
      change Next _ _ _ _ _ _
      exact Next.go (i + 1) ⟨by omega, by omega, by rw [<- a1h, hcl2];omega⟩ (by omega) (.cons (by rw [show (((i + 1 : Nat) : Int)) = (i : Int) + 1 by omega];rfl) rfl (.cons (by rw [<- a1h, hcl2, show (((c + 1 : Nat) : Int)) = (c : Int) + 1 by omega];rfl) rfl CV)) (by rw [<- a1h];show CovH _ [HB.live (As (c * 2) [.i u.num, .i u.den] (fa (cM l (k + i))))] _;rw [hfs];exact .live (Gs _ _) .nil)
    ·have hkl : k + i = l.length := by omega
     have htk' := htk hkl
     have hft := A15 (cM l (k + i)) (cN l (k + i)).length
     rw [htk'] at hft
     have hcl3 : (cN l (k + i)).length = (cN l l.length).length := by rw [hkl]
     generalize (cN l (k + i)).length = c at *
     repeat' (first|refine W ?_|(apply S.lenO;(iterate 3 exact rfl))|(apply p2m (o2 := c * 2) (l2 := l.length - c);(iterate 4 exact rfl);omega;omega;omega)|(apply p3s (l2 := c);(iterate 4 exact rfl);omega;omega)|(apply S.clearO;(iterate 4 exact rfl))|(apply T.ret;change Wl _ _ _ _ _ _ _)|refine V ?_|(refine W2 ?_ ?_<;>intro hc))
     exact ⟨.inr rfl, 0, by rw [<- hcl3];exact .cons (.tmp rfl) .nil, by show HB.live _ = _;rw [hft]⟩
   ·skip
    repeat' (first|refine W ?_|refine Za ?_|(apply S.lenO;(iterate 3 exact rfl))|(apply S.indexO (o2 := (k) * 2);(iterate 4 exact rfl);omega;omega)|(apply S.indexO (o2 := (k - 1) * 2);(iterate 4 exact rfl);omega;omega)|(apply p1u;(iterate 4 exact rfl);exact Fo hx;exact Ih hx)|(apply p1u;(iterate 4 exact rfl);exact Fo hy;exact Ih hy)|(apply p3w;(iterate 3 exact rfl))|(apply p0b A0 (by decide +kernel))|refine V ?_|(refine W2 ?_ ?_<;>intro hc))
    change Next _ _ _ _ _ _
    refine Next.go (k + 1) ⟨by omega, by omega, fun j h1 h3 => ?_⟩ (by omega) (.cons (by rw [show (((k + 1 : Nat) : Int)) = (k : Int) + 1 by omega];rfl) rfl (.cons rfl rfl .nil)) (.live (Gs _ _) .nil)
    by_cases hjk : j = k
    ·subst hjk
     rw [hx, hy]
     intro e
     injection e with e
     exact Sk he e
    ·exact hu j h1 (by omega)
  ·have hkl : k = l.length := by omega
   have hw := whole (by rw [<- hkl];exact hu)
   repeat' (first|refine W ?_|(apply S.lenO;(iterate 3 exact rfl))|(apply T.ret;change Wl _ _ _ _ _ _ _)|refine V ?_|(refine W2 ?_ ?_<;>intro hc))
   exact ⟨.inr rfl, 0, by rw [hw];exact .cons (.tmp rfl) .nil, by rw [hw];rfl⟩
theorem p4e {P : Program} {st : St} {t : Nat} {x y : AV} (h : st.tm.get t = some x) (e : x = y) : Res P st (.tmp t) y := by subst e;exact .tmp h
structure ReachR where
 left : Int
 right : Int
 hang : Int
 front : Int
 back : Int
def ReachR.row (r : ReachR) : List Lf := [.i r.left, .i r.right, .i r.hang, .i r.front, .i r.back]
def Er (r : ReachR) (x : ItemR) : ReachR := ⟨min r.left x.at_, max r.right (x.at_ + x.width), max r.hang x.hang, max r.front x.front, max r.back x.back⟩
def Ch (s : SetR) : ReachR := if s.items.length = 0 then ⟨0, s.length, 0, 0, 0⟩ else s.items.foldl Er ⟨s.length, 0, 0, 0, 0⟩
def Ek (a b : SetR) : Prop := (Ch a).left < (Ch b).right /\ (Ch b).left < (Ch a).right /\ a.depth - (Ch a).back < b.depth + (Ch b).front /\ b.depth - (Ch b).back < a.depth + (Ch a).front
instance (a b : SetR) : Decidable (Ek a b) := by unfold Ek;exact inferInstance
def Ce (s : SetR) : Int := s.items.foldl (fun n x => max n x.hang) 0
structure ReachR.ok (r : ReachR) : Prop where
 left : 0 <= r.left /\ r.left <= 2097152
 right : 0 <= r.right /\ r.right <= 2097152
 hang : 0 <= r.hang /\ r.hang <= 1048576
 front : 0 <= r.front /\ r.front <= 1048576
 back : 0 <= r.back /\ r.back <= 1048576
theorem A19 {s : SetR} (hs : Ec s) {x : ItemR} (hx : x ∈ s.items) : (0 <= x.at_ /\ x.at_ <= 1048576) /\ (1 <= x.width /\ x.width <= 1048576) /\ (0 <= x.hang /\ x.hang <= 1048576) /\ (0 <= x.front /\ x.front <= 1048576) /\ (0 <= x.back /\ x.back <= 1048576) /\ x.at_ + x.width <= 1048576 := by
 obtain ⟨_, _, _, _, _, hl, _, _, _, _, _, _, _, hi, _⟩ := hs
 obtain ⟨h1, h2⟩ := hi.2.2.1 x hx
 obtain ⟨_, _, a1, a2, a3⟩ := h1
 obtain ⟨b1, b2, b3⟩ := h2
 exact ⟨⟨b1, by omega⟩, b2, a1, a2, a3, by omega⟩
theorem A6q {r : ReachR} {x : ItemR} (h : r.ok) (hx : (0 <= x.at_ /\ x.at_ <= 1048576) /\ (1 <= x.width /\ x.width <= 1048576) /\ (0 <= x.hang /\ x.hang <= 1048576) /\ (0 <= x.front /\ x.front <= 1048576) /\ (0 <= x.back /\ x.back <= 1048576) /\ x.at_ + x.width <= 1048576) : (Er r x).ok := by
 obtain ⟨h1, h2, h3, h4, h5⟩ := h
 obtain ⟨k1, k2, k3, k4, k5, _⟩ := hx
 unfold Er
 exact ⟨by dsimp only;omega, by dsimp only;omega, by dsimp only;omega, by dsimp only;omega, by dsimp only;omega⟩
theorem O7 {s : SetR} (hs : Ec s) : ∀ k, k <= s.items.length -> ((s.items.take k).foldl Er ⟨s.length, 0, 0, 0, 0⟩).ok
 | 0, _ => by
  have := hs.2.2.2.2.2.1
  exact ⟨by dsimp only [List.take_zero, List.foldl_nil];omega, by dsimp only [List.take_zero, List.foldl_nil];omega, by dsimp only [List.take_zero, List.foldl_nil];omega, by dsimp only [List.take_zero, List.foldl_nil];omega, by dsimp only [List.take_zero, List.foldl_nil];omega⟩
 | k + 1, hk => by
  obtain ⟨x, hx⟩ := Aa (l := s.items) (k := k) (by omega)
  rw [B8 hx, a4s]
  exact A6q (O7 hs k (by omega)) (A19 hs (a0c hx))
theorem O8 {s : SetR} (hs : Ec s) : (Ch s).ok := by
 unfold Ch
 split
 ·have := hs.2.2.2.2.2.1
  exact ⟨by dsimp only;omega, by dsimp only;omega, by dsimp only;omega, by dsimp only;omega, by dsimp only;omega⟩
 ·have := O7 hs s.items.length (a0l _)
  rwa [a1w] at this
theorem A2y (s : SetR) : (Ch s).hang = Ce s := by
 have key : ∀ (l : List ItemR) (r : ReachR), (l.foldl Er r).hang = l.foldl (fun n x => max n x.hang) r.hang := fun l => by
  induction l with
  | nil => intro r;rfl
  | cons x l ih => intro r;rw [a4t, a4t, ih];rfl
 unfold Ch Ce
 split
 ·rename_i h
  rw [a1p h];rfl
 ·exact key _ _
def A6r (s : SetR) : Nat -> List AV
 | 0 => s.row.map .lf
 | k + 1 => match s.items[k]? with | some x => x.row.map .lf | none => []
theorem Z3 (s : SetR) (hs : Ec s) : Fn0 Tryz.prog 120 [A1 s.row] (A1 (Ch s).row) := by
 have h40 : s.items.length <= 40 := hs.2.2.2.2.2.2.2.2.2.2.2.2.2.1.1
 have hle : (s.items.map ItemR.row).length = s.items.length := a0a _
 by_cases h0 : s.items.length = 0
 ·have h1 : (((s.items.map ItemR.row).length : Nat) : Int) = 0 := by omega
  have hr : Ch s = ⟨0, s.length, 0, 0, 0⟩ := if_pos h0
  rw [hr]
  refine Fn0.of Tryz.func120 Tryz.ntmps120 rfl rfl rfl ?_
  simp only [A2]
  repeat' (first|refine W ?_|(apply p0t;(iterate 3 exact rfl))|(apply p0b A0 (by decide +kernel))|refine V ?_|(refine W2 ?_ ?_<;>intro hc))
  all_goals exact ⟨.inr rfl, [A1 [.i 0, .i s.length, .i 0, .i 0, .i 0]], .cons (Res.row [.i 0, .i s.length, .i 0, .i 0, .i 0] rfl rfl rfl rfl rfl) .nil, .one (.agg (A6 _))⟩
 ·have h1 : ¬ (((s.items.map ItemR.row).length : Nat) : Int) = 0 := by omega
  have hr : Ch s = s.items.foldl Er ⟨s.length, 0, 0, 0, 0⟩ := if_neg h0
  rw [hr]
  refine Fn0.of Tryz.func120 Tryz.ntmps120 rfl rfl rfl ?_
  simp only [A2]
  repeat' (first|refine W ?_|(apply p0t;(iterate 3 exact rfl))|(apply p0b A0 (by decide +kernel))|refine V ?_|(refine W2 ?_ ?_<;>intro hc))
  refine p0d (fun k => k <= s.items.length) (fun k => s.items.length - k) (fun k => [(19, .i k), (18, .i (s.items.map ItemR.row).length), (17, .sl (s.items.map ItemR.row)), (3, .ptr 2 0), (2, .ptr 1 0)]) (fun k => [.live (A6r s k), .live [.i 0, .i 0, .i 0, .i 0, .i 0], .live (((s.items.take k).foldl Er ⟨s.length, 0, 0, 0, 0⟩).row.map .lf)]) 0 (a0o _) CW CG ?_
  intro k hk
  by_cases hlt : (k : Int) < ((s.items.map ItemR.row).length : Nat)
  ·obtain ⟨x, hx⟩ := Aa (l := s.items) (k := k) (by omega)
   have hb := Ab (R := ItemR.row) hx
   have hok := A19 hs (a0c hx)
   have hro := O7 hs k (by omega)
   have hsn : (s.items.take (k + 1)).foldl Er ⟨s.length, 0, 0, 0, 0⟩ = Er ((s.items.take k).foldl Er ⟨s.length, 0, 0, 0, 0⟩) x := by rw [B8 hx, a4s];rfl
   obtain ⟨r, hrr⟩ : ∃ r, r = (s.items.take k).foldl Er ⟨s.length, 0, 0, 0, 0⟩ := ⟨_, rfl⟩
   rw [<- hrr] at hsn hro ⊢
   have hbw : x.at_ + x.width <= 1048576 := hok.2.2.2.2.2
   have hba : 0 <= x.at_ := hok.1.1
   have hbv : 1 <= x.width := hok.2.1.1
   have hxx : A6r s (k + 1) = x.row.map .lf := by show (match s.items[k]? with | some x => x.row.map AV.lf | none => []) = _;rw [hx]
   refine T.kill 0 ?_
   repeat' (first|refine W ?_|(apply S.indexR;(iterate 3 exact rfl);exact hb;omega;exact rfl)|refine Za ?_|(apply p4g 0;(iterate 5 exact rfl))|(apply S.max2;(iterate 3 exact rfl))|(apply S.min2;(iterate 3 exact rfl))|(apply p2u 2 17 A0 (by decide +kernel);simp only [td])|(apply p2p 2 17 A0 (by decide +kernel);simp only [td])|(apply p2u 2 21 A0 (by decide +kernel);simp only [td])|(apply p2p 2 21 A0 (by decide +kernel);simp only [td])|(apply p3j;(iterate 3 exact rfl);decide +kernel;exact rfl)|(apply p3a;exact rfl;exact rfl;decide +kernel;exact rfl)|(apply p0b A0 (by decide +kernel))|refine V ?_|(refine W2 ?_ ?_<;>intro hc))
   change Next _ _ _ _ _ _
   exact Next.go (k + 1) (by omega) (by omega) CW (by rw [hsn, hxx];exact .live rfl CG)
  ·obtain rfl : k = s.items.length := by omega
   rw [a1w]
   repeat' (first|refine W ?_|refine V ?_|(refine W2 ?_ ?_<;>intro hc))
   exact ⟨.inr rfl, [A1 (s.items.foldl Er ⟨s.length, 0, 0, 0, 0⟩).row], .cons (Res.row _ rfl rfl rfl rfl rfl) .nil, .one (.agg (A6 _))⟩
def Sl (a b : SetR) (r s : ReachR) : Prop := r.left < s.right /\ s.left < r.right /\ a.depth - r.back < b.depth + s.front /\ b.depth - s.back < a.depth + r.front
instance (a b : SetR) (r s : ReachR) : Decidable (Sl a b r s) := by unfold Sl;exact inferInstance
theorem A0j (a b : SetR) (r s : ReachR) (ha : Ec a) (hb : Ec b) (hfa : a.fits) (hfb : b.fits) (ka : r.ok) (kb : s.ok) (oa : Fn0 Tryz.prog 120 [A1 a.row] (A1 r.row)) (ob : Fn0 Tryz.prog 120 [A1 b.row] (A1 s.row)) : Fn0 Tryz.prog 78 [A1 a.row, A1 b.row] (.tup [.b (decide (Sl a b r s)), .i 0]) := by
 have va := F6 a hfa
 have vb := F6 b hfb
 rw [decide_eq_true ha] at va
 rw [decide_eq_true hb] at vb
 have da : 0 <= a.depth /\ a.depth <= 1048576 := ha.2.1
 have db : 0 <= b.depth /\ b.depth <= 1048576 := hb.2.1
 obtain ⟨_, _, _, r4, r5⟩ := ka
 obtain ⟨_, _, _, s4, s5⟩ := kb
 refine Fn0.of Tryz.func78 Tryz.ntmps78 rfl rfl rfl ?_
 simp only [A2]
 repeat' (first|refine W ?_|refine Zc va ?_|refine Zc vb ?_|refine Zc oa ?_|refine Zc ob ?_|refine Za ?_|(apply p0e 6 A0 (by decide +kernel);simp only [td])|(apply p0e 4 A0 (by decide +kernel);simp only [td])|(apply p0b A0 (by decide +kernel))|refine V ?_|(refine W2 ?_ ?_<;>intro hc))
 all_goals refine ⟨.inr rfl, [.b (decide (Sl a b r s)), .i 0], .cons (p4e rfl (congrArg (fun q : Bool => AV.val (.bool q)) ?_)) (.cons (.tmp rfl) .nil), .tup (.cons (.one (.lf _)) (.cons (.one (.lf _)) .nil))⟩
 all_goals first
  | exact (decide_eq_false (fun h => by obtain ⟨h1, h2, h3, h4⟩ := h;omega)).symm
  | exact decide_eq_decide.2 ⟨fun h => ⟨by assumption, by assumption, by assumption, h⟩, fun h => h.2.2.2⟩
theorem Mq (a b : SetR) (ha : Ec a) (hb : Ec b) (hfa : a.fits) (hfb : b.fits) : Fn0 Tryz.prog 78 [A1 a.row, A1 b.row] (.tup [.b (decide (Ek a b)), .i 0]) := by
 have h := A0j a b (Ch a) (Ch b) ha hb hfa hfb (O8 ha) (O8 hb) (Z3 a ha) (Z3 b hb)
 rwa [show decide (Sl a b (Ch a) (Ch b)) = decide (Ek a b) from decide_eq_decide.2 Iff.rfl] at h
theorem Lv (s : SetR) (hl : s.items.length <= 9223372036854775807) : Fn0 Tryz.prog 86 [A1 s.row] (A1 [.i (Ce s), .i 1]) := by
 have hle : (s.items.map ItemR.row).length = s.items.length := a0a _
 refine Fn0.of Tryz.func86 Tryz.ntmps86 rfl rfl rfl ?_
 simp only [A2]
 repeat' (first|refine W ?_|(apply p0b A0 (by decide +kernel))|refine V ?_|(refine W2 ?_ ?_<;>intro hc))
 refine p0d (fun k => k <= s.items.length) (fun k => s.items.length - k) (fun k => [(9, .i k), (3, .i ((s.items.take k).foldl (fun n x => max n x.hang) 0)), (8, .i (s.items.map ItemR.row).length), (7, .sl (s.items.map ItemR.row)), (2, .ptr 1 0)]) (fun k => [.live (s.row.map .lf), .live [.i 0, .i 0]]) 0 (a0o _) CW CG ?_
 intro k hk
 by_cases hlt : (k : Int) < ((s.items.map ItemR.row).length : Nat)
 ·obtain ⟨x, hx⟩ := Aa (l := s.items) (k := k) (by omega)
  have hb := Ab (R := ItemR.row) hx
  have hsn : (s.items.take (k + 1)).foldl (fun n x => max n x.hang) 0 = max ((s.items.take k).foldl (fun n x => max n x.hang) 0) x.hang := by rw [B8 hx, a4s];rfl
  generalize (s.items.take k).foldl (fun n x => max n x.hang) 0 = n at hsn ⊢
  repeat' (first|refine W ?_|(apply S.indexR;(iterate 3 exact rfl);exact hb;omega;exact rfl)|refine Za ?_|(apply S.max2;(iterate 3 exact rfl))|(apply p0b A0 (by decide +kernel))|refine V ?_|(refine W2 ?_ ?_<;>intro hc))
  change Next _ _ _ _ _ _
  exact Next.go (k + 1) (by omega) (by omega) (by rw [hsn];exact .cons rfl rfl CW) CG
 ·obtain rfl : k = s.items.length := by omega
  rw [a1w]
  repeat' (first|refine W ?_|(apply p0t;(iterate 3 exact rfl))|(apply p0b A0 (by decide +kernel))|refine V ?_|(refine W2 ?_ ?_<;>intro hc))
  exact ⟨.inr rfl, [A1 [.i (Ce s), .i 1]], .cons (Res.row [.i (Ce s), .i 1] rfl rfl rfl rfl rfl) .nil, .one (.agg (A6 _))⟩
section
variable {P : Program} {N : Nat} {ops : Array Oper} {m : Option Nat} {K : Tm -> AH -> Prop} {tm : Tm} {H : AH} {rest : List Oper} {ty : TypeId} {pos : String} {af : Array Edge} {d : Nat} {t : TypeId} {x y : Operand}
theorem A5m {ms : Array (String × TypeId)} (h : P.underlying t = some (.interface ms)) : P.underlying t = some (.interface (P.methodsAt t)) := by
 unfold Program.methodsAt
 rw [h]
theorem p3z {u : TypeId} {ms : Array (String × TypeId)} [hu : HasU P t (.interface ms)] (hx : evT tm x = some .err) (hN : Nat.ble (d + 1) N = true) (h : Reg m P N ops rest ((d, .val (.bool true)) :: tm) H K) : Reg m P N ops (⟨some d, .binOp .neq t x (.const .nilIface) u, ty, pos, af, none⟩ :: rest) tm H K := by
 refine S.val (OpV.mk fun L w ρ η hη hH => ?_) hN h
 obtain ⟨t', u', h1⟩ := (hη x (by simp [Op.operands]) _ hx).err_out
 have h2 := (hη (.const .nilIface) (by simp [Op.operands]) _ rfl).val_eq
 refine ⟨_, ?_, A7 _⟩
 simp [execOp, h1, h2, eqGuard, a0m, a1f, a0j, run_neq_held_nil w t t' u' (A5m hu.out)]
theorem p2s {u : TypeId} {ms : Array (String × TypeId)} [hu : HasU P t (.interface ms)] (hx : evT tm x = some (.val .nilIface)) (hN : Nat.ble (d + 1) N = true) (h : Reg m P N ops rest ((d, .val (.bool false)) :: tm) H K) : Reg m P N ops (⟨some d, .binOp .neq t x (.const .nilIface) u, ty, pos, af, none⟩ :: rest) tm H K := by
 refine S.val (OpV.mk fun L w ρ η hη hH => ?_) hN h
 have h1 := (hη x (by simp [Op.operands]) _ hx).val_eq
 have h2 := (hη (.const .nilIface) (by simp [Op.operands]) _ rfl).val_eq
 refine ⟨_, ?_, A7 _⟩
 simp [execOp, h1, h2, eqGuard, a0m, a1f, a0j, run_neq_nil_nil w t (A5m hu.out)]
end
end Go.Proofs.YtlapbaiejnaeiaaGreatDoor
namespace Go.Proofs.YtlapbaiejnaeiaaGreatDoor
open Go.Lib
theorem Om {d : Nat} (h : d < 10) : (UInt8.ofNat (48 + d)).toNat = 48 + d := by
 rw [UInt8.toNat_ofNat_of_lt' (by simp [UInt8.size];omega)]
theorem A0q {u : Nat} (h : ¬ u < 10) : decDigits u = decDigits (u / 10) ++ [UInt8.ofNat (48 + u % 10)] := by rw [decDigits, dif_neg h]
theorem Nc (u : Nat) : ∀ c ∈ decDigits u, 48 <= c.toNat /\ c.toNat <= 57 := by
 induction u using Nat.strongRecOn with
 | _ u ih =>
  intro c hc
  by_cases h : u < 10
  ·rw [decDigits_one h] at hc
   obtain rfl : c = UInt8.ofNat (48 + u) := by simpa using hc
   rw [Om h];omega
  ·rw [A0q h] at hc
   rcases a0u.1 hc with h1 | h1
   ·exact ih (u / 10) (by omega) c h1
   ·obtain rfl : c = UInt8.ofNat (48 + u % 10) := by simpa using h1
    rw [Om (by omega)];omega
theorem Wu (u : Nat) : decDigits u ≠ [] := by
 intro h
 have := decDigits_length u
 have h2 := nDigits_pos u
 rw [h] at this
 simp at this
 omega
theorem A7x (c : UInt8) (l : List UInt8) : ∀ (acc m : Nat), parseUint10 acc l = .ok m -> parseUint10 acc (l ++ [c]) = parseUint10 m [c] := by
 induction l with
 | nil => intro acc m h;simp only [parseUint10] at h;injection h with h;subst h;rfl
 | cons b r ih =>
  intro acc m h
  simp only [parseUint10, a2j] at h ⊢
  split
  ·rename_i h1
   rw [if_pos h1] at h
   split
   ·rename_i h2;rw [if_pos h2] at h;cases h
   ·rename_i h2
    rw [if_neg h2] at h
    split
    ·rename_i h3;rw [if_pos h3] at h;cases h
    ·rename_i h3
     rw [if_neg h3] at h
     have := ih _ m h
     simpa only [parseUint10] using this
  ·rename_i h1;rw [if_neg h1] at h;cases h
theorem A0r (u : Nat) (hu : u < 18446744073709551616) : parseUint10 0 (decDigits u) = .ok u := by
 induction u using Nat.strongRecOn with
 | _ u ih =>
  by_cases h : u < 10
  ·rw [decDigits_one h]
   simp only [parseUint10, Om h]
   rw [if_pos (by omega), if_neg (by omega), if_neg (by omega)]
   simp
  ·rw [A0q h, A7x _ _ 0 (u / 10) (ih (u / 10) (by omega) (by omega))]
   simp only [parseUint10, Om (show u % 10 < 10 by omega)]
   rw [if_pos (by omega), if_neg (by omega), if_neg (by omega)]
   congr 1
   omega
theorem A7w (u : Nat) : ∃ c r, decDigits u = c :: r /\ 48 <= c.toNat /\ c.toNat <= 57 := by
 cases h : decDigits u with
 | nil => exact absurd h (Wu u)
 | cons c r => exact ⟨c, r, rfl, Nc u c (by rw [h];simp)⟩
theorem K4 (n : Int) (h0 : -9223372036854775808 <= n) (h1 : n <= 9223372036854775807) : atoiAll (itoa n) = .ok n := by
 unfold itoa
 by_cases hn : n < 0
 ·rw [if_pos hn]
  unfold atoiAll
  simp only []
  have e : parseMag (decDigits n.natAbs) = .ok n.natAbs := by
   unfold parseMag
   rw [if_neg (Wu _), A0r _ (by omega)]
  rw [show (if (45 : UInt8).toNat = 43 \/ (45 : UInt8).toNat = 45 then decDigits n.natAbs else 45 :: decDigits n.natAbs) = decDigits n.natAbs from rfl, e]
  show (if ¬ ((45 : UInt8).toNat = 45) /\ 9223372036854775808 <= n.natAbs then NumEnd.range else if ((45 : UInt8).toNat = 45) /\ 9223372036854775808 < n.natAbs then .range else .ok (if (45 : UInt8).toNat = 45 then -(n.natAbs : Int) else n.natAbs)) = .ok n
  rw [if_neg (fun h => h.1 rfl), if_neg (fun h => absurd h.2 (by omega)), if_pos (by decide : (45 : UInt8).toNat = 45)]
  congr 1
  omega
 ·rw [if_neg hn]
  obtain ⟨c, r, e, c1, c2⟩ := A7w n.toNat
  have e2 : parseMag (decDigits n.toNat) = .ok n.toNat := by
   unfold parseMag
   rw [if_neg (Wu _), A0r _ (by omega)]
  rw [e] at e2 ⊢
  unfold atoiAll
  simp only []
  rw [if_neg (by omega), e2]
  show (if ¬ (c.toNat = 45) /\ 9223372036854775808 <= n.toNat then NumEnd.range else if (c.toNat = 45) /\ 9223372036854775808 < n.toNat then .range else .ok (if c.toNat = 45 then -(n.toNat : Int) else n.toNat)) = .ok n
  rw [if_neg (fun h => absurd h.2 (by omega)), if_neg (fun h => absurd h.1 (by omega)), if_neg (by omega)]
  congr 1
  omega
theorem Xy {n m : Int} (n0 : -9223372036854775808 <= n) (n1 : n <= 9223372036854775807) (m0 : -9223372036854775808 <= m) (m1 : m <= 9223372036854775807) (h : itoa n = itoa m) : n = m := by
 have := K4 n n0 n1
 rw [h, K4 m m0 m1] at this
 injection this with this
 exact this.symm
theorem Xv {l : List UInt8} {c : UInt8} (h : c ∉ l) : indexByte l c = -1 := by
 induction l with
 | nil => rfl
 | cons b r ih =>
  have hb : (b == c) = false := by
   rw [beq_eq_false_iff_ne];intro e;exact h (by simp [e])
  unfold indexByte
  rw [hb, ih fun hm => h (by simp [hm])]
  rfl
theorem No {l r : List UInt8} {c : UInt8} (h : c ∉ l) : indexByte (l ++ c :: r) c = l.length := by
 induction l with
 | nil => simp [indexByte]
 | cons b t ih =>
  have hb : (b == c) = false := by
   rw [beq_eq_false_iff_ne];intro e;exact h (by simp [e])
  have := ih fun hm => h (by simp [hm])
  simp only [a2j, indexByte, hb, this]
  have h2 : ((t.length : Int) == -1) = false := by rw [beq_eq_false_iff_ne];omega
  simp [h2]
theorem Ab1 {c : UInt8} {l r : List UInt8} (h : c ∉ l) : cut (l ++ c :: r) [c] = (l, r, true) := by
 unfold cut
 rw [index_one, No h, if_pos (by omega)]
 simp
theorem A72 {c : UInt8} {l : List UInt8} (h : c ∉ l) : split l [c] = [l] := by
 unfold split
 rw [count_miss (by rw [index_one, Xv h])]
 rfl
theorem A71 {c : UInt8} {l r : List UInt8} (h : c ∉ l) : split (l ++ c :: r) [c] = l :: split r [c] := by
 have hi : index (l ++ c :: r) [c] = l.length := by rw [index_one, No h]
 unfold split
 rw [count_hit (by simp) hi]
 have hd : (l ++ c :: r).drop (l.length + [c].length) = r := by simp
 rw [hd, Nat.add_comm]
 show splitK [c] 0 (count r [c] + 1) _ = _
 rw [splitK, if_neg (by rw [hi];simp only [beq_iff_eq];omega), hi]
 simp
theorem Tb {c : UInt8} : ∀ (ws : List (List UInt8)), ws ≠ [] -> (∀ w ∈ ws, c ∉ w) -> split (join ws [c]) [c] = ws
 | [], h, _ => absurd rfl h
 | [w], _, hw => by
  rw [show join [w] [c] = w by simp [join, List.intercalate]]
  exact A72 (hw w (by simp))
 | w :: x :: ws, _, hw => by
  have ih := Tb (x :: ws) (by simp) fun y hy => hw y (by simp [hy])
  rw [show join (w :: x :: ws) [c] = w ++ c :: join (x :: ws) [c] by simp [join, List.intercalate], A71 (hw w (by simp)), ih]
theorem Vu (sep : List UInt8) : ∀ (k : Nat) (s : List UInt8), ∀ w ∈ splitK sep 0 k s, w.length <= s.length
 | 0, s, w, hw => by simp [splitK] at hw;subst hw;exact a0l _
 | k + 1, s, w, hw => by
  rw [splitK] at hw
  split at hw
  ·simp at hw;subst hw;exact a0l _
  ·rcases a1j.1 hw with rfl | hw
   ·rw [a0t];omega
   ·have := Vu sep k _ w hw
    rw [a1v] at this;omega
theorem Aa8 {s sep w : List UInt8} (h : w ∈ split s sep) : w.length <= s.length := Vu sep _ s w h
theorem A55 (s sep : List UInt8) : (cut s sep).1.length <= s.length /\ (cut s sep).2.1.length <= s.length := by
 unfold cut
 split
 ·constructor
  ·simp only [a0t];omega
  ·simp only [a1v];omega
 ·exact ⟨a0l _, a0o _⟩
theorem Ad9 {s : List UInt8} {c : UInt8} (h : s ≠ []) : (cut s [c]).2.1.length < s.length := by
 have hp : 0 < s.length := a1n.2 h
 unfold cut
 split
 ·simp only [a1v, a0i, a0n];omega
 ·exact hp
theorem Zq {s : List UInt8} {n : Int} (h : atoiAll s = .ok n) : -9223372036854775808 <= n /\ n <= 9223372036854775807 := by
 unfold atoiAll at h
 split at h
 ·cases h
 ·simp only [] at h
  split at h
  ·cases h
  ·cases h
  ·split at h
   ·cases h
   ·split at h
    ·cases h
    ·injection h with h
     subst h
     split <;> omega
end Go.Proofs.YtlapbaiejnaeiaaGreatDoor
namespace Go.Proofs.YtlapbaiejnaeiaaGreatDoor
open Go Go.RowKit
def AV.denil1 : AV -> AV
 | .lf (.val (.slice none 0 0)) => .lf (.sl [])
 | x => x
def AV.denil : AV -> AV
 | .agg cs => .agg (cs.map AV.denil1)
 | x => x.denil1
theorem RelV.denil1 {w : World} {L : Nat -> Prop} {ρ : Pl} {x : AV} {v : Value} (h : RelV w L ρ x v) : RelV w L ρ x.denil1 v := by
 unfold AV.denil1
 split
 ·have := h.val_eq
  subst this
  exact .lf _ _ .slnil
 ·exact h
theorem RelV.denil {w : World} {L : Nat -> Prop} {ρ : Pl} {x : AV} {v : Value} (h : RelV w L ρ x v) : RelV w L ρ x.denil v := by
 unfold AV.denil
 split
 ·rename_i cs
  obtain ⟨vs, rfl, hl, hr⟩ := h.agg_out
  refine .agg _ vs (by simpa using hl) fun i x v hx hv => ?_
  rw [a0e] at hx
  cases e : cs[i]? with
  | none => rw [e] at hx;cases hx
  | some y =>
   rw [e] at hx
   simp only [a1c, a0f] at hx
   subst hx
   exact (hr i y v e hv).denil1
 ·exact h.denil1
theorem Fn0.nils {P : Program} {f : FuncId} {args zs : List AV} {r : AV} (h : Fn0 P f zs r) (e : args.map AV.denil = zs) : Fn0 P f args r := by
 subst e
 refine ⟨h.ent, fun L w vs hG hL hl hv => h.run L w vs hG hL (by simpa using hl) fun i x v hx hu => ?_⟩
 rw [a0e] at hx
 cases e : args[i]? with
 | none => rw [e] at hx;cases hx
 | some y =>
  rw [e] at hx
  simp only [a1c, a0f] at hx
  subst hx
  exact (hv i y v e hu).denil
end Go.Proofs.YtlapbaiejnaeiaaGreatDoor
