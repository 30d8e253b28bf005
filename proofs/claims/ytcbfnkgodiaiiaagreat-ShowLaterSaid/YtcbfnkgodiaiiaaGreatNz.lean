/- Contract: slices.SortFunc of fractions, by quadratic's compare. No conditions but those of each statement. -/
import Derived.Test.YtcbfnkgodiaiiaaGreatNh
import Derived.Test.YtcbfnkgodiaiiaaGreatNx
import Derived.Test.YtcbfnkgodiaiiaaGreatNy
import Derived.Lib.QuietBelow
import Derived.Test.YtcbfnkgodiaiiaaGreatNn
set_option linter.unusedSimpArgs false
set_option linter.unusedVariables false
namespace Go.Proofs.YtcbfnkgodiaiiaaGreat
open Go Go.RowKit
abbrev FQ := {q : Rat // Fits q}
theorem Aba : Fits (0 : Rat) := by decide
instance : Inhabited FQ := ⟨⟨0, Aba⟩⟩
def D7 (x : FQ) : List Value := [.int .i64 x.1.num, .int .i64 x.1.den]
def Rq (x y : FQ) : Int := C2 x.1 y.1
theorem ltF (x y : FQ) : Go.Proofs.ltOf Rq x y = decide (x.1 < y.1) := by
 unfold Go.Proofs.ltOf Rq
 by_cases h : x.1 < y.1
 ·rw [decide_eq_true h, decide_eq_true ((Hg _ _).2 h)]
 ·rw [decide_eq_false h, decide_eq_false (fun k => h ((Hg _ _).1 k))]
theorem Ads : Go.Sort.SWO (Go.Proofs.ltOf Rq) where
 irrefl x := by rw [ltF];exact decide_eq_false (by grind)
 trans x y z h k := by
  rw [ltF, decide_eq_true_eq] at *
  grind
 ntrans x y z h k := by
  rw [ltF, decide_eq_false_iff_not] at *
  grind
theorem Yb (w : World) (L : Nat -> Prop) (x : FQ) : RelV w L Ay (A1 (frR x.1)) (.agg (D7 x).toArray) := by
 refine .agg _ (D7 x) rfl fun i y v hy hv => ?_
 match i with
 | 0 => simp [frR, D7] at hy hv;subst hy hv;exact Ab _
 | 1 => simp [frR, D7] at hy hv;subst hy hv;exact Ab _
 | i + 2 => simp [D7] at hv
theorem Xr (x y : FQ) (W : World) (hG : Glob W) : Calls Tryz.prog 100 #[.agg (D7 x).toArray, .agg (D7 y).toArray] W fun e w' => e = .returned (.int .i64 (Rq x y)) /\ ∃ q os', w' = Go.Sort.grow (W.drewN q) os' := by
 have h := (C0 x.1 y.1 x.2 y.2).run (fun _ => False) W [.agg (D7 x).toArray, .agg (D7 y).toArray] hG (fun _ h => h.elim) rfl fun i z v hz hv => by
  match i with
  | 0 => simp at hz hv;subst hz hv;exact Yb _ _ x
  | 1 => simp at hz hv;subst hz hv;exact Yb _ _ y
  | i + 2 => simp at hv
 have h2 : Calls Tryz.prog 100 #[.agg (D7 x).toArray, .agg (D7 y).toArray] W fun e w' => e = .returned (.int .i64 (Rq x y)) /\ Below W.heap.size W w' := h.mono fun e w' ⟨v, he, hv, hb⟩ => ⟨by rw [he, hv.val_eq];rfl, hb⟩
 refine (Up.calls_up h2).mono fun e w' ⟨he, hb, hd⟩ => ⟨he, ?_⟩
 obtain ⟨p, hp⟩ := regrown_of_below hb
 have hpd : w'.drawn = p.d := by rw [hp];rfl
 refine ⟨p.d - W.drawn, p.os, ?_⟩
 rw [hp]
 have : W.drewN (p.d - W.drawn) = redrawn W p.d := by
  unfold World.drewN redrawn
  rw [show W.drawn + (p.d - W.drawn) = p.d by omega]
 rw [this]
def Cc (l : List Rat) : List Lf := (l.map frR).flatten
theorem Us (l : List Rat) : ∀ r ∈ l.map frR, r.length = 2 := by
 intro r hr
 obtain ⟨n, _, rfl⟩ := List.mem_map.1 hr
 rfl
theorem Mb (l : List Rat) : (Cc l).length = l.length * 2 := by rw [Cc, Bf _ (Us l), List.length_map]
theorem W8 (l m : List Rat) : Cc (l ++ m) = Cc l ++ Cc m := by simp [Cc]
def Gv (d : Array FQ) : List Rat := d.toList.map (·.1)
theorem Tc (d : Array FQ) (t : Nat) (ht : t < d.size * 2) : (Cc (Gv d))[t]? = some (.val ((Go.Sort.flatK D7 2 d)[t]!)) := by
 have h1 : t / 2 < d.size := by omega
 rw [Go.Sort.get_flatK _ _ _ _ ht, Cc]
 have := Jf ((Gv d).map frR) (t / 2) (t % 2) (Us _) (Nat.mod_lt _ (by decide))
 rw [show t / 2 * 2 + t % 2 = t by omega] at this
 rw [this, Gv, List.map_map, List.getElem?_map, List.getElem?_eq_getElem (by simpa using h1), getElem!_pos d _ h1]
 rcases Nat.mod_two_eq_zero_or_one t with e | e <;> rw [e] <;> simp [D7]
theorem P2 (w : World) (blk off n : Nat) (d : Array FQ) (os : Array Obj) (k : Nat) (hk : k < w.heap.size) : (Go.Proofs.sortWorldK D7 2 w blk off n d os).heap[k]? = if blk = k then (w.heap[k]?).map (Go.Sort.onCells (Go.Sort.putCells id off (Go.Sort.flatK D7 2 d))) else w.heap[k]? := by
 show (w.heap.modify blk (Go.Sort.onCells (Go.Sort.putCells id off (Go.Sort.flatK D7 2 d))) ++ os)[k]? = _
 rw [Array.getElem?_append_left (by simpa using hk), Array.getElem?_modify]
theorem Ny (off : Nat) (F c : Array Value) : (Go.Sort.putCells id off F c).size = c.size := by simp [Go.Sort.putCells]
theorem A12 (w : World) (blk off n : Nat) (d : Array FQ) (os : Array Obj) : Fr (fun j => j = blk) w (Go.Proofs.sortWorldK D7 2 w blk off n d os) := by
 have hs : w.heap.size <= (Go.Proofs.sortWorldK D7 2 w blk off n d os).heap.size := by
  show w.heap.size <= (w.heap.modify blk _ ++ os).size
  simp
 refine ⟨rfl, rfl, rfl, hs, fun k hk hn => by rw [P2 w blk off n d os k hk, if_neg (fun e => hn e.symm)], fun k x hx => ?_⟩
 have hk := G1 hx
 unfold World.shape? at hx ⊢
 rw [P2 w blk off n d os k hk]
 by_cases e : blk = k
 ·rw [if_pos e]
  cases hh : w.heap[k]? with
  | none => rw [hh] at hx;cases hx
  | some ob =>
   rw [hh] at hx
   cases ob with
   | cells c e fr => simpa [Go.Sort.onCells, Ny] using hx
   | _ => exact hx
 ·rw [if_neg e];exact hx
def A8s (l : List Rat) (xs : List Lf) : Prop := ∃ l', xs = Cc l' /\ l'.Perm l /\ l'.Pairwise (· <= ·)
theorem Se (l : List Rat) (hl : ∀ q ∈ l, Fits q) (hn : l.length < 4611686018427387904) : FnSort Tryz.prog 285 100 2 l.length (Cc l) (A8s l) := by
 refine ⟨⟨_, Tryz.func285, by kernel_rfl, rfl⟩, fun L w k o cap c el lo hi hG hL hLk hw hlo hcap hfit hc => ?_⟩
 let d : Array FQ := (l.pmap (fun q h => (⟨q, h⟩ : FQ)) hl).toArray
 have hd : Gv d = l := by
  simp only [Gv, d, List.map_pmap]
  rw [List.pmap_eq_map, List.map_id']
 have hds : d.size = l.length := by simp [d]
 have hkw : k < w.heap.size := C3 hw
 have hfit2 : o + l.length * 2 <= c.size := by omega
 have hH : Go.Sort.HoldsK D7 2 w k o d := by
  intro t ht
  rw [Go.Sort.size_flatK] at ht
  have h1 := Tc d t ht
  rw [hd] at h1
  obtain ⟨u, h2, h3⟩ := hc t _ h1
  rw [h3.val_eq] at h2
  refine ⟨Bm hw h2, ?_⟩
  simp only [World.frozen?, hw]
  simp
  omega
 have hcmp : Go.Proofs.CmpLays Tryz.prog 100 #[] D7 2 Rq k o d.size w := fun m os dk hs x y => Xr x y _ (hG _ (A12 w k o m dk os))
 have h := Go.Proofs.AnyQ.slices_SortFunc Tryz.srt 2 Tryz.isAgg58 Tryz.sizeOf58 D7 (fun _ => rfl) (fun x v hv => by simp [D7] at hv;rcases hv with rfl | rfl <;> rfl) Rq Ads 100 #[] k o cap d w (enters_of Tryz.func100 (by kernel_rfl) rfl) hcmp hH hkw (by rw [hds];exact hn)
 rw [hds] at h
 refine h.mono ?_
 rintro e w' ⟨rfl, d', n, os, ⟨hs', _, hperm⟩, hsort, rfl⟩
 have hs2 : d'.size = l.length := by rw [hs', hds]
 have hlen : (Cc (Gv d')).length = l.length * 2 := by rw [Mb];simp [Gv, hs2]
 have hwk : (Go.Proofs.sortWorldK D7 2 w k o n d' os).heap[k]? = some (.cells (Go.Sort.putCells id o (Go.Sort.flatK D7 2 d') c) el (lo, hi)) := by
  rw [P2 w k o n d' os k hkw, if_pos rfl, hw];rfl
 refine ⟨rfl, A12 w k o n d' os, Cc (Gv d'), _, ⟨Gv d', rfl, ?_, ?_⟩, hwk, Ny _ _ _, by rw [hlen, Mb], fun j x hj => ?_⟩
 ·have hp : d'.toList.Perm d.toList := by
   have e1 : d'.extract 0 l.length = d' := by rw [<- hs2];exact Array.extract_size
   have e2 : d.extract 0 l.length = d := by rw [<- hds];exact Array.extract_size
   rw [e1, e2] at hperm
   exact hperm
  rw [<- hd]
  exact hp.map _
 ·rw [List.pairwise_iff_getElem]
  intro i j hi hj hij
  have hi' : i < d'.size := by simpa [Gv] using hi
  have hj' : j < d'.size := by simpa [Gv] using hj
  have := hsort i j (Nat.zero_le _) hij (by omega)
  rw [ltF, decide_eq_false_iff_not, getElem!_pos d' j hj', getElem!_pos d' i hi'] at this
  simp only [Gv, List.getElem_map, Array.getElem_toList]
  grind
 ·have hjl : j < d'.size * 2 := by rw [hs2, <- hlen];exact (List.getElem?_eq_some_iff.1 hj).1
  rw [Tc d' j hjl] at hj
  injection hj with hj
  subst hj
  refine ⟨_, ?_, .val _⟩
  simp only [Go.Sort.putCells, Array.getElem?_mapIdx]
  rw [Array.getElem?_eq_getElem (by omega)]
  simp only [Option.map_some]
  rw [if_pos ⟨by omega, by rw [Go.Sort.size_flatK];omega⟩]
  simp
def cN (l : List Rat) : Nat -> List Rat
 | 0 => []
 | n + 1 => cN l n ++ (if n ≠ 0 /\ l[n]? = l[n - 1]? then [] else (l[n]?).toList)
theorem Ph {l : List Rat} {n : Nat} {q : Rat} (h : l[n]? = some q) (hd : n ≠ 0 -> l[n - 1]? ≠ some q) : cN l (n + 1) = cN l n ++ [q] := by
 rw [cN, if_neg, h];rfl
 rintro ⟨h1, h2⟩
 exact hd h1 (by rw [<- h2, h])
theorem Qd {l : List Rat} {n : Nat} {q : Rat} (h : l[n]? = some q) (h0 : n ≠ 0) (hd : l[n - 1]? = some q) : cN l (n + 1) = cN l n := by
 rw [cN, if_pos ⟨h0, by rw [h, hd]⟩, List.append_nil]
theorem Pi {l : List Rat} : ∀ (n : Nat), n <= l.length -> (∀ j, 0 < j -> j < n -> l[j]? ≠ l[j - 1]?) -> cN l n = l.take n
 | 0, _, _ => by simp [cN]
 | n + 1, h, hu => by
  have hx : l[n]? = some l[n] := List.getElem?_eq_getElem (by omega)
  rw [Ph hx (fun h0 e => hu n (by omega) (by omega) (by rw [e, hx])), Pi n (by omega) fun j h1 h2 => hu j h1 (by omega), List.take_add_one, hx]
  rfl
theorem Sb (l : List Rat) : ∀ (n : Nat), (cN l n).length <= n
 | 0 => by simp [cN]
 | n + 1 => by
  rw [cN, List.length_append]
  have := Sb l n
  split
  ·simp;omega
  ·cases l[n]? <;> simp <;> omega
abbrev fa (l : List Rat) : List AV := (Cc l).map .lf
theorem Sr (l : List Rat) : (fa l).length = l.length * 2 := by rw [List.length_map, Mb]
theorem Ih (q : Rat) (l : List Rat) : fa (q :: l) = .i q.num :: .i q.den :: fa l := rfl
theorem Gh : ∀ {l : List Rat} {j : Nat} {q : Rat}, l[j]? = some q -> ((fa l).drop (j * 2)).take 2 = [.i q.num, .i q.den]
 | [], j, q, h => by simp at h
 | x :: l, 0, q, h => by
  simp only [List.getElem?_cons_zero, Option.some.injEq] at h
  subst h
  rfl
 | x :: l, j + 1, q, h => by
  rw [Ih, show (j + 1) * 2 = j * 2 + 1 + 1 by omega, List.drop_succ_cons, List.drop_succ_cons]
  exact Gh (by simpa using h)
theorem Yo : ∀ (l : List Rat) (j : Nat) (q : Rat), j < l.length -> Be (j * 2) [.i q.num, .i q.den] (fa l) = fa (l.set j q)
 | [], j, q, h => by simp at h
 | x :: l, 0, q, h => by
  rw [List.set_cons_zero, Ih, Ih]
  simp [Be, Ew]
 | x :: l, j + 1, q, h => by
  rw [List.set_cons_succ, Ih, Ih, <- Yo l j q (by simpa using h), show (j + 1) * 2 = j * 2 + 2 by omega]
  simp [Be]
theorem A1r : ∀ (l : List Rat) (j : Nat), (fa l).take (j * 2) = fa (l.take j)
 | [], j => by rw [show fa [] = [] from rfl, List.take_nil, List.take_nil];rfl
 | x :: l, 0 => rfl
 | x :: l, j + 1 => by
  rw [List.take_succ_cons, Ih, Ih, show (j + 1) * 2 = j * 2 + 1 + 1 by omega, List.take_succ_cons, List.take_succ_cons, A1r l j]
theorem Vr {l : List Rat} {j : Nat} {q : Rat} (h : l[j]? = some q) : j < l.length := (List.getElem?_eq_some_iff.1 h).1
theorem J7 {l : List Rat} {j : Nat} {q : Rat} (h : l[j]? = some q) : j * 2 + 2 <= (fa l).length := by
 have := Vr h
 rw [Sr]
 omega
theorem Gz (n : Nat) (l : List Rat) : (fa l).all (AV.under n) = true := Al n _
def cM (l : List Rat) (n : Nat) : List Rat := cN l n ++ l.drop (cN l n).length
theorem Acp (l : List Rat) (n j : Nat) (h : (cN l n).length <= j) (hn : n <= l.length) : (cM l n)[j]? = l[j]? := by
 rw [cM, List.getElem?_append_right h, List.getElem?_drop]
 congr 1
 omega
theorem Acg (l : List Rat) (n : Nat) (hn : n <= l.length) : (cM l n).length = l.length := by
 have := Sb l n
 rw [cM, List.length_append, List.length_drop]
 omega
theorem Abo {l : List Rat} {n : Nat} {q : Rat} (h : l[n]? = some q) (hd : n ≠ 0 -> l[n - 1]? ≠ some q) : (cM l n).set (cN l n).length q = cM l (n + 1) := by
 have h1 := Sb l n
 have h2 := Vr h
 have h3 : (cN l n).length < l.length := by omega
 rw [cM, cM, Ph h hd, List.set_append_right _ _ (Nat.le_refl _), Nat.sub_self, List.length_append, List.length_singleton, List.append_assoc]
 congr 1
 rw [List.drop_eq_getElem_cons h3, List.set_cons_zero]
 rfl
theorem Rw {p q : Rat} (h : ¬ (p.num = q.num /\ (p.den : Int) = (q.den : Int))) : p ≠ q := by
 rintro rfl
 exact h ⟨rfl, rfl⟩
theorem S9 {p q : Rat} (h : p.num = q.num /\ (p.den : Int) = (q.den : Int)) : p = q := Rat.ext h.1 (by omega)
set_option maxHeartbeats 16000000 in
theorem Wi (l : List Rat) (hn : l.length <= 1000000) : FnMut Tryz.prog 286 2 l.length (Cc l) (cN l l.length).length (Cc (cN l l.length)) := by
 refine FnMut.of Tryz.func286 Tryz.ntmps286 rfl rfl rfl ?_
 have whole : (∀ j, 0 < j -> j < l.length -> l[j]? ≠ l[j - 1]?) -> cN l l.length = l := fun h => by rw [Pi _ (Nat.le_refl _) h, List.take_length]
 by_cases h2 : (l.length : Int) < 2
 ·have hw := whole fun j h1 h3 => by omega
  repeat' (first | refine W ?_|(apply S.lenO;exact rfl;exact rfl;exact rfl)|(apply T.ret;change Wk _ _ _ _ _ _ _) | refine V ?_|(refine W2 ?_ ?_ <;> intro hc))
  exact ⟨.inr rfl, 0, by rw [hw];exact .cons (.tmp rfl) .nil, by rw [hw];rfl⟩
 ·repeat' (first | refine W ?_|(apply S.lenO;exact rfl;exact rfl;exact rfl) | refine V ?_|(refine W2 ?_ ?_ <;> intro hc))
  refine T.loopS (fun k => 1 <= k /\ k <= l.length /\ ∀ j, 0 < j -> j < k -> l[j]? ≠ l[j - 1]?) (fun k => l.length - k) (fun k => [(3, .i k), (0, .own 0 0 l.length 2)]) (fun k => [.live (fa l)]) 1 ⟨Nat.le_refl _, by omega, fun j h1 h2 => by omega⟩ CV (.live (Gz _ _) .nil) ?_
  rintro k ⟨hk1, hk2, hu⟩
  by_cases hlt : (k : Int) < (l.length : Nat)
  ·obtain ⟨x, hx⟩ : ∃ x, l[k]? = some x := ⟨l[k], List.getElem?_eq_getElem (by omega)⟩
   obtain ⟨y, hy⟩ : ∃ y, l[k - 1]? = some y := ⟨l[k - 1], List.getElem?_eq_getElem (by omega)⟩
   by_cases he : x.num = y.num /\ (x.den : Int) = (y.den : Int)
   ·skip
    repeat' (first | refine W ?_|refine Za ?_|(apply S.lenO;exact rfl;exact rfl;exact rfl)|(apply S.indexO (o2 := (k) * 2);(iterate 4 exact rfl);omega;omega)|(apply S.indexO (o2 := (k - 1) * 2);(iterate 4 exact rfl);omega;omega)|(apply S.loadO;(iterate 4 exact rfl);exact Gh hx;exact J7 hx)|(apply S.loadO;(iterate 4 exact rfl);exact Gh hy;exact J7 hy)|(apply S.eq2;exact rfl;exact rfl;exact rfl)|(apply T.drawAll A0 (by decide +kernel))|(apply S.sliceFromO (o2 := k * 2) (l2 := l.length - k);(iterate 4 exact rfl);omega;omega;omega) | refine V ?_|(refine W2 ?_ ?_ <;> intro hc))
    have hxy := S9 he
    have hc1 : (cN l (k + 1)).length = k := by rw [Qd hx (by omega) (by rw [hy, hxy]), Pi k hk2 hu, List.length_take];omega
    have hM1 : cM l (k + 1) = l := by rw [cM, hc1, Qd hx (by omega) (by rw [hy, hxy]), Pi k hk2 hu, List.take_append_drop]
    refine T.loopS (fun i => 1 <= i /\ k + i <= l.length /\ (cN l (k + i)).length + 1 <= k + i) (fun i => l.length - (k + i)) (fun i => [(5, .i i), (3, .i (cN l (k + i)).length), (4, .own 0 (k * 2) (l.length - k) 2), (0, .own 0 0 l.length 2)]) (fun i => [.live (fa (cM l (k + i)))]) 1 ⟨Nat.le_refl _, by omega, by omega⟩ (.cons rfl rfl (.cons (by rw [hc1];rfl) rfl CV)) (by rw [hM1];exact .live (Gz _ _) .nil) ?_
    rintro i ⟨hi1, hi2, hi3⟩
    have hcl := Sb l (k + i)
    have hML := Acg l (k + i) hi2
    have hg := fun j => Acp l (k + i) j
    have hdf := fun q => Abo (l := l) (n := k + i) (q := q)
    have hcd := fun q => Ph (l := l) (n := k + i) (q := q)
    have hcs := fun q => Qd (l := l) (n := k + i) (q := q)
    have htk : k + i = l.length -> (cM l (k + i)).take (cN l (k + i)).length = cN l l.length := fun h => by rw [cM, List.take_left', h];rfl
    by_cases hli : (i : Int) < ((l.length - k : Nat) : Int)
    ·obtain ⟨u, hu'⟩ : ∃ u, l[k + i]? = some u := ⟨l[k + i], List.getElem?_eq_getElem (by omega)⟩
     obtain ⟨v, hv'⟩ : ∃ v, l[k + i - 1]? = some v := ⟨l[k + i - 1], List.getElem?_eq_getElem (by omega)⟩
     have hgu := (hg (k + i) (by omega) hi2).trans hu'
     have hgv := (hg (k + i - 1) (by omega) hi2).trans hv'
     by_cases hs : u.num = v.num /\ (u.den : Int) = (v.den : Int)
     ·have huv := S9 hs
      have hcc := hcs u hu' (by omega) (by rw [hv', huv])
      have hMM : cM l (k + i + 1) = cM l (k + i) := by rw [cM, cM, hcc]
      repeat' (first | refine W ?_|refine Za ?_|(apply S.lenO;exact rfl;exact rfl;exact rfl)|(apply S.indexO (o2 := (k + i) * 2);(iterate 4 exact rfl);omega;omega)|(apply S.indexO (o2 := (k + i - 1) * 2);(iterate 4 exact rfl);omega;omega)|(apply S.loadO;(iterate 4 exact rfl);exact Gh hgu;exact J7 hgu)|(apply S.loadO;(iterate 4 exact rfl);exact Gh hgv;exact J7 hgv)|(apply S.ne2;exact rfl;exact rfl;exact rfl)|(apply T.drawAll A0 (by decide +kernel)) | refine V ?_|(refine W2 ?_ ?_ <;> intro hc))
      change Next _ _ _ _ _ _
      exact Next.go (i + 1) ⟨by omega, by omega, by rw [<- Nat.add_assoc, hcc];omega⟩ (by omega) (.cons (by rw [show (((i + 1 : Nat) : Int)) = (i : Int) + 1 by omega];rfl) rfl (.cons (by rw [<- Nat.add_assoc, hcc];rfl) rfl CV)) (by rw [<- Nat.add_assoc, hMM];exact .live (Gz _ _) .nil)
     ·have huv := Rw hs
      have hdd : k + i ≠ 0 -> l[k + i - 1]? ≠ some u := fun _ e => by
       rw [hv'] at e
       injection e with e
       exact huv e.symm
      have hcc := hcd u hu' hdd
      have hMM := hdf u hu' hdd
      have hfs := Yo (cM l (k + i)) (cN l (k + i)).length u (by omega)
      rw [hMM] at hfs
      have hcl2 : (cN l (k + i + 1)).length = (cN l (k + i)).length + 1 := by rw [hcc, List.length_append];rfl
      generalize (cN l (k + i)).length = c at *
      repeat' (first | refine W ?_|refine Za ?_|(apply S.lenO;exact rfl;exact rfl;exact rfl)|(apply S.indexO (o2 := (k + i) * 2);(iterate 4 exact rfl);omega;omega)|(apply S.indexO (o2 := (k + i - 1) * 2);(iterate 4 exact rfl);omega;omega)|(apply S.indexO (o2 := (c) * 2);(iterate 4 exact rfl);omega;omega)|(apply S.loadO;(iterate 4 exact rfl);exact Gh hgu;exact J7 hgu)|(apply S.loadO;(iterate 4 exact rfl);exact Gh hgv;exact J7 hgv)|(apply S.ne2;exact rfl;exact rfl;exact rfl)|(apply S.storeW;(iterate 6 exact rfl);(rw [Sr];omega))|(apply T.drawAll A0 (by decide +kernel)) | refine V ?_|(refine W2 ?_ ?_ <;> intro hc))
      change Next _ _ _ _ _ _
      exact Next.go (i + 1) ⟨by omega, by omega, by rw [<- Nat.add_assoc, hcl2];omega⟩ (by omega) (.cons (by rw [show (((i + 1 : Nat) : Int)) = (i : Int) + 1 by omega];rfl) rfl (.cons (by rw [<- Nat.add_assoc, hcl2, show (((c + 1 : Nat) : Int)) = (c : Int) + 1 by omega];rfl) rfl CV)) (by rw [<- Nat.add_assoc];show CovH _ [HB.live (Be (c * 2) [.i u.num, .i u.den] (fa (cM l (k + i))))] _;rw [hfs];exact .live (Gz _ _) .nil)
    ·have hkl : k + i = l.length := by omega
     have htk' := htk hkl
     have hft := A1r (cM l (k + i)) (cN l (k + i)).length
     rw [htk'] at hft
     have hcl3 : (cN l (k + i)).length = (cN l l.length).length := by rw [hkl]
     generalize (cN l (k + i)).length = c at *
     repeat' (first | refine W ?_|(apply S.lenO;exact rfl;exact rfl;exact rfl)|(apply S.sliceFromO (o2 := c * 2) (l2 := l.length - c);(iterate 4 exact rfl);omega;omega;omega)|(apply S.sliceToO (l2 := c);(iterate 4 exact rfl);omega;omega)|(apply S.clearO;(iterate 4 exact rfl))|(apply T.ret;change Wk _ _ _ _ _ _ _) | refine V ?_|(refine W2 ?_ ?_ <;> intro hc))
     exact ⟨.inr rfl, 0, by rw [<- hcl3];exact .cons (.tmp rfl) .nil, by show HB.live _ = _;rw [hft]⟩
   ·skip
    repeat' (first | refine W ?_|refine Za ?_|(apply S.lenO;exact rfl;exact rfl;exact rfl)|(apply S.indexO (o2 := (k) * 2);(iterate 4 exact rfl);omega;omega)|(apply S.indexO (o2 := (k - 1) * 2);(iterate 4 exact rfl);omega;omega)|(apply S.loadO;(iterate 4 exact rfl);exact Gh hx;exact J7 hx)|(apply S.loadO;(iterate 4 exact rfl);exact Gh hy;exact J7 hy)|(apply S.eq2;exact rfl;exact rfl;exact rfl)|(apply T.drawAll A0 (by decide +kernel)) | refine V ?_|(refine W2 ?_ ?_ <;> intro hc))
    change Next _ _ _ _ _ _
    refine Next.go (k + 1) ⟨by omega, by omega, fun j h1 h3 => ?_⟩ (by omega) (.cons (by rw [show (((k + 1 : Nat) : Int)) = (k : Int) + 1 by omega];rfl) rfl (.cons rfl rfl .nil)) (.live (Gz _ _) .nil)
    by_cases hjk : j = k
    ·subst hjk
     rw [hx, hy]
     intro e
     injection e with e
     exact Rw he e
    ·exact hu j h1 (by omega)
  ·have hkl : k = l.length := by omega
   have hw := whole (by rw [<- hkl];exact hu)
   repeat' (first | refine W ?_|(apply S.lenO;exact rfl;exact rfl;exact rfl)|(apply T.ret;change Wk _ _ _ _ _ _ _) | refine V ?_|(refine W2 ?_ ?_ <;> intro hc))
   exact ⟨.inr rfl, 0, by rw [hw];exact .cons (.tmp rfl) .nil, by rw [hw];rfl⟩
end Go.Proofs.YtcbfnkgodiaiiaaGreat
