/- Contract: slices.SortFunc of fractions, by quadratic's compare. No conditions but those of each statement. | Contract: slices.Compact of fractions. No conditions but those of each statement. -/
import Derived.Test.YtlncmkafjjomgaaGreatNh
import Derived.Test.YtlncmkafjjomgaaGreatNx
import Derived.Test.YtlncmkafjjomgaaGreatNy
import Derived.Lib.QuietBelow
import Derived.Test.YtlncmkafjjomgaaGreatNn
set_option linter.unusedSimpArgs false
namespace Go.Proofs.YtlncmkafjjomgaaGreat
set_option linter.unusedVariables false
open Go Go.RowKit
abbrev FQ := {q : Rat // Fits q}
theorem fits_zq : Fits (0 : Rat) := by decide
instance : Inhabited FQ := ⟨⟨0, fits_zq⟩⟩
def encQ (x : FQ) : List Value := [.int .i64 x.1.num, .int .i64 x.1.den]
def cmpF (x y : FQ) : Int := cmpQ x.1 y.1
theorem ltF (x y : FQ) : Go.Proofs.ltOf cmpF x y = decide (x.1 < y.1) := by
 unfold Go.Proofs.ltOf cmpF
 by_cases h : x.1 < y.1
 ·rw [decide_eq_true h, decide_eq_true ((cmpQ_lt _ _).2 h)]
 ·rw [decide_eq_false h, decide_eq_false (fun k => h ((cmpQ_lt _ _).1 k))]
theorem swoQ : Go.Sort.SWO (Go.Proofs.ltOf cmpF) where
 irrefl x := by rw [ltF];exact decide_eq_false (by grind)
 trans x y z h k := by
  rw [ltF, decide_eq_true_eq] at *
  grind
 ntrans x y z h k := by
  rw [ltF, decide_eq_false_iff_not] at *
  grind
theorem rel_frac (w : World) (L : Nat → Prop) (x : FQ) : RelV w L noPl (rowA (frR x.1)) (.agg (encQ x).toArray) := by
 refine .agg _ (encQ x) rfl fun i y v hy hv => ?_
 match i with
 | 0 => simp [frR, encQ] at hy hv;subst hy hv;exact relV_val _
 | 1 => simp [frR, encQ] at hy hv;subst hy hv;exact relV_val _
 | i + 2 => simp [encQ] at hv
theorem compare_lays (x y : FQ) (W : World) (hG : Glob W) : Calls Tryz.prog 63 #[.agg (encQ x).toArray, .agg (encQ y).toArray] W fun e w' => e = .returned (.int .i64 (cmpF x y)) ∧ ∃ q os', w' = Go.Sort.grow (W.drewN q) os' := by
 have h := (qua_compare x.1 y.1 x.2 y.2).run (fun _ => False) W [.agg (encQ x).toArray, .agg (encQ y).toArray] hG (fun _ h => h.elim) rfl fun i z v hz hv => by
  match i with
  | 0 => simp at hz hv;subst hz hv;exact rel_frac _ _ x
  | 1 => simp at hz hv;subst hz hv;exact rel_frac _ _ y
  | i + 2 => simp at hv
 have h2 : Calls Tryz.prog 63 #[.agg (encQ x).toArray, .agg (encQ y).toArray] W fun e w' => e = .returned (.int .i64 (cmpF x y)) ∧ Below W.heap.size W w' := h.mono fun e w' ⟨v, he, hv, hb⟩ => ⟨by rw [he, hv.val_eq];rfl, hb⟩
 refine (Up.calls_up h2).mono fun e w' ⟨he, hb, hd⟩ => ⟨he, ?_⟩
 obtain ⟨p, hp⟩ := regrown_of_below hb
 have hpd : w'.drawn = p.d := by rw [hp];rfl
 refine ⟨p.d - W.drawn, p.os, ?_⟩
 rw [hp]
 have : W.drewN (p.d - W.drawn) = redrawn W p.d := by
  unfold World.drewN redrawn
  rw [show W.drawn + (p.d - W.drawn) = p.d by omega]
 rw [this]
def cellsF (l : List Rat) : List Lf := (l.map frR).flatten
theorem frR_row (l : List Rat) : ∀ r ∈ l.map frR, r.length = 2 := by
 intro r hr
 obtain ⟨n, _, rfl⟩ := List.mem_map.1 hr
 rfl
theorem cellsF_len (l : List Rat) : (cellsF l).length = l.length * 2 := by rw [cellsF, flatten_len _ (frR_row l), List.length_map]
theorem cellsF_append (l m : List Rat) : cellsF (l ++ m) = cellsF l ++ cellsF m := by simp [cellsF]
def valsF (d : Array FQ) : List Rat := d.toList.map (·.1)
theorem cellsF_get (d : Array FQ) (t : Nat) (ht : t < d.size * 2) : (cellsF (valsF d))[t]? = some (.val ((Go.Sort.flatK encQ 2 d)[t]!)) := by
 have h1 : t / 2 < d.size := by omega
 rw [Go.Sort.get_flatK _ _ _ _ ht, cellsF]
 have := flatten_at ((valsF d).map frR) (t / 2) (t % 2) (frR_row _) (Nat.mod_lt _ (by decide))
 rw [show t / 2 * 2 + t % 2 = t by omega] at this
 rw [this, valsF, List.map_map, List.getElem?_map, List.getElem?_eq_getElem (by simpa using h1), getElem!_pos d _ h1]
 rcases Nat.mod_two_eq_zero_or_one t with e | e <;> rw [e] <;> simp [encQ]
theorem sort_heap (w : World) (blk off n : Nat) (d : Array FQ) (os : Array Obj) (k : Nat) (hk : k < w.heap.size) : (Go.Proofs.sortWorldK encQ 2 w blk off n d os).heap[k]? = if blk = k then (w.heap[k]?).map (Go.Sort.onCells (Go.Sort.putCells id off (Go.Sort.flatK encQ 2 d))) else w.heap[k]? := by
 show (w.heap.modify blk (Go.Sort.onCells (Go.Sort.putCells id off (Go.Sort.flatK encQ 2 d))) ++ os)[k]? = _
 rw [Array.getElem?_append_left (by simpa using hk), Array.getElem?_modify]
theorem putCells_size (off : Nat) (F c : Array Value) : (Go.Sort.putCells id off F c).size = c.size := by simp [Go.Sort.putCells]
theorem sort_fr (w : World) (blk off n : Nat) (d : Array FQ) (os : Array Obj) : Fr (fun j => j = blk) w (Go.Proofs.sortWorldK encQ 2 w blk off n d os) := by
 have hs : w.heap.size ≤ (Go.Proofs.sortWorldK encQ 2 w blk off n d os).heap.size := by
  show w.heap.size ≤ (w.heap.modify blk _ ++ os).size
  simp
 refine ⟨rfl, rfl, rfl, hs, fun k hk hn => by rw [sort_heap w blk off n d os k hk, if_neg (fun e => hn e.symm)], fun k x hx => ?_⟩
 have hk := shape_lt hx
 unfold World.shape? at hx ⊢
 rw [sort_heap w blk off n d os k hk]
 by_cases e : blk = k
 ·rw [if_pos e]
  cases hh : w.heap[k]? with
  | none => rw [hh] at hx;cases hx
  | some ob =>
   rw [hh] at hx
   cases ob with
   | cells c e fr => simpa [Go.Sort.onCells, putCells_size] using hx
   | _ => exact hx
 ·rw [if_neg e];exact hx
def SortedOf (l : List Rat) (xs : List Lf) : Prop := ∃ l', xs = cellsF l' ∧ l'.Perm l ∧ l'.Pairwise (· ≤ ·)
theorem sort_fracs (l : List Rat) (hl : ∀ q ∈ l, Fits q) (hn : l.length < 4611686018427387904) : FnSort Tryz.prog 147 63 2 l.length (cellsF l) (SortedOf l) := by
 refine ⟨⟨_, Tryz.func147, by kernel_rfl, rfl⟩, fun L w k o cap c el lo hi hG hL hLk hw hlo hcap hfit hc => ?_⟩
 let d : Array FQ := (l.pmap (fun q h => (⟨q, h⟩ : FQ)) hl).toArray
 have hd : valsF d = l := by
  simp only [valsF, d, List.map_pmap]
  rw [List.pmap_eq_map, List.map_id']
 have hds : d.size = l.length := by simp [d]
 have hkw : k < w.heap.size := heap_lt hw
 have hfit2 : o + l.length * 2 ≤ c.size := by omega
 have hH : Go.Sort.HoldsK encQ 2 w k o d := by
  intro t ht
  rw [Go.Sort.size_flatK] at ht
  have h1 := cellsF_get d t ht
  rw [hd] at h1
  obtain ⟨u, h2, h3⟩ := hc t _ h1
  rw [h3.val_eq] at h2
  refine ⟨live_cell hw h2, ?_⟩
  simp only [World.frozen?, hw]
  simp
  omega
 have hcmp : Go.Proofs.CmpLays Tryz.prog 63 #[] encQ 2 cmpF k o d.size w := fun m os dk hs x y => compare_lays x y _ (hG _ (sort_fr w k o m dk os))
 have h := Go.Proofs.AnyQ.slices_SortFunc Tryz.srt 2 Tryz.isAgg30 Tryz.sizeOf30 encQ (fun _ => rfl) (fun x v hv => by simp [encQ] at hv;rcases hv with rfl | rfl <;> rfl) cmpF swoQ 63 #[] k o cap d w (enters_of Tryz.func63 (by kernel_rfl) rfl) hcmp hH hkw (by rw [hds];exact hn)
 rw [hds] at h
 refine h.mono ?_
 rintro e w' ⟨rfl, d', n, os, ⟨hs', _, hperm⟩, hsort, rfl⟩
 have hs2 : d'.size = l.length := by rw [hs', hds]
 have hlen : (cellsF (valsF d')).length = l.length * 2 := by rw [cellsF_len];simp [valsF, hs2]
 have hwk : (Go.Proofs.sortWorldK encQ 2 w k o n d' os).heap[k]? = some (.cells (Go.Sort.putCells id o (Go.Sort.flatK encQ 2 d') c) el (lo, hi)) := by
  rw [sort_heap w k o n d' os k hkw, if_pos rfl, hw];rfl
 refine ⟨rfl, sort_fr w k o n d' os, cellsF (valsF d'), _, ⟨valsF d', rfl, ?_, ?_⟩, hwk, putCells_size _ _ _, by rw [hlen, cellsF_len], fun j x hj => ?_⟩
 ·have hp : d'.toList.Perm d.toList := by
   have e1 : d'.extract 0 l.length = d' := by rw [← hs2];exact Array.extract_size
   have e2 : d.extract 0 l.length = d := by rw [← hds];exact Array.extract_size
   rw [e1, e2] at hperm
   exact hperm
  rw [← hd]
  exact hp.map _
 ·rw [List.pairwise_iff_getElem]
  intro i j hi hj hij
  have hi' : i < d'.size := by simpa [valsF] using hi
  have hj' : j < d'.size := by simpa [valsF] using hj
  have := hsort i j (Nat.zero_le _) hij (by omega)
  rw [ltF, decide_eq_false_iff_not, getElem!_pos d' j hj', getElem!_pos d' i hi'] at this
  simp only [valsF, List.getElem_map, Array.getElem_toList]
  grind
 ·have hjl : j < d'.size * 2 := by rw [hs2, ← hlen];exact (List.getElem?_eq_some_iff.1 hj).1
  rw [cellsF_get d' j hjl] at hj
  injection hj with hj
  subst hj
  refine ⟨_, ?_, .val _⟩
  simp only [Go.Sort.putCells, Array.getElem?_mapIdx]
  rw [Array.getElem?_eq_getElem (by omega)]
  simp only [Option.map_some]
  rw [if_pos ⟨by omega, by rw [Go.Sort.size_flatK];omega⟩]
  simp
end Go.Proofs.YtlncmkafjjomgaaGreat
set_option linter.unusedSimpArgs false
namespace Go.Proofs.YtlncmkafjjomgaaGreat
set_option linter.unusedVariables false
open Go Go.RowKit
def cN (l : List Rat) : Nat → List Rat
 | 0 => []
 | n + 1 => cN l n ++ (if n ≠ 0 ∧ l[n]? = l[n - 1]? then [] else (l[n]?).toList)
theorem cN_diff {l : List Rat} {n : Nat} {q : Rat} (h : l[n]? = some q) (hd : n ≠ 0 → l[n - 1]? ≠ some q) : cN l (n + 1) = cN l n ++ [q] := by
 rw [cN, if_neg, h];rfl
 rintro ⟨h1, h2⟩
 exact hd h1 (by rw [← h2, h])
theorem cN_same {l : List Rat} {n : Nat} {q : Rat} (h : l[n]? = some q) (h0 : n ≠ 0) (hd : l[n - 1]? = some q) : cN l (n + 1) = cN l n := by
 rw [cN, if_pos ⟨h0, by rw [h, hd]⟩, List.append_nil]
theorem cN_take {l : List Rat} : ∀ (n : Nat), n ≤ l.length → (∀ j, 0 < j → j < n → l[j]? ≠ l[j - 1]?) → cN l n = l.take n
 | 0, _, _ => by simp [cN]
 | n + 1, h, hu => by
  have hx : l[n]? = some l[n] := List.getElem?_eq_getElem (by omega)
  rw [cN_diff hx (fun h0 e => hu n (by omega) (by omega) (by rw [e, hx])), cN_take n (by omega) fun j h1 h2 => hu j h1 (by omega), List.take_add_one, hx]
  rfl
theorem cN_len (l : List Rat) : ∀ (n : Nat), (cN l n).length ≤ n
 | 0 => by simp [cN]
 | n + 1 => by
  rw [cN, List.length_append]
  have := cN_len l n
  split
  ·simp;omega
  ·cases l[n]? <;> simp <;> omega
abbrev fa (l : List Rat) : List AV := (cellsF l).map .lf
theorem fa_len (l : List Rat) : (fa l).length = l.length * 2 := by rw [List.length_map, cellsF_len]
theorem fa_cons (q : Rat) (l : List Rat) : fa (q :: l) = .i q.num :: .i q.den :: fa l := rfl
theorem fa_load : ∀ {l : List Rat} {j : Nat} {q : Rat}, l[j]? = some q → ((fa l).drop (j * 2)).take 2 = [.i q.num, .i q.den]
 | [], j, q, h => by simp at h
 | x :: l, 0, q, h => by
  simp only [List.getElem?_cons_zero, Option.some.injEq] at h
  subst h
  rfl
 | x :: l, j + 1, q, h => by
  rw [fa_cons, show (j + 1) * 2 = j * 2 + 1 + 1 by omega, List.drop_succ_cons, List.drop_succ_cons]
  exact fa_load (by simpa using h)
theorem fa_store : ∀ (l : List Rat) (j : Nat) (q : Rat), j < l.length → setA (j * 2) [.i q.num, .i q.den] (fa l) = fa (l.set j q)
 | [], j, q, h => by simp at h
 | x :: l, 0, q, h => by
  rw [List.set_cons_zero, fa_cons, fa_cons]
  simp [setA, setA_nil]
 | x :: l, j + 1, q, h => by
  rw [List.set_cons_succ, fa_cons, fa_cons, ← fa_store l j q (by simpa using h), show (j + 1) * 2 = j * 2 + 2 by omega]
  simp [setA]
theorem fa_take : ∀ (l : List Rat) (j : Nat), (fa l).take (j * 2) = fa (l.take j)
 | [], j => by rw [show fa [] = [] from rfl, List.take_nil, List.take_nil];rfl
 | x :: l, 0 => rfl
 | x :: l, j + 1 => by
  rw [List.take_succ_cons, fa_cons, fa_cons, show (j + 1) * 2 = j * 2 + 1 + 1 by omega, List.take_succ_cons, List.take_succ_cons, fa_take l j]
theorem lt_of_get {l : List Rat} {j : Nat} {q : Rat} (h : l[j]? = some q) : j < l.length := (List.getElem?_eq_some_iff.1 h).1
theorem fa_fit {l : List Rat} {j : Nat} {q : Rat} (h : l[j]? = some q) : j * 2 + 2 ≤ (fa l).length := by
 have := lt_of_get h
 rw [fa_len]
 omega
theorem under_fa (n : Nat) (l : List Rat) : (fa l).all (AV.under n) = true := under_lf n _
def cM (l : List Rat) (n : Nat) : List Rat := cN l n ++ l.drop (cN l n).length
theorem cM_get (l : List Rat) (n j : Nat) (h : (cN l n).length ≤ j) (hn : n ≤ l.length) : (cM l n)[j]? = l[j]? := by
 rw [cM, List.getElem?_append_right h, List.getElem?_drop]
 congr 1
 omega
theorem cM_len (l : List Rat) (n : Nat) (hn : n ≤ l.length) : (cM l n).length = l.length := by
 have := cN_len l n
 rw [cM, List.length_append, List.length_drop]
 omega
theorem cM_diff {l : List Rat} {n : Nat} {q : Rat} (h : l[n]? = some q) (hd : n ≠ 0 → l[n - 1]? ≠ some q) : (cM l n).set (cN l n).length q = cM l (n + 1) := by
 have h1 := cN_len l n
 have h2 := lt_of_get h
 have h3 : (cN l n).length < l.length := by omega
 rw [cM, cM, cN_diff h hd, List.set_append_right _ _ (Nat.le_refl _), Nat.sub_self, List.length_append, List.length_singleton, List.append_assoc]
 congr 1
 rw [List.drop_eq_getElem_cons h3, List.set_cons_zero]
 rfl
theorem ne_of_ratN {p q : Rat} (h : ¬ (p.num = q.num ∧ (p.den : Int) = (q.den : Int))) : p ≠ q := by
 rintro rfl
 exact h ⟨rfl, rfl⟩
theorem eq_of_ratN {p q : Rat} (h : p.num = q.num ∧ (p.den : Int) = (q.den : Int)) : p = q := Rat.ext h.1 (by omega)
set_option maxHeartbeats 16000000 in
theorem compact_fracs (l : List Rat) (hn : l.length ≤ 1000000) : FnMut Tryz.prog 148 2 l.length (cellsF l) (cN l l.length).length (cellsF (cN l l.length)) := by
 refine FnMut.of Tryz.func148 Tryz.ntmps148 rfl rfl rfl ?_
 have whole : (∀ j, 0 < j → j < l.length → l[j]? ≠ l[j - 1]?) → cN l l.length = l := fun h => by rw [cN_take _ (Nat.le_refl _) h, List.take_length]
 by_cases h2 : (l.length : Int) < 2
 ·have hw := whole fun j h1 h3 => by omega
  repeat' (first|(apply S.move;exact rfl;exact rfl)|(apply S.assign;exact rfl;exact rfl)|(apply S.lenO;exact rfl;exact rfl;exact rfl)|(apply T.ret;change DoneM _ _ _ _ _ _ _)|(apply S.cmp;(iterate 4 exact rfl)) | apply S.nil | apply T.regs|(apply T.cT;exact rfl;assumption) | apply T.seq)
  exact ⟨.inr rfl, 0, by rw [hw];exact .cons (.tmp rfl) .nil, by rw [hw];rfl⟩
 ·repeat' (first|(apply S.move;exact rfl;exact rfl)|(apply S.assign;exact rfl;exact rfl)|(apply S.lenO;exact rfl;exact rfl;exact rfl)|(apply S.cmp;(iterate 4 exact rfl)) | apply S.nil | apply T.regs|(apply T.cF;exact rfl;assumption) | apply T.seq|(apply T.skip;first | change T _ _ _ _ _ | change Done _ _ _ _ _ | change Next _ _ _ _ _ _ | skip) | apply T.block)
  refine T.loopS (fun k => 1 ≤ k ∧ k ≤ l.length ∧ ∀ j, 0 < j → j < k → l[j]? ≠ l[j - 1]?) (fun k => l.length - k) (fun k => [(3, .i k), (0, .own 0 0 l.length 2)]) (fun k => [.live (fa l)]) 1 ⟨Nat.le_refl _, by omega, fun j h1 h2 => by omega⟩ (.cons rfl rfl (.cons rfl rfl .nil)) (.live (under_fa _ _) .nil) ?_
  rintro k ⟨hk1, hk2, hu⟩
  by_cases hlt : (k : Int) < (l.length : Nat)
  ·obtain ⟨x, hx⟩ : ∃ x, l[k]? = some x := ⟨l[k], List.getElem?_eq_getElem (by omega)⟩
   obtain ⟨y, hy⟩ : ∃ y, l[k - 1]? = some y := ⟨l[k - 1], List.getElem?_eq_getElem (by omega)⟩
   by_cases he : x.num = y.num ∧ (x.den : Int) = (y.den : Int)
   ·skip
    repeat' (first|(apply S.move;exact rfl;exact rfl)|(apply S.assign;exact rfl;exact rfl)|(apply S.arith;(iterate 4 exact rfl);omega)|(apply S.lenO;exact rfl;exact rfl;exact rfl)|(apply S.indexO (o2 := (k) * 2);(iterate 4 exact rfl);omega;omega)|(apply S.indexO (o2 := (k - 1) * 2);(iterate 4 exact rfl);omega;omega)|(apply S.loadO;(iterate 4 exact rfl);exact fa_load hx;exact fa_fit hx)|(apply S.loadO;(iterate 4 exact rfl);exact fa_load hy;exact fa_fit hy)|(apply S.eq2;exact rfl;exact rfl;exact rfl)|(apply T.drawAll anyOrder (by decide +kernel))|(apply S.sliceFromO (o2 := k * 2) (l2 := l.length - k);(iterate 4 exact rfl);omega;omega;omega)|(apply S.cmp;(iterate 4 exact rfl)) | apply S.nil | apply T.regs|(apply T.cT;exact rfl;assumption) | apply T.seq|(apply T.skip;first | change T _ _ _ _ _ | change Done _ _ _ _ _ | change Next _ _ _ _ _ _ | skip) | apply T.block)
    have hxy := eq_of_ratN he
    have hc1 : (cN l (k + 1)).length = k := by rw [cN_same hx (by omega) (by rw [hy, hxy]), cN_take k hk2 hu, List.length_take];omega
    have hM1 : cM l (k + 1) = l := by rw [cM, hc1, cN_same hx (by omega) (by rw [hy, hxy]), cN_take k hk2 hu, List.take_append_drop]
    refine T.loopS (fun i => 1 ≤ i ∧ k + i ≤ l.length ∧ (cN l (k + i)).length + 1 ≤ k + i) (fun i => l.length - (k + i)) (fun i => [(5, .i i), (3, .i (cN l (k + i)).length), (4, .own 0 (k * 2) (l.length - k) 2), (0, .own 0 0 l.length 2)]) (fun i => [.live (fa (cM l (k + i)))]) 1 ⟨Nat.le_refl _, by omega, by omega⟩ (.cons rfl rfl (.cons (by rw [hc1];rfl) rfl (.cons rfl rfl (.cons rfl rfl .nil)))) (by rw [hM1];exact .live (under_fa _ _) .nil) ?_
    rintro i ⟨hi1, hi2, hi3⟩
    have hcl := cN_len l (k + i)
    have hML := cM_len l (k + i) hi2
    have hg := fun j => cM_get l (k + i) j
    have hdf := fun q => cM_diff (l := l) (n := k + i) (q := q)
    have hcd := fun q => cN_diff (l := l) (n := k + i) (q := q)
    have hcs := fun q => cN_same (l := l) (n := k + i) (q := q)
    have htk : k + i = l.length → (cM l (k + i)).take (cN l (k + i)).length = cN l l.length := fun h => by rw [cM, List.take_left', h];rfl
    by_cases hli : (i : Int) < ((l.length - k : Nat) : Int)
    ·obtain ⟨u, hu'⟩ : ∃ u, l[k + i]? = some u := ⟨l[k + i], List.getElem?_eq_getElem (by omega)⟩
     obtain ⟨v, hv'⟩ : ∃ v, l[k + i - 1]? = some v := ⟨l[k + i - 1], List.getElem?_eq_getElem (by omega)⟩
     have hgu := (hg (k + i) (by omega) hi2).trans hu'
     have hgv := (hg (k + i - 1) (by omega) hi2).trans hv'
     by_cases hs : u.num = v.num ∧ (u.den : Int) = (v.den : Int)
     ·have huv := eq_of_ratN hs
      have hcc := hcs u hu' (by omega) (by rw [hv', huv])
      have hMM : cM l (k + i + 1) = cM l (k + i) := by rw [cM, cM, hcc]
      repeat' (first|(apply S.move;exact rfl;exact rfl)|(apply S.assign;exact rfl;exact rfl)|(apply S.arith;(iterate 4 exact rfl);omega)|(apply S.lenO;exact rfl;exact rfl;exact rfl)|(apply S.indexO (o2 := (k + i) * 2);(iterate 4 exact rfl);omega;omega)|(apply S.indexO (o2 := (k + i - 1) * 2);(iterate 4 exact rfl);omega;omega)|(apply S.loadO;(iterate 4 exact rfl);exact fa_load hgu;exact fa_fit hgu)|(apply S.loadO;(iterate 4 exact rfl);exact fa_load hgv;exact fa_fit hgv)|(apply S.ne2;exact rfl;exact rfl;exact rfl)|(apply T.drawAll anyOrder (by decide +kernel))|(apply S.cmp;(iterate 4 exact rfl)) | apply S.nil | apply T.regs | apply T.reg|(apply T.cT;exact rfl;assumption)|(apply T.cFn;exact rfl;assumption) | apply T.seq|(apply T.skip;first | change T _ _ _ _ _ | change Done _ _ _ _ _ | change Next _ _ _ _ _ _ | skip) | apply T.block)
      change Next _ _ _ _ _ _
      exact Next.go (i + 1) ⟨by omega, by omega, by rw [← Nat.add_assoc, hcc];omega⟩ (by omega) (.cons (by rw [show (((i + 1 : Nat) : Int)) = (i : Int) + 1 by omega];rfl) rfl (.cons (by rw [← Nat.add_assoc, hcc];rfl) rfl (.cons rfl rfl (.cons rfl rfl .nil)))) (by rw [← Nat.add_assoc, hMM];exact .live (under_fa _ _) .nil)
     ·have huv := ne_of_ratN hs
      have hdd : k + i ≠ 0 → l[k + i - 1]? ≠ some u := fun _ e => by
       rw [hv'] at e
       injection e with e
       exact huv e.symm
      have hcc := hcd u hu' hdd
      have hMM := hdf u hu' hdd
      have hfs := fa_store (cM l (k + i)) (cN l (k + i)).length u (by omega)
      rw [hMM] at hfs
      have hcl2 : (cN l (k + i + 1)).length = (cN l (k + i)).length + 1 := by rw [hcc, List.length_append];rfl
      generalize (cN l (k + i)).length = c at *
      repeat' (first|(apply S.move;exact rfl;exact rfl)|(apply S.assign;exact rfl;exact rfl)|(apply S.arith;(iterate 4 exact rfl);omega)|(apply S.lenO;exact rfl;exact rfl;exact rfl)|(apply S.indexO (o2 := (k + i) * 2);(iterate 4 exact rfl);omega;omega)|(apply S.indexO (o2 := (k + i - 1) * 2);(iterate 4 exact rfl);omega;omega)|(apply S.indexO (o2 := (c) * 2);(iterate 4 exact rfl);omega;omega)|(apply S.loadO;(iterate 4 exact rfl);exact fa_load hgu;exact fa_fit hgu)|(apply S.loadO;(iterate 4 exact rfl);exact fa_load hgv;exact fa_fit hgv)|(apply S.ne2;exact rfl;exact rfl;exact rfl)|(apply S.storeW;(iterate 6 exact rfl);(rw [fa_len];omega))|(apply T.drawAll anyOrder (by decide +kernel))|(apply S.cmp;(iterate 4 exact rfl)) | apply S.nil | apply T.regs | apply T.reg|(apply T.cT;exact rfl;assumption) | apply T.seq|(apply T.skip;first | change T _ _ _ _ _ | change Done _ _ _ _ _ | change Next _ _ _ _ _ _ | skip) | apply T.block)
      change Next _ _ _ _ _ _
      exact Next.go (i + 1) ⟨by omega, by omega, by rw [← Nat.add_assoc, hcl2];omega⟩ (by omega) (.cons (by rw [show (((i + 1 : Nat) : Int)) = (i : Int) + 1 by omega];rfl) rfl (.cons (by rw [← Nat.add_assoc, hcl2, show (((c + 1 : Nat) : Int)) = (c : Int) + 1 by omega];rfl) rfl (.cons rfl rfl (.cons rfl rfl .nil)))) (by rw [← Nat.add_assoc];show CovH _ [HB.live (setA (c * 2) [.i u.num, .i u.den] (fa (cM l (k + i))))] _;rw [hfs];exact .live (under_fa _ _) .nil)
    ·have hkl : k + i = l.length := by omega
     have htk' := htk hkl
     have hft := fa_take (cM l (k + i)) (cN l (k + i)).length
     rw [htk'] at hft
     have hcl3 : (cN l (k + i)).length = (cN l l.length).length := by rw [hkl]
     generalize (cN l (k + i)).length = c at *
     repeat' (first|(apply S.move;exact rfl;exact rfl)|(apply S.assign;exact rfl;exact rfl)|(apply S.lenO;exact rfl;exact rfl;exact rfl)|(apply S.sliceFromO (o2 := c * 2) (l2 := l.length - c);(iterate 4 exact rfl);omega;omega;omega)|(apply S.sliceToO (l2 := c);(iterate 4 exact rfl);omega;omega)|(apply S.clearO;(iterate 4 exact rfl))|(apply T.ret;change DoneM _ _ _ _ _ _ _)|(apply S.cmp;(iterate 4 exact rfl)) | apply S.nil | apply T.regs|(apply T.cF;exact rfl;assumption) | apply T.seq|(apply T.exit;first | change T _ _ _ _ _ | change Done _ _ _ _ _ | change Next _ _ _ _ _ _ | skip))
     exact ⟨.inr rfl, 0, by rw [← hcl3];exact .cons (.tmp rfl) .nil, by show HB.live _ = _;rw [hft]⟩
   ·skip
    repeat' (first|(apply S.move;exact rfl;exact rfl)|(apply S.assign;exact rfl;exact rfl)|(apply S.arith;(iterate 4 exact rfl);omega)|(apply S.lenO;exact rfl;exact rfl;exact rfl)|(apply S.indexO (o2 := (k) * 2);(iterate 4 exact rfl);omega;omega)|(apply S.indexO (o2 := (k - 1) * 2);(iterate 4 exact rfl);omega;omega)|(apply S.loadO;(iterate 4 exact rfl);exact fa_load hx;exact fa_fit hx)|(apply S.loadO;(iterate 4 exact rfl);exact fa_load hy;exact fa_fit hy)|(apply S.eq2;exact rfl;exact rfl;exact rfl)|(apply T.drawAll anyOrder (by decide +kernel))|(apply S.cmp;(iterate 4 exact rfl)) | apply S.nil | apply T.regs | apply T.reg|(apply T.cT;exact rfl;assumption)|(apply T.cF;exact rfl;assumption) | apply T.seq|(apply T.skip;first | change T _ _ _ _ _ | change Done _ _ _ _ _ | change Next _ _ _ _ _ _ | skip) | apply T.block)
    change Next _ _ _ _ _ _
    refine Next.go (k + 1) ⟨by omega, by omega, fun j h1 h3 => ?_⟩ (by omega) (.cons (by rw [show (((k + 1 : Nat) : Int)) = (k : Int) + 1 by omega];rfl) rfl (.cons rfl rfl .nil)) (.live (under_fa _ _) .nil)
    by_cases hjk : j = k
    ·subst hjk
     rw [hx, hy]
     intro e
     injection e with e
     exact ne_of_ratN he e
    ·exact hu j h1 (by omega)
  ·have hkl : k = l.length := by omega
   have hw := whole (by rw [← hkl];exact hu)
   repeat' (first|(apply S.move;exact rfl;exact rfl)|(apply S.assign;exact rfl;exact rfl)|(apply S.lenO;exact rfl;exact rfl;exact rfl)|(apply T.ret;change DoneM _ _ _ _ _ _ _)|(apply S.cmp;(iterate 4 exact rfl)) | apply S.nil | apply T.regs|(apply T.cF;exact rfl;assumption) | apply T.seq|(apply T.exit;first | change T _ _ _ _ _ | change Done _ _ _ _ _ | change Next _ _ _ _ _ _ | skip))
   exact ⟨.inr rfl, 0, by rw [hw];exact .cons (.tmp rfl) .nil, by rw [hw];rfl⟩
end Go.Proofs.YtlncmkafjjomgaaGreat
