/- Plain facts on numbers by their words of 32 bits, the T3 one first: no program. -/
import Derived.Lib.Hide
import Derived.Test.YtcbfnkgodiaiiaaGreatNe
import Derived.Test.YtcbfnkgodiaiiaaGreatMp
set_option linter.unusedSimpArgs false
set_option linter.unusedVariables false
namespace Go.Proofs.YtcbfnkgodiaiiaaGreat
def val : List Nat -> Nat
 | [] => 0
 | d :: r => d + 4294967296 * val r
def Dig (l : List Nat) : Prop := ∀ x ∈ l, x < 4294967296
theorem Ma : ∀ (a b : List Nat), val (a ++ b) = val a + 4294967296 ^ a.length * val b
 | [], b => by simp [val]
 | d :: r, b => by
  simp only [List.cons_append, val, Ma r b, List.length_cons, Nat.pow_succ, Nat.mul_add]
  rw [Nat.mul_comm (4294967296 ^ r.length) 4294967296, Nat.mul_assoc]
  omega
theorem Kl : ∀ (l : List Nat), Dig l -> val l < 4294967296 ^ l.length
 | [], _ => by simp [val]
 | d :: r, h => by
  have h1 := Kl r fun x hx => h x (by simp [hx])
  have h2 := h d (by simp)
  simp only [val, List.length_cons, Nat.pow_succ]
  omega
theorem Dig.take {l : List Nat} (h : Dig l) (k : Nat) : Dig (l.take k) := fun x hx => h x (List.mem_of_mem_take hx)
theorem Dig.get {l : List Nat} (h : Dig l) {i x : Nat} (hx : l[i]? = some x) : x < 4294967296 := h x (List.mem_of_getElem? hx)
theorem Dig.set {l : List Nat} (h : Dig l) (i : Nat) {x : Nat} (hx : x < 4294967296) : Dig (l.set i x) := fun y hy => by
 rcases List.mem_or_eq_of_mem_set hy with h1 | h1
 ·exact h y h1
 ·rw [h1];exact hx
theorem Gu {l : List Nat} {i x : Nat} (hx : l[i]? = some x) : val (l.take (i + 1)) = val (l.take i) + 4294967296 ^ i * x := by
 have hi : i < l.length := (List.getElem?_eq_some_iff.1 hx).1
 rw [List.take_add_one, hx, Ma]
 simp [val, Nat.min_eq_left (Nat.le_of_lt hi)]
theorem Lw : ∀ (l : List Nat) (i x y : Nat), l[i]? = some y -> val (l.set i x) + 4294967296 ^ i * y = val l + 4294967296 ^ i * x
 | [], i, x, y, h => by simp at h
 | d :: r, 0, x, y, h => by
  simp at h;subst h
  simp only [List.set_cons_zero, val, Nat.pow_zero, Nat.one_mul];omega
 | d :: r, i + 1, x, y, h => by
  have := Lw r i x y (by simpa using h)
  simp only [List.set_cons_succ, val, Nat.pow_succ]
  rw [Nat.mul_comm (4294967296 ^ i) 4294967296, Nat.mul_assoc, Nat.mul_assoc]
  omega
theorem Ks : ∀ n : Nat, val (List.replicate n 0) = 0
 | 0 => rfl
 | n + 1 => by simp [List.replicate_succ, val, Ks n]
def Lc (l : List Nat) : Prop := ∀ x, l.getLast? = some x -> x ≠ 0
theorem Ra {l : List Nat} (h : Lc l) (hne : l ≠ []) : 4294967296 ^ (l.length - 1) <= val l := by
 obtain ⟨r, x, rfl⟩ : ∃ r x, l = r ++ [x] := ⟨l.dropLast, l.getLast hne, (List.dropLast_concat_getLast hne).symm⟩
 have hx : x ≠ 0 := h x (by simp)
 rw [Ma]
 simp only [List.length_append, List.length_singleton, Nat.add_sub_cancel, val, Nat.mul_zero, Nat.add_zero]
 have : 4294967296 ^ r.length * 1 <= 4294967296 ^ r.length * x := Nat.mul_le_mul_left _ (by omega)
 omega
theorem R5 {a b : List Nat} (ta : Lc a) (db : Dig b) (h : b.length < a.length) : val b < val a := by
 have h1 := Ra ta (by intro e;rw [e] at h;simp at h)
 have h2 := Kl b db
 have h3 : (4294967296 : Nat) ^ b.length <= 4294967296 ^ (a.length - 1) := Nat.pow_le_pow_right (by decide) (by omega)
 omega
theorem A4e {l : List Nat} (h : Lc l) : val l = 0 ↔ l = [] := by
 constructor
 ·intro h0
  by_cases he : l = []
  ·exact he
  ·have h1 := Ra h he
   have h2 : 0 < (4294967296 : Nat) ^ (l.length - 1) := Nat.pow_pos (by decide)
   omega
 ·rintro rfl;rfl
theorem Aa9 : Lc [] := fun x h => by simp at h
theorem W9 {l : List Nat} {k : Nat} (hk : l[k]? = some 0) : val (l.take (k + 1)) = val (l.take k) := by
 rw [Gu hk];simp
theorem A58 {l : List Nat} {k x : Nat} (hk : l[k]? = some x) (hx : x ≠ 0) : Lc (l.take (k + 1)) := fun y hy => by
 rw [List.take_add_one, hk] at hy
 simp at hy
 omega
/-! ### Sums -/
def Lr (a b m : List Nat) (i c : Nat) : Prop := m.length = a.length + 1 /\ Dig m /\ (∀ j, i <= j -> j < m.length -> m[j]? = some 0) /\ val m + 4294967296 ^ i * c = val (a.take i) + val (b.take i) /\ c <= 1
theorem V8 (a b : List Nat) : Lr a b (List.replicate (a.length + 1) 0) 0 0 := by
 refine ⟨by simp, fun x hx => by rw [List.eq_of_mem_replicate hx];decide, fun j _ hj => ?_, by simp [Ks, val], by omega⟩
 simp at hj
 rw [List.getElem?_replicate, if_pos hj]
theorem Ei (l : List Nat) (i : Nat) : val (l.take (i + 1)) = val (l.take i) + 4294967296 ^ i * l[i]?.getD 0 := by
 cases h : l[i]? with
 | none =>
  have := List.getElem?_eq_none_iff.1 h
  rw [List.take_of_length_le (by omega), List.take_of_length_le (by omega)]
  simp
 | some x => rw [Gu h];rfl
theorem A6m {a : List Nat} (da : Dig a) (i : Nat) : a[i]?.getD 0 < 4294967296 := by
 cases e : a[i]? with
 | none => simp
 | some x => exact da.get e
theorem Ic {a b m : List Nat} {i c q r : Nat} (da : Dig a) (db : Dig b) (h : Lr a b m i c) (hi : i < m.length) (hr : r < 4294967296) (hq : 4294967296 * q + r = c + a[i]?.getD 0 + b[i]?.getD 0) : Lr a b (m.set i r) (i + 1) q := by
 obtain ⟨h1, h2, h3, h4, h5⟩ := h
 have ha := A6m da i
 have hb := A6m db i
 refine ⟨by simpa using h1, h2.set i hr, fun j hj hjl => ?_, ?_, by omega⟩
 ·rw [List.getElem?_set_ne (by omega)]
  exact h3 j (by omega) (by simpa using hjl)
 ·have e := Lw m i r 0 (h3 i (Nat.le_refl _) hi)
  rw [Ei, Ei, Nat.pow_succ]
  generalize a[i]?.getD 0 = x at *
  generalize b[i]?.getD 0 = y at *
  have : 4294967296 ^ i * 4294967296 * q + 4294967296 ^ i * r = 4294967296 ^ i * c + 4294967296 ^ i * x + 4294967296 ^ i * y := by
   rw [Nat.mul_assoc, <- Nat.mul_add, hq, Nat.mul_add, Nat.mul_add]
  omega
theorem A3o {P m va vb c : Nat} (h : m + P * 4294967296 * c = va + vb) (ha : va < P) (hb : vb < P) : m = va + vb := by
 rcases Nat.lt_or_ge 0 c with hc | hc
 ·have : P * 4294967296 * 1 <= P * 4294967296 * c := Nat.mul_le_mul_left _ hc
  rw [Nat.mul_one] at this
  generalize P * 4294967296 * c = X at *
  omega
 ·obtain rfl : c = 0 := by omega
  rw [Nat.mul_zero, Nat.add_zero] at h
  exact h
theorem A1a {a b m : List Nat} {c : Nat} (hl : b.length <= a.length) (da : Dig a) (db : Dig b) (h : Lr a b m (a.length + 1) c) : val m = val a + val b := by
 obtain ⟨h1, h2, h3, h4, h5⟩ := h
 rw [List.take_of_length_le (by omega), List.take_of_length_le (by omega), Nat.pow_succ] at h4
 have l3 : (4294967296 : Nat) ^ b.length <= 4294967296 ^ a.length := Nat.pow_le_pow_right (by omega) hl
 exact A3o h4 (Kl a da) (Nat.lt_of_lt_of_le (Kl b db) l3)

/-! ### Differences -/
def On (a b m : List Nat) (i c : Nat) : Prop := m.length = a.length /\ Dig m /\ (∀ j, i <= j -> j < m.length -> m[j]? = some 0) /\ val m + val (b.take i) = val (a.take i) + 4294967296 ^ i * c /\ c <= 1
theorem A5a (a b : List Nat) : On a b (List.replicate a.length 0) 0 0 := by
 refine ⟨by simp, fun x hx => by rw [List.eq_of_mem_replicate hx];decide, fun j _ hj => ?_, by simp [Ks, val], by omega⟩
 simp at hj
 rw [List.getElem?_replicate, if_pos hj]
theorem Md {a b m : List Nat} {i c d c' : Nat} (h : On a b m i c) (hi : i < m.length) (hd : d < 4294967296) (hc : c' <= 1) (he : d + c + b[i]?.getD 0 = a[i]?.getD 0 + 4294967296 * c') :
  On a b (m.set i d) (i + 1) c' := by
 obtain ⟨h1, h2, h3, h4, h5⟩ := h
 refine ⟨by simpa using h1, h2.set i hd, fun j hj hjl => ?_, ?_, hc⟩
 ·rw [List.getElem?_set_ne (by omega)]
  exact h3 j (by omega) (by simpa using hjl)
 ·have e := Lw m i d 0 (h3 i (Nat.le_refl _) hi)
  rw [Ei, Ei, Nat.pow_succ]
  generalize a[i]?.getD 0 = x at *
  generalize b[i]?.getD 0 = y at *
  have : 4294967296 ^ i * d + 4294967296 ^ i * c + 4294967296 ^ i * y = 4294967296 ^ i * x + 4294967296 ^ i * 4294967296 * c' := by
   rw [Nat.mul_assoc, <- Nat.mul_add, <- Nat.mul_add, he, Nat.mul_add]
  omega
theorem Ac6 {a b m : List Nat} {c : Nat} (hl : b.length <= a.length) (hv : val b <= val a) (h : On a b m a.length c) : val m = val a - val b := by
 obtain ⟨h1, h2, h3, h4, h5⟩ := h
 rw [List.take_of_length_le hl, List.take_of_length_le (Nat.le_refl _)] at h4
 have l1 := Kl m h2
 rw [h1] at l1
 rcases Nat.lt_or_ge 0 c with hc | hc
 ·have : 4294967296 ^ a.length * 1 <= 4294967296 ^ a.length * c := Nat.mul_le_mul_left _ hc
  omega
 ·obtain rfl : c = 0 := by omega
  omega
theorem Aan {a b : List Nat} (tb : Lc b) (da : Dig a) (h : val b <= val a) : b.length <= a.length := by
 rcases Nat.lt_or_ge a.length b.length with h1 | h1
 ·have := R5 tb da h1;omega
 ·exact h1

/-! ### Products -/
def Om (a b m : List Nat) (i : Nat) : Prop := m.length = a.length + b.length /\ Dig m /\ (∀ j, i + b.length <= j -> j < m.length -> m[j]? = some 0) /\ val m = val (a.take i) * val b
def Te (a b m : List Nat) (i x k c : Nat) : Prop := m.length = a.length + b.length /\ Dig m /\ (∀ j, i + b.length <= j -> j < m.length -> m[j]? = some 0) /\ val m + 4294967296 ^ (i + k) * c = val (a.take i) * val b + 4294967296 ^ i * x * val (b.take k) /\ c < 4294967296
theorem A62 (a b : List Nat) : Om a b (List.replicate (a.length + b.length) 0) 0 := by
 refine ⟨by simp, fun x hx => by rw [List.eq_of_mem_replicate hx];decide, fun j _ hj => ?_, by simp [Ks, val]⟩
 simp at hj
 rw [List.getElem?_replicate, if_pos hj]
theorem Ad1 {a b m : List Nat} {i : Nat} (x : Nat) (h : Om a b m i) : Te a b m i x 0 0 := by
 obtain ⟨h1, h2, h3, h4⟩ := h
 exact ⟨h1, h2, h3, by simp [val, h4], by decide⟩
theorem A7z {a b m : List Nat} {i x k c y z q r : Nat} (h : Te a b m i x k c) (hx : x < 4294967296) (hy : b[k]? = some y) (hyd : y < 4294967296) (hz : m[i + k]? = some z) (hr : r < 4294967296) (hq : 4294967296 * q + r = c + (x * y + z)) (hqd : q < 4294967296) :
  Te a b (m.set (i + k) r) i x (k + 1) q := by
 obtain ⟨h1, h2, h3, h4, h5⟩ := h
 have hk : k < b.length := (List.getElem?_eq_some_iff.1 hy).1
 refine ⟨by simpa using h1, h2.set _ hr, fun j hj hjl => ?_, ?_, hqd⟩
 ·rw [List.getElem?_set_ne (by omega)]
  exact h3 j hj (by simpa using hjl)
 ·have e := Lw m (i + k) r z hz
  have e4 : (4294967296 : Nat) ^ (i + (k + 1)) = 4294967296 ^ (i + k) * 4294967296 := by rw [<- Nat.add_assoc, Nat.pow_succ]
  rw [Gu hy, e4]
  have e2 : 4294967296 ^ (i + k) * 4294967296 * q + 4294967296 ^ (i + k) * r = 4294967296 ^ (i + k) * c + (4294967296 ^ (i + k) * (x * y) + 4294967296 ^ (i + k) * z) := by
   rw [Nat.mul_assoc, <- Nat.mul_add, hq, Nat.mul_add, Nat.mul_add]
  have e3 : 4294967296 ^ i * x * (val (b.take k) + 4294967296 ^ k * y) = 4294967296 ^ i * x * val (b.take k) + 4294967296 ^ (i + k) * (x * y) := by
   rw [Nat.mul_add, Nat.pow_add]
   congr 1
   rw [Nat.mul_assoc, Nat.mul_assoc]
   congr 1
   rw [<- Nat.mul_assoc, Nat.mul_comm x, Nat.mul_assoc]
  rw [e3]
  omega
theorem A9t {x y z c : Nat} (hx : x < 4294967296) (hy : y < 4294967296) (hz : z < 4294967296) (hc : c < 4294967296) : x * y <= 18446744065119617025 /\ c + (x * y + z) < 18446744073709551616 := by
 have hxy : x * y <= 4294967295 * 4294967295 := Nat.mul_le_mul (by omega) (by omega)
 omega
theorem Abm {a b m : List Nat} {i x c : Nat} (h : Te a b m i x b.length c) (hi : a[i]? = some x) : Om a b (m.set (i + b.length) c) (i + 1) := by
 obtain ⟨h1, h2, h3, h4, h5⟩ := h
 have hil : i < a.length := (List.getElem?_eq_some_iff.1 hi).1
 refine ⟨by simpa using h1, h2.set _ h5, fun j hj hjl => ?_, ?_⟩
 ·rw [List.getElem?_set_ne (by omega)]
  exact h3 j (by omega) (by simpa using hjl)
 ·have e := Lw m (i + b.length) c 0 (h3 _ (Nat.le_refl _) (by omega))
  rw [Gu hi, Nat.add_mul]
  rw [List.take_of_length_le (Nat.le_refl _)] at h4
  omega
theorem Ab1 {a b m : List Nat} (h : Om a b m a.length) : val m = val a * val b := by
 have := h.2.2.2
 rwa [List.take_of_length_le (Nat.le_refl _)] at this
def wds (n : Nat) : List Nat := if h : n = 0 then [] else n % 4294967296 :: wds (n / 4294967296)
termination_by n
decreasing_by omega
theorem G3 : wds 0 = [] := by rw [wds];simp
theorem Lz {n : Nat} (h : n ≠ 0) : wds n = n % 4294967296 :: wds (n / 4294967296) := by rw [wds, dif_neg h]
theorem A6j {d : Nat} {r : List Nat} (h : Lc (d :: r)) : Lc r := fun x hx => h x (by
 cases r with
 | nil => simp at hx
 | cons y r => rw [List.getLast?_cons_cons];exact hx)
theorem Yk : ∀ l : List Nat, Dig l -> Lc l -> wds (val l) = l
 | [], _, _ => G3
 | d :: r, hd, ht => by
  have h1 := hd d (by simp)
  have h0 : val (d :: r) ≠ 0 := fun h => by have := (A4e ht).1 h;cases this
  have e1 : val (d :: r) % 4294967296 = d := by simp only [val];omega
  have e2 : val (d :: r) / 4294967296 = val r := by simp only [val];omega
  rw [Lz h0, e1, e2, Yk r (fun x hx => hd x (by simp [hx])) (A6j ht)]
theorem Dh (n : Nat) : Dig (wds n) := by
 induction n using Nat.strongRecOn with
 | _ n ih =>
  by_cases h : n = 0
  ·subst h;rw [G3];intro x hx;simp at hx
  ·rw [Lz h]
   intro x hx
   rcases List.mem_cons.1 hx with rfl | hx
   ·omega
   ·exact ih (n / 4294967296) (by omega) x hx
theorem Bw (n : Nat) : val (wds n) = n := by
 induction n using Nat.strongRecOn with
 | _ n ih =>
  by_cases h : n = 0
  ·subst h;rw [G3];rfl
  ·rw [Lz h, val, ih (n / 4294967296) (by omega)];omega
theorem Mu (n : Nat) : Lc (wds n) := by
 induction n using Nat.strongRecOn with
 | _ n ih =>
  by_cases h : n = 0
  ·subst h;rw [G3];exact Aa9
  ·rw [Lz h]
   intro x hx
   by_cases h2 : n / 4294967296 = 0
   ·rw [h2, G3] at hx
    simp at hx
    omega
   ·have := ih (n / 4294967296) (by omega) x
    rw [Lz h2] at hx this
    rw [List.getLast?_cons_cons] at hx
    exact this hx
theorem Tu {n k : Nat} (h : n < 4294967296 ^ k) : (wds n).length <= k := by
 rcases Nat.lt_or_ge k (wds n).length with h1 | h1
 ·have h2 := Ra (Mu n) (by intro e;rw [e] at h1;simp at h1)
  rw [Bw] at h2
  have h3 : (4294967296 : Nat) ^ k <= 4294967296 ^ ((wds n).length - 1) := Nat.pow_le_pow_right (by decide) (by omega)
  omega
 ·exact h1
theorem wds_nil {n : Nat} : wds n = [] ↔ n = 0 := by
 constructor
 ·intro h
  have := Bw n
  rw [h] at this
  exact this.symm
 ·rintro rfl;exact G3
def sgn (s : Bool) (n : Nat) : Int := if s then -(n : Int) else n
def Hs (s : Bool) (a : Nat) (t : Bool) (b : Nat) : Bool × Nat := if s = t then (s, a + b) else if a < b then (t, b - a) else (s, a - b)
theorem A5t (s : Bool) (a : Nat) (t : Bool) (b : Nat) : sgn (Hs s a t b).1 (Hs s a t b).2 = sgn s a + sgn t b := by
 unfold Hs sgn
 cases s <;> cases t <;> simp only [if_true, if_false, Bool.false_eq_true, Bool.true_eq_false, reduceCtorEq] <;> (try omega) <;> (split <;> simp only [if_true, if_false, Bool.false_eq_true] <;> omega)
theorem U4 (s : Bool) (a : Nat) (t : Bool) (b : Nat) : sgn (s != t) (a * b) = sgn s a * sgn t b := by
 unfold sgn
 cases s <;> cases t <;> simp [Int.natCast_mul, Int.neg_mul, Int.mul_neg]
theorem Aaq (s : Bool) (a : Nat) : sgn (!s) a = - sgn s a := by
 unfold sgn
 cases s <;> simp
theorem A1b (z : Int) : sgn (decide (z < 0)) z.natAbs = z := by
 unfold sgn
 by_cases h : z < 0 <;> simp [h] <;> omega
theorem A9a (s : Bool) (a : Nat) (t : Bool) (b : Nat) : (Hs s a t b).2 <= a + b := by
 unfold Hs
 split
 ·exact Nat.le_refl _
 ·split <;> simp <;> omega
structure Ex where
 s : Bool
 n : Nat
 d : Nat
def Ex.val (x : Ex) : Rat := mkRat (sgn x.s x.n) x.d
def Ex.bd (k : Nat) (x : Ex) : Prop := x.n < 4294967296 ^ k /\ x.d < 4294967296 ^ k /\ 0 < x.d
def Ex.ofQ (q : Rat) : Ex := ⟨decide (q.num < 0), q.num.natAbs, q.den⟩
def Ex.ofI (n : Int) (d : Nat) : Ex := ⟨decide (n < 0), n.natAbs, d⟩
def Ex.plus (x y : Ex) : Ex := ⟨(Hs (x.s != false) (x.n * y.d) (y.s != false) (y.n * x.d)).1, (Hs (x.s != false) (x.n * y.d) (y.s != false) (y.n * x.d)).2, x.d * y.d⟩
def Ex.less (x y : Ex) : Ex := x.plus ⟨!y.s, y.n, y.d⟩
def Ex.times (x y : Ex) : Ex := ⟨x.s != y.s, x.n * y.n, x.d * y.d⟩
def Ex.sign (x : Ex) : Int := if x.n = 0 then 0 else if x.s then -1 else 1
theorem Ex.val_ofQ (q : Rat) : (Ex.ofQ q).val = q := by
 unfold Ex.val Ex.ofQ
 rw [A1b]
 exact Rat.mkRat_self q
theorem Ex.val_ofI (n : Int) (d : Nat) : (Ex.ofI n d).val = mkRat n d := by
 unfold Ex.val Ex.ofI
 rw [A1b]
theorem Ex.val_times (x y : Ex) : (x.times y).val = x.val * y.val := by
 unfold Ex.val Ex.times
 rw [U4, Rat.mkRat_mul_mkRat]
theorem Ex.val_plus {x y : Ex} (hx : 0 < x.d) (hy : 0 < y.d) : (x.plus y).val = x.val + y.val := by
 unfold Ex.val Ex.plus
 rw [A5t, U4, U4, Rat.mkRat_add_mkRat _ _ (by omega) (by omega)]
 simp [sgn]
theorem Ex.val_less {x y : Ex} (hx : 0 < x.d) (hy : 0 < y.d) : (x.less y).val = x.val - y.val := by
 unfold Ex.less
 rw [Ex.val_plus (y := ⟨!y.s, y.n, y.d⟩) hx hy, Rat.sub_eq_add_neg]
 congr 1
 unfold Ex.val
 rw [Aaq, Rat.neg_mkRat]
theorem Zd {p q : Int} (hq : 0 < q) : (Rat.divInt p q).num.sign = p.sign := by
 by_cases hp : p = 0
 ·subst hp;simp
 have h1 := Rat.num_divInt p q
 rw [Int.sign_eq_one_of_pos hq, Int.one_mul] at h1
 have hg : 0 < (Int.gcd q p : Int) := by
  have : Int.gcd q p ≠ 0 := by simp [Int.gcd_eq_zero_iff, hp]
  omega
 rw [h1]
 have hd : (Int.gcd q p : Int) ∣ p := Int.gcd_dvd_right ..
 have h2 : p = p / (Int.gcd q p : Int) * (Int.gcd q p : Int) := (Int.ediv_mul_cancel hd).symm
 conv => rhs;rw [h2]
 rw [Int.sign_mul, Int.sign_eq_one_of_pos hg, Int.mul_one]
theorem Ex.sign_val {x : Ex} (hx : 0 < x.d) : x.sign = x.val.num.sign := by
 have h1 : x.val.num.sign = (sgn x.s x.n).sign := by
  unfold Ex.val
  rw [<- Rat.divInt_ofNat]
  exact Zd (by omega)
 rw [h1]
 unfold Ex.sign sgn
 split
 ·rename_i h;rw [h];split <;> rfl
 ·split
  ·rw [Int.sign_eq_neg_one_of_neg (by omega)]
  ·rw [Int.sign_eq_one_of_pos (by omega)]
theorem Yj {a j k : Nat} (h : a < 4294967296 ^ j) (hj : j <= k) : a < 4294967296 ^ k := Nat.lt_of_lt_of_le h (Nat.pow_le_pow_right (by decide) hj)
theorem Jz {a b j k : Nat} (ha : a < 4294967296 ^ j) (hb : b < 4294967296 ^ k) : a * b < 4294967296 ^ (j + k) := by
 rw [Nat.pow_add]
 exact Nat.mul_lt_mul'' ha hb
theorem Ex.bd.mono {x : Ex} {j k : Nat} (h : x.bd j) (hj : j <= k) : x.bd k := ⟨Yj h.1 hj, Yj h.2.1 hj, h.2.2⟩
theorem Ex.bd_times {x y : Ex} {j k : Nat} (hx : x.bd j) (hy : y.bd k) : (x.times y).bd (j + k) := ⟨Jz hx.1 hy.1, Jz hx.2.1 hy.2.1, Nat.mul_pos hx.2.2 hy.2.2⟩
theorem Ex.bd_plus {x y : Ex} {j k : Nat} (hx : x.bd j) (hy : y.bd k) : (x.plus y).bd (j + k + 1) := by
 refine ⟨?_, Yj (Jz hx.2.1 hy.2.1) (by omega), Nat.mul_pos hx.2.2 hy.2.2⟩
 have h1 := A9a (x.s != false) (x.n * y.d) (y.s != false) (y.n * x.d)
 have h2 := Jz hx.1 hy.2.1
 have h3 := Jz hy.1 hx.2.1
 rw [Nat.add_comm k j] at h3
 unfold Ex.plus
 simp only []
 rw [Nat.pow_succ]
 generalize 4294967296 ^ (j + k) = B at *
 omega
theorem Ex.bd_less {x y : Ex} {j k : Nat} (hx : x.bd j) (hy : y.bd k) : (x.less y).bd (j + k + 1) := by
 unfold Ex.less
 exact Ex.bd_plus (y := ⟨!y.s, y.n, y.d⟩) hx ⟨hy.1, hy.2.1, hy.2.2⟩
end Go.Proofs.YtcbfnkgodiaiiaaGreat
namespace Go.Proofs.YtcbfnkgodiaiiaaGreat
open Go.RowKit
abbrev wq (l : List Nat) : List (List Lf) := wsR .u32 l
theorem Adk (x : Nat) : IntKind.u32.wrap (x : Int) = ((x % 4294967296 : Nat) : Int) := by rw [Cl];omega
theorem Ht {x : Nat} (h : x < 18446744073709551616) : IntKind.u64.wrap (x : Int) = (x : Int) := by rw [Cv];omega
theorem Abi {x : Nat} (h : x < 4294967296) : IntKind.u32.wrap (x : Int) = (x : Int) := by rw [Cl];omega
set_option maxHeartbeats 4000000 in
theorem A08 (l : List Nat) (hd : Dig l) (hl : l.length <= 4000) : Fn0 Tryz.prog 252 [.sl (wq l)] (.sl (wq (wds (val l)))) := by
 refine Fn0.of Tryz.func252 Tryz.ntmps252 rfl rfl rfl ?_
 simp only [A2]
 repeat' (first | refine W ?_ | refine V ?_|(refine W2 ?_ ?_ <;> intro hc))
 refine T.loopS (fun k => k <= l.length /\ val (l.take k) = val l) (fun k => k) (fun k => [(0, .sl (wq (l.take k)))]) (fun _ => []) l.length ⟨Nat.le_refl _, by rw [List.take_of_length_le (Nat.le_refl _)]⟩ (.cons (by rw [List.take_of_length_le (Nat.le_refl _)];rfl) rfl .nil) .nil ?_
 rintro k ⟨hk, hv⟩
 have hlen : (wq (l.take k)).length = k := by rw [D1, List.length_take, Nat.min_eq_left hk]
 cases k with
 | zero =>
  have h0 : ¬ (0 : Int) < ((wq (l.take 0)).length : Nat) := by rw [hlen];omega
  repeat' (first | refine W ?_ | refine V ?_|(refine W2 ?_ ?_ <;> intro hc))
  exact Hx (by simp) Tryz.results252 rfl (by rw [<- hv, show val (l.take 0) = 0 from rfl, G3];exact .one (.one (.lf _)))
 | succ k =>
  have h1 : (0 : Int) < ((wq (l.take (k + 1))).length : Nat) := by rw [hlen];omega
  have h2 : (((wq (l.take (k + 1))).length : Nat) : Int) - 1 = (k : Nat) := by rw [hlen];omega
  obtain ⟨x, hx⟩ : ∃ x, l[k]? = some x := ⟨l[k], List.getElem?_eq_getElem (by omega)⟩
  have hx' : (l.take (k + 1))[k]? = some x := by rw [List.getElem?_take_of_lt (by omega), hx]
  have hb : (wq (l.take (k + 1)))[((((wq (l.take (k + 1))).length : Nat) : Int) - 1).toNat]? = some [.val (.int .u32 (x : Int))] := by rw [h2];exact Ge hx'
  have h3 : (wq (l.take (k + 1))).take ((((wq (l.take (k + 1))).length : Nat) : Int) - 1).toNat = wq (l.take k) := by rw [h2, Aa2, Int.toNat_natCast, List.take_take, Nat.min_eq_left (by omega)]
  by_cases h0 : (x : Int) = 0
  ·repeat' (first | refine W ?_|refine Za ?_|refine Zi hb ?_|(apply S.sliceTo;exact rfl;exact rfl;exact rfl;omega;exact A1f _ _) | refine V ?_|(refine W2 ?_ ?_ <;> intro hc))
   change Next _ _ _ _ _ _
   refine Next.go k ⟨by omega, ?_⟩ (Nat.lt_succ_self k) (.cons (by rw [h3];rfl) rfl .nil) .nil
   have : x = 0 := by omega
   subst this
   rw [<- W9 hx, hv]
  ·repeat' (first | refine W ?_|refine Za ?_|refine Zi hb ?_|(apply S.sliceTo;exact rfl;exact rfl;exact rfl;omega;exact A1f _ _) | refine V ?_|(refine W2 ?_ ?_ <;> intro hc))
   refine Hx (by simp) Tryz.results252 rfl ?_
   rw [<- hv, Yk _ (hd.take _) (A58 hx (by omega))]
   exact .one (.one (.lf _))
structure AddS where
 i : Nat
 m : List Nat
 c : Nat
theorem Ft (l : List Nat) (n : Nat) (hd : Dig l) (hl : l.length <= 4000) (h : val l = n) : Fn0 Tryz.prog 252 [.sl (wq l)] (.sl (wq (wds n))) := by
 subst h;exact A08 l hd hl
set_option maxHeartbeats 8000000 in
theorem Wr (a b : List Nat) (da : Dig a) (db : Dig b) (hla : a.length <= 1000) (hle : b.length <= a.length) :
  Fn0 Tryz.prog 288 [.sl (wq a), .sl (wq b)] (.sl (wq (wds (val a + val b)))) := by
 have e1 : (wq a).length = a.length := D1 _ _
 have e2 : (wq b).length = b.length := D1 _ _
 have hlt : ¬ (((wq a).length : Nat) : Int) < ((wq b).length : Nat) := by omega
 have h1 : (((wq a).length : Nat) : Int) + 1 = ((a.length + 1 : Nat) : Int) := by omega
 refine Fn0.of Tryz.func288 Tryz.ntmps288 rfl rfl rfl ?_
 simp only [A2]
 repeat' (first | refine W ?_|refine Za ?_|(apply S.lenO;exact rfl;exact rfl;exact rfl)|(apply S.makeU (n := a.length + 1);exact rfl;rw [<- h1];exact rfl;omega;exact rfl;exact rfl) | refine V ?_|(refine W2 ?_ ?_ <;> intro hc))
 refine T.loopS (fun (s : AddS) => s.i <= a.length + 1 /\ Lr a b s.m s.i s.c) (fun s => a.length + 1 - s.i) (fun s => [(21, .i s.i), (20, .i ((a.length + 1 : Nat) : Int)), (6, .val (.int .u64 (s.c : Int))), (5, .own 0 0 (a.length + 1) 1), (0, .sl (wq a)), (1, .sl (wq b))]) (fun s => [.live (wsA .u32 s.m)]) ⟨0, List.replicate (a.length + 1) 0, 0⟩ ⟨Nat.zero_le _, V8 a b⟩ CV (.live (Bl _ _ _) .nil) ?_
 rintro ⟨i, m, c⟩ ⟨hi, hinv⟩
 dsimp only at hi hinv ⊢
 have hinv' := hinv
 obtain ⟨hm, hdm, _, _, hc1⟩ := hinv
 by_cases hil : i < m.length
 ·have h3 : (i : Int) < ((a.length + 1 : Nat) : Int) := by omega
  have hinv := hinv'
  by_cases hia : i < a.length
  ·obtain ⟨x, hx⟩ : ∃ x, a[i]? = some x := ⟨a[i], List.getElem?_eq_getElem hia⟩
   have hbx := Ge (k := .u32) hx
   have hxl := da.get hx
   have hia' : (i : Int) < ((wq a).length : Nat) := by omega
   by_cases hib : i < b.length
   ·obtain ⟨y, hy⟩ : ∃ y, b[i]? = some y := ⟨b[i], List.getElem?_eq_getElem hib⟩
    have hby := Ge (k := .u32) hy
    have hyl := db.get hy
    have hib' : (i : Int) < ((wq b).length : Nat) := by omega
    have hr : IntKind.u32.wrap ((c : Int) + (x : Int) + (y : Int)) = (((c + x + y) % 4294967296 : Nat) : Int) := by rw [Cl];omega
    have hq : ((c : Int) + (x : Int) + (y : Int)) / 4294967296 = (((c + x + y) / 4294967296 : Nat) : Int) := by omega
    repeat' (first | refine W ?_|refine Za ?_|(apply S.arithU;(iterate 4 exact rfl);omega)|refine Zi hbx ?_|refine Zi hby ?_|(apply S.convW;exact rfl;exact Ht (show x < 18446744073709551616 by omega);exact rfl)|(apply S.convW;exact rfl;exact Ht (show y < 18446744073709551616 by omega);exact rfl)|(apply S.convW;exact rfl;exact hr;exact rfl)|(apply S.shr32;exact rfl;exact rfl;exact rfl)|(apply S.lenO;exact rfl;exact rfl;exact rfl)|(apply S.indexU i;(iterate 4 exact rfl);rfl;omega)|(apply S.storeU;(iterate 4 exact rfl);omega) | refine V ?_|(refine W2 ?_ ?_ <;> intro hc))
    change Next _ _ _ _ _ _
    exact Next.go ⟨i + 1, m.set i ((c + x + y) % 4294967296), (c + x + y) / 4294967296⟩ ⟨by dsimp only;omega, Ic da db hinv hil (Nat.mod_lt _ (by decide)) (by rw [hx, hy, Option.getD_some, Option.getD_some];dsimp only;omega)⟩ (by dsimp only;omega) (.cons rfl rfl (.cons rfl rfl (.cons (by rw [<- hq];rfl) rfl CV))) (.live (Bl _ _ _) .nil)
   ·have hib' : ¬ (i : Int) < ((wq b).length : Nat) := by omega
    have hr : IntKind.u32.wrap ((c : Int) + (x : Int)) = (((c + x + 0) % 4294967296 : Nat) : Int) := by rw [Cl];omega
    have hq : ((c : Int) + (x : Int)) / 4294967296 = (((c + x + 0) / 4294967296 : Nat) : Int) := by omega
    repeat' (first | refine W ?_|refine Za ?_|(apply S.arithU;(iterate 4 exact rfl);omega)|refine Zi hbx ?_|(apply S.convW;exact rfl;exact Ht (show x < 18446744073709551616 by omega);exact rfl)|(apply S.convW;exact rfl;exact hr;exact rfl)|(apply S.shr32;exact rfl;exact rfl;exact rfl)|(apply S.lenO;exact rfl;exact rfl;exact rfl)|(apply S.indexU i;(iterate 4 exact rfl);rfl;omega)|(apply S.storeU;(iterate 4 exact rfl);omega) | refine V ?_|(refine W2 ?_ ?_ <;> intro hc))
    change Next _ _ _ _ _ _
    exact Next.go ⟨i + 1, m.set i ((c + x + 0) % 4294967296), (c + x + 0) / 4294967296⟩ ⟨by dsimp only;omega, Ic da db hinv hil (Nat.mod_lt _ (by decide)) (by rw [hx, List.getElem?_eq_none (by omega), Option.getD_some, Option.getD_none];dsimp only;omega)⟩ (by dsimp only;omega) (.cons rfl rfl (.cons rfl rfl (.cons (by rw [<- hq];rfl) rfl CV))) (.live (Bl _ _ _) .nil)
  ·have hia' : ¬ (i : Int) < ((wq a).length : Nat) := by omega
   have hib' : ¬ (i : Int) < ((wq b).length : Nat) := by omega
   have hr : IntKind.u32.wrap ((c : Int)) = (((c + 0 + 0) % 4294967296 : Nat) : Int) := by rw [Cl];omega
   have hq : ((c : Int)) / 4294967296 = (((c + 0 + 0) / 4294967296 : Nat) : Int) := by omega
   repeat' (first | refine W ?_|refine Za ?_|(apply S.arithU;(iterate 4 exact rfl);omega)|(apply S.convW;exact rfl;exact hr;exact rfl)|(apply S.shr32;exact rfl;exact rfl;exact rfl)|(apply S.lenO;exact rfl;exact rfl;exact rfl)|(apply S.indexU i;(iterate 4 exact rfl);rfl;omega)|(apply S.storeU;(iterate 4 exact rfl);omega) | refine V ?_|(refine W2 ?_ ?_ <;> intro hc))
   change Next _ _ _ _ _ _
   exact Next.go ⟨i + 1, m.set i ((c + 0 + 0) % 4294967296), (c + 0 + 0) / 4294967296⟩ ⟨by dsimp only;omega, Ic da db hinv hil (Nat.mod_lt _ (by decide)) (by rw [List.getElem?_eq_none (by omega), List.getElem?_eq_none (by omega), Option.getD_none];dsimp only;omega)⟩ (by dsimp only;omega) (.cons rfl rfl (.cons rfl rfl (.cons (by rw [<- hq];rfl) rfl CV))) (.live (Bl _ _ _) .nil)
 ·have h3 : ¬ (i : Int) < ((a.length + 1 : Nat) : Int) := by omega
  obtain rfl : i = a.length + 1 := by omega
  repeat' (first | refine W ?_|(refine T.freeze 5 rfl rfl (Jl .u32 m hm.symm) ?_)|(apply S.call;exact rfl;exact rfl;exact Ft m (val a + val b) hdm (by omega) (A1a hle da db hinv');exact rfl) | refine V ?_|(refine W2 ?_ ?_ <;> intro hc))
  exact Hx (by simp) Tryz.results288 rfl (.one (.one (.lf _)))
set_option maxHeartbeats 8000000 in
theorem Z1 (a b : List Nat) (da : Dig a) (db : Dig b) (hla : a.length <= 1000) (hsw : b.length < a.length) :
  Fn0 Tryz.prog 288 [.sl (wq b), .sl (wq a)] (.sl (wq (wds (val a + val b)))) := by
 have e1 : (wq a).length = a.length := D1 _ _
 have e2 : (wq b).length = b.length := D1 _ _
 have hle : b.length <= a.length := by omega
 have hlt : (((wq b).length : Nat) : Int) < ((wq a).length : Nat) := by omega
 have h1 : (((wq a).length : Nat) : Int) + 1 = ((a.length + 1 : Nat) : Int) := by omega
 refine Fn0.of Tryz.func288 Tryz.ntmps288 rfl rfl rfl ?_
 simp only [A2]
 repeat' (first | refine W ?_|refine Za ?_|(apply S.lenO;exact rfl;exact rfl;exact rfl)|(apply S.makeU (n := a.length + 1);exact rfl;rw [<- h1];exact rfl;omega;exact rfl;exact rfl) | refine V ?_|(refine W2 ?_ ?_ <;> intro hc))
 refine T.loopS (fun (s : AddS) => s.i <= a.length + 1 /\ Lr a b s.m s.i s.c) (fun s => a.length + 1 - s.i) (fun s => [(21, .i s.i), (20, .i ((a.length + 1 : Nat) : Int)), (6, .val (.int .u64 (s.c : Int))), (5, .own 0 0 (a.length + 1) 1), (0, .sl (wq a)), (1, .sl (wq b))]) (fun s => [.live (wsA .u32 s.m)]) ⟨0, List.replicate (a.length + 1) 0, 0⟩ ⟨Nat.zero_le _, V8 a b⟩ CV (.live (Bl _ _ _) .nil) ?_
 rintro ⟨i, m, c⟩ ⟨hi, hinv⟩
 dsimp only at hi hinv ⊢
 have hinv' := hinv
 obtain ⟨hm, hdm, _, _, hc1⟩ := hinv
 by_cases hil : i < m.length
 ·have h3 : (i : Int) < ((a.length + 1 : Nat) : Int) := by omega
  have hinv := hinv'
  by_cases hia : i < a.length
  ·obtain ⟨x, hx⟩ : ∃ x, a[i]? = some x := ⟨a[i], List.getElem?_eq_getElem hia⟩
   have hbx := Ge (k := .u32) hx
   have hxl := da.get hx
   have hia' : (i : Int) < ((wq a).length : Nat) := by omega
   by_cases hib : i < b.length
   ·obtain ⟨y, hy⟩ : ∃ y, b[i]? = some y := ⟨b[i], List.getElem?_eq_getElem hib⟩
    have hby := Ge (k := .u32) hy
    have hyl := db.get hy
    have hib' : (i : Int) < ((wq b).length : Nat) := by omega
    have hr : IntKind.u32.wrap ((c : Int) + (x : Int) + (y : Int)) = (((c + x + y) % 4294967296 : Nat) : Int) := by rw [Cl];omega
    have hq : ((c : Int) + (x : Int) + (y : Int)) / 4294967296 = (((c + x + y) / 4294967296 : Nat) : Int) := by omega
    repeat' (first | refine W ?_|refine Za ?_|(apply S.arithU;(iterate 4 exact rfl);omega)|refine Zi hbx ?_|refine Zi hby ?_|(apply S.convW;exact rfl;exact Ht (show x < 18446744073709551616 by omega);exact rfl)|(apply S.convW;exact rfl;exact Ht (show y < 18446744073709551616 by omega);exact rfl)|(apply S.convW;exact rfl;exact hr;exact rfl)|(apply S.shr32;exact rfl;exact rfl;exact rfl)|(apply S.lenO;exact rfl;exact rfl;exact rfl)|(apply S.indexU i;(iterate 4 exact rfl);rfl;omega)|(apply S.storeU;(iterate 4 exact rfl);omega) | refine V ?_|(refine W2 ?_ ?_ <;> intro hc))
    change Next _ _ _ _ _ _
    exact Next.go ⟨i + 1, m.set i ((c + x + y) % 4294967296), (c + x + y) / 4294967296⟩ ⟨by dsimp only;omega, Ic da db hinv hil (Nat.mod_lt _ (by decide)) (by rw [hx, hy, Option.getD_some, Option.getD_some];dsimp only;omega)⟩ (by dsimp only;omega) (.cons rfl rfl (.cons rfl rfl (.cons (by rw [<- hq];rfl) rfl CV))) (.live (Bl _ _ _) .nil)
   ·have hib' : ¬ (i : Int) < ((wq b).length : Nat) := by omega
    have hr : IntKind.u32.wrap ((c : Int) + (x : Int)) = (((c + x + 0) % 4294967296 : Nat) : Int) := by rw [Cl];omega
    have hq : ((c : Int) + (x : Int)) / 4294967296 = (((c + x + 0) / 4294967296 : Nat) : Int) := by omega
    repeat' (first | refine W ?_|refine Za ?_|(apply S.arithU;(iterate 4 exact rfl);omega)|refine Zi hbx ?_|(apply S.convW;exact rfl;exact Ht (show x < 18446744073709551616 by omega);exact rfl)|(apply S.convW;exact rfl;exact hr;exact rfl)|(apply S.shr32;exact rfl;exact rfl;exact rfl)|(apply S.lenO;exact rfl;exact rfl;exact rfl)|(apply S.indexU i;(iterate 4 exact rfl);rfl;omega)|(apply S.storeU;(iterate 4 exact rfl);omega) | refine V ?_|(refine W2 ?_ ?_ <;> intro hc))
    change Next _ _ _ _ _ _
    exact Next.go ⟨i + 1, m.set i ((c + x + 0) % 4294967296), (c + x + 0) / 4294967296⟩ ⟨by dsimp only;omega, Ic da db hinv hil (Nat.mod_lt _ (by decide)) (by rw [hx, List.getElem?_eq_none (by omega), Option.getD_some, Option.getD_none];dsimp only;omega)⟩ (by dsimp only;omega) (.cons rfl rfl (.cons rfl rfl (.cons (by rw [<- hq];rfl) rfl CV))) (.live (Bl _ _ _) .nil)
  ·have hia' : ¬ (i : Int) < ((wq a).length : Nat) := by omega
   have hib' : ¬ (i : Int) < ((wq b).length : Nat) := by omega
   have hr : IntKind.u32.wrap ((c : Int)) = (((c + 0 + 0) % 4294967296 : Nat) : Int) := by rw [Cl];omega
   have hq : ((c : Int)) / 4294967296 = (((c + 0 + 0) / 4294967296 : Nat) : Int) := by omega
   repeat' (first | refine W ?_|refine Za ?_|(apply S.arithU;(iterate 4 exact rfl);omega)|(apply S.convW;exact rfl;exact hr;exact rfl)|(apply S.shr32;exact rfl;exact rfl;exact rfl)|(apply S.lenO;exact rfl;exact rfl;exact rfl)|(apply S.indexU i;(iterate 4 exact rfl);rfl;omega)|(apply S.storeU;(iterate 4 exact rfl);omega) | refine V ?_|(refine W2 ?_ ?_ <;> intro hc))
   change Next _ _ _ _ _ _
   exact Next.go ⟨i + 1, m.set i ((c + 0 + 0) % 4294967296), (c + 0 + 0) / 4294967296⟩ ⟨by dsimp only;omega, Ic da db hinv hil (Nat.mod_lt _ (by decide)) (by rw [List.getElem?_eq_none (by omega), List.getElem?_eq_none (by omega), Option.getD_none];dsimp only;omega)⟩ (by dsimp only;omega) (.cons rfl rfl (.cons rfl rfl (.cons (by rw [<- hq];rfl) rfl CV))) (.live (Bl _ _ _) .nil)
 ·have h3 : ¬ (i : Int) < ((a.length + 1 : Nat) : Int) := by omega
  obtain rfl : i = a.length + 1 := by omega
  repeat' (first | refine W ?_|(refine T.freeze 5 rfl rfl (Jl .u32 m hm.symm) ?_)|(apply S.call;exact rfl;exact rfl;exact Ft m (val a + val b) hdm (by omega) (A1a hle da db hinv');exact rfl) | refine V ?_|(refine W2 ?_ ?_ <;> intro hc))
  exact Hx (by simp) Tryz.results288 rfl (.one (.one (.lf _)))
theorem A78 (a b : Nat) (ha : (wds a).length <= 1000) (hb : (wds b).length <= 1000) : Fn0 Tryz.prog 288 [.sl (wq (wds a)), .sl (wq (wds b))] (.sl (wq (wds (a + b)))) := by
 rcases Nat.lt_or_ge (wds a).length (wds b).length with h | h
 ·have := Z1 (wds b) (wds a) (Dh b) (Dh a) hb h
  rwa [Bw, Bw, Nat.add_comm b a] at this
 ·have := Wr (wds a) (wds b) (Dh a) (Dh b) ha h
  rwa [Bw, Bw] at this
set_option maxHeartbeats 8000000 in
theorem A0f (a b : List Nat) (da : Dig a) (db : Dig b) (hla : a.length <= 1000) (hle : b.length <= a.length) (hv : val b <= val a) :
  Fn0 Tryz.prog 290 [.sl (wq a), .sl (wq b)] (.sl (wq (wds (val a - val b)))) := by
 have e1 : (wq a).length = a.length := D1 _ _
 have e2 : (wq b).length = b.length := D1 _ _
 have h1 : (((wq a).length : Nat) : Int) = ((a.length : Nat) : Int) := by omega
 refine Fn0.of Tryz.func290 Tryz.ntmps290 rfl rfl rfl ?_
 simp only [A2]
 repeat' (first | refine W ?_|refine Za ?_|(apply S.lenO;exact rfl;exact rfl;exact rfl)|(apply S.makeU (n := a.length);exact rfl;rw [<- h1];exact rfl;omega;exact rfl;exact rfl) | refine V ?_|(refine W2 ?_ ?_ <;> intro hc))
 refine T.loopS (fun (s : AddS) => s.i <= a.length /\ On a b s.m s.i s.c) (fun s => a.length - s.i) (fun s => [(14, .i s.i), (13, .i ((wq a).length : Nat)), (6, .i (s.c : Int)), (5, .own 0 0 a.length 1), (0, .sl (wq a)), (1, .sl (wq b))]) (fun s => [.live (wsA .u32 s.m)]) ⟨0, List.replicate a.length 0, 0⟩ ⟨Nat.zero_le _, A5a a b⟩ CV (.live (Bl _ _ _) .nil) ?_
 rintro ⟨i, m, c⟩ ⟨hi, hinv⟩
 dsimp only at hi hinv ⊢
 have hinv' := hinv
 obtain ⟨hm, hdm, _, _, hc1⟩ := hinv
 by_cases hil : i < m.length
 ·have hinv := hinv'
  have h3 : (i : Int) < ((wq a).length : Nat) := by omega
  obtain ⟨x, hx⟩ : ∃ x, a[i]? = some x := ⟨a[i]'(by omega), List.getElem?_eq_getElem (by omega)⟩
  have hbx := Ge (k := .u32) hx
  have hxl := da.get hx
  have hcx : IntKind.i64.wrap (x : Int) = (x : Int) := Fs _ (by omega)
  by_cases hib : i < b.length
  ·obtain ⟨y, hy⟩ : ∃ y, b[i]? = some y := ⟨b[i], List.getElem?_eq_getElem hib⟩
   have hby := Ge (k := .u32) hy
   have hyl := db.get hy
   have hcy : IntKind.i64.wrap (y : Int) = (y : Int) := Fs _ (by omega)
   have hib' : (i : Int) < ((wq b).length : Nat) := by omega
   by_cases hn : (x : Int) - c - y < 0
   ·have hr : IntKind.u32.wrap ((x : Int) - c - y + 4294967296) = ((x + 4294967296 - c - y : Nat) : Int) := by rw [Cl];omega
    repeat' (first | refine W ?_|refine Za ?_|refine Zi hbx ?_|refine Zi hby ?_|(apply S.convW;exact rfl;exact hcx;exact rfl)|(apply S.convW;exact rfl;exact hcy;exact rfl)|(apply S.convW;exact rfl;exact hr;exact rfl)|(apply S.lenO;exact rfl;exact rfl;exact rfl)|(apply S.indexU i;(iterate 4 exact rfl);rfl;omega)|(apply S.storeU;(iterate 4 exact rfl);omega) | refine V ?_|(refine W2 ?_ ?_ <;> intro hc))
    change Next _ _ _ _ _ _
    exact Next.go ⟨i + 1, m.set i (x + 4294967296 - c - y), 1⟩ ⟨by dsimp only;omega, Md hinv hil (by omega) (by dsimp only;omega) (by rw [hx, hy, Option.getD_some, Option.getD_some];dsimp only;omega)⟩ (by dsimp only;omega) CV (.live (Bl _ _ _) .nil)
   ·have hr : IntKind.u32.wrap ((x : Int) - c - y) = ((x - c - y : Nat) : Int) := by rw [Cl];omega
    repeat' (first | refine W ?_|refine Za ?_|refine Zi hbx ?_|refine Zi hby ?_|(apply S.convW;exact rfl;exact hcx;exact rfl)|(apply S.convW;exact rfl;exact hcy;exact rfl)|(apply S.convW;exact rfl;exact hr;exact rfl)|(apply S.lenO;exact rfl;exact rfl;exact rfl)|(apply S.indexU i;(iterate 4 exact rfl);rfl;omega)|(apply S.storeU;(iterate 4 exact rfl);omega) | refine V ?_|(refine W2 ?_ ?_ <;> intro hc))
    change Next _ _ _ _ _ _
    exact Next.go ⟨i + 1, m.set i (x - c - y), 0⟩ ⟨by dsimp only;omega, Md hinv hil (by omega) (by dsimp only;omega) (by rw [hx, hy, Option.getD_some, Option.getD_some];dsimp only;omega)⟩ (by dsimp only;omega) CV (.live (Bl _ _ _) .nil)
  ·have hib' : ¬ (i : Int) < ((wq b).length : Nat) := by omega
   by_cases hn : (x : Int) - c < 0
   ·have hr : IntKind.u32.wrap ((x : Int) - c + 4294967296) = ((x + 4294967296 - c : Nat) : Int) := by rw [Cl];omega
    repeat' (first | refine W ?_|refine Za ?_|refine Zi hbx ?_|(apply S.convW;exact rfl;exact hcx;exact rfl)|(apply S.convW;exact rfl;exact hr;exact rfl)|(apply S.lenO;exact rfl;exact rfl;exact rfl)|(apply S.indexU i;(iterate 4 exact rfl);rfl;omega)|(apply S.storeU;(iterate 4 exact rfl);omega) | refine V ?_|(refine W2 ?_ ?_ <;> intro hc))
    change Next _ _ _ _ _ _
    exact Next.go ⟨i + 1, m.set i (x + 4294967296 - c), 1⟩ ⟨by dsimp only;omega, Md hinv hil (by omega) (by dsimp only;omega) (by rw [hx, List.getElem?_eq_none (by omega), Option.getD_some, Option.getD_none];dsimp only;omega)⟩ (by dsimp only;omega) CV (.live (Bl _ _ _) .nil)
   ·have hr : IntKind.u32.wrap ((x : Int) - c) = ((x - c : Nat) : Int) := by rw [Cl];omega
    repeat' (first | refine W ?_|refine Za ?_|refine Zi hbx ?_|(apply S.convW;exact rfl;exact hcx;exact rfl)|(apply S.convW;exact rfl;exact hr;exact rfl)|(apply S.lenO;exact rfl;exact rfl;exact rfl)|(apply S.indexU i;(iterate 4 exact rfl);rfl;omega)|(apply S.storeU;(iterate 4 exact rfl);omega) | refine V ?_|(refine W2 ?_ ?_ <;> intro hc))
    change Next _ _ _ _ _ _
    exact Next.go ⟨i + 1, m.set i (x - c), 0⟩ ⟨by dsimp only;omega, Md hinv hil (by omega) (by dsimp only;omega) (by rw [hx, List.getElem?_eq_none (by omega), Option.getD_some, Option.getD_none];dsimp only;omega)⟩ (by dsimp only;omega) CV (.live (Bl _ _ _) .nil)
 ·have h3 : ¬ (i : Int) < ((wq a).length : Nat) := by omega
  obtain rfl : i = a.length := by omega
  repeat' (first | refine W ?_|(refine T.freeze 5 rfl rfl (Jl .u32 m hm.symm) ?_)|(apply S.call;exact rfl;exact rfl;exact Ft m (val a - val b) hdm (by omega) (Ac6 hle hv hinv');exact rfl) | refine V ?_|(refine W2 ?_ ?_ <;> intro hc))
  exact Hx (by simp) Tryz.results290 rfl (.one (.one (.lf _)))
theorem V3 (a b : Nat) (ha : (wds a).length <= 1000) (hab : b <= a) : Fn0 Tryz.prog 290 [.sl (wq (wds a)), .sl (wq (wds b))] (.sl (wq (wds (a - b)))) := by
 have := A0f (wds a) (wds b) (Dh a) (Dh b) ha (Aan (Mu b) (Dh a) (by rw [Bw, Bw];exact hab)) (by rw [Bw, Bw];exact hab)
 rwa [Bw, Bw] at this
def Ld (a b : List Nat) : Nat -> Int
 | 0 => 0
 | k + 1 => if a[k]?.getD 0 = b[k]?.getD 0 then Ld a b k else if a[k]?.getD 0 < b[k]?.getD 0 then -1 else 1
def Ms (a b : List Nat) : Int := if a.length ≠ b.length then (a.length : Int) - b.length else Ld a b a.length
theorem Y5 {a b : List Nat} (da : Dig a) (db : Dig b) : ∀ k : Nat, (Ld a b k < 0 ↔ val (a.take k) < val (b.take k))
 | 0 => by simp [Ld, val]
 | k + 1 => by
  have ih := Y5 da db k
  have h1 := Kl _ (da.take k)
  have h2 := Kl _ (db.take k)
  have h3 : (4294967296 : Nat) ^ (a.take k).length <= 4294967296 ^ k := Nat.pow_le_pow_right (by decide) (by rw [List.length_take];omega)
  have h4 : (4294967296 : Nat) ^ (b.take k).length <= 4294967296 ^ k := Nat.pow_le_pow_right (by decide) (by rw [List.length_take];omega)
  rw [Ei, Ei]
  simp only [Ld]
  generalize a[k]?.getD 0 = x
  generalize b[k]?.getD 0 = y
  split
  ·subst_vars
   rw [ih];omega
  ·split
   ·have : 4294967296 ^ k * (x + 1) <= 4294967296 ^ k * y := Nat.mul_le_mul_left _ (by omega)
    rw [Nat.mul_add] at this
    constructor
    ·intro _;omega
    ·intro _;decide
   ·have : 4294967296 ^ k * (y + 1) <= 4294967296 ^ k * x := Nat.mul_le_mul_left _ (by omega)
    rw [Nat.mul_add] at this
    constructor
    ·intro h;exact absurd h (by decide)
    ·intro h;omega
theorem Z5 (a b : Nat) : (Ms (wds a) (wds b) < 0 ↔ a < b) := by
 unfold Ms
 split
 ·rename_i h
  constructor
  ·intro h1
   have := R5 (Mu b) (Dh a) (show (wds a).length < (wds b).length by omega)
   rwa [Bw, Bw] at this
  ·intro h1
   rcases Nat.lt_or_ge (wds b).length (wds a).length with h2 | h2
   ·have := R5 (Mu a) (Dh b) h2
    rw [Bw, Bw] at this
    omega
   ·omega
 ·rename_i h
  rw [Y5 (Dh a) (Dh b), List.take_of_length_le (Nat.le_refl _), List.take_of_length_le (by omega), Bw, Bw]
set_option maxHeartbeats 8000000 in
theorem Uk (a b : List Nat) (hla : a.length <= 1000) (hlb : b.length <= 1000) : Fn0 Tryz.prog 289 [.sl (wq a), .sl (wq b)] (.i (Ms a b)) := by
 have e1 : (wq a).length = a.length := D1 _ _
 have e2 : (wq b).length = b.length := D1 _ _
 by_cases hne : (((wq a).length : Nat) : Int) = ((wq b).length : Nat)
 ·skip
  refine Fn0.of Tryz.func289 Tryz.ntmps289 rfl rfl rfl ?_
  simp only [A2]
  repeat' (first | refine W ?_|refine Za ?_ | refine V ?_|(refine W2 ?_ ?_ <;> intro hc))
  refine T.loopS (fun k => k <= a.length /\ Ld a b k = Ld a b a.length) (fun k => k) (fun k => [(5, .i ((k : Int) - 1)), (0, .sl (wq a)), (1, .sl (wq b))]) (fun _ => []) a.length ⟨Nat.le_refl _, rfl⟩ (.cons (by rw [<- e1];rfl) rfl CV) .nil ?_
  rintro k ⟨hk, hv⟩
  cases k with
  | zero =>
   have h0 : ¬ (0 : Int) <= ((0 : Nat) : Int) - 1 := by omega
   repeat' (first | refine W ?_ | refine V ?_|(refine W2 ?_ ?_ <;> intro hc))
   exact A5 (by simp) Tryz.results289 rfl (by rw [Ms, if_neg (by omega), <- hv];rfl)
  | succ k =>
   have h1 : (0 : Int) <= ((k + 1 : Nat) : Int) - 1 := by omega
   have h2 : ((((k + 1 : Nat) : Int) - 1).toNat) = k := by omega
   obtain ⟨x, hx⟩ : ∃ x, a[k]? = some x := ⟨a[k]'(by omega), List.getElem?_eq_getElem (by omega)⟩
   obtain ⟨y, hy⟩ : ∃ y, b[k]? = some y := ⟨b[k]'(by omega), List.getElem?_eq_getElem (by omega)⟩
   have hbx : (wq a)[(((k + 1 : Nat) : Int) - 1).toNat]? = some [.val (.int .u32 (x : Int))] := by rw [h2];exact Z6 hx
   have hby : (wq b)[(((k + 1 : Nat) : Int) - 1).toNat]? = some [.val (.int .u32 (y : Int))] := by rw [h2];exact Z6 hy
   have hK : Ld a b (k + 1) = if x = y then Ld a b k else if x < y then -1 else 1 := by simp only [Ld, hx, hy, Option.getD_some]
   by_cases hxy : (x : Int) = (y : Int)
   ·repeat' (first | refine W ?_|refine Za ?_|refine Zi hbx ?_|refine Zi hby ?_|(apply T.drawAll A0 (by decide +kernel)) | refine V ?_|(refine W2 ?_ ?_ <;> intro hc))
    change Next _ _ _ _ _ _
    exact Next.go k ⟨by omega, by rw [<- hv, hK, if_pos (by omega)]⟩ (Nat.lt_succ_self k) (.cons (by rw [show ((k : Nat) : Int) - 1 = ((k + 1 : Nat) : Int) - 1 - 1 by omega];rfl) rfl CV) .nil
   ·by_cases hlt : (x : Int) < (y : Int)
    ·repeat' (first | refine W ?_|refine Za ?_|refine Zi hbx ?_|refine Zi hby ?_|(apply T.drawAll A0 (by decide +kernel)) | refine V ?_|(refine W2 ?_ ?_ <;> intro hc))
     exact A5 (by simp) Tryz.results289 rfl (by rw [Ms, if_neg (by omega), <- hv, hK, if_neg (by omega), if_pos (by omega)])
    ·repeat' (first | refine W ?_|refine Za ?_|refine Zi hbx ?_|refine Zi hby ?_|(apply T.drawAll A0 (by decide +kernel)) | refine V ?_|(refine W2 ?_ ?_ <;> intro hc))
     exact A5 (by simp) Tryz.results289 rfl (by rw [Ms, if_neg (by omega), <- hv, hK, if_neg (by omega), if_neg (by omega)])
 ·skip
  refine Fn0.of Tryz.func289 Tryz.ntmps289 rfl rfl rfl ?_
  simp only [A2]
  repeat' (first | refine W ?_|refine Za ?_ | refine V ?_|(refine W2 ?_ ?_ <;> intro hc))
  exact A5 (by simp) Tryz.results289 rfl (by rw [Ms, if_pos (by omega), e1, e2])
abbrev C6 (s : Bool) (n : Nat) : List Lf := [.val (.bool s), .sl (wq (wds n))]
set_option maxHeartbeats 4000000 in
theorem A7w (s : Bool) (n : Nat) : Fn0 Tryz.prog 185 [A1 (C6 s n)] (.i (if n = 0 then 0 else if s then -1 else 1)) := by
 by_cases h0 : n = 0
 ·subst h0
  have h : (((wq (wds 0)).length : Nat) : Int) = 0 := by rw [D1, G3];rfl
  refine Fn0.of Tryz.func185 Tryz.ntmps185 rfl rfl rfl ?_
  simp only [A2]
  repeat' (first | refine W ?_ | refine V ?_|(refine W2 ?_ ?_ <;> intro hc))
  exact A5 (by simp) Tryz.results185 rfl (by simp)
 ·have h : ¬ (((wq (wds n)).length : Nat) : Int) = 0 := fun e => h0 (wds_nil.1 (List.eq_nil_of_length_eq_zero (by rw [D1] at e;omega)))
  cases s <;>
  ·skip
   refine Fn0.of Tryz.func185 Tryz.ntmps185 rfl rfl rfl ?_
   simp only [A2]
   repeat' (first | refine W ?_ | refine V ?_|(refine W2 ?_ ?_ <;> intro hc))
   exact A5 (by simp) Tryz.results185 rfl (by simp [h0])
theorem Z3 (s : Bool) (n : Nat) : Fn0 Tryz.prog 249 [A1 (C6 s n)] (A1 (C6 (!s) n)) := by
 refine Fn0.of Tryz.func249 Tryz.ntmps249 rfl rfl rfl ?_
 simp only [A2]
 repeat' (first | refine W ?_|(apply T.drawAll A0 (by decide +kernel)) | refine V ?_|(refine W2 ?_ ?_ <;> intro hc))
 exact ⟨.inr rfl, [A1 (C6 (!s) n)], .cons (Res.row (C6 (!s) n) rfl rfl rfl rfl rfl) .nil, .one (.agg (A7 (C6 (!s) n)))⟩
end Go.Proofs.YtcbfnkgodiaiiaaGreat
