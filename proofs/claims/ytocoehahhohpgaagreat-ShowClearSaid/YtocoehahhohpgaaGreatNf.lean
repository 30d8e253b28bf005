/- Plain facts on numbers by their words of 32 bits, the Ss one first: no program. -/
import Derived.Lib.Hide
import Derived.Test.YtocoehahhohpgaaGreatNe
import Derived.Test.YtocoehahhohpgaaGreatMp
set_option linter.unusedSimpArgs false
set_option linter.unusedVariables false
namespace Go.Proofs.YtocoehahhohpgaaGreat
def val : List Nat -> Nat
 | [] => 0
 | d :: r => d + 4294967296 * val r
def Dig (l : List Nat) : Prop := ∀ x ∈ l, x < 4294967296
theorem Lz : ∀ (a b : List Nat), val (a ++ b) = val a + 4294967296 ^ a.length * val b
 | [], b => by simp [val]
 | d :: r, b => by
  simp only [List.cons_append, val, Lz r b, List.length_cons, Nat.pow_succ, Nat.mul_add]
  rw [Nat.mul_comm (4294967296 ^ r.length) 4294967296, Nat.mul_assoc]
  omega
theorem Jd : ∀ (l : List Nat), Dig l -> val l < 4294967296 ^ l.length
 | [], _ => by simp [val]
 | d :: r, h => by
  have h1 := Jd r fun x hx => h x (by simp [hx])
  have h2 := h d (by simp)
  simp only [val, List.length_cons, Nat.pow_succ]
  omega
theorem Dig.take {l : List Nat} (h : Dig l) (k : Nat) : Dig (l.take k) := fun x hx => h x (List.mem_of_mem_take hx)
theorem Dig.get {l : List Nat} (h : Dig l) {i x : Nat} (hx : l[i]? = some x) : x < 4294967296 := h x (List.mem_of_getElem? hx)
theorem Dig.set {l : List Nat} (h : Dig l) (i : Nat) {x : Nat} (hx : x < 4294967296) : Dig (l.set i x) := fun y hy => by
 rcases List.mem_or_eq_of_mem_set hy with h1 | h1
 ·exact h y h1
 ·rw [h1];exact hx
theorem Ga {l : List Nat} {i x : Nat} (hx : l[i]? = some x) : val (l.take (i + 1)) = val (l.take i) + 4294967296 ^ i * x := by
 have hi : i < l.length := (List.getElem?_eq_some_iff.1 hx).1
 rw [List.take_add_one, hx, Lz]
 simp [val, Nat.min_eq_left (Nat.le_of_lt hi)]
theorem L4 : ∀ (l : List Nat) (i x y : Nat), l[i]? = some y -> val (l.set i x) + 4294967296 ^ i * y = val l + 4294967296 ^ i * x
 | [], i, x, y, h => by simp at h
 | d :: r, 0, x, y, h => by
  simp at h;subst h
  simp only [List.set_cons_zero, val, Nat.pow_zero, Nat.one_mul];omega
 | d :: r, i + 1, x, y, h => by
  have := L4 r i x y (by simpa using h)
  simp only [List.set_cons_succ, val, Nat.pow_succ]
  rw [Nat.mul_comm (4294967296 ^ i) 4294967296, Nat.mul_assoc, Nat.mul_assoc]
  omega
theorem Kf : ∀ n : Nat, val (List.replicate n 0) = 0
 | 0 => rfl
 | n + 1 => by simp [List.replicate_succ, val, Kf n]
def Kx (l : List Nat) : Prop := ∀ x, l.getLast? = some x -> x ≠ 0
theorem Qq {l : List Nat} (h : Kx l) (hne : l ≠ []) : 4294967296 ^ (l.length - 1) <= val l := by
 obtain ⟨r, x, rfl⟩ : ∃ r x, l = r ++ [x] := ⟨l.dropLast, l.getLast hne, (List.dropLast_concat_getLast hne).symm⟩
 have hx : x ≠ 0 := h x (by simp)
 rw [Lz]
 simp only [List.length_append, List.length_singleton, Nat.add_sub_cancel, val, Nat.mul_zero, Nat.add_zero]
 have : 4294967296 ^ r.length * 1 <= 4294967296 ^ r.length * x := Nat.mul_le_mul_left _ (by omega)
 omega
theorem Qu {a b : List Nat} (ta : Kx a) (db : Dig b) (h : b.length < a.length) : val b < val a := by
 have h1 := Qq ta (by intro e;rw [e] at h;simp at h)
 have h2 := Jd b db
 have h3 : (4294967296 : Nat) ^ b.length <= 4294967296 ^ (a.length - 1) := Nat.pow_le_pow_right (by decide) (by omega)
 omega
theorem A38 {l : List Nat} (h : Kx l) : val l = 0 ↔ l = [] := by
 constructor
 ·intro h0
  by_cases he : l = []
  ·exact he
  ·have h1 := Qq h he
   have h2 : 0 < (4294967296 : Nat) ^ (l.length - 1) := Nat.pow_pos (by decide)
   omega
 ·rintro rfl;rfl
theorem A7f : Kx [] := fun x h => by simp at h
theorem W7 {l : List Nat} {k : Nat} (hk : l[k]? = some 0) : val (l.take (k + 1)) = val (l.take k) := by
 rw [Ga hk];simp
theorem A3m {l : List Nat} {k x : Nat} (hk : l[k]? = some x) (hx : x ≠ 0) : Kx (l.take (k + 1)) := fun y hy => by
 rw [List.take_add_one, hk] at hy
 simp at hy
 omega
/-! ### Sums -/
def Lm (a b m : List Nat) (i c : Nat) : Prop := m.length = a.length + 1 /\ Dig m /\ (∀ j, i <= j -> j < m.length -> m[j]? = some 0) /\ val m + 4294967296 ^ i * c = val (a.take i) + val (b.take i) /\ c <= 1
theorem Us (a b : List Nat) : Lm a b (List.replicate (a.length + 1) 0) 0 0 := by
 refine ⟨by simp, fun x hx => by rw [List.eq_of_mem_replicate hx];decide, fun j _ hj => ?_, by simp [Kf, val], by omega⟩
 simp at hj
 rw [List.getElem?_replicate, if_pos hj]
theorem Ec (l : List Nat) (i : Nat) : val (l.take (i + 1)) = val (l.take i) + 4294967296 ^ i * l[i]?.getD 0 := by
 cases h : l[i]? with
 | none =>
  have := List.getElem?_eq_none_iff.1 h
  rw [List.take_of_length_le (by omega), List.take_of_length_le (by omega)]
  simp
 | some x => rw [Ga h];rfl
theorem A5t {a : List Nat} (da : Dig a) (i : Nat) : a[i]?.getD 0 < 4294967296 := by
 cases e : a[i]? with
 | none => simp
 | some x => exact da.get e
theorem I7 {a b m : List Nat} {i c q r : Nat} (da : Dig a) (db : Dig b) (h : Lm a b m i c) (hi : i < m.length) (hr : r < 4294967296) (hq : 4294967296 * q + r = c + a[i]?.getD 0 + b[i]?.getD 0) : Lm a b (m.set i r) (i + 1) q := by
 obtain ⟨h1, h2, h3, h4, h5⟩ := h
 have ha := A5t da i
 have hb := A5t db i
 refine ⟨by simpa using h1, h2.set i hr, fun j hj hjl => ?_, ?_, by omega⟩
 ·rw [List.getElem?_set_ne (by omega)]
  exact h3 j (by omega) (by simpa using hjl)
 ·have e := L4 m i r 0 (h3 i (Nat.le_refl _) hi)
  rw [Ec, Ec, Nat.pow_succ]
  generalize a[i]?.getD 0 = x at *
  generalize b[i]?.getD 0 = y at *
  have : 4294967296 ^ i * 4294967296 * q + 4294967296 ^ i * r = 4294967296 ^ i * c + 4294967296 ^ i * x + 4294967296 ^ i * y := by
   rw [Nat.mul_assoc, <- Nat.mul_add, hq, Nat.mul_add, Nat.mul_add]
  omega
theorem A2m {P m va vb c : Nat} (h : m + P * 4294967296 * c = va + vb) (ha : va < P) (hb : vb < P) : m = va + vb := by
 rcases Nat.lt_or_ge 0 c with hc | hc
 ·have : P * 4294967296 * 1 <= P * 4294967296 * c := Nat.mul_le_mul_left _ hc
  rw [Nat.mul_one] at this
  generalize P * 4294967296 * c = X at *
  omega
 ·obtain rfl : c = 0 := by omega
  rw [Nat.mul_zero, Nat.add_zero] at h
  exact h
theorem A06 {a b m : List Nat} {c : Nat} (hl : b.length <= a.length) (da : Dig a) (db : Dig b) (h : Lm a b m (a.length + 1) c) : val m = val a + val b := by
 obtain ⟨h1, h2, h3, h4, h5⟩ := h
 rw [List.take_of_length_le (by omega), List.take_of_length_le (by omega), Nat.pow_succ] at h4
 have l3 : (4294967296 : Nat) ^ b.length <= 4294967296 ^ a.length := Nat.pow_le_pow_right (by omega) hl
 exact A2m h4 (Jd a da) (Nat.lt_of_lt_of_le (Jd b db) l3)

/-! ### Differences -/
def Ny (a b m : List Nat) (i c : Nat) : Prop := m.length = a.length /\ Dig m /\ (∀ j, i <= j -> j < m.length -> m[j]? = some 0) /\ val m + val (b.take i) = val (a.take i) + 4294967296 ^ i * c /\ c <= 1
theorem A4b (a b : List Nat) : Ny a b (List.replicate a.length 0) 0 0 := by
 refine ⟨by simp, fun x hx => by rw [List.eq_of_mem_replicate hx];decide, fun j _ hj => ?_, by simp [Kf, val], by omega⟩
 simp at hj
 rw [List.getElem?_replicate, if_pos hj]
theorem Mg {a b m : List Nat} {i c d c' : Nat} (h : Ny a b m i c) (hi : i < m.length) (hd : d < 4294967296) (hc : c' <= 1) (he : d + c + b[i]?.getD 0 = a[i]?.getD 0 + 4294967296 * c') :
  Ny a b (m.set i d) (i + 1) c' := by
 obtain ⟨h1, h2, h3, h4, h5⟩ := h
 refine ⟨by simpa using h1, h2.set i hd, fun j hj hjl => ?_, ?_, hc⟩
 ·rw [List.getElem?_set_ne (by omega)]
  exact h3 j (by omega) (by simpa using hjl)
 ·have e := L4 m i d 0 (h3 i (Nat.le_refl _) hi)
  rw [Ec, Ec, Nat.pow_succ]
  generalize a[i]?.getD 0 = x at *
  generalize b[i]?.getD 0 = y at *
  have : 4294967296 ^ i * d + 4294967296 ^ i * c + 4294967296 ^ i * y = 4294967296 ^ i * x + 4294967296 ^ i * 4294967296 * c' := by
   rw [Nat.mul_assoc, <- Nat.mul_add, <- Nat.mul_add, he, Nat.mul_add]
  omega
theorem A8z {a b m : List Nat} {c : Nat} (hl : b.length <= a.length) (hv : val b <= val a) (h : Ny a b m a.length c) : val m = val a - val b := by
 obtain ⟨h1, h2, h3, h4, h5⟩ := h
 rw [List.take_of_length_le hl, List.take_of_length_le (Nat.le_refl _)] at h4
 have l1 := Jd m h2
 rw [h1] at l1
 rcases Nat.lt_or_ge 0 c with hc | hc
 ·have : 4294967296 ^ a.length * 1 <= 4294967296 ^ a.length * c := Nat.mul_le_mul_left _ hc
  omega
 ·obtain rfl : c = 0 := by omega
  omega
theorem Aa2 {a b : List Nat} (tb : Kx b) (da : Dig a) (h : val b <= val a) : b.length <= a.length := by
 rcases Nat.lt_or_ge a.length b.length with h1 | h1
 ·have := Qu tb da h1;omega
 ·exact h1

/-! ### Products -/
def Nq (a b m : List Nat) (i : Nat) : Prop := m.length = a.length + b.length /\ Dig m /\ (∀ j, i + b.length <= j -> j < m.length -> m[j]? = some 0) /\ val m = val (a.take i) * val b
def T7 (a b m : List Nat) (i x k c : Nat) : Prop := m.length = a.length + b.length /\ Dig m /\ (∀ j, i + b.length <= j -> j < m.length -> m[j]? = some 0) /\ val m + 4294967296 ^ (i + k) * c = val (a.take i) * val b + 4294967296 ^ i * x * val (b.take k) /\ c < 4294967296
theorem A3g (a b : List Nat) : Nq a b (List.replicate (a.length + b.length) 0) 0 := by
 refine ⟨by simp, fun x hx => by rw [List.eq_of_mem_replicate hx];decide, fun j _ hj => ?_, by simp [Kf, val]⟩
 simp at hj
 rw [List.getElem?_replicate, if_pos hj]
theorem Abe {a b m : List Nat} {i : Nat} (x : Nat) (h : Nq a b m i) : T7 a b m i x 0 0 := by
 obtain ⟨h1, h2, h3, h4⟩ := h
 exact ⟨h1, h2, h3, by simp [val, h4], by decide⟩
theorem A6j {a b m : List Nat} {i x k c y z q r : Nat} (h : T7 a b m i x k c) (hx : x < 4294967296) (hy : b[k]? = some y) (hyd : y < 4294967296) (hz : m[i + k]? = some z) (hr : r < 4294967296) (hq : 4294967296 * q + r = c + (x * y + z)) (hqd : q < 4294967296) :
  T7 a b (m.set (i + k) r) i x (k + 1) q := by
 obtain ⟨h1, h2, h3, h4, h5⟩ := h
 have hk : k < b.length := (List.getElem?_eq_some_iff.1 hy).1
 refine ⟨by simpa using h1, h2.set _ hr, fun j hj hjl => ?_, ?_, hqd⟩
 ·rw [List.getElem?_set_ne (by omega)]
  exact h3 j hj (by simpa using hjl)
 ·have e := L4 m (i + k) r z hz
  have e4 : (4294967296 : Nat) ^ (i + (k + 1)) = 4294967296 ^ (i + k) * 4294967296 := by rw [<- Nat.add_assoc, Nat.pow_succ]
  rw [Ga hy, e4]
  have e2 : 4294967296 ^ (i + k) * 4294967296 * q + 4294967296 ^ (i + k) * r = 4294967296 ^ (i + k) * c + (4294967296 ^ (i + k) * (x * y) + 4294967296 ^ (i + k) * z) := by
   rw [Nat.mul_assoc, <- Nat.mul_add, hq, Nat.mul_add, Nat.mul_add]
  have e3 : 4294967296 ^ i * x * (val (b.take k) + 4294967296 ^ k * y) = 4294967296 ^ i * x * val (b.take k) + 4294967296 ^ (i + k) * (x * y) := by
   rw [Nat.mul_add, Nat.pow_add]
   congr 1
   rw [Nat.mul_assoc, Nat.mul_assoc]
   congr 1
   rw [<- Nat.mul_assoc, Nat.mul_comm x, Nat.mul_assoc]
  rw [e3]
  omega
theorem A6r {x y z c : Nat} (hx : x < 4294967296) (hy : y < 4294967296) (hz : z < 4294967296) (hc : c < 4294967296) : x * y <= 18446744065119617025 /\ c + (x * y + z) < 18446744073709551616 := by
 have hxy : x * y <= 4294967295 * 4294967295 := Nat.mul_le_mul (by omega) (by omega)
 omega
theorem Aa0 {a b m : List Nat} {i x c : Nat} (h : T7 a b m i x b.length c) (hi : a[i]? = some x) : Nq a b (m.set (i + b.length) c) (i + 1) := by
 obtain ⟨h1, h2, h3, h4, h5⟩ := h
 have hil : i < a.length := (List.getElem?_eq_some_iff.1 hi).1
 refine ⟨by simpa using h1, h2.set _ h5, fun j hj hjl => ?_, ?_⟩
 ·rw [List.getElem?_set_ne (by omega)]
  exact h3 j (by omega) (by simpa using hjl)
 ·have e := L4 m (i + b.length) c 0 (h3 _ (Nat.le_refl _) (by omega))
  rw [Ga hi, Nat.add_mul]
  rw [List.take_of_length_le (Nat.le_refl _)] at h4
  omega
theorem Aao {a b m : List Nat} (h : Nq a b m a.length) : val m = val a * val b := by
 have := h.2.2.2
 rwa [List.take_of_length_le (Nat.le_refl _)] at this
def wds (n : Nat) : List Nat := if h : n = 0 then [] else n % 4294967296 :: wds (n / 4294967296)
termination_by n
decreasing_by omega
theorem F6 : wds 0 = [] := by rw [wds];simp
theorem Lg {n : Nat} (h : n ≠ 0) : wds n = n % 4294967296 :: wds (n / 4294967296) := by rw [wds, dif_neg h]
theorem A3y {d : Nat} {r : List Nat} (h : Kx (d :: r)) : Kx r := fun x hx => h x (by
 cases r with
 | nil => simp at hx
 | cons y r => rw [List.getLast?_cons_cons];exact hx)
theorem Y9 : ∀ l : List Nat, Dig l -> Kx l -> wds (val l) = l
 | [], _, _ => F6
 | d :: r, hd, ht => by
  have h1 := hd d (by simp)
  have h0 : val (d :: r) ≠ 0 := fun h => by have := (A38 ht).1 h;cases this
  have e1 : val (d :: r) % 4294967296 = d := by simp only [val];omega
  have e2 : val (d :: r) / 4294967296 = val r := by simp only [val];omega
  rw [Lg h0, e1, e2, Y9 r (fun x hx => hd x (by simp [hx])) (A3y ht)]
theorem De (n : Nat) : Dig (wds n) := by
 induction n using Nat.strongRecOn with
 | _ n ih =>
  by_cases h : n = 0
  ·subst h;rw [F6];intro x hx;simp at hx
  ·rw [Lg h]
   intro x hx
   rcases List.mem_cons.1 hx with rfl | hx
   ·omega
   ·exact ih (n / 4294967296) (by omega) x hx
theorem Bt (n : Nat) : val (wds n) = n := by
 induction n using Nat.strongRecOn with
 | _ n ih =>
  by_cases h : n = 0
  ·subst h;rw [F6];rfl
  ·rw [Lg h, val, ih (n / 4294967296) (by omega)];omega
theorem Me (n : Nat) : Kx (wds n) := by
 induction n using Nat.strongRecOn with
 | _ n ih =>
  by_cases h : n = 0
  ·subst h;rw [F6];exact A7f
  ·rw [Lg h]
   intro x hx
   by_cases h2 : n / 4294967296 = 0
   ·rw [h2, F6] at hx
    simp at hx
    omega
   ·have := ih (n / 4294967296) (by omega) x
    rw [Lg h2] at hx this
    rw [List.getLast?_cons_cons] at hx
    exact this hx
theorem Uc {n k : Nat} (h : n < 4294967296 ^ k) : (wds n).length <= k := by
 rcases Nat.lt_or_ge k (wds n).length with h1 | h1
 ·have h2 := Qq (Me n) (by intro e;rw [e] at h1;simp at h1)
  rw [Bt] at h2
  have h3 : (4294967296 : Nat) ^ k <= 4294967296 ^ ((wds n).length - 1) := Nat.pow_le_pow_right (by decide) (by omega)
  omega
 ·exact h1
theorem wds_nil {n : Nat} : wds n = [] ↔ n = 0 := by
 constructor
 ·intro h
  have := Bt n
  rw [h] at this
  exact this.symm
 ·rintro rfl;exact F6
def sgn (s : Bool) (n : Nat) : Int := if s then -(n : Int) else n
def Hb (s : Bool) (a : Nat) (t : Bool) (b : Nat) : Bool × Nat := if s = t then (s, a + b) else if a < b then (t, b - a) else (s, a - b)
theorem A3l (s : Bool) (a : Nat) (t : Bool) (b : Nat) : sgn (Hb s a t b).1 (Hb s a t b).2 = sgn s a + sgn t b := by
 unfold Hb sgn
 cases s <;> cases t <;> simp only [if_true, if_false, Bool.false_eq_true, Bool.true_eq_false, reduceCtorEq] <;> (try omega) <;> (split <;> simp only [if_true, if_false, Bool.false_eq_true] <;> omega)
theorem U7 (s : Bool) (a : Nat) (t : Bool) (b : Nat) : sgn (s != t) (a * b) = sgn s a * sgn t b := by
 unfold sgn
 cases s <;> cases t <;> simp [Int.natCast_mul, Int.neg_mul, Int.mul_neg]
theorem Aag (s : Bool) (a : Nat) : sgn (!s) a = - sgn s a := by
 unfold sgn
 cases s <;> simp
theorem A0d (z : Int) : sgn (decide (z < 0)) z.natAbs = z := by
 unfold sgn
 by_cases h : z < 0 <;> simp [h] <;> omega
theorem A88 (s : Bool) (a : Nat) (t : Bool) (b : Nat) : (Hb s a t b).2 <= a + b := by
 unfold Hb
 split
 ·exact Nat.le_refl _
 ·split <;> simp <;> omega
structure Ex where
 s : Bool
 n : Nat
 d : Nat
def Ex.val (x : Ex) : Rat := mkRat (sgn x.s x.n) x.d
def Ex.bd (k : Nat) (x : Ex) : Prop := x.n < 4294967296 ^ k /\ x.d < 4294967296 ^ k /\ 0 < x.d
def Ex.ofQ (q : Rat) : Ex := ⟨decide (q.num < 0), q.num.natAbs, q.den⟩
def Ex.ofI (n : Int) (d : Nat) : Ex := ⟨decide (n < 0), n.natAbs, d⟩
def Ex.plus (x y : Ex) : Ex := ⟨(Hb (x.s != false) (x.n * y.d) (y.s != false) (y.n * x.d)).1, (Hb (x.s != false) (x.n * y.d) (y.s != false) (y.n * x.d)).2, x.d * y.d⟩
def Ex.less (x y : Ex) : Ex := x.plus ⟨!y.s, y.n, y.d⟩
def Ex.times (x y : Ex) : Ex := ⟨x.s != y.s, x.n * y.n, x.d * y.d⟩
def Ex.sign (x : Ex) : Int := if x.n = 0 then 0 else if x.s then -1 else 1
theorem Ex.val_ofQ (q : Rat) : (Ex.ofQ q).val = q := by
 unfold Ex.val Ex.ofQ
 rw [A0d]
 exact Rat.mkRat_self q
theorem Ex.val_ofI (n : Int) (d : Nat) : (Ex.ofI n d).val = mkRat n d := by
 unfold Ex.val Ex.ofI
 rw [A0d]
theorem Ex.val_times (x y : Ex) : (x.times y).val = x.val * y.val := by
 unfold Ex.val Ex.times
 rw [U7, Rat.mkRat_mul_mkRat]
theorem Ex.val_plus {x y : Ex} (hx : 0 < x.d) (hy : 0 < y.d) : (x.plus y).val = x.val + y.val := by
 unfold Ex.val Ex.plus
 rw [A3l, U7, U7, Rat.mkRat_add_mkRat _ _ (by omega) (by omega)]
 simp [sgn]
theorem Ex.val_less {x y : Ex} (hx : 0 < x.d) (hy : 0 < y.d) : (x.less y).val = x.val - y.val := by
 unfold Ex.less
 rw [Ex.val_plus (y := ⟨!y.s, y.n, y.d⟩) hx hy, Rat.sub_eq_add_neg]
 congr 1
 unfold Ex.val
 rw [Aag, Rat.neg_mkRat]
theorem Wv {p q : Int} (hq : 0 < q) : (Rat.divInt p q).num.sign = p.sign := by
 by_cases hp : p = 0
 ·subst hp;simp
 have h1 := Rat.num_divInt p q
 rw [Int.sign_eq_one_of_pos hq, Int.one_mul] at h1
 have hg : 0 < (Int.gcd q p : Int) := by
  have : Int.gcd q p ≠ 0 := by simp [Int.gcd_eq_zero_iff, hp]
  omega
 rw [h1]
 have hd : (Int.gcd q p : Int) ∣ p := Int.gcd_dvd_right ..
 have h2 : p = p / (Int.gcd q p : Int) * (Int.gcd q p : Int) := (Int.ediv_mul_cancel hd).symm
 conv => rhs;rw [h2]
 rw [Int.sign_mul, Int.sign_eq_one_of_pos hg, Int.mul_one]
theorem Ex.sign_val {x : Ex} (hx : 0 < x.d) : x.sign = x.val.num.sign := by
 have h1 : x.val.num.sign = (sgn x.s x.n).sign := by
  unfold Ex.val
  rw [<- Rat.divInt_ofNat]
  exact Wv (by omega)
 rw [h1]
 unfold Ex.sign sgn
 split
 ·rename_i h;rw [h];split <;> rfl
 ·split
  ·rw [Int.sign_eq_neg_one_of_neg (by omega)]
  ·rw [Int.sign_eq_one_of_pos (by omega)]
theorem X4 {a j k : Nat} (h : a < 4294967296 ^ j) (hj : j <= k) : a < 4294967296 ^ k := Nat.lt_of_lt_of_le h (Nat.pow_le_pow_right (by decide) hj)
theorem Jj {a b j k : Nat} (ha : a < 4294967296 ^ j) (hb : b < 4294967296 ^ k) : a * b < 4294967296 ^ (j + k) := by
 rw [Nat.pow_add]
 exact Nat.mul_lt_mul'' ha hb
theorem Ex.bd.mono {x : Ex} {j k : Nat} (h : x.bd j) (hj : j <= k) : x.bd k := ⟨X4 h.1 hj, X4 h.2.1 hj, h.2.2⟩
theorem Ex.bd_times {x y : Ex} {j k : Nat} (hx : x.bd j) (hy : y.bd k) : (x.times y).bd (j + k) := ⟨Jj hx.1 hy.1, Jj hx.2.1 hy.2.1, Nat.mul_pos hx.2.2 hy.2.2⟩
theorem Ex.bd_plus {x y : Ex} {j k : Nat} (hx : x.bd j) (hy : y.bd k) : (x.plus y).bd (j + k + 1) := by
 refine ⟨?_, X4 (Jj hx.2.1 hy.2.1) (by omega), Nat.mul_pos hx.2.2 hy.2.2⟩
 have h1 := A88 (x.s != false) (x.n * y.d) (y.s != false) (y.n * x.d)
 have h2 := Jj hx.1 hy.2.1
 have h3 := Jj hy.1 hx.2.1
 rw [Nat.add_comm k j] at h3
 unfold Ex.plus
 simp only []
 rw [Nat.pow_succ]
 generalize 4294967296 ^ (j + k) = B at *
 omega
theorem Ex.bd_less {x y : Ex} {j k : Nat} (hx : x.bd j) (hy : y.bd k) : (x.less y).bd (j + k + 1) := by
 unfold Ex.less
 exact Ex.bd_plus (y := ⟨!y.s, y.n, y.d⟩) hx ⟨hy.1, hy.2.1, hy.2.2⟩
end Go.Proofs.YtocoehahhohpgaaGreat
namespace Go.Proofs.YtocoehahhohpgaaGreat
open Go.RowKit
abbrev wq (l : List Nat) : List (List Lf) := wsR .u32 l
theorem Aat (x : Nat) : IntKind.u32.wrap (x : Int) = ((x % 4294967296 : Nat) : Int) := by rw [Ck];omega
theorem H8 {x : Nat} (h : x < 18446744073709551616) : IntKind.u64.wrap (x : Int) = (x : Int) := by rw [Cq];omega
theorem A8x {x : Nat} (h : x < 4294967296) : IntKind.u32.wrap (x : Int) = (x : Int) := by rw [Ck];omega
set_option maxHeartbeats 4000000 in
theorem Z2 (l : List Nat) (hd : Dig l) (hl : l.length <= 4000) : Fn0 Tryz.prog 275 [.sl (wq l)] (.sl (wq (wds (val l)))) := by
 refine Fn0.of Tryz.func275 Tryz.ntmps275 rfl rfl rfl ?_
 simp only [A2]
 repeat' (first | refine W ?_ | refine V ?_|(refine W2 ?_ ?_ <;> intro hc))
 refine T.loopS (fun k => k <= l.length /\ val (l.take k) = val l) (fun k => k) (fun k => [(0, .sl (wq (l.take k)))]) (fun _ => []) l.length ⟨Nat.le_refl _, by rw [List.take_of_length_le (Nat.le_refl _)]⟩ (.cons (by rw [List.take_of_length_le (Nat.le_refl _)];rfl) rfl .nil) .nil ?_
 rintro k ⟨hk, hv⟩
 have hlen : (wq (l.take k)).length = k := by rw [Cx, List.length_take, Nat.min_eq_left hk]
 cases k with
 | zero =>
  have h0 : ¬ (0 : Int) < ((wq (l.take 0)).length : Nat) := by rw [hlen];omega
  repeat' (first | refine W ?_ | refine V ?_|(refine W2 ?_ ?_ <;> intro hc))
  exact He (by simp) Tryz.results275 rfl (by rw [<- hv, show val (l.take 0) = 0 from rfl, F6];exact .one (.one (.lf _)))
 | succ k =>
  have h1 : (0 : Int) < ((wq (l.take (k + 1))).length : Nat) := by rw [hlen];omega
  have h2 : (((wq (l.take (k + 1))).length : Nat) : Int) - 1 = (k : Nat) := by rw [hlen];omega
  obtain ⟨x, hx⟩ : ∃ x, l[k]? = some x := ⟨l[k], List.getElem?_eq_getElem (by omega)⟩
  have hx' : (l.take (k + 1))[k]? = some x := by rw [List.getElem?_take_of_lt (by omega), hx]
  have hb : (wq (l.take (k + 1)))[((((wq (l.take (k + 1))).length : Nat) : Int) - 1).toNat]? = some [.val (.int .u32 (x : Int))] := by rw [h2];exact Fv hx'
  have h3 : (wq (l.take (k + 1))).take ((((wq (l.take (k + 1))).length : Nat) : Int) - 1).toNat = wq (l.take k) := by rw [h2, A6y, Int.toNat_natCast, List.take_take, Nat.min_eq_left (by omega)]
  by_cases h0 : (x : Int) = 0
  ·repeat' (first | refine W ?_|refine Za ?_|refine Zi hb ?_|(apply S.sliceTo;exact rfl;exact rfl;exact rfl;omega;exact A0v _ _) | refine V ?_|(refine W2 ?_ ?_ <;> intro hc))
   change Next _ _ _ _ _ _
   refine Next.go k ⟨by omega, ?_⟩ (Nat.lt_succ_self k) (.cons (by rw [h3];rfl) rfl .nil) .nil
   have : x = 0 := by omega
   subst this
   rw [<- W7 hx, hv]
  ·repeat' (first | refine W ?_|refine Za ?_|refine Zi hb ?_|(apply S.sliceTo;exact rfl;exact rfl;exact rfl;omega;exact A0v _ _) | refine V ?_|(refine W2 ?_ ?_ <;> intro hc))
   refine He (by simp) Tryz.results275 rfl ?_
   rw [<- hv, Y9 _ (hd.take _) (A3m hx (by omega))]
   exact .one (.one (.lf _))
structure AddS where
 i : Nat
 m : List Nat
 c : Nat
theorem Fg (l : List Nat) (n : Nat) (hd : Dig l) (hl : l.length <= 4000) (h : val l = n) : Fn0 Tryz.prog 275 [.sl (wq l)] (.sl (wq (wds n))) := by
 subst h;exact Z2 l hd hl
set_option maxHeartbeats 8000000 in
theorem Wm (a b : List Nat) (da : Dig a) (db : Dig b) (hla : a.length <= 1000) (hle : b.length <= a.length) :
  Fn0 Tryz.prog 300 [.sl (wq a), .sl (wq b)] (.sl (wq (wds (val a + val b)))) := by
 have e1 : (wq a).length = a.length := Cx _ _
 have e2 : (wq b).length = b.length := Cx _ _
 have hlt : ¬ (((wq a).length : Nat) : Int) < ((wq b).length : Nat) := by omega
 have h1 : (((wq a).length : Nat) : Int) + 1 = ((a.length + 1 : Nat) : Int) := by omega
 refine Fn0.of Tryz.func300 Tryz.ntmps300 rfl rfl rfl ?_
 simp only [A2]
 repeat' (first | refine W ?_|refine Za ?_|(apply S.lenO;exact rfl;exact rfl;exact rfl)|(apply S.makeU (n := a.length + 1);exact rfl;rw [<- h1];exact rfl;omega;exact rfl;exact rfl) | refine V ?_|(refine W2 ?_ ?_ <;> intro hc))
 refine T.loopS (fun (s : AddS) => s.i <= a.length + 1 /\ Lm a b s.m s.i s.c) (fun s => a.length + 1 - s.i) (fun s => [(21, .i s.i), (20, .i ((a.length + 1 : Nat) : Int)), (6, .val (.int .u64 (s.c : Int))), (5, .own 0 0 (a.length + 1) 1), (0, .sl (wq a)), (1, .sl (wq b))]) (fun s => [.live (wsA .u32 s.m)]) ⟨0, List.replicate (a.length + 1) 0, 0⟩ ⟨Nat.zero_le _, Us a b⟩ CV (.live (Bg _ _ _) .nil) ?_
 rintro ⟨i, m, c⟩ ⟨hi, hinv⟩
 dsimp only at hi hinv ⊢
 have hinv' := hinv
 obtain ⟨hm, hdm, _, _, hc1⟩ := hinv
 by_cases hil : i < m.length
 ·have h3 : (i : Int) < ((a.length + 1 : Nat) : Int) := by omega
  have hinv := hinv'
  by_cases hia : i < a.length
  ·obtain ⟨x, hx⟩ : ∃ x, a[i]? = some x := ⟨a[i], List.getElem?_eq_getElem hia⟩
   have hbx := Fv (k := .u32) hx
   have hxl := da.get hx
   have hia' : (i : Int) < ((wq a).length : Nat) := by omega
   by_cases hib : i < b.length
   ·obtain ⟨y, hy⟩ : ∃ y, b[i]? = some y := ⟨b[i], List.getElem?_eq_getElem hib⟩
    have hby := Fv (k := .u32) hy
    have hyl := db.get hy
    have hib' : (i : Int) < ((wq b).length : Nat) := by omega
    have hr : IntKind.u32.wrap ((c : Int) + (x : Int) + (y : Int)) = (((c + x + y) % 4294967296 : Nat) : Int) := by rw [Ck];omega
    have hq : ((c : Int) + (x : Int) + (y : Int)) / 4294967296 = (((c + x + y) / 4294967296 : Nat) : Int) := by omega
    repeat' (first | refine W ?_|refine Za ?_|(apply S.arithU;(iterate 4 exact rfl);omega)|refine Zi hbx ?_|refine Zi hby ?_|(apply S.convW;exact rfl;exact H8 (show x < 18446744073709551616 by omega);exact rfl)|(apply S.convW;exact rfl;exact H8 (show y < 18446744073709551616 by omega);exact rfl)|(apply S.convW;exact rfl;exact hr;exact rfl)|(apply S.shr32;exact rfl;exact rfl;exact rfl)|(apply S.lenO;exact rfl;exact rfl;exact rfl)|(apply S.indexU i;(iterate 4 exact rfl);rfl;omega)|(apply S.storeU;(iterate 4 exact rfl);omega) | refine V ?_|(refine W2 ?_ ?_ <;> intro hc))
    change Next _ _ _ _ _ _
    exact Next.go ⟨i + 1, m.set i ((c + x + y) % 4294967296), (c + x + y) / 4294967296⟩ ⟨by dsimp only;omega, I7 da db hinv hil (Nat.mod_lt _ (by decide)) (by rw [hx, hy, Option.getD_some, Option.getD_some];dsimp only;omega)⟩ (by dsimp only;omega) (.cons rfl rfl (.cons rfl rfl (.cons (by rw [<- hq];rfl) rfl CV))) (.live (Bg _ _ _) .nil)
   ·have hib' : ¬ (i : Int) < ((wq b).length : Nat) := by omega
    have hr : IntKind.u32.wrap ((c : Int) + (x : Int)) = (((c + x + 0) % 4294967296 : Nat) : Int) := by rw [Ck];omega
    have hq : ((c : Int) + (x : Int)) / 4294967296 = (((c + x + 0) / 4294967296 : Nat) : Int) := by omega
    repeat' (first | refine W ?_|refine Za ?_|(apply S.arithU;(iterate 4 exact rfl);omega)|refine Zi hbx ?_|(apply S.convW;exact rfl;exact H8 (show x < 18446744073709551616 by omega);exact rfl)|(apply S.convW;exact rfl;exact hr;exact rfl)|(apply S.shr32;exact rfl;exact rfl;exact rfl)|(apply S.lenO;exact rfl;exact rfl;exact rfl)|(apply S.indexU i;(iterate 4 exact rfl);rfl;omega)|(apply S.storeU;(iterate 4 exact rfl);omega) | refine V ?_|(refine W2 ?_ ?_ <;> intro hc))
    change Next _ _ _ _ _ _
    exact Next.go ⟨i + 1, m.set i ((c + x + 0) % 4294967296), (c + x + 0) / 4294967296⟩ ⟨by dsimp only;omega, I7 da db hinv hil (Nat.mod_lt _ (by decide)) (by rw [hx, List.getElem?_eq_none (by omega), Option.getD_some, Option.getD_none];dsimp only;omega)⟩ (by dsimp only;omega) (.cons rfl rfl (.cons rfl rfl (.cons (by rw [<- hq];rfl) rfl CV))) (.live (Bg _ _ _) .nil)
  ·have hia' : ¬ (i : Int) < ((wq a).length : Nat) := by omega
   have hib' : ¬ (i : Int) < ((wq b).length : Nat) := by omega
   have hr : IntKind.u32.wrap ((c : Int)) = (((c + 0 + 0) % 4294967296 : Nat) : Int) := by rw [Ck];omega
   have hq : ((c : Int)) / 4294967296 = (((c + 0 + 0) / 4294967296 : Nat) : Int) := by omega
   repeat' (first | refine W ?_|refine Za ?_|(apply S.arithU;(iterate 4 exact rfl);omega)|(apply S.convW;exact rfl;exact hr;exact rfl)|(apply S.shr32;exact rfl;exact rfl;exact rfl)|(apply S.lenO;exact rfl;exact rfl;exact rfl)|(apply S.indexU i;(iterate 4 exact rfl);rfl;omega)|(apply S.storeU;(iterate 4 exact rfl);omega) | refine V ?_|(refine W2 ?_ ?_ <;> intro hc))
   change Next _ _ _ _ _ _
   exact Next.go ⟨i + 1, m.set i ((c + 0 + 0) % 4294967296), (c + 0 + 0) / 4294967296⟩ ⟨by dsimp only;omega, I7 da db hinv hil (Nat.mod_lt _ (by decide)) (by rw [List.getElem?_eq_none (by omega), List.getElem?_eq_none (by omega), Option.getD_none];dsimp only;omega)⟩ (by dsimp only;omega) (.cons rfl rfl (.cons rfl rfl (.cons (by rw [<- hq];rfl) rfl CV))) (.live (Bg _ _ _) .nil)
 ·have h3 : ¬ (i : Int) < ((a.length + 1 : Nat) : Int) := by omega
  obtain rfl : i = a.length + 1 := by omega
  repeat' (first | refine W ?_|(refine T.freeze 5 rfl rfl (Iw .u32 m hm.symm) ?_)|(apply S.call;exact rfl;exact rfl;exact Fg m (val a + val b) hdm (by omega) (A06 hle da db hinv');exact rfl) | refine V ?_|(refine W2 ?_ ?_ <;> intro hc))
  exact He (by simp) Tryz.results300 rfl (.one (.one (.lf _)))
set_option maxHeartbeats 8000000 in
theorem Wo (a b : List Nat) (da : Dig a) (db : Dig b) (hla : a.length <= 1000) (hsw : b.length < a.length) :
  Fn0 Tryz.prog 300 [.sl (wq b), .sl (wq a)] (.sl (wq (wds (val a + val b)))) := by
 have e1 : (wq a).length = a.length := Cx _ _
 have e2 : (wq b).length = b.length := Cx _ _
 have hle : b.length <= a.length := by omega
 have hlt : (((wq b).length : Nat) : Int) < ((wq a).length : Nat) := by omega
 have h1 : (((wq a).length : Nat) : Int) + 1 = ((a.length + 1 : Nat) : Int) := by omega
 refine Fn0.of Tryz.func300 Tryz.ntmps300 rfl rfl rfl ?_
 simp only [A2]
 repeat' (first | refine W ?_|refine Za ?_|(apply S.lenO;exact rfl;exact rfl;exact rfl)|(apply S.makeU (n := a.length + 1);exact rfl;rw [<- h1];exact rfl;omega;exact rfl;exact rfl) | refine V ?_|(refine W2 ?_ ?_ <;> intro hc))
 refine T.loopS (fun (s : AddS) => s.i <= a.length + 1 /\ Lm a b s.m s.i s.c) (fun s => a.length + 1 - s.i) (fun s => [(21, .i s.i), (20, .i ((a.length + 1 : Nat) : Int)), (6, .val (.int .u64 (s.c : Int))), (5, .own 0 0 (a.length + 1) 1), (0, .sl (wq a)), (1, .sl (wq b))]) (fun s => [.live (wsA .u32 s.m)]) ⟨0, List.replicate (a.length + 1) 0, 0⟩ ⟨Nat.zero_le _, Us a b⟩ CV (.live (Bg _ _ _) .nil) ?_
 rintro ⟨i, m, c⟩ ⟨hi, hinv⟩
 dsimp only at hi hinv ⊢
 have hinv' := hinv
 obtain ⟨hm, hdm, _, _, hc1⟩ := hinv
 by_cases hil : i < m.length
 ·have h3 : (i : Int) < ((a.length + 1 : Nat) : Int) := by omega
  have hinv := hinv'
  by_cases hia : i < a.length
  ·obtain ⟨x, hx⟩ : ∃ x, a[i]? = some x := ⟨a[i], List.getElem?_eq_getElem hia⟩
   have hbx := Fv (k := .u32) hx
   have hxl := da.get hx
   have hia' : (i : Int) < ((wq a).length : Nat) := by omega
   by_cases hib : i < b.length
   ·obtain ⟨y, hy⟩ : ∃ y, b[i]? = some y := ⟨b[i], List.getElem?_eq_getElem hib⟩
    have hby := Fv (k := .u32) hy
    have hyl := db.get hy
    have hib' : (i : Int) < ((wq b).length : Nat) := by omega
    have hr : IntKind.u32.wrap ((c : Int) + (x : Int) + (y : Int)) = (((c + x + y) % 4294967296 : Nat) : Int) := by rw [Ck];omega
    have hq : ((c : Int) + (x : Int) + (y : Int)) / 4294967296 = (((c + x + y) / 4294967296 : Nat) : Int) := by omega
    repeat' (first | refine W ?_|refine Za ?_|(apply S.arithU;(iterate 4 exact rfl);omega)|refine Zi hbx ?_|refine Zi hby ?_|(apply S.convW;exact rfl;exact H8 (show x < 18446744073709551616 by omega);exact rfl)|(apply S.convW;exact rfl;exact H8 (show y < 18446744073709551616 by omega);exact rfl)|(apply S.convW;exact rfl;exact hr;exact rfl)|(apply S.shr32;exact rfl;exact rfl;exact rfl)|(apply S.lenO;exact rfl;exact rfl;exact rfl)|(apply S.indexU i;(iterate 4 exact rfl);rfl;omega)|(apply S.storeU;(iterate 4 exact rfl);omega) | refine V ?_|(refine W2 ?_ ?_ <;> intro hc))
    change Next _ _ _ _ _ _
    exact Next.go ⟨i + 1, m.set i ((c + x + y) % 4294967296), (c + x + y) / 4294967296⟩ ⟨by dsimp only;omega, I7 da db hinv hil (Nat.mod_lt _ (by decide)) (by rw [hx, hy, Option.getD_some, Option.getD_some];dsimp only;omega)⟩ (by dsimp only;omega) (.cons rfl rfl (.cons rfl rfl (.cons (by rw [<- hq];rfl) rfl CV))) (.live (Bg _ _ _) .nil)
   ·have hib' : ¬ (i : Int) < ((wq b).length : Nat) := by omega
    have hr : IntKind.u32.wrap ((c : Int) + (x : Int)) = (((c + x + 0) % 4294967296 : Nat) : Int) := by rw [Ck];omega
    have hq : ((c : Int) + (x : Int)) / 4294967296 = (((c + x + 0) / 4294967296 : Nat) : Int) := by omega
    repeat' (first | refine W ?_|refine Za ?_|(apply S.arithU;(iterate 4 exact rfl);omega)|refine Zi hbx ?_|(apply S.convW;exact rfl;exact H8 (show x < 18446744073709551616 by omega);exact rfl)|(apply S.convW;exact rfl;exact hr;exact rfl)|(apply S.shr32;exact rfl;exact rfl;exact rfl)|(apply S.lenO;exact rfl;exact rfl;exact rfl)|(apply S.indexU i;(iterate 4 exact rfl);rfl;omega)|(apply S.storeU;(iterate 4 exact rfl);omega) | refine V ?_|(refine W2 ?_ ?_ <;> intro hc))
    change Next _ _ _ _ _ _
    exact Next.go ⟨i + 1, m.set i ((c + x + 0) % 4294967296), (c + x + 0) / 4294967296⟩ ⟨by dsimp only;omega, I7 da db hinv hil (Nat.mod_lt _ (by decide)) (by rw [hx, List.getElem?_eq_none (by omega), Option.getD_some, Option.getD_none];dsimp only;omega)⟩ (by dsimp only;omega) (.cons rfl rfl (.cons rfl rfl (.cons (by rw [<- hq];rfl) rfl CV))) (.live (Bg _ _ _) .nil)
  ·have hia' : ¬ (i : Int) < ((wq a).length : Nat) := by omega
   have hib' : ¬ (i : Int) < ((wq b).length : Nat) := by omega
   have hr : IntKind.u32.wrap ((c : Int)) = (((c + 0 + 0) % 4294967296 : Nat) : Int) := by rw [Ck];omega
   have hq : ((c : Int)) / 4294967296 = (((c + 0 + 0) / 4294967296 : Nat) : Int) := by omega
   repeat' (first | refine W ?_|refine Za ?_|(apply S.arithU;(iterate 4 exact rfl);omega)|(apply S.convW;exact rfl;exact hr;exact rfl)|(apply S.shr32;exact rfl;exact rfl;exact rfl)|(apply S.lenO;exact rfl;exact rfl;exact rfl)|(apply S.indexU i;(iterate 4 exact rfl);rfl;omega)|(apply S.storeU;(iterate 4 exact rfl);omega) | refine V ?_|(refine W2 ?_ ?_ <;> intro hc))
   change Next _ _ _ _ _ _
   exact Next.go ⟨i + 1, m.set i ((c + 0 + 0) % 4294967296), (c + 0 + 0) / 4294967296⟩ ⟨by dsimp only;omega, I7 da db hinv hil (Nat.mod_lt _ (by decide)) (by rw [List.getElem?_eq_none (by omega), List.getElem?_eq_none (by omega), Option.getD_none];dsimp only;omega)⟩ (by dsimp only;omega) (.cons rfl rfl (.cons rfl rfl (.cons (by rw [<- hq];rfl) rfl CV))) (.live (Bg _ _ _) .nil)
 ·have h3 : ¬ (i : Int) < ((a.length + 1 : Nat) : Int) := by omega
  obtain rfl : i = a.length + 1 := by omega
  repeat' (first | refine W ?_|(refine T.freeze 5 rfl rfl (Iw .u32 m hm.symm) ?_)|(apply S.call;exact rfl;exact rfl;exact Fg m (val a + val b) hdm (by omega) (A06 hle da db hinv');exact rfl) | refine V ?_|(refine W2 ?_ ?_ <;> intro hc))
  exact He (by simp) Tryz.results300 rfl (.one (.one (.lf _)))
theorem A5g (a b : Nat) (ha : (wds a).length <= 1000) (hb : (wds b).length <= 1000) : Fn0 Tryz.prog 300 [.sl (wq (wds a)), .sl (wq (wds b))] (.sl (wq (wds (a + b)))) := by
 rcases Nat.lt_or_ge (wds a).length (wds b).length with h | h
 ·have := Wo (wds b) (wds a) (De b) (De a) hb h
  rwa [Bt, Bt, Nat.add_comm b a] at this
 ·have := Wm (wds a) (wds b) (De a) (De b) ha h
  rwa [Bt, Bt] at this
set_option maxHeartbeats 8000000 in
theorem Zd (a b : List Nat) (da : Dig a) (db : Dig b) (hla : a.length <= 1000) (hle : b.length <= a.length) (hv : val b <= val a) :
  Fn0 Tryz.prog 302 [.sl (wq a), .sl (wq b)] (.sl (wq (wds (val a - val b)))) := by
 have e1 : (wq a).length = a.length := Cx _ _
 have e2 : (wq b).length = b.length := Cx _ _
 have h1 : (((wq a).length : Nat) : Int) = ((a.length : Nat) : Int) := by omega
 refine Fn0.of Tryz.func302 Tryz.ntmps302 rfl rfl rfl ?_
 simp only [A2]
 repeat' (first | refine W ?_|refine Za ?_|(apply S.lenO;exact rfl;exact rfl;exact rfl)|(apply S.makeU (n := a.length);exact rfl;rw [<- h1];exact rfl;omega;exact rfl;exact rfl) | refine V ?_|(refine W2 ?_ ?_ <;> intro hc))
 refine T.loopS (fun (s : AddS) => s.i <= a.length /\ Ny a b s.m s.i s.c) (fun s => a.length - s.i) (fun s => [(14, .i s.i), (13, .i ((wq a).length : Nat)), (6, .i (s.c : Int)), (5, .own 0 0 a.length 1), (0, .sl (wq a)), (1, .sl (wq b))]) (fun s => [.live (wsA .u32 s.m)]) ⟨0, List.replicate a.length 0, 0⟩ ⟨Nat.zero_le _, A4b a b⟩ CV (.live (Bg _ _ _) .nil) ?_
 rintro ⟨i, m, c⟩ ⟨hi, hinv⟩
 dsimp only at hi hinv ⊢
 have hinv' := hinv
 obtain ⟨hm, hdm, _, _, hc1⟩ := hinv
 by_cases hil : i < m.length
 ·have hinv := hinv'
  have h3 : (i : Int) < ((wq a).length : Nat) := by omega
  obtain ⟨x, hx⟩ : ∃ x, a[i]? = some x := ⟨a[i]'(by omega), List.getElem?_eq_getElem (by omega)⟩
  have hbx := Fv (k := .u32) hx
  have hxl := da.get hx
  have hcx : IntKind.i64.wrap (x : Int) = (x : Int) := Gi _ (by omega)
  by_cases hib : i < b.length
  ·obtain ⟨y, hy⟩ : ∃ y, b[i]? = some y := ⟨b[i], List.getElem?_eq_getElem hib⟩
   have hby := Fv (k := .u32) hy
   have hyl := db.get hy
   have hcy : IntKind.i64.wrap (y : Int) = (y : Int) := Gi _ (by omega)
   have hib' : (i : Int) < ((wq b).length : Nat) := by omega
   by_cases hn : (x : Int) - c - y < 0
   ·have hr : IntKind.u32.wrap ((x : Int) - c - y + 4294967296) = ((x + 4294967296 - c - y : Nat) : Int) := by rw [Ck];omega
    repeat' (first | refine W ?_|refine Za ?_|refine Zi hbx ?_|refine Zi hby ?_|(apply S.convW;exact rfl;exact hcx;exact rfl)|(apply S.convW;exact rfl;exact hcy;exact rfl)|(apply S.convW;exact rfl;exact hr;exact rfl)|(apply S.lenO;exact rfl;exact rfl;exact rfl)|(apply S.indexU i;(iterate 4 exact rfl);rfl;omega)|(apply S.storeU;(iterate 4 exact rfl);omega) | refine V ?_|(refine W2 ?_ ?_ <;> intro hc))
    change Next _ _ _ _ _ _
    exact Next.go ⟨i + 1, m.set i (x + 4294967296 - c - y), 1⟩ ⟨by dsimp only;omega, Mg hinv hil (by omega) (by dsimp only;omega) (by rw [hx, hy, Option.getD_some, Option.getD_some];dsimp only;omega)⟩ (by dsimp only;omega) CV (.live (Bg _ _ _) .nil)
   ·have hr : IntKind.u32.wrap ((x : Int) - c - y) = ((x - c - y : Nat) : Int) := by rw [Ck];omega
    repeat' (first | refine W ?_|refine Za ?_|refine Zi hbx ?_|refine Zi hby ?_|(apply S.convW;exact rfl;exact hcx;exact rfl)|(apply S.convW;exact rfl;exact hcy;exact rfl)|(apply S.convW;exact rfl;exact hr;exact rfl)|(apply S.lenO;exact rfl;exact rfl;exact rfl)|(apply S.indexU i;(iterate 4 exact rfl);rfl;omega)|(apply S.storeU;(iterate 4 exact rfl);omega) | refine V ?_|(refine W2 ?_ ?_ <;> intro hc))
    change Next _ _ _ _ _ _
    exact Next.go ⟨i + 1, m.set i (x - c - y), 0⟩ ⟨by dsimp only;omega, Mg hinv hil (by omega) (by dsimp only;omega) (by rw [hx, hy, Option.getD_some, Option.getD_some];dsimp only;omega)⟩ (by dsimp only;omega) CV (.live (Bg _ _ _) .nil)
  ·have hib' : ¬ (i : Int) < ((wq b).length : Nat) := by omega
   by_cases hn : (x : Int) - c < 0
   ·have hr : IntKind.u32.wrap ((x : Int) - c + 4294967296) = ((x + 4294967296 - c : Nat) : Int) := by rw [Ck];omega
    repeat' (first | refine W ?_|refine Za ?_|refine Zi hbx ?_|(apply S.convW;exact rfl;exact hcx;exact rfl)|(apply S.convW;exact rfl;exact hr;exact rfl)|(apply S.lenO;exact rfl;exact rfl;exact rfl)|(apply S.indexU i;(iterate 4 exact rfl);rfl;omega)|(apply S.storeU;(iterate 4 exact rfl);omega) | refine V ?_|(refine W2 ?_ ?_ <;> intro hc))
    change Next _ _ _ _ _ _
    exact Next.go ⟨i + 1, m.set i (x + 4294967296 - c), 1⟩ ⟨by dsimp only;omega, Mg hinv hil (by omega) (by dsimp only;omega) (by rw [hx, List.getElem?_eq_none (by omega), Option.getD_some, Option.getD_none];dsimp only;omega)⟩ (by dsimp only;omega) CV (.live (Bg _ _ _) .nil)
   ·have hr : IntKind.u32.wrap ((x : Int) - c) = ((x - c : Nat) : Int) := by rw [Ck];omega
    repeat' (first | refine W ?_|refine Za ?_|refine Zi hbx ?_|(apply S.convW;exact rfl;exact hcx;exact rfl)|(apply S.convW;exact rfl;exact hr;exact rfl)|(apply S.lenO;exact rfl;exact rfl;exact rfl)|(apply S.indexU i;(iterate 4 exact rfl);rfl;omega)|(apply S.storeU;(iterate 4 exact rfl);omega) | refine V ?_|(refine W2 ?_ ?_ <;> intro hc))
    change Next _ _ _ _ _ _
    exact Next.go ⟨i + 1, m.set i (x - c), 0⟩ ⟨by dsimp only;omega, Mg hinv hil (by omega) (by dsimp only;omega) (by rw [hx, List.getElem?_eq_none (by omega), Option.getD_some, Option.getD_none];dsimp only;omega)⟩ (by dsimp only;omega) CV (.live (Bg _ _ _) .nil)
 ·have h3 : ¬ (i : Int) < ((wq a).length : Nat) := by omega
  obtain rfl : i = a.length := by omega
  repeat' (first | refine W ?_|(refine T.freeze 5 rfl rfl (Iw .u32 m hm.symm) ?_)|(apply S.call;exact rfl;exact rfl;exact Fg m (val a - val b) hdm (by omega) (A8z hle hv hinv');exact rfl) | refine V ?_|(refine W2 ?_ ?_ <;> intro hc))
  exact He (by simp) Tryz.results302 rfl (.one (.one (.lf _)))
theorem Uw (a b : Nat) (ha : (wds a).length <= 1000) (hab : b <= a) : Fn0 Tryz.prog 302 [.sl (wq (wds a)), .sl (wq (wds b))] (.sl (wq (wds (a - b)))) := by
 have := Zd (wds a) (wds b) (De a) (De b) ha (Aa2 (Me b) (De a) (by rw [Bt, Bt];exact hab)) (by rw [Bt, Bt];exact hab)
 rwa [Bt, Bt] at this
def Kl (a b : List Nat) : Nat -> Int
 | 0 => 0
 | k + 1 => if a[k]?.getD 0 = b[k]?.getD 0 then Kl a b k else if a[k]?.getD 0 < b[k]?.getD 0 then -1 else 1
def Ms (a b : List Nat) : Int := if a.length ≠ b.length then (a.length : Int) - b.length else Kl a b a.length
theorem Wj {a b : List Nat} (da : Dig a) (db : Dig b) : ∀ k : Nat, (Kl a b k < 0 ↔ val (a.take k) < val (b.take k))
 | 0 => by simp [Kl, val]
 | k + 1 => by
  have ih := Wj da db k
  have h1 := Jd _ (da.take k)
  have h2 := Jd _ (db.take k)
  have h3 : (4294967296 : Nat) ^ (a.take k).length <= 4294967296 ^ k := Nat.pow_le_pow_right (by decide) (by rw [List.length_take];omega)
  have h4 : (4294967296 : Nat) ^ (b.take k).length <= 4294967296 ^ k := Nat.pow_le_pow_right (by decide) (by rw [List.length_take];omega)
  rw [Ec, Ec]
  simp only [Kl]
  generalize a[k]?.getD 0 = x
  generalize b[k]?.getD 0 = y
  split
  ·subst_vars
   rw [ih];omega
  ·split
   ·have : 4294967296 ^ k * (x + 1) <= 4294967296 ^ k * y := Nat.mul_le_mul_left _ (by omega)
    rw [Nat.mul_add] at this
    constructor
    ·intro _;omega
    ·intro _;decide
   ·have : 4294967296 ^ k * (y + 1) <= 4294967296 ^ k * x := Nat.mul_le_mul_left _ (by omega)
    rw [Nat.mul_add] at this
    constructor
    ·intro h;exact absurd h (by decide)
    ·intro h;omega
theorem Ws (a b : Nat) : (Ms (wds a) (wds b) < 0 ↔ a < b) := by
 unfold Ms
 split
 ·rename_i h
  constructor
  ·intro h1
   have := Qu (Me b) (De a) (show (wds a).length < (wds b).length by omega)
   rwa [Bt, Bt] at this
  ·intro h1
   rcases Nat.lt_or_ge (wds b).length (wds a).length with h2 | h2
   ·have := Qu (Me a) (De b) h2
    rw [Bt, Bt] at this
    omega
   ·omega
 ·rename_i h
  rw [Wj (De a) (De b), List.take_of_length_le (Nat.le_refl _), List.take_of_length_le (by omega), Bt, Bt]
set_option maxHeartbeats 8000000 in
theorem Td (a b : List Nat) (hla : a.length <= 1000) (hlb : b.length <= 1000) : Fn0 Tryz.prog 301 [.sl (wq a), .sl (wq b)] (.i (Ms a b)) := by
 have e1 : (wq a).length = a.length := Cx _ _
 have e2 : (wq b).length = b.length := Cx _ _
 by_cases hne : (((wq a).length : Nat) : Int) = ((wq b).length : Nat)
 ·skip
  refine Fn0.of Tryz.func301 Tryz.ntmps301 rfl rfl rfl ?_
  simp only [A2]
  repeat' (first | refine W ?_|refine Za ?_ | refine V ?_|(refine W2 ?_ ?_ <;> intro hc))
  refine T.loopS (fun k => k <= a.length /\ Kl a b k = Kl a b a.length) (fun k => k) (fun k => [(5, .i ((k : Int) - 1)), (0, .sl (wq a)), (1, .sl (wq b))]) (fun _ => []) a.length ⟨Nat.le_refl _, rfl⟩ (.cons (by rw [<- e1];rfl) rfl CV) .nil ?_
  rintro k ⟨hk, hv⟩
  cases k with
  | zero =>
   have h0 : ¬ (0 : Int) <= ((0 : Nat) : Int) - 1 := by omega
   repeat' (first | refine W ?_ | refine V ?_|(refine W2 ?_ ?_ <;> intro hc))
   exact A6 (by simp) Tryz.results301 rfl (by rw [Ms, if_neg (by omega), <- hv];rfl)
  | succ k =>
   have h1 : (0 : Int) <= ((k + 1 : Nat) : Int) - 1 := by omega
   have h2 : ((((k + 1 : Nat) : Int) - 1).toNat) = k := by omega
   obtain ⟨x, hx⟩ : ∃ x, a[k]? = some x := ⟨a[k]'(by omega), List.getElem?_eq_getElem (by omega)⟩
   obtain ⟨y, hy⟩ : ∃ y, b[k]? = some y := ⟨b[k]'(by omega), List.getElem?_eq_getElem (by omega)⟩
   have hbx : (wq a)[(((k + 1 : Nat) : Int) - 1).toNat]? = some [.val (.int .u32 (x : Int))] := by rw [h2];exact Yn hx
   have hby : (wq b)[(((k + 1 : Nat) : Int) - 1).toNat]? = some [.val (.int .u32 (y : Int))] := by rw [h2];exact Yn hy
   have hK : Kl a b (k + 1) = if x = y then Kl a b k else if x < y then -1 else 1 := by simp only [Kl, hx, hy, Option.getD_some]
   by_cases hxy : (x : Int) = (y : Int)
   ·repeat' (first | refine W ?_|refine Za ?_|refine Zi hbx ?_|refine Zi hby ?_|(apply T.drawAll A0 (by decide +kernel)) | refine V ?_|(refine W2 ?_ ?_ <;> intro hc))
    change Next _ _ _ _ _ _
    exact Next.go k ⟨by omega, by rw [<- hv, hK, if_pos (by omega)]⟩ (Nat.lt_succ_self k) (.cons (by rw [show ((k : Nat) : Int) - 1 = ((k + 1 : Nat) : Int) - 1 - 1 by omega];rfl) rfl CV) .nil
   ·by_cases hlt : (x : Int) < (y : Int)
    ·repeat' (first | refine W ?_|refine Za ?_|refine Zi hbx ?_|refine Zi hby ?_|(apply T.drawAll A0 (by decide +kernel)) | refine V ?_|(refine W2 ?_ ?_ <;> intro hc))
     exact A6 (by simp) Tryz.results301 rfl (by rw [Ms, if_neg (by omega), <- hv, hK, if_neg (by omega), if_pos (by omega)])
    ·repeat' (first | refine W ?_|refine Za ?_|refine Zi hbx ?_|refine Zi hby ?_|(apply T.drawAll A0 (by decide +kernel)) | refine V ?_|(refine W2 ?_ ?_ <;> intro hc))
     exact A6 (by simp) Tryz.results301 rfl (by rw [Ms, if_neg (by omega), <- hv, hK, if_neg (by omega), if_neg (by omega)])
 ·skip
  refine Fn0.of Tryz.func301 Tryz.ntmps301 rfl rfl rfl ?_
  simp only [A2]
  repeat' (first | refine W ?_|refine Za ?_ | refine V ?_|(refine W2 ?_ ?_ <;> intro hc))
  exact A6 (by simp) Tryz.results301 rfl (by rw [Ms, if_pos (by omega), e1, e2])
abbrev C4 (s : Bool) (n : Nat) : List Lf := [.val (.bool s), .sl (wq (wds n))]
set_option maxHeartbeats 4000000 in
theorem A8g (s : Bool) (n : Nat) : Fn0 Tryz.prog 228 [A1 (C4 s n)] (.i (if n = 0 then 0 else if s then -1 else 1)) := by
 by_cases h0 : n = 0
 ·subst h0
  have h : (((wq (wds 0)).length : Nat) : Int) = 0 := by rw [Cx, F6];rfl
  refine Fn0.of Tryz.func228 Tryz.ntmps228 rfl rfl rfl ?_
  simp only [A2]
  repeat' (first | refine W ?_ | refine V ?_|(refine W2 ?_ ?_ <;> intro hc))
  exact A6 (by simp) Tryz.results228 rfl (by simp)
 ·have h : ¬ (((wq (wds n)).length : Nat) : Int) = 0 := fun e => h0 (wds_nil.1 (List.eq_nil_of_length_eq_zero (by rw [Cx] at e;omega)))
  cases s <;>
  ·skip
   refine Fn0.of Tryz.func228 Tryz.ntmps228 rfl rfl rfl ?_
   simp only [A2]
   repeat' (first | refine W ?_ | refine V ?_|(refine W2 ?_ ?_ <;> intro hc))
   exact A6 (by simp) Tryz.results228 rfl (by simp [h0])
theorem Xo (s : Bool) (n : Nat) : Fn0 Tryz.prog 272 [A1 (C4 s n)] (A1 (C4 (!s) n)) := by
 refine Fn0.of Tryz.func272 Tryz.ntmps272 rfl rfl rfl ?_
 simp only [A2]
 repeat' (first | refine W ?_|(apply T.drawAll A0 (by decide +kernel)) | refine V ?_|(refine W2 ?_ ?_ <;> intro hc))
 exact ⟨.inr rfl, [A1 (C4 (!s) n)], .cons (Res.row (C4 (!s) n) rfl rfl rfl rfl rfl) .nil, .one (.agg (A7 (C4 (!s) n)))⟩
end Go.Proofs.YtocoehahhohpgaaGreat
