/- Lemmas of the proof. -/
import Derived.Lib.Hide
import Derived.Test.YtlapbaiejnaeiaaGreatDoorNe
import Derived.Test.YtlapbaiejnaeiaaGreatDoorMp
set_option linter.all false
set_option maxHeartbeats 64000000
namespace Go.Proofs.YtlapbaiejnaeiaaGreatDoor
def a4c := @Nat.mul_add
def a4k := @Nat.mul_assoc
def a4o := @Nat.mul_pos
def a4q := @Nat.pow_le_pow_right
def a5r := @Option.getD_none
def a5v := @Nat.mul_le_mul_left
def a5x := @Nat.pow_succ
def a7k := @List.set_cons_zero
def a7t := @List.eq_of_mem_replicate
def a8u := @Tryz.results254
def a9d := @List.replicate_succ
def a9y := @List.dropLast_concat_getLast
def b0x := @List.getLast?_cons_cons
def val : List Nat -> Nat
 | [] => 0
 | d :: r => d + 4294967296 * val r
def Dig (l : List Nat) : Prop := ∀ x ∈ l, x < 4294967296
theorem Mx : ∀ (a b : List Nat), val (a ++ b) = val a + 4294967296 ^ a.length * val b
 | [], b => by simp [val]
 | d :: r, b => by
  simp only [a2j, val, Mx r b, a0i, a5x, a4c]
  rw [a8l (4294967296 ^ r.length) 4294967296, a4k]
  omega
theorem K2 : ∀ (l : List Nat), Dig l -> val l < 4294967296 ^ l.length
 | [], _ => by simp [val]
 | d :: r, h => by
  have h1 := K2 r fun x hx => h x (by simp [hx])
  have h2 := h d (by simp)
  simp only [val, a0i, a5x]
  omega
theorem Dig.take {l : List Nat} (h : Dig l) (k : Nat) : Dig (l.take k) := fun x hx => h x (List.mem_of_mem_take hx)
theorem Dig.get {l : List Nat} (h : Dig l) {i x : Nat} (hx : l[i]? = some x) : x < 4294967296 := h x (a0c hx)
theorem Dig.set {l : List Nat} (h : Dig l) (i : Nat) {x : Nat} (hx : x < 4294967296) : Dig (l.set i x) := fun y hy => by
 rcases List.mem_or_eq_of_mem_set hy with h1 | h1
 ·exact h y h1
 ·rw [h1];exact hx
theorem Gg {l : List Nat} {i x : Nat} (hx : l[i]? = some x) : val (l.take (i + 1)) = val (l.take i) + 4294967296 ^ i * x := by
 have hi : i < l.length := (a0g.1 hx).1
 rw [a0x, hx, Mx]
 simp [val, a4b (Nat.le_of_lt hi)]
theorem Li : ∀ (l : List Nat) (i x y : Nat), l[i]? = some y -> val (l.set i x) + 4294967296 ^ i * y = val l + 4294967296 ^ i * x
 | [], i, x, y, h => by simp at h
 | d :: r, 0, x, y, h => by
  simp at h;subst h
  simp only [a7k, val, Nat.pow_zero, Nat.one_mul];omega
 | d :: r, i + 1, x, y, h => by
  have := Li r i x y (by simpa using h)
  simp only [a5e, val, a5x]
  rw [a8l (4294967296 ^ i) 4294967296, a4k, a4k]
  omega
theorem Ki : ∀ n : Nat, val (List.replicate n 0) = 0
 | 0 => rfl
 | n + 1 => by simp [a9d, val, Ki n]
def Kl (l : List Nat) : Prop := ∀ x, l.getLast? = some x -> x ≠ 0
theorem Rk {l : List Nat} (h : Kl l) (hne : l ≠ []) : 4294967296 ^ (l.length - 1) <= val l := by
 obtain ⟨r, x, rfl⟩ : ∃ r x, l = r ++ [x] := ⟨l.dropLast, l.getLast hne, (a9y hne).symm⟩
 have hx : x ≠ 0 := h x (by simp)
 rw [Mx]
 simp only [a0q, a6r, Nat.add_sub_cancel, val, Nat.mul_zero, a2z]
 have : 4294967296 ^ r.length * 1 <= 4294967296 ^ r.length * x := a5v _ (by omega)
 omega
theorem Rj {a b : List Nat} (ta : Kl a) (db : Dig b) (h : b.length < a.length) : val b < val a := by
 have h1 := Rk ta (by intro e;rw [e] at h;simp at h)
 have h2 := K2 b db
 have h3 : (4294967296 : Nat) ^ b.length <= 4294967296 ^ (a.length - 1) := a4q (by decide) (by omega)
 omega
theorem A7k {l : List Nat} (h : Kl l) : val l = 0 ↔ l = [] := by
 constructor
 ·intro h0
  by_cases he : l = []
  ·exact he
  ·have h1 := Rk h he
   have h2 : 0 < (4294967296 : Nat) ^ (l.length - 1) := Nat.pow_pos (by decide)
   omega
 ·rintro rfl;rfl
theorem Aaf : Kl [] := fun x h => by simp at h
theorem Wj {l : List Nat} {k : Nat} (hk : l[k]? = some 0) : val (l.take (k + 1)) = val (l.take k) := by
 rw [Gg hk];simp
theorem A7j {l : List Nat} {k x : Nat} (hk : l[k]? = some x) (hx : x ≠ 0) : Kl (l.take (k + 1)) := fun y hy => by
 rw [a0x, hk] at hy
 simp at hy
 omega
/-! ### Sums -/
def Kx (a b m : List Nat) (i c : Nat) : Prop := m.length = a.length + 1 /\ Dig m /\ (∀ j, i <= j -> j < m.length -> m[j]? = some 0) /\ val m + 4294967296 ^ i * c = val (a.take i) + val (b.take i) /\ c <= 1
theorem Un (a b : List Nat) : Kx a b (List.replicate (a.length + 1) 0) 0 0 := by
 refine ⟨by simp, fun x hx => by rw [a7t hx];decide, fun j _ hj => ?_, by simp [Ki, val], by omega⟩
 simp at hj
 rw [a3y, if_pos hj]
theorem Ed (l : List Nat) (i : Nat) : val (l.take (i + 1)) = val (l.take i) + 4294967296 ^ i * l[i]?.getD 0 := by
 cases h : l[i]? with
 | none =>
  have := List.getElem?_eq_none_iff.1 h
  rw [a0h (by omega), a0h (by omega)]
  simp
 | some x => rw [Gg h];rfl
theorem A5i {a : List Nat} (da : Dig a) (i : Nat) : a[i]?.getD 0 < 4294967296 := by
 cases e : a[i]? with
 | none => simp
 | some x => exact da.get e
theorem Hq {a b m : List Nat} {i c q r : Nat} (da : Dig a) (db : Dig b) (h : Kx a b m i c) (hi : i < m.length) (hr : r < 4294967296) (hq : 4294967296 * q + r = c + a[i]?.getD 0 + b[i]?.getD 0) : Kx a b (m.set i r) (i + 1) q := by
 obtain ⟨h1, h2, h3, h4, h5⟩ := h
 have ha := A5i da i
 have hb := A5i db i
 refine ⟨by simpa using h1, h2.set i hr, fun j hj hjl => ?_, ?_, by omega⟩
 ·rw [a3w (by omega)]
  exact h3 j (by omega) (by simpa using hjl)
 ·have e := Li m i r 0 (h3 i (a0l _) hi)
  rw [Ed, Ed, a5x]
  generalize a[i]?.getD 0 = x at *
  generalize b[i]?.getD 0 = y at *
  have : 4294967296 ^ i * 4294967296 * q + 4294967296 ^ i * r = 4294967296 ^ i * c + 4294967296 ^ i * x + 4294967296 ^ i * y := by
   rw [a4k, <- a4c, hq, a4c, a4c]
  omega
theorem A2a {P m va vb c : Nat} (h : m + P * 4294967296 * c = va + vb) (ha : va < P) (hb : vb < P) : m = va + vb := by
 rcases a1a 0 c with hc | hc
 ·have : P * 4294967296 * 1 <= P * 4294967296 * c := a5v _ hc
  rw [a5w] at this
  generalize P * 4294967296 * c = X at *
  omega
 ·obtain rfl : c = 0 := by omega
  rw [Nat.mul_zero, a2z] at h
  exact h
theorem A0n {a b m : List Nat} {c : Nat} (hl : b.length <= a.length) (da : Dig a) (db : Dig b) (h : Kx a b m (a.length + 1) c) : val m = val a + val b := by
 obtain ⟨h1, h2, h3, h4, h5⟩ := h
 rw [a0h (by omega), a0h (by omega), a5x] at h4
 have l3 : (4294967296 : Nat) ^ b.length <= 4294967296 ^ a.length := a4q (by omega) hl
 exact A2a h4 (K2 a da) (a3p (K2 b db) l3)

/-! ### Differences -/
def N8 (a b m : List Nat) (i c : Nat) : Prop := m.length = a.length /\ Dig m /\ (∀ j, i <= j -> j < m.length -> m[j]? = some 0) /\ val m + val (b.take i) = val (a.take i) + 4294967296 ^ i * c /\ c <= 1
theorem A77 (a b : List Nat) : N8 a b (List.replicate a.length 0) 0 0 := by
 refine ⟨by simp, fun x hx => by rw [a7t hx];decide, fun j _ hj => ?_, by simp [Ki, val], by omega⟩
 simp at hj
 rw [a3y, if_pos hj]
theorem Mp {a b m : List Nat} {i c d c' : Nat} (h : N8 a b m i c) (hi : i < m.length) (hd : d < 4294967296) (hc : c' <= 1) (he : d + c + b[i]?.getD 0 = a[i]?.getD 0 + 4294967296 * c') :
  N8 a b (m.set i d) (i + 1) c' := by
 obtain ⟨h1, h2, h3, h4, h5⟩ := h
 refine ⟨by simpa using h1, h2.set i hd, fun j hj hjl => ?_, ?_, hc⟩
 ·rw [a3w (by omega)]
  exact h3 j (by omega) (by simpa using hjl)
 ·have e := Li m i d 0 (h3 i (a0l _) hi)
  rw [Ed, Ed, a5x]
  generalize a[i]?.getD 0 = x at *
  generalize b[i]?.getD 0 = y at *
  have : 4294967296 ^ i * d + 4294967296 ^ i * c + 4294967296 ^ i * y = 4294967296 ^ i * x + 4294967296 ^ i * 4294967296 * c' := by
   rw [a4k, <- a4c, <- a4c, he, a4c]
  omega
theorem Acd {a b m : List Nat} {c : Nat} (hl : b.length <= a.length) (hv : val b <= val a) (h : N8 a b m a.length c) : val m = val a - val b := by
 obtain ⟨h1, h2, h3, h4, h5⟩ := h
 rw [a0h hl, a0h (a0l _)] at h4
 have l1 := K2 m h2
 rw [h1] at l1
 rcases a1a 0 c with hc | hc
 ·have : 4294967296 ^ a.length * 1 <= 4294967296 ^ a.length * c := a5v _ hc
  omega
 ·obtain rfl : c = 0 := by omega
  omega
theorem Aci {a b : List Nat} (tb : Kl b) (da : Dig a) (h : val b <= val a) : b.length <= a.length := by
 rcases a1a a.length b.length with h1 | h1
 ·have := Rj tb da h1;omega
 ·exact h1

/-! ### Products -/
def N7 (a b m : List Nat) (i : Nat) : Prop := m.length = a.length + b.length /\ Dig m /\ (∀ j, i + b.length <= j -> j < m.length -> m[j]? = some 0) /\ val m = val (a.take i) * val b
def Ro (a b m : List Nat) (i x k c : Nat) : Prop := m.length = a.length + b.length /\ Dig m /\ (∀ j, i + b.length <= j -> j < m.length -> m[j]? = some 0) /\ val m + 4294967296 ^ (i + k) * c = val (a.take i) * val b + 4294967296 ^ i * x * val (b.take k) /\ c < 4294967296
theorem A60 (a b : List Nat) : N7 a b (List.replicate (a.length + b.length) 0) 0 := by
 refine ⟨by simp, fun x hx => by rw [a7t hx];decide, fun j _ hj => ?_, by simp [Ki, val]⟩
 simp at hj
 rw [a3y, if_pos hj]
theorem Adg {a b m : List Nat} {i : Nat} (x : Nat) (h : N7 a b m i) : Ro a b m i x 0 0 := by
 obtain ⟨h1, h2, h3, h4⟩ := h
 exact ⟨h1, h2, h3, by simp [val, h4], by decide⟩
theorem A9d {a b m : List Nat} {i x k c y z q r : Nat} (h : Ro a b m i x k c) (hx : x < 4294967296) (hy : b[k]? = some y) (hyd : y < 4294967296) (hz : m[i + k]? = some z) (hr : r < 4294967296) (hq : 4294967296 * q + r = c + (x * y + z)) (hqd : q < 4294967296) :
  Ro a b (m.set (i + k) r) i x (k + 1) q := by
 obtain ⟨h1, h2, h3, h4, h5⟩ := h
 have hk : k < b.length := (a0g.1 hy).1
 refine ⟨by simpa using h1, h2.set _ hr, fun j hj hjl => ?_, ?_, hqd⟩
 ·rw [a3w (by omega)]
  exact h3 j hj (by simpa using hjl)
 ·have e := Li m (i + k) r z hz
  have e4 : (4294967296 : Nat) ^ (i + (k + 1)) = 4294967296 ^ (i + k) * 4294967296 := by rw [<- a1h, a5x]
  rw [Gg hy, e4]
  have e2 : 4294967296 ^ (i + k) * 4294967296 * q + 4294967296 ^ (i + k) * r = 4294967296 ^ (i + k) * c + (4294967296 ^ (i + k) * (x * y) + 4294967296 ^ (i + k) * z) := by
   rw [a4k, <- a4c, hq, a4c, a4c]
  have e3 : 4294967296 ^ i * x * (val (b.take k) + 4294967296 ^ k * y) = 4294967296 ^ i * x * val (b.take k) + 4294967296 ^ (i + k) * (x * y) := by
   rw [a4c, Nat.pow_add]
   congr 1
   rw [a4k, a4k]
   congr 1
   rw [<- a4k, a8l x, a4k]
  rw [e3]
  omega
theorem A9c {x y z c : Nat} (hx : x < 4294967296) (hy : y < 4294967296) (hz : z < 4294967296) (hc : c < 4294967296) : x * y <= 18446744065119617025 /\ c + (x * y + z) < 18446744073709551616 := by
 have hxy : x * y <= 4294967295 * 4294967295 := a6p (by omega) (by omega)
 omega
theorem Abo {a b m : List Nat} {i x c : Nat} (h : Ro a b m i x b.length c) (hi : a[i]? = some x) : N7 a b (m.set (i + b.length) c) (i + 1) := by
 obtain ⟨h1, h2, h3, h4, h5⟩ := h
 have hil : i < a.length := (a0g.1 hi).1
 refine ⟨by simpa using h1, h2.set _ h5, fun j hj hjl => ?_, ?_⟩
 ·rw [a3w (by omega)]
  exact h3 j (by omega) (by simpa using hjl)
 ·have e := Li m (i + b.length) c 0 (h3 _ (a0l _) (by omega))
  rw [Gg hi, a5u]
  rw [a0h (a0l _)] at h4
  omega
theorem Abn {a b m : List Nat} (h : N7 a b m a.length) : val m = val a * val b := by
 have := h.2.2.2
 rwa [a0h (a0l _)] at this
def wds (n : Nat) : List Nat := if h : n = 0 then [] else n % 4294967296 :: wds (n / 4294967296)
termination_by n
decreasing_by omega
theorem Fj : wds 0 = [] := by rw [wds];simp
theorem Lj {n : Nat} (h : n ≠ 0) : wds n = n % 4294967296 :: wds (n / 4294967296) := by rw [wds, dif_neg h]
theorem A7i {d : Nat} {r : List Nat} (h : Kl (d :: r)) : Kl r := fun x hx => h x (by
 cases r with
 | nil => simp at hx
 | cons y r => rw [b0x];exact hx)
theorem Zl : ∀ l : List Nat, Dig l -> Kl l -> wds (val l) = l
 | [], _, _ => Fj
 | d :: r, hd, ht => by
  have h1 := hd d (by simp)
  have h0 : val (d :: r) ≠ 0 := fun h => by have := (A7k ht).1 h;cases this
  have e1 : val (d :: r) % 4294967296 = d := by simp only [val];omega
  have e2 : val (d :: r) / 4294967296 = val r := by simp only [val];omega
  rw [Lj h0, e1, e2, Zl r (fun x hx => hd x (by simp [hx])) (A7i ht)]
theorem Dd (n : Nat) : Dig (wds n) := by
 induction n using Nat.strongRecOn with
 | _ n ih =>
  by_cases h : n = 0
  ·subst h;rw [Fj];intro x hx;simp at hx
  ·rw [Lj h]
   intro x hx
   rcases a1j.1 hx with rfl | hx
   ·omega
   ·exact ih (n / 4294967296) (by omega) x hx
theorem Bu (n : Nat) : val (wds n) = n := by
 induction n using Nat.strongRecOn with
 | _ n ih =>
  by_cases h : n = 0
  ·subst h;rw [Fj];rfl
  ·rw [Lj h, val, ih (n / 4294967296) (by omega)];omega
theorem My (n : Nat) : Kl (wds n) := by
 induction n using Nat.strongRecOn with
 | _ n ih =>
  by_cases h : n = 0
  ·subst h;rw [Fj];exact Aaf
  ·rw [Lj h]
   intro x hx
   by_cases h2 : n / 4294967296 = 0
   ·rw [h2, Fj] at hx
    simp at hx
    omega
   ·have := ih (n / 4294967296) (by omega) x
    rw [Lj h2] at hx this
    rw [b0x] at hx
    exact this hx
theorem Um {n k : Nat} (h : n < 4294967296 ^ k) : (wds n).length <= k := by
 rcases a1a k (wds n).length with h1 | h1
 ·have h2 := Rk (My n) (by intro e;rw [e] at h1;simp at h1)
  rw [Bu] at h2
  have h3 : (4294967296 : Nat) ^ k <= 4294967296 ^ ((wds n).length - 1) := a4q (by decide) (by omega)
  omega
 ·exact h1
theorem wds_nil {n : Nat} : wds n = [] ↔ n = 0 := by
 constructor
 ·intro h
  have := Bu n
  rw [h] at this
  exact this.symm
 ·rintro rfl;exact Fj
def sgn (s : Bool) (n : Nat) : Int := if s then -(n : Int) else n
def Hg (s : Bool) (a : Nat) (t : Bool) (b : Nat) : Bool × Nat := if s = t then (s, a + b) else if a < b then (t, b - a) else (s, a - b)
theorem A6d (s : Bool) (a : Nat) (t : Bool) (b : Nat) : sgn (Hg s a t b).1 (Hg s a t b).2 = sgn s a + sgn t b := by
 unfold Hg sgn
 cases s <;> cases t <;> simp only [if_true, if_false, a4f, a7j, reduceCtorEq] <;> (try omega) <;> (split <;> simp only [if_true, if_false, a4f] <;> omega)
theorem Uh (s : Bool) (a : Nat) (t : Bool) (b : Nat) : sgn (s != t) (a * b) = sgn s a * sgn t b := by
 unfold sgn
 cases s <;> cases t <;> simp [a4r, a6j, Int.mul_neg]
theorem Ac7 (s : Bool) (a : Nat) : sgn (!s) a = - sgn s a := by
 unfold sgn
 cases s <;> simp
theorem A1t (z : Int) : sgn (decide (z < 0)) z.natAbs = z := by
 unfold sgn
 by_cases h : z < 0 <;> simp [h] <;> omega
theorem A9s (s : Bool) (a : Nat) (t : Bool) (b : Nat) : (Hg s a t b).2 <= a + b := by
 unfold Hg
 split
 ·exact a0l _
 ·split <;> simp <;> omega
structure Ex where
 s : Bool
 n : Nat
 d : Nat
def Ex.val (x : Ex) : Rat := mkRat (sgn x.s x.n) x.d
def Ex.bd (k : Nat) (x : Ex) : Prop := x.n < 4294967296 ^ k /\ x.d < 4294967296 ^ k /\ 0 < x.d
def Ex.ofQ (q : Rat) : Ex := ⟨decide (q.num < 0), q.num.natAbs, q.den⟩
def p0v (n : Int) (d : Nat) : Ex := ⟨decide (n < 0), n.natAbs, d⟩
def Ex.plus (x y : Ex) : Ex := ⟨(Hg (x.s != false) (x.n * y.d) (y.s != false) (y.n * x.d)).1, (Hg (x.s != false) (x.n * y.d) (y.s != false) (y.n * x.d)).2, x.d * y.d⟩
def Ex.less (x y : Ex) : Ex := x.plus ⟨!y.s, y.n, y.d⟩
def Ex.times (x y : Ex) : Ex := ⟨x.s != y.s, x.n * y.n, x.d * y.d⟩
def Ex.sign (x : Ex) : Int := if x.n = 0 then 0 else if x.s then -1 else 1
theorem p0n (q : Rat) : (Ex.ofQ q).val = q := by
 unfold Ex.val Ex.ofQ
 rw [A1t]
 exact Rat.mkRat_self q
theorem p2w (n : Int) (d : Nat) : (p0v n d).val = mkRat n d := by
 unfold Ex.val p0v
 rw [A1t]
theorem p1k (x y : Ex) : (x.times y).val = x.val * y.val := by
 unfold Ex.val Ex.times
 rw [Uh, Rat.mkRat_mul_mkRat]
theorem p1q {x y : Ex} (hx : 0 < x.d) (hy : 0 < y.d) : (x.plus y).val = x.val + y.val := by
 unfold Ex.val Ex.plus
 rw [A6d, Uh, Uh, Rat.mkRat_add_mkRat _ _ (by omega) (by omega)]
 simp [sgn]
theorem p1m {x y : Ex} (hx : 0 < x.d) (hy : 0 < y.d) : (x.less y).val = x.val - y.val := by
 unfold Ex.less
 rw [p1q (y := ⟨!y.s, y.n, y.d⟩) hx hy, b3o]
 congr 1
 unfold Ex.val
 rw [Ac7, Rat.neg_mkRat]
theorem Yw {p q : Int} (hq : 0 < q) : (Rat.divInt p q).num.sign = p.sign := by
 by_cases hp : p = 0
 ·subst hp;simp
 have h1 := Rat.num_divInt p q
 rw [a4d hq, Int.one_mul] at h1
 have hg : 0 < (Int.gcd q p : Int) := by
  have : Int.gcd q p ≠ 0 := by simp [Int.gcd_eq_zero_iff, hp]
  omega
 rw [h1]
 have hd : (Int.gcd q p : Int) ∣ p := Int.gcd_dvd_right ..
 have h2 : p = p / (Int.gcd q p : Int) * (Int.gcd q p : Int) := (Int.ediv_mul_cancel hd).symm
 conv => rhs;rw [h2]
 rw [Int.sign_mul, a4d hg, Int.mul_one]
theorem p3g {x : Ex} (hx : 0 < x.d) : x.sign = x.val.num.sign := by
 have h1 : x.val.num.sign = (sgn x.s x.n).sign := by
  unfold Ex.val
  rw [<- Rat.divInt_ofNat]
  exact Yw (by omega)
 rw [h1]
 unfold Ex.sign sgn
 split
 ·rename_i h;rw [h];split <;> rfl
 ·split
  ·rw [a5o (by omega)]
  ·rw [a4d (by omega)]
theorem Yj {a j k : Nat} (h : a < 4294967296 ^ j) (hj : j <= k) : a < 4294967296 ^ k := a3p h (a4q (by decide) hj)
theorem Jp {a b j k : Nat} (ha : a < 4294967296 ^ j) (hb : b < 4294967296 ^ k) : a * b < 4294967296 ^ (j + k) := by
 rw [Nat.pow_add]
 exact Nat.mul_lt_mul'' ha hb
theorem Ex.bd.mono {x : Ex} {j k : Nat} (h : x.bd j) (hj : j <= k) : x.bd k := ⟨Yj h.1 hj, Yj h.2.1 hj, h.2.2⟩
theorem p1d {x y : Ex} {j k : Nat} (hx : x.bd j) (hy : y.bd k) : (x.times y).bd (j + k) := ⟨Jp hx.1 hy.1, Jp hx.2.1 hy.2.1, a4o hx.2.2 hy.2.2⟩
theorem p1l {x y : Ex} {j k : Nat} (hx : x.bd j) (hy : y.bd k) : (x.plus y).bd (j + k + 1) := by
 refine ⟨?_, Yj (Jp hx.2.1 hy.2.1) (by omega), a4o hx.2.2 hy.2.2⟩
 have h1 := A9s (x.s != false) (x.n * y.d) (y.s != false) (y.n * x.d)
 have h2 := Jp hx.1 hy.2.1
 have h3 := Jp hy.1 hx.2.1
 rw [Nat.add_comm k j] at h3
 unfold Ex.plus
 simp only []
 rw [a5x]
 generalize 4294967296 ^ (j + k) = B at *
 omega
theorem p1j {x y : Ex} {j k : Nat} (hx : x.bd j) (hy : y.bd k) : (x.less y).bd (j + k + 1) := by
 unfold Ex.less
 exact p1l (y := ⟨!y.s, y.n, y.d⟩) hx ⟨hy.1, hy.2.1, hy.2.2⟩
end Go.Proofs.YtlapbaiejnaeiaaGreatDoor
namespace Go.Proofs.YtlapbaiejnaeiaaGreatDoor
open Go.RowKit
abbrev wq (l : List Nat) : List (List Lf) := wsR .u32 l
theorem Adv (x : Nat) : IntKind.u32.wrap (x : Int) = ((x % 4294967296 : Nat) : Int) := by rw [Ci];omega
theorem Hp {x : Nat} (h : x < 18446744073709551616) : IntKind.u64.wrap (x : Int) = (x : Int) := by rw [Cr];omega
theorem Acs {x : Nat} (h : x < 4294967296) : IntKind.u32.wrap (x : Int) = (x : Int) := by rw [Ci];omega
theorem A0a (l : List Nat) (hd : Dig l) (hl : l.length <= 4000) : Fn0 Tryz.prog 237 [.sl (wq l)] (.sl (wq (wds (val l)))) := by
 refine Fn0.of Tryz.func237 Tryz.ntmps237 rfl rfl rfl ?_
 simp only [A2]
 repeat' (first|refine W ?_|refine V ?_|(refine W2 ?_ ?_<;>intro hc))
 refine p0d (fun k => k <= l.length /\ val (l.take k) = val l) (fun k => k) (fun k => [(0, .sl (wq (l.take k)))]) (fun _ => []) l.length ⟨a0l _, by rw [a0h (a0l _)]⟩ (.cons (by rw [a0h (a0l _)];rfl) rfl .nil) .nil ?_
 rintro k ⟨hk, hv⟩
 have hlen : (wq (l.take k)).length = k := by rw [Cz, a0t, a4b hk]
 cases k with
 | zero =>
  have h0 : ¬ (0 : Int) < ((wq (l.take 0)).length : Nat) := by rw [hlen];omega
  repeat' (first|refine W ?_|refine V ?_|(refine W2 ?_ ?_<;>intro hc))
  exact H6 (by simp) Tryz.results237 rfl (by rw [<- hv, show val (l.take 0) = 0 from rfl, Fj];exact .one (.one (.lf _)))
 | succ k =>
  have h1 : (0 : Int) < ((wq (l.take (k + 1))).length : Nat) := by rw [hlen];omega
  have h2 : (((wq (l.take (k + 1))).length : Nat) : Int) - 1 = (k : Nat) := by rw [hlen];omega
  obtain ⟨x, hx⟩ : ∃ x, l[k]? = some x := ⟨l[k], a0b (by omega)⟩
  have hx' : (l.take (k + 1))[k]? = some x := by rw [a1k (by omega), hx]
  have hb : (wq (l.take (k + 1)))[((((wq (l.take (k + 1))).length : Nat) : Int) - 1).toNat]? = some [.val (.int .u32 (x : Int))] := by rw [h2];exact G2 hx'
  have h3 : (wq (l.take (k + 1))).take ((((wq (l.take (k + 1))).length : Nat) : Int) - 1).toNat = wq (l.take k) := by rw [h2, Aai, a0v, List.take_take, a4b (by omega)]
  by_cases h0 : (x : Int) = 0
  ·repeat' (first|refine W ?_|refine Za ?_|(apply S.indexR;(iterate 3 exact rfl);exact hb;omega;exact rfl)|(apply p1s;(iterate 3 exact rfl);omega;exact A22 _ _)|refine V ?_|(refine W2 ?_ ?_<;>intro hc))
   change Next _ _ _ _ _ _
   refine Next.go k ⟨by omega, ?_⟩ (a3u k) (.cons (by rw [h3];rfl) rfl .nil) .nil
   have : x = 0 := by omega
   subst this
   rw [<- Wj hx, hv]
  ·repeat' (first|refine W ?_|refine Za ?_|(apply S.indexR;(iterate 3 exact rfl);exact hb;omega;exact rfl)|(apply p1s;(iterate 3 exact rfl);omega;exact A22 _ _)|refine V ?_|(refine W2 ?_ ?_<;>intro hc))
   refine H6 (by simp) Tryz.results237 rfl ?_
   rw [<- hv, Zl _ (hd.take _) (A7j hx (by omega))]
   exact .one (.one (.lf _))
structure AddS where
 i : Nat
 m : List Nat
 c : Nat
theorem Fc (l : List Nat) (n : Nat) (hd : Dig l) (hl : l.length <= 4000) (h : val l = n) : Fn0 Tryz.prog 237 [.sl (wq l)] (.sl (wq (wds n))) := by
 subst h;exact A0a l hd hl
theorem Yb (a b : List Nat) (da : Dig a) (db : Dig b) (hla : a.length <= 1000) (hle : b.length <= a.length) :
  Fn0 Tryz.prog 253 [.sl (wq a), .sl (wq b)] (.sl (wq (wds (val a + val b)))) := by
 have e1 : (wq a).length = a.length := Cz _ _
 have e2 : (wq b).length = b.length := Cz _ _
 have hlt : ¬ (((wq a).length : Nat) : Int) < ((wq b).length : Nat) := by omega
 have h1 : (((wq a).length : Nat) : Int) + 1 = ((a.length + 1 : Nat) : Int) := by omega
 refine Fn0.of Tryz.func253 Tryz.ntmps253 rfl rfl rfl ?_
 simp only [A2]
 repeat' (first|refine W ?_|refine Za ?_|(apply S.lenO;(iterate 3 exact rfl))|(apply p3b (n := a.length + 1);exact rfl;rw [<- h1];exact rfl;omega;exact rfl;exact rfl)|refine V ?_|(refine W2 ?_ ?_<;>intro hc))
 refine p0d (fun (s : AddS) => s.i <= a.length + 1 /\ Kx a b s.m s.i s.c) (fun s => a.length + 1 - s.i) (fun s => [(21, .i s.i), (20, .i ((a.length + 1 : Nat) : Int)), (6, .val (.int .u64 (s.c : Int))), (5, .own 0 0 (a.length + 1) 1), (0, .sl (wq a)), (1, .sl (wq b))]) (fun s => [.live (wsA .u32 s.m)]) ⟨0, List.replicate (a.length + 1) 0, 0⟩ ⟨a0o _, Un a b⟩ CV (.live (Bm _ _ _) .nil) ?_
 rintro ⟨i, m, c⟩ ⟨hi, hinv⟩
 dsimp only at hi hinv ⊢
 have hinv' := hinv
 obtain ⟨hm, hdm, _, _, hc1⟩ := hinv
 by_cases hil : i < m.length
 ·have h3 : (i : Int) < ((a.length + 1 : Nat) : Int) := by omega
  have hinv := hinv'
  by_cases hia : i < a.length
  ·obtain ⟨x, hx⟩ : ∃ x, a[i]? = some x := ⟨a[i], a0b hia⟩
   have hbx := G2 (k := .u32) hx
   have hxl := da.get hx
   have hia' : (i : Int) < ((wq a).length : Nat) := by omega
   by_cases hib : i < b.length
   ·obtain ⟨y, hy⟩ : ∃ y, b[i]? = some y := ⟨b[i], a0b hib⟩
    have hby := G2 (k := .u32) hy
    have hyl := db.get hy
    have hib' : (i : Int) < ((wq b).length : Nat) := by omega
    have hr : IntKind.u32.wrap ((c : Int) + (x : Int) + (y : Int)) = (((c + x + y) % 4294967296 : Nat) : Int) := by rw [Ci];omega
    have hq : ((c : Int) + (x : Int) + (y : Int)) / 4294967296 = (((c + x + y) / 4294967296 : Nat) : Int) := by omega
    repeat' (first|refine W ?_|refine Za ?_|(apply p1x;(iterate 4 exact rfl);omega)|(apply S.indexR;(iterate 3 exact rfl);exact hbx;omega;exact rfl)|(apply S.indexR;(iterate 3 exact rfl);exact hby;omega;exact rfl)|(apply p0h;exact rfl;exact Hp (show x < 18446744073709551616 by omega);exact rfl)|(apply p0h;exact rfl;exact Hp (show y < 18446744073709551616 by omega);exact rfl)|(apply p0h;exact rfl;exact hr;exact rfl)|(apply p1z;(iterate 3 exact rfl))|(apply S.lenO;(iterate 3 exact rfl))|(apply p1g i;(iterate 4 exact rfl);rfl;omega)|(apply p1h;(iterate 4 exact rfl);omega)|refine V ?_|(refine W2 ?_ ?_<;>intro hc))
    change Next _ _ _ _ _ _
    exact Next.go ⟨i + 1, m.set i ((c + x + y) % 4294967296), (c + x + y) / 4294967296⟩ ⟨by dsimp only;omega, Hq da db hinv hil (Nat.mod_lt _ (by decide)) (by rw [hx, hy, Option.getD_some, Option.getD_some];dsimp only;omega)⟩ (by dsimp only;omega) (.cons rfl rfl (.cons rfl rfl (.cons (by rw [<- hq];rfl) rfl CV))) (.live (Bm _ _ _) .nil)
   ·have hib' : ¬ (i : Int) < ((wq b).length : Nat) := by omega
    have hr : IntKind.u32.wrap ((c : Int) + (x : Int)) = (((c + x + 0) % 4294967296 : Nat) : Int) := by rw [Ci];omega
    have hq : ((c : Int) + (x : Int)) / 4294967296 = (((c + x + 0) / 4294967296 : Nat) : Int) := by omega
    repeat' (first|refine W ?_|refine Za ?_|(apply p1x;(iterate 4 exact rfl);omega)|(apply S.indexR;(iterate 3 exact rfl);exact hbx;omega;exact rfl)|(apply p0h;exact rfl;exact Hp (show x < 18446744073709551616 by omega);exact rfl)|(apply p0h;exact rfl;exact hr;exact rfl)|(apply p1z;(iterate 3 exact rfl))|(apply S.lenO;(iterate 3 exact rfl))|(apply p1g i;(iterate 4 exact rfl);rfl;omega)|(apply p1h;(iterate 4 exact rfl);omega)|refine V ?_|(refine W2 ?_ ?_<;>intro hc))
    change Next _ _ _ _ _ _
    exact Next.go ⟨i + 1, m.set i ((c + x + 0) % 4294967296), (c + x + 0) / 4294967296⟩ ⟨by dsimp only;omega, Hq da db hinv hil (Nat.mod_lt _ (by decide)) (by rw [hx, List.getElem?_eq_none (by omega), Option.getD_some, Option.getD_none];dsimp only;omega)⟩ (by dsimp only;omega) (.cons rfl rfl (.cons rfl rfl (.cons (by rw [<- hq];rfl) rfl CV))) (.live (Bm _ _ _) .nil)
  ·have hia' : ¬ (i : Int) < ((wq a).length : Nat) := by omega
   have hib' : ¬ (i : Int) < ((wq b).length : Nat) := by omega
   have hr : IntKind.u32.wrap ((c : Int)) = (((c + 0 + 0) % 4294967296 : Nat) : Int) := by rw [Ci];omega
   have hq : ((c : Int)) / 4294967296 = (((c + 0 + 0) / 4294967296 : Nat) : Int) := by omega
   repeat' (first|refine W ?_|refine Za ?_|(apply p1x;(iterate 4 exact rfl);omega)|(apply p0h;exact rfl;exact hr;exact rfl)|(apply p1z;(iterate 3 exact rfl))|(apply S.lenO;(iterate 3 exact rfl))|(apply p1g i;(iterate 4 exact rfl);rfl;omega)|(apply p1h;(iterate 4 exact rfl);omega)|refine V ?_|(refine W2 ?_ ?_<;>intro hc))
   change Next _ _ _ _ _ _
   exact Next.go ⟨i + 1, m.set i ((c + 0 + 0) % 4294967296), (c + 0 + 0) / 4294967296⟩ ⟨by dsimp only;omega, Hq da db hinv hil (Nat.mod_lt _ (by decide)) (by rw [List.getElem?_eq_none (by omega), List.getElem?_eq_none (by omega), Option.getD_none];dsimp only;omega)⟩ (by dsimp only;omega) (.cons rfl rfl (.cons rfl rfl (.cons (by rw [<- hq];rfl) rfl CV))) (.live (Bm _ _ _) .nil)
 ·have h3 : ¬ (i : Int) < ((a.length + 1 : Nat) : Int) := by omega
  obtain rfl : i = a.length + 1 := by omega
  repeat' (first|refine W ?_|(refine T.freeze 5 rfl rfl (Ix .u32 m hm.symm) ?_)|(apply S.call;exact rfl;exact rfl;exact Fc m (val a + val b) hdm (by omega) (A0n hle da db hinv');exact rfl)|refine V ?_|(refine W2 ?_ ?_<;>intro hc))
  exact H6 (by simp) Tryz.results253 rfl (.one (.one (.lf _)))
theorem Yc (a b : List Nat) (da : Dig a) (db : Dig b) (hla : a.length <= 1000) (hsw : b.length < a.length) :
  Fn0 Tryz.prog 253 [.sl (wq b), .sl (wq a)] (.sl (wq (wds (val a + val b)))) := by
 have e1 : (wq a).length = a.length := Cz _ _
 have e2 : (wq b).length = b.length := Cz _ _
 have hle : b.length <= a.length := by omega
 have hlt : (((wq b).length : Nat) : Int) < ((wq a).length : Nat) := by omega
 have h1 : (((wq a).length : Nat) : Int) + 1 = ((a.length + 1 : Nat) : Int) := by omega
 refine Fn0.of Tryz.func253 Tryz.ntmps253 rfl rfl rfl ?_
 simp only [A2]
 repeat' (first|refine W ?_|refine Za ?_|(apply S.lenO;(iterate 3 exact rfl))|(apply p3b (n := a.length + 1);exact rfl;rw [<- h1];exact rfl;omega;exact rfl;exact rfl)|refine V ?_|(refine W2 ?_ ?_<;>intro hc))
 refine p0d (fun (s : AddS) => s.i <= a.length + 1 /\ Kx a b s.m s.i s.c) (fun s => a.length + 1 - s.i) (fun s => [(21, .i s.i), (20, .i ((a.length + 1 : Nat) : Int)), (6, .val (.int .u64 (s.c : Int))), (5, .own 0 0 (a.length + 1) 1), (0, .sl (wq a)), (1, .sl (wq b))]) (fun s => [.live (wsA .u32 s.m)]) ⟨0, List.replicate (a.length + 1) 0, 0⟩ ⟨a0o _, Un a b⟩ CV (.live (Bm _ _ _) .nil) ?_
 rintro ⟨i, m, c⟩ ⟨hi, hinv⟩
 dsimp only at hi hinv ⊢
 have hinv' := hinv
 obtain ⟨hm, hdm, _, _, hc1⟩ := hinv
 by_cases hil : i < m.length
 ·have h3 : (i : Int) < ((a.length + 1 : Nat) : Int) := by omega
  have hinv := hinv'
  by_cases hia : i < a.length
  ·obtain ⟨x, hx⟩ : ∃ x, a[i]? = some x := ⟨a[i], a0b hia⟩
   have hbx := G2 (k := .u32) hx
   have hxl := da.get hx
   have hia' : (i : Int) < ((wq a).length : Nat) := by omega
   by_cases hib : i < b.length
   ·obtain ⟨y, hy⟩ : ∃ y, b[i]? = some y := ⟨b[i], a0b hib⟩
    have hby := G2 (k := .u32) hy
    have hyl := db.get hy
    have hib' : (i : Int) < ((wq b).length : Nat) := by omega
    have hr : IntKind.u32.wrap ((c : Int) + (x : Int) + (y : Int)) = (((c + x + y) % 4294967296 : Nat) : Int) := by rw [Ci];omega
    have hq : ((c : Int) + (x : Int) + (y : Int)) / 4294967296 = (((c + x + y) / 4294967296 : Nat) : Int) := by omega
    repeat' (first|refine W ?_|refine Za ?_|(apply p1x;(iterate 4 exact rfl);omega)|(apply S.indexR;(iterate 3 exact rfl);exact hbx;omega;exact rfl)|(apply S.indexR;(iterate 3 exact rfl);exact hby;omega;exact rfl)|(apply p0h;exact rfl;exact Hp (show x < 18446744073709551616 by omega);exact rfl)|(apply p0h;exact rfl;exact Hp (show y < 18446744073709551616 by omega);exact rfl)|(apply p0h;exact rfl;exact hr;exact rfl)|(apply p1z;(iterate 3 exact rfl))|(apply S.lenO;(iterate 3 exact rfl))|(apply p1g i;(iterate 4 exact rfl);rfl;omega)|(apply p1h;(iterate 4 exact rfl);omega)|refine V ?_|(refine W2 ?_ ?_<;>intro hc))
    change Next _ _ _ _ _ _
    exact Next.go ⟨i + 1, m.set i ((c + x + y) % 4294967296), (c + x + y) / 4294967296⟩ ⟨by dsimp only;omega, Hq da db hinv hil (Nat.mod_lt _ (by decide)) (by rw [hx, hy, Option.getD_some, Option.getD_some];dsimp only;omega)⟩ (by dsimp only;omega) (.cons rfl rfl (.cons rfl rfl (.cons (by rw [<- hq];rfl) rfl CV))) (.live (Bm _ _ _) .nil)
   ·have hib' : ¬ (i : Int) < ((wq b).length : Nat) := by omega
    have hr : IntKind.u32.wrap ((c : Int) + (x : Int)) = (((c + x + 0) % 4294967296 : Nat) : Int) := by rw [Ci];omega
    have hq : ((c : Int) + (x : Int)) / 4294967296 = (((c + x + 0) / 4294967296 : Nat) : Int) := by omega
    repeat' (first|refine W ?_|refine Za ?_|(apply p1x;(iterate 4 exact rfl);omega)|(apply S.indexR;(iterate 3 exact rfl);exact hbx;omega;exact rfl)|(apply p0h;exact rfl;exact Hp (show x < 18446744073709551616 by omega);exact rfl)|(apply p0h;exact rfl;exact hr;exact rfl)|(apply p1z;(iterate 3 exact rfl))|(apply S.lenO;(iterate 3 exact rfl))|(apply p1g i;(iterate 4 exact rfl);rfl;omega)|(apply p1h;(iterate 4 exact rfl);omega)|refine V ?_|(refine W2 ?_ ?_<;>intro hc))
    change Next _ _ _ _ _ _
    exact Next.go ⟨i + 1, m.set i ((c + x + 0) % 4294967296), (c + x + 0) / 4294967296⟩ ⟨by dsimp only;omega, Hq da db hinv hil (Nat.mod_lt _ (by decide)) (by rw [hx, List.getElem?_eq_none (by omega), Option.getD_some, Option.getD_none];dsimp only;omega)⟩ (by dsimp only;omega) (.cons rfl rfl (.cons rfl rfl (.cons (by rw [<- hq];rfl) rfl CV))) (.live (Bm _ _ _) .nil)
  ·have hia' : ¬ (i : Int) < ((wq a).length : Nat) := by omega
   have hib' : ¬ (i : Int) < ((wq b).length : Nat) := by omega
   have hr : IntKind.u32.wrap ((c : Int)) = (((c + 0 + 0) % 4294967296 : Nat) : Int) := by rw [Ci];omega
   have hq : ((c : Int)) / 4294967296 = (((c + 0 + 0) / 4294967296 : Nat) : Int) := by omega
   repeat' (first|refine W ?_|refine Za ?_|(apply p1x;(iterate 4 exact rfl);omega)|(apply p0h;exact rfl;exact hr;exact rfl)|(apply p1z;(iterate 3 exact rfl))|(apply S.lenO;(iterate 3 exact rfl))|(apply p1g i;(iterate 4 exact rfl);rfl;omega)|(apply p1h;(iterate 4 exact rfl);omega)|refine V ?_|(refine W2 ?_ ?_<;>intro hc))
   change Next _ _ _ _ _ _
   exact Next.go ⟨i + 1, m.set i ((c + 0 + 0) % 4294967296), (c + 0 + 0) / 4294967296⟩ ⟨by dsimp only;omega, Hq da db hinv hil (Nat.mod_lt _ (by decide)) (by rw [List.getElem?_eq_none (by omega), List.getElem?_eq_none (by omega), Option.getD_none];dsimp only;omega)⟩ (by dsimp only;omega) (.cons rfl rfl (.cons rfl rfl (.cons (by rw [<- hq];rfl) rfl CV))) (.live (Bm _ _ _) .nil)
 ·have h3 : ¬ (i : Int) < ((a.length + 1 : Nat) : Int) := by omega
  obtain rfl : i = a.length + 1 := by omega
  repeat' (first|refine W ?_|(refine T.freeze 5 rfl rfl (Ix .u32 m hm.symm) ?_)|(apply S.call;exact rfl;exact rfl;exact Fc m (val a + val b) hdm (by omega) (A0n hle da db hinv');exact rfl)|refine V ?_|(refine W2 ?_ ?_<;>intro hc))
  exact H6 (by simp) Tryz.results253 rfl (.one (.one (.lf _)))
theorem A63 (a b : Nat) (ha : (wds a).length <= 1000) (hb : (wds b).length <= 1000) : Fn0 Tryz.prog 253 [.sl (wq (wds a)), .sl (wq (wds b))] (.sl (wq (wds (a + b)))) := by
 rcases a1a (wds a).length (wds b).length with h | h
 ·have := Yc (wds b) (wds a) (Dd b) (Dd a) hb h
  rwa [Bu, Bu, Nat.add_comm b a] at this
 ·have := Yb (wds a) (wds b) (Dd a) (Dd b) ha h
  rwa [Bu, Bu] at this
theorem A08 (a b : List Nat) (da : Dig a) (db : Dig b) (hla : a.length <= 1000) (hle : b.length <= a.length) (hv : val b <= val a) :
  Fn0 Tryz.prog 255 [.sl (wq a), .sl (wq b)] (.sl (wq (wds (val a - val b)))) := by
 have e1 : (wq a).length = a.length := Cz _ _
 have e2 : (wq b).length = b.length := Cz _ _
 have h1 : (((wq a).length : Nat) : Int) = ((a.length : Nat) : Int) := by omega
 refine Fn0.of Tryz.func255 Tryz.ntmps255 rfl rfl rfl ?_
 simp only [A2]
 repeat' (first|refine W ?_|refine Za ?_|(apply S.lenO;(iterate 3 exact rfl))|(apply p3b (n := a.length);exact rfl;rw [<- h1];exact rfl;omega;exact rfl;exact rfl)|refine V ?_|(refine W2 ?_ ?_<;>intro hc))
 refine p0d (fun (s : AddS) => s.i <= a.length /\ N8 a b s.m s.i s.c) (fun s => a.length - s.i) (fun s => [(14, .i s.i), (13, .i ((wq a).length : Nat)), (6, .i (s.c : Int)), (5, .own 0 0 a.length 1), (0, .sl (wq a)), (1, .sl (wq b))]) (fun s => [.live (wsA .u32 s.m)]) ⟨0, List.replicate a.length 0, 0⟩ ⟨a0o _, A77 a b⟩ CV (.live (Bm _ _ _) .nil) ?_
 rintro ⟨i, m, c⟩ ⟨hi, hinv⟩
 dsimp only at hi hinv ⊢
 have hinv' := hinv
 obtain ⟨hm, hdm, _, _, hc1⟩ := hinv
 by_cases hil : i < m.length
 ·have hinv := hinv'
  have h3 : (i : Int) < ((wq a).length : Nat) := by omega
  obtain ⟨x, hx⟩ : ∃ x, a[i]? = some x := ⟨a[i]'(by omega), a0b (by omega)⟩
  have hbx := G2 (k := .u32) hx
  have hxl := da.get hx
  have hcx : IntKind.i64.wrap (x : Int) = (x : Int) := wrap_i64 _ (by omega)
  by_cases hib : i < b.length
  ·obtain ⟨y, hy⟩ : ∃ y, b[i]? = some y := ⟨b[i], a0b hib⟩
   have hby := G2 (k := .u32) hy
   have hyl := db.get hy
   have hcy : IntKind.i64.wrap (y : Int) = (y : Int) := wrap_i64 _ (by omega)
   have hib' : (i : Int) < ((wq b).length : Nat) := by omega
   by_cases hn : (x : Int) - c - y < 0
   ·have hr : IntKind.u32.wrap ((x : Int) - c - y + 4294967296) = ((x + 4294967296 - c - y : Nat) : Int) := by rw [Ci];omega
    repeat' (first|refine W ?_|refine Za ?_|(apply S.indexR;(iterate 3 exact rfl);exact hbx;omega;exact rfl)|(apply S.indexR;(iterate 3 exact rfl);exact hby;omega;exact rfl)|(apply p0h;exact rfl;exact hcx;exact rfl)|(apply p0h;exact rfl;exact hcy;exact rfl)|(apply p0h;exact rfl;exact hr;exact rfl)|(apply S.lenO;(iterate 3 exact rfl))|(apply p1g i;(iterate 4 exact rfl);rfl;omega)|(apply p1h;(iterate 4 exact rfl);omega)|refine V ?_|(refine W2 ?_ ?_<;>intro hc))
    change Next _ _ _ _ _ _
    exact Next.go ⟨i + 1, m.set i (x + 4294967296 - c - y), 1⟩ ⟨by dsimp only;omega, Mp hinv hil (by omega) (by dsimp only;omega) (by rw [hx, hy, Option.getD_some, Option.getD_some];dsimp only;omega)⟩ (by dsimp only;omega) CV (.live (Bm _ _ _) .nil)
   ·have hr : IntKind.u32.wrap ((x : Int) - c - y) = ((x - c - y : Nat) : Int) := by rw [Ci];omega
    repeat' (first|refine W ?_|refine Za ?_|(apply S.indexR;(iterate 3 exact rfl);exact hbx;omega;exact rfl)|(apply S.indexR;(iterate 3 exact rfl);exact hby;omega;exact rfl)|(apply p0h;exact rfl;exact hcx;exact rfl)|(apply p0h;exact rfl;exact hcy;exact rfl)|(apply p0h;exact rfl;exact hr;exact rfl)|(apply S.lenO;(iterate 3 exact rfl))|(apply p1g i;(iterate 4 exact rfl);rfl;omega)|(apply p1h;(iterate 4 exact rfl);omega)|refine V ?_|(refine W2 ?_ ?_<;>intro hc))
    change Next _ _ _ _ _ _
    exact Next.go ⟨i + 1, m.set i (x - c - y), 0⟩ ⟨by dsimp only;omega, Mp hinv hil (by omega) (by dsimp only;omega) (by rw [hx, hy, Option.getD_some, Option.getD_some];dsimp only;omega)⟩ (by dsimp only;omega) CV (.live (Bm _ _ _) .nil)
  ·have hib' : ¬ (i : Int) < ((wq b).length : Nat) := by omega
   by_cases hn : (x : Int) - c < 0
   ·have hr : IntKind.u32.wrap ((x : Int) - c + 4294967296) = ((x + 4294967296 - c : Nat) : Int) := by rw [Ci];omega
    repeat' (first|refine W ?_|refine Za ?_|(apply S.indexR;(iterate 3 exact rfl);exact hbx;omega;exact rfl)|(apply p0h;exact rfl;exact hcx;exact rfl)|(apply p0h;exact rfl;exact hr;exact rfl)|(apply S.lenO;(iterate 3 exact rfl))|(apply p1g i;(iterate 4 exact rfl);rfl;omega)|(apply p1h;(iterate 4 exact rfl);omega)|refine V ?_|(refine W2 ?_ ?_<;>intro hc))
    change Next _ _ _ _ _ _
    exact Next.go ⟨i + 1, m.set i (x + 4294967296 - c), 1⟩ ⟨by dsimp only;omega, Mp hinv hil (by omega) (by dsimp only;omega) (by rw [hx, List.getElem?_eq_none (by omega), Option.getD_some, Option.getD_none];dsimp only;omega)⟩ (by dsimp only;omega) CV (.live (Bm _ _ _) .nil)
   ·have hr : IntKind.u32.wrap ((x : Int) - c) = ((x - c : Nat) : Int) := by rw [Ci];omega
    repeat' (first|refine W ?_|refine Za ?_|(apply S.indexR;(iterate 3 exact rfl);exact hbx;omega;exact rfl)|(apply p0h;exact rfl;exact hcx;exact rfl)|(apply p0h;exact rfl;exact hr;exact rfl)|(apply S.lenO;(iterate 3 exact rfl))|(apply p1g i;(iterate 4 exact rfl);rfl;omega)|(apply p1h;(iterate 4 exact rfl);omega)|refine V ?_|(refine W2 ?_ ?_<;>intro hc))
    change Next _ _ _ _ _ _
    exact Next.go ⟨i + 1, m.set i (x - c), 0⟩ ⟨by dsimp only;omega, Mp hinv hil (by omega) (by dsimp only;omega) (by rw [hx, List.getElem?_eq_none (by omega), Option.getD_some, Option.getD_none];dsimp only;omega)⟩ (by dsimp only;omega) CV (.live (Bm _ _ _) .nil)
 ·have h3 : ¬ (i : Int) < ((wq a).length : Nat) := by omega
  obtain rfl : i = a.length := by omega
  repeat' (first|refine W ?_|(refine T.freeze 5 rfl rfl (Ix .u32 m hm.symm) ?_)|(apply S.call;exact rfl;exact rfl;exact Fc m (val a - val b) hdm (by omega) (Acd hle hv hinv');exact rfl)|refine V ?_|(refine W2 ?_ ?_<;>intro hc))
  exact H6 (by simp) Tryz.results255 rfl (.one (.one (.lf _)))
theorem Vj (a b : Nat) (ha : (wds a).length <= 1000) (hab : b <= a) : Fn0 Tryz.prog 255 [.sl (wq (wds a)), .sl (wq (wds b))] (.sl (wq (wds (a - b)))) := by
 have := A08 (wds a) (wds b) (Dd a) (Dd b) ha (Aci (My b) (Dd a) (by rw [Bu, Bu];exact hab)) (by rw [Bu, Bu];exact hab)
 rwa [Bu, Bu] at this
def Km (a b : List Nat) : Nat -> Int
 | 0 => 0
 | k + 1 => if a[k]?.getD 0 = b[k]?.getD 0 then Km a b k else if a[k]?.getD 0 < b[k]?.getD 0 then -1 else 1
def Lu (a b : List Nat) : Int := if a.length ≠ b.length then (a.length : Int) - b.length else Km a b a.length
theorem X4 {a b : List Nat} (da : Dig a) (db : Dig b) : ∀ k : Nat, (Km a b k < 0 ↔ val (a.take k) < val (b.take k))
 | 0 => by simp [Km, val]
 | k + 1 => by
  have ih := X4 da db k
  have h1 := K2 _ (da.take k)
  have h2 := K2 _ (db.take k)
  have h3 : (4294967296 : Nat) ^ (a.take k).length <= 4294967296 ^ k := a4q (by decide) (by rw [a0t];omega)
  have h4 : (4294967296 : Nat) ^ (b.take k).length <= 4294967296 ^ k := a4q (by decide) (by rw [a0t];omega)
  rw [Ed, Ed]
  simp only [Km]
  generalize a[k]?.getD 0 = x
  generalize b[k]?.getD 0 = y
  split
  ·subst_vars
   rw [ih];omega
  ·split
   ·have : 4294967296 ^ k * (x + 1) <= 4294967296 ^ k * y := a5v _ (by omega)
    rw [a4c] at this
    constructor
    ·intro _;omega
    ·intro _;decide
   ·have : 4294967296 ^ k * (y + 1) <= 4294967296 ^ k * x := a5v _ (by omega)
    rw [a4c] at this
    constructor
    ·intro h;exact absurd h (by decide)
    ·intro h;omega
theorem X5 (a b : Nat) : (Lu (wds a) (wds b) < 0 ↔ a < b) := by
 unfold Lu
 split
 ·rename_i h
  constructor
  ·intro h1
   have := Rj (My b) (Dd a) (show (wds a).length < (wds b).length by omega)
   rwa [Bu, Bu] at this
  ·intro h1
   rcases a1a (wds b).length (wds a).length with h2 | h2
   ·have := Rj (My a) (Dd b) h2
    rw [Bu, Bu] at this
    omega
   ·omega
 ·rename_i h
  rw [X4 (Dd a) (Dd b), a0h (a0l _), a0h (by omega), Bu, Bu]
theorem U5 (a b : List Nat) (hla : a.length <= 1000) (hlb : b.length <= 1000) : Fn0 Tryz.prog 254 [.sl (wq a), .sl (wq b)] (.i (Lu a b)) := by
 have e1 : (wq a).length = a.length := Cz _ _
 have e2 : (wq b).length = b.length := Cz _ _
 by_cases hne : (((wq a).length : Nat) : Int) = ((wq b).length : Nat)
 ·skip
  refine Fn0.of Tryz.func254 Tryz.ntmps254 rfl rfl rfl ?_
  simp only [A2]
  repeat' (first|refine W ?_|refine Za ?_|refine V ?_|(refine W2 ?_ ?_<;>intro hc))
  refine p0d (fun k => k <= a.length /\ Km a b k = Km a b a.length) (fun k => k) (fun k => [(5, .i ((k : Int) - 1)), (0, .sl (wq a)), (1, .sl (wq b))]) (fun _ => []) a.length ⟨a0l _, rfl⟩ (.cons (by rw [<- e1];rfl) rfl CV) .nil ?_
  rintro k ⟨hk, hv⟩
  cases k with
  | zero =>
   have h0 : ¬ (0 : Int) <= ((0 : Nat) : Int) - 1 := by omega
   repeat' (first|refine W ?_|refine V ?_|(refine W2 ?_ ?_<;>intro hc))
   exact A4 (by simp) a8u rfl (by rw [Lu, if_neg (by omega), <- hv];rfl)
  | succ k =>
   have h1 : (0 : Int) <= ((k + 1 : Nat) : Int) - 1 := by omega
   have h2 : ((((k + 1 : Nat) : Int) - 1).toNat) = k := by omega
   obtain ⟨x, hx⟩ : ∃ x, a[k]? = some x := ⟨a[k]'(by omega), a0b (by omega)⟩
   obtain ⟨y, hy⟩ : ∃ y, b[k]? = some y := ⟨b[k]'(by omega), a0b (by omega)⟩
   have hbx : (wq a)[(((k + 1 : Nat) : Int) - 1).toNat]? = some [.val (.int .u32 (x : Int))] := by rw [h2];exact Zo hx
   have hby : (wq b)[(((k + 1 : Nat) : Int) - 1).toNat]? = some [.val (.int .u32 (y : Int))] := by rw [h2];exact Zo hy
   have hK : Km a b (k + 1) = if x = y then Km a b k else if x < y then -1 else 1 := by simp only [Km, hx, hy, a1i]
   by_cases hxy : (x : Int) = (y : Int)
   ·repeat' (first|refine W ?_|refine Za ?_|(apply S.indexR;(iterate 3 exact rfl);exact hbx;omega;exact rfl)|(apply S.indexR;(iterate 3 exact rfl);exact hby;omega;exact rfl)|(apply p0b A0 (by decide +kernel))|refine V ?_|(refine W2 ?_ ?_<;>intro hc))
    change Next _ _ _ _ _ _
    exact Next.go k ⟨by omega, by rw [<- hv, hK, if_pos (by omega)]⟩ (a3u k) (.cons (by rw [show ((k : Nat) : Int) - 1 = ((k + 1 : Nat) : Int) - 1 - 1 by omega];rfl) rfl CV) .nil
   ·by_cases hlt : (x : Int) < (y : Int)
    ·repeat' (first|refine W ?_|refine Za ?_|(apply S.indexR;(iterate 3 exact rfl);exact hbx;omega;exact rfl)|(apply S.indexR;(iterate 3 exact rfl);exact hby;omega;exact rfl)|(apply p0b A0 (by decide +kernel))|refine V ?_|(refine W2 ?_ ?_<;>intro hc))
     exact A4 (by simp) a8u rfl (by rw [Lu, if_neg (by omega), <- hv, hK, if_neg (by omega), if_pos (by omega)])
    ·repeat' (first|refine W ?_|refine Za ?_|(apply S.indexR;(iterate 3 exact rfl);exact hbx;omega;exact rfl)|(apply S.indexR;(iterate 3 exact rfl);exact hby;omega;exact rfl)|(apply p0b A0 (by decide +kernel))|refine V ?_|(refine W2 ?_ ?_<;>intro hc))
     exact A4 (by simp) a8u rfl (by rw [Lu, if_neg (by omega), <- hv, hK, if_neg (by omega), if_neg (by omega)])
 ·skip
  refine Fn0.of Tryz.func254 Tryz.ntmps254 rfl rfl rfl ?_
  simp only [A2]
  repeat' (first|refine W ?_|refine Za ?_|refine V ?_|(refine W2 ?_ ?_<;>intro hc))
  exact A4 (by simp) a8u rfl (by rw [Lu, if_pos (by omega), e1, e2])
abbrev C2 (s : Bool) (n : Nat) : List Lf := [.val (.bool s), .sl (wq (wds n))]
theorem A9m (s : Bool) (n : Nat) : Fn0 Tryz.prog 202 [A1 (C2 s n)] (.i (if n = 0 then 0 else if s then -1 else 1)) := by
 by_cases h0 : n = 0
 ·subst h0
  have h : (((wq (wds 0)).length : Nat) : Int) = 0 := by rw [Cz, Fj];rfl
  refine Fn0.of Tryz.func202 Tryz.ntmps202 rfl rfl rfl ?_
  simp only [A2]
  repeat' (first|refine W ?_|refine V ?_|(refine W2 ?_ ?_<;>intro hc))
  exact A4 (by simp) Tryz.results202 rfl (by simp)
 ·have h : ¬ (((wq (wds n)).length : Nat) : Int) = 0 := fun e => h0 (wds_nil.1 (a1p (by rw [Cz] at e;omega)))
  cases s <;>
  ·skip
   refine Fn0.of Tryz.func202 Tryz.ntmps202 rfl rfl rfl ?_
   simp only [A2]
   repeat' (first|refine W ?_|refine V ?_|(refine W2 ?_ ?_<;>intro hc))
   exact A4 (by simp) Tryz.results202 rfl (by simp [h0])
theorem Yd (s : Bool) (n : Nat) : Fn0 Tryz.prog 234 [A1 (C2 s n)] (A1 (C2 (!s) n)) := by
 refine Fn0.of Tryz.func234 Tryz.ntmps234 rfl rfl rfl ?_
 simp only [A2]
 repeat' (first|refine W ?_|(apply p0b A0 (by decide +kernel))|refine V ?_|(refine W2 ?_ ?_<;>intro hc))
 exact ⟨.inr rfl, [A1 (C2 (!s) n)], .cons (Res.row (C2 (!s) n) rfl rfl rfl rfl rfl) .nil, .one (.agg (A6 (C2 (!s) n)))⟩
end Go.Proofs.YtlapbaiejnaeiaaGreatDoor
