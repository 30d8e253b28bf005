/- Plain facts on numbers by their digits to the base 2^24, the least one first, as the reference reckons with them: no program. | Contracts: the reference's integers: digit, trim, larger, plus, minus. No conditions but those of each statement. | Contracts: the reference's integers: plus, minus. No conditions but those of each statement. -/
import Derived.Test.YtgegcgfdffmoeaaGreatNf
import Derived.Test.YtgegcgfdffmoeaaGreatNe
import Derived.Test.YtgegcgfdffmoeaaGreatMp
set_option linter.unusedSimpArgs false
set_option linter.unusedVariables false
namespace Go.Proofs.YtgegcgfdffmoeaaGreat.R24

def val : List Nat → Nat
  | [] => 0
  | d :: r => d + 16777216 * val r
def Dig (l : List Nat) : Prop := ∀ x ∈ l, x < 16777216
theorem val_append : ∀ (a b : List Nat), val (a ++ b) = val a + 16777216 ^ a.length * val b
  | [], b => by simp [val]
  | d :: r, b => by
    simp only [List.cons_append, val, val_append r b, List.length_cons, Nat.pow_succ, Nat.mul_add]
    rw [Nat.mul_comm (16777216 ^ r.length) 16777216, Nat.mul_assoc]
    omega
theorem val_lt : ∀ (l : List Nat), Dig l → val l < 16777216 ^ l.length
  | [], _ => by simp [val]
  | d :: r, h => by
    have h1 := val_lt r fun x hx => h x (by simp [hx])
    have h2 := h d (by simp)
    simp only [val, List.length_cons, Nat.pow_succ]
    omega
theorem Dig.take {l : List Nat} (h : Dig l) (k : Nat) : Dig (l.take k) := fun x hx => h x (List.mem_of_mem_take hx)
theorem Dig.get {l : List Nat} (h : Dig l) {i x : Nat} (hx : l[i]? = some x) : x < 16777216 := h x (List.mem_of_getElem? hx)
theorem Dig.set {l : List Nat} (h : Dig l) (i : Nat) {x : Nat} (hx : x < 16777216) : Dig (l.set i x) := fun y hy => by
  rcases List.mem_or_eq_of_mem_set hy with h1 | h1
  · exact h y h1
  · rw [h1];exact hx
theorem val_take_succ {l : List Nat} {i x : Nat} (hx : l[i]? = some x) : val (l.take (i + 1)) = val (l.take i) + 16777216 ^ i * x := by
  have hi : i < l.length := (List.getElem?_eq_some_iff.1 hx).1
  rw [List.take_add_one, hx, val_append]
  simp [val, Nat.min_eq_left (Nat.le_of_lt hi)]
theorem val_set : ∀ (l : List Nat) (i x y : Nat), l[i]? = some y → val (l.set i x) + 16777216 ^ i * y = val l + 16777216 ^ i * x
  | [], i, x, y, h => by simp at h
  | d :: r, 0, x, y, h => by
    simp at h;subst h
    simp only [List.set_cons_zero, val, Nat.pow_zero, Nat.one_mul];omega
  | d :: r, i + 1, x, y, h => by
    have := val_set r i x y (by simpa using h)
    simp only [List.set_cons_succ, val, Nat.pow_succ]
    rw [Nat.mul_comm (16777216 ^ i) 16777216, Nat.mul_assoc, Nat.mul_assoc]
    omega
theorem val_zeros : ∀ n : Nat, val (List.replicate n 0) = 0
  | 0 => rfl
  | n + 1 => by simp [List.replicate_succ, val, val_zeros n]
def Trim (l : List Nat) : Prop := ∀ x, l.getLast? = some x → x ≠ 0
theorem trim_low {l : List Nat} (h : Trim l) (hne : l ≠ []) : 16777216 ^ (l.length - 1) ≤ val l := by
  obtain ⟨r, x, rfl⟩ : ∃ r x, l = r ++ [x] := ⟨l.dropLast, l.getLast hne, (List.dropLast_concat_getLast hne).symm⟩
  have hx : x ≠ 0 := h x (by simp)
  rw [val_append]
  simp only [List.length_append, List.length_singleton, Nat.add_sub_cancel, val, Nat.mul_zero, Nat.add_zero]
  have : 16777216 ^ r.length * 1 ≤ 16777216 ^ r.length * x := Nat.mul_le_mul_left _ (by omega)
  omega
theorem trim_len {a b : List Nat} (ta : Trim a) (db : Dig b) (h : b.length < a.length) : val b < val a := by
  have h1 := trim_low ta (by intro e;rw [e] at h;simp at h)
  have h2 := val_lt b db
  have h3 : (16777216 : Nat) ^ b.length ≤ 16777216 ^ (a.length - 1) := Nat.pow_le_pow_right (by decide) (by omega)
  omega
theorem trim_zero {l : List Nat} (h : Trim l) : val l = 0 ↔ l = [] := by
  constructor
  · intro h0
    by_cases he : l = []
    · exact he
    · have h1 := trim_low h he
      have h2 : 0 < (16777216 : Nat) ^ (l.length - 1) := Nat.pow_pos (by decide)
      omega
  · rintro rfl;rfl
theorem trim_nil : Trim [] := fun x h => by simp at h
theorem val_take_zero {l : List Nat} {k : Nat} (hk : l[k]? = some 0) : val (l.take (k + 1)) = val (l.take k) := by
  rw [val_take_succ hk];simp
theorem trim_take {l : List Nat} {k x : Nat} (hk : l[k]? = some x) (hx : x ≠ 0) : Trim (l.take (k + 1)) := fun y hy => by
  rw [List.take_add_one, hk] at hy
  simp at hy
  omega
/-! ### Sums -/
def AddInv (a b m : List Nat) (i c : Nat) : Prop := m.length = a.length + 1 ∧ Dig m ∧ (∀ j, i ≤ j → j < m.length → m[j]? = some 0) ∧ val m + 16777216 ^ i * c = val (a.take i) + val (b.take i) ∧ c ≤ 1
theorem add_start (a b : List Nat) : AddInv a b (List.replicate (a.length + 1) 0) 0 0 := by
  refine ⟨by simp, fun x hx => by rw [List.eq_of_mem_replicate hx];decide, fun j _ hj => ?_, by simp [val_zeros, val], by omega⟩
  simp at hj
  rw [List.getElem?_replicate, if_pos hj]
theorem val_take_get (l : List Nat) (i : Nat) : val (l.take (i + 1)) = val (l.take i) + 16777216 ^ i * l[i]?.getD 0 := by
  cases h : l[i]? with
  | none =>
    have := List.getElem?_eq_none_iff.1 h
    rw [List.take_of_length_le (by omega), List.take_of_length_le (by omega)]
    simp
  | some x => rw [val_take_succ h];rfl
theorem get_lt {a : List Nat} (da : Dig a) (i : Nat) : a[i]?.getD 0 < 16777216 := by
  cases e : a[i]? with
  | none => simp
  | some x => exact da.get e
theorem add_step {a b m : List Nat} {i c q r : Nat} (da : Dig a) (db : Dig b) (h : AddInv a b m i c) (hi : i < m.length) (hr : r < 16777216) (hq : 16777216 * q + r = c + a[i]?.getD 0 + b[i]?.getD 0) : AddInv a b (m.set i r) (i + 1) q := by
  obtain ⟨h1, h2, h3, h4, h5⟩ := h
  have ha := get_lt da i
  have hb := get_lt db i
  refine ⟨by simpa using h1, h2.set i hr, fun j hj hjl => ?_, ?_, by omega⟩
  · rw [List.getElem?_set_ne (by omega)]
    exact h3 j (by omega) (by simpa using hjl)
  · have e := val_set m i r 0 (h3 i (Nat.le_refl _) hi)
    rw [val_take_get, val_take_get, Nat.pow_succ]
    generalize a[i]?.getD 0 = x at *
    generalize b[i]?.getD 0 = y at *
    have : 16777216 ^ i * 16777216 * q + 16777216 ^ i * r = 16777216 ^ i * c + 16777216 ^ i * x + 16777216 ^ i * y := by
      rw [Nat.mul_assoc, ← Nat.mul_add, hq, Nat.mul_add, Nat.mul_add]
    omega
theorem carry_none {P m va vb c : Nat} (h : m + P * 16777216 * c = va + vb) (ha : va < P) (hb : vb < P) : m = va + vb := by
  rcases Nat.lt_or_ge 0 c with hc | hc
  · have : P * 16777216 * 1 ≤ P * 16777216 * c := Nat.mul_le_mul_left _ hc
    rw [Nat.mul_one] at this
    generalize P * 16777216 * c = X at *
    omega
  · obtain rfl : c = 0 := by omega
    rw [Nat.mul_zero, Nat.add_zero] at h
    exact h
theorem add_end {a b m : List Nat} {c : Nat} (hl : b.length ≤ a.length) (da : Dig a) (db : Dig b) (h : AddInv a b m (a.length + 1) c) : val m = val a + val b := by
  obtain ⟨h1, h2, h3, h4, h5⟩ := h
  rw [List.take_of_length_le (by omega), List.take_of_length_le (by omega), Nat.pow_succ] at h4
  have l3 : (16777216 : Nat) ^ b.length ≤ 16777216 ^ a.length := Nat.pow_le_pow_right (by omega) hl
  exact carry_none h4 (val_lt a da) (Nat.lt_of_lt_of_le (val_lt b db) l3)

/-! ### Differences -/
def SubInv (a b m : List Nat) (i c : Nat) : Prop := m.length = a.length ∧ Dig m ∧ (∀ j, i ≤ j → j < m.length → m[j]? = some 0) ∧ val m + val (b.take i) = val (a.take i) + 16777216 ^ i * c ∧ c ≤ 1
theorem sub_start (a b : List Nat) : SubInv a b (List.replicate a.length 0) 0 0 := by
  refine ⟨by simp, fun x hx => by rw [List.eq_of_mem_replicate hx];decide, fun j _ hj => ?_, by simp [val_zeros, val], by omega⟩
  simp at hj
  rw [List.getElem?_replicate, if_pos hj]
theorem sub_step {a b m : List Nat} {i c d c' : Nat} (h : SubInv a b m i c) (hi : i < m.length) (hd : d < 16777216) (hc : c' ≤ 1) (he : d + c + b[i]?.getD 0 = a[i]?.getD 0 + 16777216 * c') :
    SubInv a b (m.set i d) (i + 1) c' := by
  obtain ⟨h1, h2, h3, h4, h5⟩ := h
  refine ⟨by simpa using h1, h2.set i hd, fun j hj hjl => ?_, ?_, hc⟩
  · rw [List.getElem?_set_ne (by omega)]
    exact h3 j (by omega) (by simpa using hjl)
  · have e := val_set m i d 0 (h3 i (Nat.le_refl _) hi)
    rw [val_take_get, val_take_get, Nat.pow_succ]
    generalize a[i]?.getD 0 = x at *
    generalize b[i]?.getD 0 = y at *
    have : 16777216 ^ i * d + 16777216 ^ i * c + 16777216 ^ i * y = 16777216 ^ i * x + 16777216 ^ i * 16777216 * c' := by
      rw [Nat.mul_assoc, ← Nat.mul_add, ← Nat.mul_add, he, Nat.mul_add]
    omega
theorem sub_end {a b m : List Nat} {c : Nat} (hl : b.length ≤ a.length) (hv : val b ≤ val a) (h : SubInv a b m a.length c) : val m = val a - val b := by
  obtain ⟨h1, h2, h3, h4, h5⟩ := h
  rw [List.take_of_length_le hl, List.take_of_length_le (Nat.le_refl _)] at h4
  have l1 := val_lt m h2
  rw [h1] at l1
  rcases Nat.lt_or_ge 0 c with hc | hc
  · have : 16777216 ^ a.length * 1 ≤ 16777216 ^ a.length * c := Nat.mul_le_mul_left _ hc
    omega
  · obtain rfl : c = 0 := by omega
    omega
theorem trim_le {a b : List Nat} (tb : Trim b) (da : Dig a) (h : val b ≤ val a) : b.length ≤ a.length := by
  rcases Nat.lt_or_ge a.length b.length with h1 | h1
  · have := trim_len tb da h1;omega
  · exact h1

/-! ### Products -/
def MulInv (a b m : List Nat) (i : Nat) : Prop := m.length = a.length + b.length ∧ Dig m ∧ (∀ j, i + b.length ≤ j → j < m.length → m[j]? = some 0) ∧ val m = val (a.take i) * val b
def MulIn (a b m : List Nat) (i x k c : Nat) : Prop := m.length = a.length + b.length ∧ Dig m ∧ (∀ j, i + b.length ≤ j → j < m.length → m[j]? = some 0) ∧ val m + 16777216 ^ (i + k) * c = val (a.take i) * val b + 16777216 ^ i * x * val (b.take k) ∧ c < 16777216
theorem mul_start (a b : List Nat) : MulInv a b (List.replicate (a.length + b.length) 0) 0 := by
  refine ⟨by simp, fun x hx => by rw [List.eq_of_mem_replicate hx];decide, fun j _ hj => ?_, by simp [val_zeros, val]⟩
  simp at hj
  rw [List.getElem?_replicate, if_pos hj]
theorem mul_in {a b m : List Nat} {i : Nat} (x : Nat) (h : MulInv a b m i) : MulIn a b m i x 0 0 := by
  obtain ⟨h1, h2, h3, h4⟩ := h
  exact ⟨h1, h2, h3, by simp [val, h4], by decide⟩
theorem mul_step {a b m : List Nat} {i x k c y z q r : Nat} (h : MulIn a b m i x k c) (hx : x < 16777216) (hy : b[k]? = some y) (hyd : y < 16777216) (hz : m[i + k]? = some z) (hr : r < 16777216) (hq : 16777216 * q + r = c + (x * y + z)) (hqd : q < 16777216) :
    MulIn a b (m.set (i + k) r) i x (k + 1) q := by
  obtain ⟨h1, h2, h3, h4, h5⟩ := h
  have hk : k < b.length := (List.getElem?_eq_some_iff.1 hy).1
  refine ⟨by simpa using h1, h2.set _ hr, fun j hj hjl => ?_, ?_, hqd⟩
  · rw [List.getElem?_set_ne (by omega)]
    exact h3 j hj (by simpa using hjl)
  · have e := val_set m (i + k) r z hz
    have e4 : (16777216 : Nat) ^ (i + (k + 1)) = 16777216 ^ (i + k) * 16777216 := by rw [← Nat.add_assoc, Nat.pow_succ]
    rw [val_take_succ hy, e4]
    have e2 : 16777216 ^ (i + k) * 16777216 * q + 16777216 ^ (i + k) * r = 16777216 ^ (i + k) * c + (16777216 ^ (i + k) * (x * y) + 16777216 ^ (i + k) * z) := by
      rw [Nat.mul_assoc, ← Nat.mul_add, hq, Nat.mul_add, Nat.mul_add]
    have e3 : 16777216 ^ i * x * (val (b.take k) + 16777216 ^ k * y) = 16777216 ^ i * x * val (b.take k) + 16777216 ^ (i + k) * (x * y) := by
      rw [Nat.mul_add, Nat.pow_add]
      congr 1
      rw [Nat.mul_assoc, Nat.mul_assoc]
      congr 1
      rw [← Nat.mul_assoc, Nat.mul_comm x, Nat.mul_assoc]
    rw [e3]
    omega
def wds (n : Nat) : List Nat := if h : n = 0 then [] else n % 16777216 :: wds (n / 16777216)
termination_by n
decreasing_by omega
theorem wds_zero : wds 0 = [] := by rw [wds];simp
theorem wds_pos {n : Nat} (h : n ≠ 0) : wds n = n % 16777216 :: wds (n / 16777216) := by rw [wds, dif_neg h]
theorem trim_tail {d : Nat} {r : List Nat} (h : Trim (d :: r)) : Trim r := fun x hx => h x (by
  cases r with
  | nil => simp at hx
  | cons y r => rw [List.getLast?_cons_cons];exact hx)
theorem wds_uniq : ∀ l : List Nat, Dig l → Trim l → wds (val l) = l
  | [], _, _ => wds_zero
  | d :: r, hd, ht => by
    have h1 := hd d (by simp)
    have h0 : val (d :: r) ≠ 0 := fun h => by have := (trim_zero ht).1 h;cases this
    have e1 : val (d :: r) % 16777216 = d := by simp only [val];omega
    have e2 : val (d :: r) / 16777216 = val r := by simp only [val];omega
    rw [wds_pos h0, e1, e2, wds_uniq r (fun x hx => hd x (by simp [hx])) (trim_tail ht)]
theorem wds_dig (n : Nat) : Dig (wds n) := by
  induction n using Nat.strongRecOn with
  | _ n ih =>
    by_cases h : n = 0
    · subst h;rw [wds_zero];intro x hx;simp at hx
    · rw [wds_pos h]
      intro x hx
      rcases List.mem_cons.1 hx with rfl | hx
      · omega
      · exact ih (n / 16777216) (by omega) x hx
theorem wds_val (n : Nat) : val (wds n) = n := by
  induction n using Nat.strongRecOn with
  | _ n ih =>
    by_cases h : n = 0
    · subst h;rw [wds_zero];rfl
    · rw [wds_pos h, val, ih (n / 16777216) (by omega)];omega
theorem wds_trim (n : Nat) : Trim (wds n) := by
  induction n using Nat.strongRecOn with
  | _ n ih =>
    by_cases h : n = 0
    · subst h;rw [wds_zero];exact trim_nil
    · rw [wds_pos h]
      intro x hx
      by_cases h2 : n / 16777216 = 0
      · rw [h2, wds_zero] at hx
        simp at hx
        omega
      · have := ih (n / 16777216) (by omega) x
        rw [wds_pos h2] at hx this
        rw [List.getLast?_cons_cons] at hx
        exact this hx
theorem wds_len {n k : Nat} (h : n < 16777216 ^ k) : (wds n).length ≤ k := by
  rcases Nat.lt_or_ge k (wds n).length with h1 | h1
  · have h2 := trim_low (wds_trim n) (by intro e;rw [e] at h1;simp at h1)
    rw [wds_val] at h2
    have h3 : (16777216 : Nat) ^ k ≤ 16777216 ^ ((wds n).length - 1) := Nat.pow_le_pow_right (by decide) (by omega)
    omega
  · exact h1
theorem wds_nil {n : Nat} : wds n = [] ↔ n = 0 := by
  constructor
  · intro h
    have := wds_val n
    rw [h] at this
    exact this.symm
  · rintro rfl;exact wds_zero
/-! ### Lists that grow -/
def pw : Nat → Nat → List Nat
  | 0, _ => []
  | k + 1, n => n % 16777216 :: pw k (n / 16777216)
structure PlusInv (a b m : List Nat) (i c : Nat) : Prop where
  len : m.length = i
  dig : Dig m
  eq : val m + 16777216 ^ i * c = val (a.take i) + val (b.take i)
  c1 : c ≤ 1
  low : i ≠ 0 → 16777216 ^ (i - 1) ≤ val a + val b
structure MinusInv (a b m : List Nat) (i c : Nat) : Prop where
  len : m.length = i
  dig : Dig m
  eq : val m + val (b.take i) = val (a.take i) + 16777216 ^ i * c
  c1 : c ≤ 1
/-! ### The reference's product -/
structure MulR (a b m : List Nat) (i : Nat) : Prop where
  len : m.length = a.length + b.length + 1
  dig : Dig m
  eq : val m = val (a.take i) * val b
structure MulRI (a b m : List Nat) (i x k c : Nat) : Prop where
  len : m.length = a.length + b.length + 1
  dig : Dig m
  eq : val m + 16777216 ^ (i + k) * c = val (a.take i) * val b + 16777216 ^ i * x * val (b.take k)
  cd : c < 16777216
/-! ### Comparison -/
def lgK (a b : List Nat) : Nat → Bool
  | 0 => false
  | k + 1 => if a[k]?.getD 0 = b[k]?.getD 0 then lgK a b k else decide (b[k]?.getD 0 < a[k]?.getD 0)
def lgL (a b : List Nat) : Bool := if a.length ≠ b.length then decide (b.length < a.length) else lgK a b a.length
end Go.Proofs.YtgegcgfdffmoeaaGreat.R24
set_option linter.unusedSimpArgs false
namespace Go.Proofs.YtgegcgfdffmoeaaGreat
set_option linter.unusedVariables false
open Go.RowKit
abbrev w24 (l : List Nat) : List (List Lf) := wsR .i64 l
abbrev bgR (s : Bool) (l : List Nat) : List Lf := [.val (.bool s), .sl (w24 l)]
end Go.Proofs.YtgegcgfdffmoeaaGreat
set_option linter.unusedSimpArgs false
namespace Go.Proofs.YtgegcgfdffmoeaaGreat
set_option linter.unusedVariables false
open Go.RowKit
structure PlS where
  i : Nat
  m : List Nat
  c : Nat
end Go.Proofs.YtgegcgfdffmoeaaGreat
