/- Plain facts on numbers by their digits to the base 2^24, the least one first, as the reference reckons with them: no program. | Contracts: the reference's integers: digit, trim, larger, plus, minus. No conditions but those of each statement. | Contracts: the reference's integers: plus, minus. No conditions but those of each statement. -/
import Derived.Test.YtgegcgfdffmoeaaGreatNf
import Derived.Test.YtgegcgfdffmoeaaGreatNe
import Derived.Test.YtgegcgfdffmoeaaGreatMp
set_option linter.unusedSimpArgs false
set_option linter.unusedVariables false
namespace Go.Proofs.YtgegcgfdffmoeaaGreat.R24

/-- The value of words. -/
def val : List Nat → Nat
  | [] => 0
  | d :: r => d + 16777216 * val r
def Dig (l : List Nat) : Prop := ∀ x ∈ l, x < 16777216
theorem val_append : ∀ (a b : List Nat), val (a ++ b) = val a + 16777216 ^ a.length * val b
  | [], b => by simp [val]
  | d :: r, b => by
    simp only [List.cons_append, val, val_append r b, List.length_cons, Nat.pow_succ, Nat.mul_add]
    rw [Nat.mul_comm (16777216 ^ r.length) 16777216, Nat.mul_assoc]
    omega
theorem val_lt : ∀ (l : List Nat), Dig l → val l < 16777216 ^ l.length
  | [], _ => by simp [val]
  | d :: r, h => by
    have h1 := val_lt r fun x hx => h x (by simp [hx])
    have h2 := h d (by simp)
    simp only [val, List.length_cons, Nat.pow_succ]
    omega
theorem Dig.take {l : List Nat} (h : Dig l) (k : Nat) : Dig (l.take k) := fun x hx => h x (List.mem_of_mem_take hx)
theorem Dig.get {l : List Nat} (h : Dig l) {i x : Nat} (hx : l[i]? = some x) : x < 16777216 := h x (List.mem_of_getElem? hx)
theorem Dig.set {l : List Nat} (h : Dig l) (i : Nat) {x : Nat} (hx : x < 16777216) : Dig (l.set i x) := fun y hy => by
  rcases List.mem_or_eq_of_mem_set hy with h1 | h1
  · exact h y h1
  · rw [h1]; exact hx
theorem val_take_succ {l : List Nat} {i x : Nat} (hx : l[i]? = some x) : val (l.take (i + 1)) = val (l.take i) + 16777216 ^ i * x := by
  have hi : i < l.length := (List.getElem?_eq_some_iff.1 hx).1
  rw [List.take_add_one, hx, val_append]
  simp [val, Nat.min_eq_left (Nat.le_of_lt hi)]
theorem val_split (l : List Nat) (k : Nat) (hk : k ≤ l.length) : val l = val (l.take k) + 16777216 ^ k * val (l.drop k) := by
  have := val_append (l.take k) (l.drop k)
  rw [List.take_append_drop, List.length_take, Nat.min_eq_left hk] at this
  exact this
theorem val_set : ∀ (l : List Nat) (i x y : Nat), l[i]? = some y → val (l.set i x) + 16777216 ^ i * y = val l + 16777216 ^ i * x
  | [], i, x, y, h => by simp at h
  | d :: r, 0, x, y, h => by
    simp at h; subst h
    simp only [List.set_cons_zero, val, Nat.pow_zero, Nat.one_mul]; omega
  | d :: r, i + 1, x, y, h => by
    have := val_set r i x y (by simpa using h)
    simp only [List.set_cons_succ, val, Nat.pow_succ]
    rw [Nat.mul_comm (16777216 ^ i) 16777216, Nat.mul_assoc, Nat.mul_assoc]
    omega
theorem val_zeros : ∀ n : Nat, val (List.replicate n 0) = 0
  | 0 => rfl
  | n + 1 => by simp [List.replicate_succ, val, val_zeros n]
/-- Words without zeros at the end. -/
def Trim (l : List Nat) : Prop := ∀ x, l.getLast? = some x → x ≠ 0
theorem trim_low {l : List Nat} (h : Trim l) (hne : l ≠ []) : 16777216 ^ (l.length - 1) ≤ val l := by
  obtain ⟨r, x, rfl⟩ : ∃ r x, l = r ++ [x] := ⟨l.dropLast, l.getLast hne, (List.dropLast_concat_getLast hne).symm⟩
  have hx : x ≠ 0 := h x (by simp)
  rw [val_append]
  simp only [List.length_append, List.length_singleton, Nat.add_sub_cancel, val, Nat.mul_zero, Nat.add_zero]
  have : 16777216 ^ r.length * 1 ≤ 16777216 ^ r.length * x := Nat.mul_le_mul_left _ (by omega)
  omega
theorem trim_len {a b : List Nat} (ta : Trim a) (db : Dig b) (h : b.length < a.length) : val b < val a := by
  have h1 := trim_low ta (by intro e; rw [e] at h; simp at h)
  have h2 := val_lt b db
  have h3 : (16777216 : Nat) ^ b.length ≤ 16777216 ^ (a.length - 1) := Nat.pow_le_pow_right (by decide) (by omega)
  omega
theorem trim_zero {l : List Nat} (h : Trim l) : val l = 0 ↔ l = [] := by
  constructor
  · intro h0
    by_cases he : l = []
    · exact he
    · have h1 := trim_low h he
      have h2 : 0 < (16777216 : Nat) ^ (l.length - 1) := Nat.pow_pos (by decide)
      omega
  · rintro rfl; rfl
theorem trim_nil : Trim [] := fun x h => by simp at h
/-- A step of the search for the last word that is not 0. -/
theorem val_take_zero {l : List Nat} {k : Nat} (hk : l[k]? = some 0) : val (l.take (k + 1)) = val (l.take k) := by
  rw [val_take_succ hk]; simp
theorem trim_take {l : List Nat} {k x : Nat} (hk : l[k]? = some x) (hx : x ≠ 0) : Trim (l.take (k + 1)) := fun y hy => by
  rw [List.take_add_one, hk] at hy
  simp at hy
  omega
/-! ### Sums -/
/-- 'out' holds the words up to i, zeros behind; carry is what is left. -/
def AddInv (a b m : List Nat) (i c : Nat) : Prop := m.length = a.length + 1 ∧ Dig m ∧ (∀ j, i ≤ j → j < m.length → m[j]? = some 0) ∧ val m + 16777216 ^ i * c = val (a.take i) + val (b.take i) ∧ c ≤ 1
theorem add_start (a b : List Nat) : AddInv a b (List.replicate (a.length + 1) 0) 0 0 := by
  refine ⟨by simp, fun x hx => by rw [List.eq_of_mem_replicate hx]; decide, fun j _ hj => ?_, by simp [val_zeros, val], by omega⟩
  simp at hj
  rw [List.getElem?_replicate, if_pos hj]
theorem val_take_get (l : List Nat) (i : Nat) : val (l.take (i + 1)) = val (l.take i) + 16777216 ^ i * l[i]?.getD 0 := by
  cases h : l[i]? with
  | none =>
    have := List.getElem?_eq_none_iff.1 h
    rw [List.take_of_length_le (by omega), List.take_of_length_le (by omega)]
    simp
  | some x => rw [val_take_succ h]; rfl
theorem get_lt {a : List Nat} (da : Dig a) (i : Nat) : a[i]?.getD 0 < 16777216 := by
  cases e : a[i]? with
  | none => simp
  | some x => exact da.get e
/-- q and r: what is carried on, and the word. -/
theorem add_step {a b m : List Nat} {i c q r : Nat} (da : Dig a) (db : Dig b) (h : AddInv a b m i c) (hi : i < m.length) (hr : r < 16777216) (hq : 16777216 * q + r = c + a[i]?.getD 0 + b[i]?.getD 0) : AddInv a b (m.set i r) (i + 1) q := by
  obtain ⟨h1, h2, h3, h4, h5⟩ := h
  have ha := get_lt da i
  have hb := get_lt db i
  refine ⟨by simpa using h1, h2.set i hr, fun j hj hjl => ?_, ?_, by omega⟩
  · rw [List.getElem?_set_ne (by omega)]
    exact h3 j (by omega) (by simpa using hjl)
  · have e := val_set m i r 0 (h3 i (Nat.le_refl _) hi)
    rw [val_take_get, val_take_get, Nat.pow_succ]
    generalize a[i]?.getD 0 = x at *
    generalize b[i]?.getD 0 = y at *
    have : 16777216 ^ i * 16777216 * q + 16777216 ^ i * r = 16777216 ^ i * c + 16777216 ^ i * x + 16777216 ^ i * y := by
      rw [Nat.mul_assoc, ← Nat.mul_add, hq, Nat.mul_add, Nat.mul_add]
    omega
theorem carry_none {P m va vb c : Nat} (h : m + P * 16777216 * c = va + vb) (ha : va < P) (hb : vb < P) : m = va + vb := by
  rcases Nat.lt_or_ge 0 c with hc | hc
  · have : P * 16777216 * 1 ≤ P * 16777216 * c := Nat.mul_le_mul_left _ hc
    rw [Nat.mul_one] at this
    generalize P * 16777216 * c = X at *
    omega
  · obtain rfl : c = 0 := by omega
    rw [Nat.mul_zero, Nat.add_zero] at h
    exact h
theorem add_end {a b m : List Nat} {c : Nat} (hl : b.length ≤ a.length) (da : Dig a) (db : Dig b) (h : AddInv a b m (a.length + 1) c) : val m = val a + val b := by
  obtain ⟨h1, h2, h3, h4, h5⟩ := h
  rw [List.take_of_length_le (by omega), List.take_of_length_le (by omega), Nat.pow_succ] at h4
  have l3 : (16777216 : Nat) ^ b.length ≤ 16777216 ^ a.length := Nat.pow_le_pow_right (by omega) hl
  exact carry_none h4 (val_lt a da) (Nat.lt_of_lt_of_le (val_lt b db) l3)

/-! ### Differences -/
def SubInv (a b m : List Nat) (i c : Nat) : Prop := m.length = a.length ∧ Dig m ∧ (∀ j, i ≤ j → j < m.length → m[j]? = some 0) ∧ val m + val (b.take i) = val (a.take i) + 16777216 ^ i * c ∧ c ≤ 1
theorem sub_start (a b : List Nat) : SubInv a b (List.replicate a.length 0) 0 0 := by
  refine ⟨by simp, fun x hx => by rw [List.eq_of_mem_replicate hx]; decide, fun j _ hj => ?_, by simp [val_zeros, val], by omega⟩
  simp at hj
  rw [List.getElem?_replicate, if_pos hj]
/-- d is the word: x - c - y, and 2^32 more where that is negative. -/
theorem sub_step {a b m : List Nat} {i c d c' : Nat} (h : SubInv a b m i c) (hi : i < m.length) (hd : d < 16777216) (hc : c' ≤ 1) (he : d + c + b[i]?.getD 0 = a[i]?.getD 0 + 16777216 * c') :
    SubInv a b (m.set i d) (i + 1) c' := by
  obtain ⟨h1, h2, h3, h4, h5⟩ := h
  refine ⟨by simpa using h1, h2.set i hd, fun j hj hjl => ?_, ?_, hc⟩
  · rw [List.getElem?_set_ne (by omega)]
    exact h3 j (by omega) (by simpa using hjl)
  · have e := val_set m i d 0 (h3 i (Nat.le_refl _) hi)
    rw [val_take_get, val_take_get, Nat.pow_succ]
    generalize a[i]?.getD 0 = x at *
    generalize b[i]?.getD 0 = y at *
    have : 16777216 ^ i * d + 16777216 ^ i * c + 16777216 ^ i * y = 16777216 ^ i * x + 16777216 ^ i * 16777216 * c' := by
      rw [Nat.mul_assoc, ← Nat.mul_add, ← Nat.mul_add, he, Nat.mul_add]
    omega
theorem sub_end {a b m : List Nat} {c : Nat} (hl : b.length ≤ a.length) (hv : val b ≤ val a) (h : SubInv a b m a.length c) : val m = val a - val b := by
  obtain ⟨h1, h2, h3, h4, h5⟩ := h
  rw [List.take_of_length_le hl, List.take_of_length_le (Nat.le_refl _)] at h4
  have l1 := val_lt m h2
  rw [h1] at l1
  rcases Nat.lt_or_ge 0 c with hc | hc
  · have : 16777216 ^ a.length * 1 ≤ 16777216 ^ a.length * c := Nat.mul_le_mul_left _ hc
    omega
  · obtain rfl : c = 0 := by omega
    omega
theorem trim_le {a b : List Nat} (tb : Trim b) (da : Dig a) (h : val b ≤ val a) : b.length ≤ a.length := by
  rcases Nat.lt_or_ge a.length b.length with h1 | h1
  · have := trim_len tb da h1; omega
  · exact h1

/-! ### Products -/
/-- Behind i rounds of the outer loop, zeros from i + |b| on. -/
def MulInv (a b m : List Nat) (i : Nat) : Prop := m.length = a.length + b.length ∧ Dig m ∧ (∀ j, i + b.length ≤ j → j < m.length → m[j]? = some 0) ∧ val m = val (a.take i) * val b
def MulIn (a b m : List Nat) (i x k c : Nat) : Prop := m.length = a.length + b.length ∧ Dig m ∧ (∀ j, i + b.length ≤ j → j < m.length → m[j]? = some 0) ∧ val m + 16777216 ^ (i + k) * c = val (a.take i) * val b + 16777216 ^ i * x * val (b.take k) ∧ c < 16777216
theorem mul_start (a b : List Nat) : MulInv a b (List.replicate (a.length + b.length) 0) 0 := by
  refine ⟨by simp, fun x hx => by rw [List.eq_of_mem_replicate hx]; decide, fun j _ hj => ?_, by simp [val_zeros, val]⟩
  simp at hj
  rw [List.getElem?_replicate, if_pos hj]
theorem mul_in {a b m : List Nat} {i : Nat} (x : Nat) (h : MulInv a b m i) : MulIn a b m i x 0 0 := by
  obtain ⟨h1, h2, h3, h4⟩ := h
  exact ⟨h1, h2, h3, by simp [val, h4], by decide⟩
theorem mul_step {a b m : List Nat} {i x k c y z q r : Nat} (h : MulIn a b m i x k c) (hx : x < 16777216) (hy : b[k]? = some y) (hyd : y < 16777216) (hz : m[i + k]? = some z) (hr : r < 16777216) (hq : 16777216 * q + r = c + (x * y + z)) (hqd : q < 16777216) :
    MulIn a b (m.set (i + k) r) i x (k + 1) q := by
  obtain ⟨h1, h2, h3, h4, h5⟩ := h
  have hk : k < b.length := (List.getElem?_eq_some_iff.1 hy).1
  refine ⟨by simpa using h1, h2.set _ hr, fun j hj hjl => ?_, ?_, hqd⟩
  · rw [List.getElem?_set_ne (by omega)]
    exact h3 j hj (by simpa using hjl)
  · have e := val_set m (i + k) r z hz
    have e4 : (16777216 : Nat) ^ (i + (k + 1)) = 16777216 ^ (i + k) * 16777216 := by rw [← Nat.add_assoc, Nat.pow_succ]
    rw [val_take_succ hy, e4]
    have e2 : 16777216 ^ (i + k) * 16777216 * q + 16777216 ^ (i + k) * r = 16777216 ^ (i + k) * c + (16777216 ^ (i + k) * (x * y) + 16777216 ^ (i + k) * z) := by
      rw [Nat.mul_assoc, ← Nat.mul_add, hq, Nat.mul_add, Nat.mul_add]
    have e3 : 16777216 ^ i * x * (val (b.take k) + 16777216 ^ k * y) = 16777216 ^ i * x * val (b.take k) + 16777216 ^ (i + k) * (x * y) := by
      rw [Nat.mul_add, Nat.pow_add]
      congr 1
      rw [Nat.mul_assoc, Nat.mul_assoc]
      congr 1
      rw [← Nat.mul_assoc, Nat.mul_comm x, Nat.mul_assoc]
    rw [e3]
    omega
/-- The words of a number, without zeros at the end. -/
def wds (n : Nat) : List Nat := if h : n = 0 then [] else n % 16777216 :: wds (n / 16777216)
termination_by n
decreasing_by omega
theorem wds_zero : wds 0 = [] := by rw [wds]; simp
theorem wds_pos {n : Nat} (h : n ≠ 0) : wds n = n % 16777216 :: wds (n / 16777216) := by rw [wds, dif_neg h]
theorem trim_tail {d : Nat} {r : List Nat} (h : Trim (d :: r)) : Trim r := fun x hx => h x (by
  cases r with
  | nil => simp at hx
  | cons y r => rw [List.getLast?_cons_cons]; exact hx)
theorem wds_uniq : ∀ l : List Nat, Dig l → Trim l → wds (val l) = l
  | [], _, _ => wds_zero
  | d :: r, hd, ht => by
    have h1 := hd d (by simp)
    have h0 : val (d :: r) ≠ 0 := fun h => by have := (trim_zero ht).1 h; cases this
    have e1 : val (d :: r) % 16777216 = d := by simp only [val]; omega
    have e2 : val (d :: r) / 16777216 = val r := by simp only [val]; omega
    rw [wds_pos h0, e1, e2, wds_uniq r (fun x hx => hd x (by simp [hx])) (trim_tail ht)]
theorem wds_dig (n : Nat) : Dig (wds n) := by
  induction n using Nat.strongRecOn with
  | _ n ih =>
    by_cases h : n = 0
    · subst h; rw [wds_zero]; intro x hx; simp at hx
    · rw [wds_pos h]
      intro x hx
      rcases List.mem_cons.1 hx with rfl | hx
      · omega
      · exact ih (n / 16777216) (by omega) x hx
theorem wds_val (n : Nat) : val (wds n) = n := by
  induction n using Nat.strongRecOn with
  | _ n ih =>
    by_cases h : n = 0
    · subst h; rw [wds_zero]; rfl
    · rw [wds_pos h, val, ih (n / 16777216) (by omega)]; omega
theorem wds_trim (n : Nat) : Trim (wds n) := by
  induction n using Nat.strongRecOn with
  | _ n ih =>
    by_cases h : n = 0
    · subst h; rw [wds_zero]; exact trim_nil
    · rw [wds_pos h]
      intro x hx
      by_cases h2 : n / 16777216 = 0
      · rw [h2, wds_zero] at hx
        simp at hx
        omega
      · have := ih (n / 16777216) (by omega) x
        rw [wds_pos h2] at hx this
        rw [List.getLast?_cons_cons] at hx
        exact this hx
theorem wds_len {n k : Nat} (h : n < 16777216 ^ k) : (wds n).length ≤ k := by
  rcases Nat.lt_or_ge k (wds n).length with h1 | h1
  · have h2 := trim_low (wds_trim n) (by intro e; rw [e] at h1; simp at h1)
    rw [wds_val] at h2
    have h3 : (16777216 : Nat) ^ k ≤ 16777216 ^ ((wds n).length - 1) := Nat.pow_le_pow_right (by decide) (by omega)
    omega
  · exact h1
theorem wds_nil {n : Nat} : wds n = [] ↔ n = 0 := by
  constructor
  · intro h
    have := wds_val n
    rw [h] at this
    exact this.symm
  · rintro rfl; exact wds_zero
/-! ### Lists that grow -/
theorem val_snoc (l : List Nat) (d : Nat) : val (l ++ [d]) = val l + 16777216 ^ l.length * d := by
  rw [val_append]; simp [val]
theorem Dig.snoc {l : List Nat} (h : Dig l) {d : Nat} (hd : d < 16777216) : Dig (l ++ [d]) := fun x hx => by
  rcases List.mem_append.1 hx with hx | hx
  · exact h x hx
  · obtain rfl : x = d := by simpa using hx
    exact hd
theorem trim_of_low {l : List Nat} (hd : Dig l) (h : l ≠ [] → 16777216 ^ (l.length - 1) ≤ val l) : Trim l := by
  intro x hx hx0
  subst hx0
  have hne : l ≠ [] := by rintro rfl; simp at hx
  obtain ⟨r, y, rfl⟩ : ∃ r x, l = r ++ [x] := ⟨l.dropLast, l.getLast hne, (List.dropLast_concat_getLast hne).symm⟩
  obtain rfl : y = 0 := by simpa using hx
  have h1 := h hne
  have h2 := val_lt r fun x hx => hd x (by simp [hx])
  rw [val_snoc] at h1
  simp at h1
  omega
/-- The first k digits of a number. -/
def pw : Nat → Nat → List Nat
  | 0, _ => []
  | k + 1, n => n % 16777216 :: pw k (n / 16777216)
theorem pw_uniq : ∀ l : List Nat, Dig l → pw l.length (val l) = l
  | [], _ => rfl
  | d :: r, hd => by
    have h1 := hd d (by simp)
    have e1 : val (d :: r) % 16777216 = d := by simp only [val]; omega
    have e2 : val (d :: r) / 16777216 = val r := by simp only [val]; omega
    rw [List.length_cons, pw, e1, e2, pw_uniq r fun x hx => hd x (by simp [hx])]
theorem pw_len : ∀ k n : Nat, (pw k n).length = k
  | 0, _ => rfl
  | k + 1, n => by rw [pw, List.length_cons, pw_len k]
theorem pw_dig : ∀ k n : Nat, Dig (pw k n)
  | 0, _ => fun x hx => by simp [pw] at hx
  | k + 1, n => fun x hx => by
    rw [pw] at hx
    rcases List.mem_cons.1 hx with rfl | hx
    · omega
    · exact pw_dig k _ x hx
theorem pw_val : ∀ k n : Nat, n < 16777216 ^ k → val (pw k n) = n
  | 0, n, h => by simp [pw, val] at *; omega
  | k + 1, n, h => by
    rw [pw, val, pw_val k _ (by rw [Nat.pow_succ] at h; exact Nat.div_lt_of_lt_mul (by rw [Nat.mul_comm]; exact h))]
    omega
/-- The loop of plus: the digits so far, what is carried on. -/
structure PlusInv (a b m : List Nat) (i c : Nat) : Prop where
  len : m.length = i
  dig : Dig m
  eq : val m + 16777216 ^ i * c = val (a.take i) + val (b.take i)
  c1 : c ≤ 1
  low : i ≠ 0 → 16777216 ^ (i - 1) ≤ val a + val b
theorem plus_start (a b : List Nat) : PlusInv a b [] 0 0 := ⟨rfl, fun x hx => by simp at hx, by simp [val], by omega, fun h => absurd rfl h⟩
theorem take_le (a : List Nat) (i : Nat) : val (a.take i) ≤ val a := by
  rcases Nat.lt_or_ge i a.length with h | h
  · have := val_split a i (by omega); omega
  · rw [List.take_of_length_le h]; exact Nat.le_refl _
theorem plus_step {a b m : List Nat} {i c : Nat} (da : Dig a) (db : Dig b) (ta : Trim a) (tb : Trim b) (h : PlusInv a b m i c) (hi : i < a.length ∨ i < b.length ∨ 0 < c) :
    PlusInv a b (m ++ [(a[i]?.getD 0 + b[i]?.getD 0 + c) % 16777216]) (i + 1) ((a[i]?.getD 0 + b[i]?.getD 0 + c) / 16777216) := by
  obtain ⟨h1, h2, h3, h4, h5⟩ := h
  have ha := get_lt da i
  have hb := get_lt db i
  refine ⟨by simp [h1], h2.snoc (Nat.mod_lt _ (by decide)), ?_, by omega, fun _ => ?_⟩
  · rw [val_snoc, val_take_get, val_take_get, Nat.pow_succ, h1]
    generalize a[i]?.getD 0 = x at *
    generalize b[i]?.getD 0 = y at *
    have e : (x + y + c) % 16777216 + 16777216 * ((x + y + c) / 16777216) = x + y + c := by omega
    have : 16777216 ^ i * ((x + y + c) % 16777216) + 16777216 ^ i * 16777216 * ((x + y + c) / 16777216) = 16777216 ^ i * x + 16777216 ^ i * y + 16777216 ^ i * c := by
      rw [Nat.mul_assoc, ← Nat.mul_add, e, Nat.mul_add, Nat.mul_add]
    omega
  · rw [Nat.add_sub_cancel]
    rcases hi with hi | hi | hi
    · have h6 := trim_low ta (by intro e; rw [e] at hi; simp at hi)
      have : (16777216 : Nat) ^ i ≤ 16777216 ^ (a.length - 1) := Nat.pow_le_pow_right (by decide) (by omega)
      omega
    · have h6 := trim_low tb (by intro e; rw [e] at hi; simp at hi)
      have : (16777216 : Nat) ^ i ≤ 16777216 ^ (b.length - 1) := Nat.pow_le_pow_right (by decide) (by omega)
      omega
    · have h6 := take_le a i
      have h7 := take_le b i
      have : 16777216 ^ i * 1 ≤ 16777216 ^ i * c := Nat.mul_le_mul_left _ hi
      omega
theorem plus_end {a b m : List Nat} {i : Nat} (h : PlusInv a b m i 0) (ha : a.length ≤ i) (hb : b.length ≤ i) : m = wds (val a + val b) := by
  obtain ⟨h1, h2, h3, h4, h5⟩ := h
  rw [List.take_of_length_le ha, List.take_of_length_le hb, Nat.mul_zero, Nat.add_zero] at h3
  rw [← h3]
  refine (wds_uniq m h2 (trim_of_low h2 fun hne => ?_)).symm
  rw [h3, h1]
  exact h5 (by intro e; rw [e] at h1; exact hne (List.eq_nil_of_length_eq_zero h1))
/-- No more digits than these. -/
theorem plus_len {a b m : List Nat} {i c : Nat} (da : Dig a) (db : Dig b) (h : PlusInv a b m i c) (hi : i < a.length ∨ i < b.length ∨ 0 < c) : i ≤ max a.length b.length := by
  rcases hi with hi | hi | hi
  · omega
  · omega
  · rcases Nat.lt_or_ge (max a.length b.length) i with h1 | h1
    · have ea := val_lt a da
      have eb := val_lt b db
      have h3 := h.eq
      rw [List.take_of_length_le (by omega), List.take_of_length_le (by omega)] at h3
      have p1 : (16777216 : Nat) ^ a.length * 16777216 ≤ 16777216 ^ i := by rw [← Nat.pow_succ]; exact Nat.pow_le_pow_right (by decide) (by omega)
      have p2 : (16777216 : Nat) ^ b.length * 16777216 ≤ 16777216 ^ i := by rw [← Nat.pow_succ]; exact Nat.pow_le_pow_right (by decide) (by omega)
      have : 16777216 ^ i * 1 ≤ 16777216 ^ i * c := Nat.mul_le_mul_left _ hi
      omega
    · exact h1
/-- The loop of minus. -/
structure MinusInv (a b m : List Nat) (i c : Nat) : Prop where
  len : m.length = i
  dig : Dig m
  eq : val m + val (b.take i) = val (a.take i) + 16777216 ^ i * c
  c1 : c ≤ 1
theorem minus_start (a b : List Nat) : MinusInv a b [] 0 0 := ⟨rfl, fun x hx => by simp at hx, by simp [val], by omega⟩
theorem minus_step {a b m : List Nat} {i c d c' : Nat} (h : MinusInv a b m i c) (hd : d < 16777216) (hc : c' ≤ 1) (he : d + c + b[i]?.getD 0 = a[i]?.getD 0 + 16777216 * c') : MinusInv a b (m ++ [d]) (i + 1) c' := by
  obtain ⟨h1, h2, h3, h4⟩ := h
  refine ⟨by simp [h1], h2.snoc hd, ?_, hc⟩
  rw [val_snoc, val_take_get, val_take_get, Nat.pow_succ, h1]
  generalize a[i]?.getD 0 = x at *
  generalize b[i]?.getD 0 = y at *
  have : 16777216 ^ i * d + 16777216 ^ i * c + 16777216 ^ i * y = 16777216 ^ i * x + 16777216 ^ i * 16777216 * c' := by
    rw [Nat.mul_assoc, ← Nat.mul_add, ← Nat.mul_add, he, Nat.mul_add]
  omega
theorem minus_end {a b m : List Nat} {c : Nat} (hl : b.length ≤ a.length) (hv : val b ≤ val a) (h : MinusInv a b m a.length c) : m = pw a.length (val a - val b) := by
  obtain ⟨h1, h2, h3, h4⟩ := h
  rw [List.take_of_length_le hl, List.take_of_length_le (Nat.le_refl _)] at h3
  have l1 := val_lt m h2
  rw [h1] at l1
  have e : val m = val a - val b := by
    rcases Nat.lt_or_ge 0 c with hc | hc
    · have : 16777216 ^ a.length * 1 ≤ 16777216 ^ a.length * c := Nat.mul_le_mul_left _ hc
      omega
    · obtain rfl : c = 0 := by omega
      omega
  rw [← e, ← h1, pw_uniq m h2]
/-! ### The reference's product -/
structure MulR (a b m : List Nat) (i : Nat) : Prop where
  len : m.length = a.length + b.length + 1
  dig : Dig m
  eq : val m = val (a.take i) * val b
structure MulRI (a b m : List Nat) (i x k c : Nat) : Prop where
  len : m.length = a.length + b.length + 1
  dig : Dig m
  eq : val m + 16777216 ^ (i + k) * c = val (a.take i) * val b + 16777216 ^ i * x * val (b.take k)
  cd : c < 16777216
theorem mulR_start (a b : List Nat) : MulR a b (List.replicate (a.length + b.length + 1) 0) 0 := ⟨by simp, fun x hx => by rw [List.eq_of_mem_replicate hx]; decide, by simp [val_zeros, val]⟩
theorem mulR_in {a b m : List Nat} {i : Nat} (x : Nat) (h : MulR a b m i) : MulRI a b m i x 0 0 := ⟨h.len, h.dig, by simp [val, h.eq], by decide⟩
theorem mulR_step {a b m : List Nat} {i x k c z q r : Nat} (h : MulRI a b m i x k c) (hz : m[i + k]? = some z) (hr : r < 16777216) (hq : 16777216 * q + r = z + x * b[k]?.getD 0 + c) (hqd : q < 16777216) :
    MulRI a b (m.set (i + k) r) i x (k + 1) q := by
  obtain ⟨h1, h2, h4, h5⟩ := h
  refine ⟨by simpa using h1, h2.set _ hr, ?_, hqd⟩
  have e := val_set m (i + k) r z hz
  have e4 : (16777216 : Nat) ^ (i + (k + 1)) = 16777216 ^ (i + k) * 16777216 := by rw [← Nat.add_assoc, Nat.pow_succ]
  rw [val_take_get, e4]
  generalize b[k]?.getD 0 = y at *
  have e2 : 16777216 ^ (i + k) * 16777216 * q + 16777216 ^ (i + k) * r = 16777216 ^ (i + k) * z + 16777216 ^ (i + k) * (x * y) + 16777216 ^ (i + k) * c := by
    rw [Nat.mul_assoc, ← Nat.mul_add, hq, Nat.mul_add, Nat.mul_add]
  have e3 : 16777216 ^ i * x * (val (b.take k) + 16777216 ^ k * y) = 16777216 ^ i * x * val (b.take k) + 16777216 ^ (i + k) * (x * y) := by
    rw [Nat.mul_add, Nat.pow_add]
    congr 1
    rw [Nat.mul_assoc, Nat.mul_assoc]
    congr 1
    rw [← Nat.mul_assoc, Nat.mul_comm x, Nat.mul_assoc]
  rw [e3]
  omega
theorem mulR_fits {x y z c : Nat} (hx : x < 16777216) (hy : y < 16777216) (hz : z < 16777216) (hc : c < 16777216) : x * y ≤ 281474943156225 ∧ (z + x * y + c) / 16777216 < 16777216 := by
  have hxy : x * y ≤ 16777215 * 16777215 := Nat.mul_le_mul (by omega) (by omega)
  omega
/-- Nothing is carried beyond the last digit. -/
theorem mulR_none {a b m : List Nat} {i x k c : Nat} (da : Dig a) (db : Dig b) (hi : a[i]? = some x) (h : MulRI a b m i x k c) (hk : b.length < k) : c = 0 := by
  have h4 := h.eq
  rw [List.take_of_length_le (by omega : b.length ≤ k), ← Nat.add_mul, ← val_take_succ hi] at h4
  have l1 := val_lt _ (da.take (i + 1))
  have l2 := val_lt b db
  have hlen : (a.take (i + 1)).length = i + 1 := by
    have := (List.getElem?_eq_some_iff.1 hi).1
    simp; omega
  rw [hlen] at l1
  have l3 : val (a.take (i + 1)) * val b < 16777216 ^ (i + 1) * 16777216 ^ b.length := Nat.mul_lt_mul'' l1 l2
  rw [← Nat.pow_add] at l3
  have l4 : (16777216 : Nat) ^ (i + 1 + b.length) ≤ 16777216 ^ (i + k) := Nat.pow_le_pow_right (by decide) (by omega)
  rcases Nat.lt_or_ge 0 c with hc | hc
  · have : 16777216 ^ (i + k) * 1 ≤ 16777216 ^ (i + k) * c := Nat.mul_le_mul_left _ hc
    omega
  · omega
theorem mulR_out {a b m : List Nat} {i x k : Nat} (h : MulRI a b m i x k 0) (hi : a[i]? = some x) (hk : b.length ≤ k) : MulR a b m (i + 1) := by
  obtain ⟨h1, h2, h4, h5⟩ := h
  refine ⟨h1, h2, ?_⟩
  rw [List.take_of_length_le hk, Nat.mul_zero, Nat.add_zero, ← Nat.add_mul, ← val_take_succ hi] at h4
  exact h4
theorem mulR_end {a b m : List Nat} (h : MulR a b m a.length) : val m = val a * val b := by
  have := h.eq
  rwa [List.take_of_length_le (Nat.le_refl _)] at this
/-! ### Comparison -/
def lgK (a b : List Nat) : Nat → Bool
  | 0 => false
  | k + 1 => if a[k]?.getD 0 = b[k]?.getD 0 then lgK a b k else decide (b[k]?.getD 0 < a[k]?.getD 0)
def lgL (a b : List Nat) : Bool := if a.length ≠ b.length then decide (b.length < a.length) else lgK a b a.length
theorem lgK_iff {a b : List Nat} (da : Dig a) (db : Dig b) : ∀ k : Nat, (lgK a b k = true ↔ val (b.take k) < val (a.take k))
  | 0 => by simp [lgK, val]
  | k + 1 => by
    have ih := lgK_iff da db k
    have h1 := val_lt _ (da.take k)
    have h2 := val_lt _ (db.take k)
    have h3 : (16777216 : Nat) ^ (a.take k).length ≤ 16777216 ^ k := Nat.pow_le_pow_right (by decide) (by rw [List.length_take]; omega)
    have h4 : (16777216 : Nat) ^ (b.take k).length ≤ 16777216 ^ k := Nat.pow_le_pow_right (by decide) (by rw [List.length_take]; omega)
    rw [val_take_get, val_take_get]
    simp only [lgK]
    generalize a[k]?.getD 0 = x
    generalize b[k]?.getD 0 = y
    split
    · subst_vars
      rw [ih]; omega
    · rw [decide_eq_true_iff]
      constructor
      · intro h
        have : 16777216 ^ k * (y + 1) ≤ 16777216 ^ k * x := Nat.mul_le_mul_left _ (by omega)
        rw [Nat.mul_add] at this
        omega
      · intro h
        rcases Nat.lt_or_ge y x with h5 | h5
        · exact h5
        · have : 16777216 ^ k * (x + 1) ≤ 16777216 ^ k * y := Nat.mul_le_mul_left _ (by omega)
          rw [Nat.mul_add] at this
          omega
theorem lgL_iff (a b : Nat) : (lgL (wds a) (wds b) = true ↔ b < a) := by
  unfold lgL
  split
  · rename_i h
    rw [decide_eq_true_iff]
    constructor
    · intro h1
      have := trim_len (wds_trim a) (wds_dig b) h1
      rwa [wds_val, wds_val] at this
    · intro h1
      rcases Nat.lt_or_ge (wds a).length (wds b).length with h2 | h2
      · have := trim_len (wds_trim b) (wds_dig a) h2
        rw [wds_val, wds_val] at this
        omega
      · omega
  · rename_i h
    rw [lgK_iff (wds_dig a) (wds_dig b), List.take_of_length_le (Nat.le_refl _), List.take_of_length_le (by omega), wds_val, wds_val]
end Go.Proofs.YtgegcgfdffmoeaaGreat.R24
set_option linter.unusedSimpArgs false
namespace Go.Proofs.YtgegcgfdffmoeaaGreat
set_option linter.unusedVariables false
open Go.RowKit
abbrev w24 (l : List Nat) : List (List Lf) := wsR .i64 l
theorem rf_digit (l : List Nat) (i : Nat) : Fn0 Tryz.prog 126 [.sl (w24 l), .i (i : Int)] (.i ((l[i]?.getD 0 : Nat) : Int)) := by
  have e1 : (w24 l).length = l.length := wsR_len _ _
  by_cases h : i < l.length
  · obtain ⟨x, hx⟩ : ∃ x, l[i]? = some x := ⟨l[i], List.getElem?_eq_getElem h⟩
    have hb := wsR_ati (k := .i64) hx
    have h1 : (i : Int) < ((w24 l).length : Nat) := by omega
    rw [hx]
    refine Fn0.of Tryz.func126 Tryz.ntmps126 rfl rfl rfl ?_
    simp only [entryTm]
    repeat' (first | (apply S.move; exact rfl; exact rfl) | (apply S.assign; exact rfl; exact rfl) | (apply S.loadR; exact rfl; exact rfl; exact rfl) | (apply S.indexR; exact rfl; exact rfl; exact rfl; exact hb; omega; exact rfl) | (apply S.cmp; (iterate 4 exact rfl)) | (apply S.lenR; exact rfl; exact rfl) | apply S.nil | apply T.regs | (apply T.cT; exact rfl; assumption) | apply T.seq | (apply T.ret; change Done _ _ _ _ _))
    exact doneV (by simp) Tryz.results126 rfl rfl
  · have h1 : ¬ (i : Int) < ((w24 l).length : Nat) := by omega
    rw [List.getElem?_eq_none (by omega)]
    refine Fn0.of Tryz.func126 Tryz.ntmps126 rfl rfl rfl ?_
    simp only [entryTm]
    repeat' (first | (apply S.move; exact rfl; exact rfl) | (apply S.assign; exact rfl; exact rfl) | (apply S.cmp; (iterate 4 exact rfl)) | (apply S.lenR; exact rfl; exact rfl) | apply S.nil | apply T.regs | (apply T.cF; exact rfl; assumption) | apply T.seq | (apply T.skip; first | change T _ _ _ _ _ | change Done _ _ _ _ _ | change Next _ _ _ _ _ _ | skip) | (apply T.ret; change Done _ _ _ _ _))
    exact doneV (by simp) Tryz.results126 rfl rfl
/-- An integer by a sign and digits. -/
abbrev bgR (s : Bool) (l : List Nat) : List Lf := [.val (.bool s), .sl (w24 l)]
set_option maxHeartbeats 4000000 in
theorem rf_trim (s : Bool) (l : List Nat) (n : Nat) (hd : R24.Dig l) (hl : l.length ≤ 5000) (hn : R24.val l = n) : Fn0 Tryz.prog 124 [rowA (bgR s l)] (rowA (bgR (s && decide (n ≠ 0)) (R24.wds n))) := by
  subst hn
  have e1 : (w24 l).length = l.length := wsR_len _ _
  refine Fn0.of Tryz.func124 Tryz.ntmps124 rfl rfl rfl ?_
  simp only [entryTm]
  repeat' (first | (apply S.assign; exact rfl; exact rfl) | (apply S.fieldP; exact rfl; exact rfl; exact rfl) | (apply S.loadP; (iterate 4 exact rfl)) | (apply S.box; (iterate 6 exact rfl)) | (apply S.alloc; (iterate 5 exact rfl)) | (apply S.lenR; exact rfl; exact rfl) | apply S.nil | apply T.regs | apply T.seq | apply T.block)
  refine T.loopS (fun k => k ≤ l.length ∧ R24.val (l.take k) = R24.val l) (fun k => k) (fun k => [(3, .i (k : Int)), (1, .ptr 0 0), (2, .ptr 1 0)]) (fun _ => [.live [.val (.bool s), .sl (w24 l)], .live [.val (.bool false), .val (.slice none 0 0)]]) l.length ⟨Nat.le_refl _, by rw [List.take_of_length_le (Nat.le_refl _)]⟩ (.cons (by rw [← e1]; rfl) rfl (.cons rfl rfl (.cons rfl rfl .nil))) (.live rfl (.live rfl .nil)) ?_
  rintro k ⟨hk, hv⟩
  have ht : (w24 l).take ((k : Nat) : Int).toNat = w24 (l.take k) := by rw [Int.toNat_natCast, wsR_take]
  cases k with
  | zero =>
    have h0 : ¬ (0 : Int) < ((0 : Nat) : Int) := by omega
    have hz : R24.val l = 0 := by rw [← hv]; rfl
    rw [hz, R24.wds_zero, show bgR (s && decide ((0 : Nat) ≠ 0)) [] = [.val (.bool false), .sl ((w24 l).take ((0 : Nat) : Int).toNat)] by rw [ht]; simp]
    have h2 : ((0 : Nat) : Int) = 0 := rfl
    repeat' (first | (apply S.move; exact rfl; exact rfl) | (apply S.gCN; (iterate 4 exact rfl)) | (apply S.fieldP; exact rfl; exact rfl; exact rfl) | (apply S.loadP; (iterate 4 exact rfl)) | (apply S.pCN; exact rfl; exact rfl; exact rfl) | (apply S.sliceTo; exact rfl; exact rfl; exact rfl; omega; exact wsR_row _ _) | (apply S.loadPA; (iterate 4 exact rfl)) | (apply S.store; (iterate 7 exact rfl)) | (apply S.cmp; (iterate 4 exact rfl)) | apply S.nil | apply T.regs | apply T.reg | (apply T.cC; exact rfl) | (apply T.cCN; exact rfl) | apply T.seq | (apply T.ret; change Done _ _ _ _ _) | (apply T.exit; first | change T _ _ _ _ _ | change Done _ _ _ _ _ | change Next _ _ _ _ _ _ | skip))
    exact ⟨.inr rfl, [rowA [.val (.bool false), .sl ((w24 l).take ((0 : Nat) : Int).toNat)]], .cons (Res.row [.val (.bool false), .sl ((w24 l).take ((0 : Nat) : Int).toNat)] rfl rfl rfl rfl rfl) .nil, .one (.agg (outL_refl _))⟩
  | succ k =>
    have h1 : (0 : Int) < ((k + 1 : Nat) : Int) := by omega
    have h2 : ¬ ((k + 1 : Nat) : Int) = 0 := by omega
    obtain ⟨x, hx⟩ : ∃ x, l[k]? = some x := ⟨l[k], List.getElem?_eq_getElem (by omega)⟩
    have hb : (w24 l)[(((k + 1 : Nat) : Int) - 1).toNat]? = some [.val (.int .i64 (x : Int))] := by rw [show ((((k + 1 : Nat) : Int) - 1).toNat) = k by omega]; exact wsR_at hx
    by_cases h0 : (x : Int) = 0
    · repeat' (first | (apply S.move; exact rfl; exact rfl) | (apply S.assign; exact rfl; exact rfl) | (apply S.gTT; exact rfl; exact rfl; assumption) | (apply S.fieldP; exact rfl; exact rfl; exact rfl) | (apply S.loadP; (iterate 4 exact rfl)) | (apply S.loadR; exact rfl; exact rfl; exact rfl) | (apply S.pTp; exact rfl; assumption; exact rfl; exact rfl) | (apply S.arith; (iterate 4 exact rfl); omega) | (apply S.indexR; exact rfl; exact rfl; exact rfl; exact hb; omega; exact rfl) | (apply S.cmp; (iterate 4 exact rfl)) | apply S.nil | apply T.regs | apply T.reg | (apply T.cT; exact rfl; assumption) | apply T.seq | (apply T.skip; first | change T _ _ _ _ _ | change Done _ _ _ _ _ | change Next _ _ _ _ _ _ | skip) | apply T.block)
      change Next _ _ _ _ _ _
      have hx0 : x = 0 := by omega
      subst hx0
      exact Next.go k ⟨by omega, by rw [← R24.val_take_zero hx, hv]⟩ (Nat.lt_succ_self k) (.cons (by rw [show (((k + 1 : Nat) : Int)) - 1 = (k : Int) by omega]; rfl) rfl (.cons rfl rfl (.cons rfl rfl .nil))) (.live rfl (.live rfl .nil))
    · have e : l.take (k + 1) = R24.wds (R24.val l) := by rw [← hv, R24.wds_uniq _ (hd.take _) (R24.trim_take hx (by omega))]
      have hne : R24.val l ≠ 0 := fun h => by
        rw [h, R24.wds_zero] at e
        have := congrArg List.length e
        rw [List.length_take, List.length_nil] at this
        omega
      rw [← e, show (s && decide (R24.val l ≠ 0)) = s by simp [hne], show bgR s (l.take (k + 1)) = [.val (.bool s), .sl ((w24 l).take ((k + 1 : Nat) : Int).toNat)] by rw [ht]]
      repeat' (first | (apply S.move; exact rfl; exact rfl) | (apply S.gTT; exact rfl; exact rfl; assumption) | (apply S.fieldP; exact rfl; exact rfl; exact rfl) | (apply S.loadP; (iterate 4 exact rfl)) | (apply S.loadR; exact rfl; exact rfl; exact rfl) | (apply S.pTp; exact rfl; assumption; exact rfl; exact rfl) | (apply S.arith; (iterate 4 exact rfl); omega) | (apply S.indexR; exact rfl; exact rfl; exact rfl; exact hb; omega; exact rfl) | (apply S.sliceTo; exact rfl; exact rfl; exact rfl; omega; exact wsR_row _ _) | (apply S.loadPA; (iterate 4 exact rfl)) | (apply S.store; (iterate 7 exact rfl)) | (apply S.cmp; (iterate 4 exact rfl)) | apply S.nil | apply T.regs | (apply T.cCN; exact rfl) | (apply T.cF; exact rfl; assumption) | apply T.seq | (apply T.skip; first | change T _ _ _ _ _ | change Done _ _ _ _ _ | change Next _ _ _ _ _ _ | skip) | (apply T.ret; change Done _ _ _ _ _) | (apply T.exit; first | change T _ _ _ _ _ | change Done _ _ _ _ _ | change Next _ _ _ _ _ _ | skip))
      exact ⟨.inr rfl, [rowA [.val (.bool s), .sl ((w24 l).take ((k + 1 : Nat) : Int).toNat)]], .cons (Res.row [.val (.bool s), .sl ((w24 l).take ((k + 1 : Nat) : Int).toNat)] rfl rfl rfl rfl rfl) .nil, .one (.agg (outL_refl _))⟩
set_option maxHeartbeats 8000000 in
theorem rf_larger_l (a b : List Nat) (hla : a.length ≤ 4000) (hlb : b.length ≤ 4000) : Fn0 Tryz.prog 123 [.sl (w24 a), .sl (w24 b)] (.b (R24.lgL a b)) := by
  have e1 : (w24 a).length = a.length := wsR_len _ _
  have e2 : (w24 b).length = b.length := wsR_len _ _
  by_cases hne : (((w24 a).length : Nat) : Int) = ((w24 b).length : Nat)
  · skip
    refine Fn0.of Tryz.func123 Tryz.ntmps123 rfl rfl rfl ?_
    simp only [entryTm]
    repeat' (first | (apply S.move; exact rfl; exact rfl) | (apply S.assign; exact rfl; exact rfl) | (apply S.arith; (iterate 4 exact rfl); omega) | (apply S.cmp; (iterate 4 exact rfl)) | (apply S.lenR; exact rfl; exact rfl) | apply S.nil | apply T.regs | (apply T.cFn; exact rfl; assumption) | apply T.seq | (apply T.skip; first | change T _ _ _ _ _ | change Done _ _ _ _ _ | change Next _ _ _ _ _ _ | skip) | apply T.block)
    refine T.loopS (fun k => k ≤ a.length ∧ R24.lgK a b k = R24.lgK a b a.length) (fun k => k) (fun k => [(5, .i ((k : Int) - 1)), (0, .sl (w24 a)), (1, .sl (w24 b))]) (fun _ => []) a.length ⟨Nat.le_refl _, rfl⟩ (.cons (by rw [← e1]; rfl) rfl (.cons rfl rfl (.cons rfl rfl .nil))) .nil ?_
    rintro k ⟨hk, hv⟩
    cases k with
    | zero =>
      have h0 : ¬ (0 : Int) ≤ ((0 : Nat) : Int) - 1 := by omega
      repeat' (first | (apply S.move; exact rfl; exact rfl) | (apply S.assign; exact rfl; exact rfl) | (apply S.cmp; (iterate 4 exact rfl)) | apply S.nil | apply T.regs | (apply T.cCN; exact rfl) | apply T.seq | (apply T.ret; change Done _ _ _ _ _) | (apply T.exit; first | change T _ _ _ _ _ | change Done _ _ _ _ _ | change Next _ _ _ _ _ _ | skip))
      exact doneV (by simp) Tryz.results123 rfl (by rw [R24.lgL, if_neg (by omega), ← hv]; rfl)
    | succ k =>
      have h1 : (0 : Int) ≤ ((k + 1 : Nat) : Int) - 1 := by omega
      have h2 : ((((k + 1 : Nat) : Int) - 1).toNat) = k := by omega
      obtain ⟨x, hx⟩ : ∃ x, a[k]? = some x := ⟨a[k]'(by omega), List.getElem?_eq_getElem (by omega)⟩
      obtain ⟨y, hy⟩ : ∃ y, b[k]? = some y := ⟨b[k]'(by omega), List.getElem?_eq_getElem (by omega)⟩
      have hbx : (w24 a)[(((k + 1 : Nat) : Int) - 1).toNat]? = some [.val (.int .i64 (x : Int))] := by rw [h2]; exact wsR_at hx
      have hby : (w24 b)[(((k + 1 : Nat) : Int) - 1).toNat]? = some [.val (.int .i64 (y : Int))] := by rw [h2]; exact wsR_at hy
      have hK : R24.lgK a b (k + 1) = if x = y then R24.lgK a b k else decide (y < x) := by simp only [R24.lgK, hx, hy, Option.getD_some]
      by_cases hxy : (x : Int) = (y : Int)
      · repeat' (first | (apply S.move; exact rfl; exact rfl) | (apply S.assign; exact rfl; exact rfl) | (apply S.loadR; exact rfl; exact rfl; exact rfl) | (apply S.arith; (iterate 4 exact rfl); omega) | (apply S.indexR; exact rfl; exact rfl; exact rfl; exact hbx; omega; exact rfl) | (apply S.indexR; exact rfl; exact rfl; exact rfl; exact hby; omega; exact rfl) | (apply T.drawAll anyOrder (by decide +kernel)) | (apply S.cmp; (iterate 4 exact rfl)) | apply S.nil | apply T.regs | apply T.reg | (apply T.cT; exact rfl; assumption) | (apply T.cFn; exact rfl; assumption) | apply T.seq | (apply T.skip; first | change T _ _ _ _ _ | change Done _ _ _ _ _ | change Next _ _ _ _ _ _ | skip) | apply T.block)
        change Next _ _ _ _ _ _
        exact Next.go k ⟨by omega, by rw [← hv, hK, if_pos (by omega)]⟩ (Nat.lt_succ_self k) (.cons (by rw [show ((k : Nat) : Int) - 1 = ((k + 1 : Nat) : Int) - 1 - 1 by omega]; rfl) rfl (.cons rfl rfl (.cons rfl rfl .nil))) .nil
      · by_cases hlt : (y : Int) < (x : Int)
        · repeat' (first | (apply S.move; exact rfl; exact rfl) | (apply S.assign; exact rfl; exact rfl) | (apply S.loadR; exact rfl; exact rfl; exact rfl) | (apply S.indexR; exact rfl; exact rfl; exact rfl; exact hbx; omega; exact rfl) | (apply S.indexR; exact rfl; exact rfl; exact rfl; exact hby; omega; exact rfl) | (apply T.drawAll anyOrder (by decide +kernel)) | (apply S.cmp; (iterate 4 exact rfl)) | apply S.nil | apply T.regs | (apply T.cT; exact rfl; assumption) | apply T.seq | (apply T.skip; first | change T _ _ _ _ _ | change Done _ _ _ _ _ | change Next _ _ _ _ _ _ | skip) | (apply T.ret; change Done _ _ _ _ _) | apply T.block)
          all_goals exact doneV (by simp) Tryz.results123 rfl (congrArg Value.bool (by rw [R24.lgL, if_neg (by omega), ← hv, hK, if_neg (by omega)] <;> exact decide_eq_decide.2 (by omega)))
        · repeat' (first | (apply S.move; exact rfl; exact rfl) | (apply S.assign; exact rfl; exact rfl) | (apply S.loadR; exact rfl; exact rfl; exact rfl) | (apply S.indexR; exact rfl; exact rfl; exact rfl; exact hbx; omega; exact rfl) | (apply S.indexR; exact rfl; exact rfl; exact rfl; exact hby; omega; exact rfl) | (apply T.drawAll anyOrder (by decide +kernel)) | (apply S.cmp; (iterate 4 exact rfl)) | apply S.nil | apply T.regs | (apply T.cT; exact rfl; assumption) | apply T.seq | (apply T.skip; first | change T _ _ _ _ _ | change Done _ _ _ _ _ | change Next _ _ _ _ _ _ | skip) | (apply T.ret; change Done _ _ _ _ _) | apply T.block)
          all_goals exact doneV (by simp) Tryz.results123 rfl (congrArg Value.bool (by rw [R24.lgL, if_neg (by omega), ← hv, hK, if_neg (by omega)] <;> exact decide_eq_decide.2 (by omega)))
  · skip
    refine Fn0.of Tryz.func123 Tryz.ntmps123 rfl rfl rfl ?_
    simp only [entryTm]
    repeat' (first | (apply S.move; exact rfl; exact rfl) | (apply S.assign; exact rfl; exact rfl) | (apply S.cmp; (iterate 4 exact rfl)) | (apply S.lenR; exact rfl; exact rfl) | apply S.nil | apply T.regs | (apply T.cT; exact rfl; assumption) | apply T.seq | (apply T.ret; change Done _ _ _ _ _))
    all_goals exact doneV (by simp) Tryz.results123 rfl (congrArg Value.bool (by rw [R24.lgL, if_pos (by omega)] <;> exact decide_eq_decide.2 (by omega)))
theorem rf_larger (a b : Nat) (ha : (R24.wds a).length ≤ 4000) (hb : (R24.wds b).length ≤ 4000) : Fn0 Tryz.prog 123 [.sl (w24 (R24.wds a)), .sl (w24 (R24.wds b))] (.b (decide (b < a))) := by
  have := rf_larger_l (R24.wds a) (R24.wds b) ha hb
  rwa [show R24.lgL (R24.wds a) (R24.wds b) = decide (b < a) by rw [Bool.eq_iff_iff, R24.lgL_iff]; simp] at this
end Go.Proofs.YtgegcgfdffmoeaaGreat
set_option linter.unusedSimpArgs false
namespace Go.Proofs.YtgegcgfdffmoeaaGreat
set_option linter.unusedVariables false
open Go.RowKit
structure PlS where
  i : Nat
  m : List Nat
  c : Nat
set_option maxHeartbeats 16000000 in
theorem rf_plus_l (a b : List Nat) (da : R24.Dig a) (db : R24.Dig b) (ta : R24.Trim a) (tb : R24.Trim b) (hla : a.length ≤ 4000) (hlb : b.length ≤ 4000) : Fn0 Tryz.prog 122 [.sl (w24 a), .sl (w24 b)] (.sl (w24 (R24.wds (R24.val a + R24.val b)))) := by
  have e1 : (w24 a).length = a.length := wsR_len _ _
  have e2 : (w24 b).length = b.length := wsR_len _ _
  refine Fn0.of Tryz.func122 Tryz.ntmps122 rfl rfl rfl ?_
  simp only [entryTm]
  repeat' (first | (apply S.assign; exact rfl; exact rfl) | apply S.nil | apply T.regs | apply T.seq | apply T.block)
  refine T.kill 0 ?_
  refine T.loopS (fun (s : PlS) => R24.PlusInv a b s.m s.i s.c ∧ s.i ≤ max a.length b.length + 1) (fun s => max a.length b.length + 1 - s.i) (fun s => [(7, .i (s.i : Int)), (6, .i (s.c : Int)), (5, slT 0 s.i), (0, .sl (w24 a)), (1, .sl (w24 b))]) (fun s => [slB .i64 s.m s.i]) ⟨0, [], 0⟩ ⟨R24.plus_start a b, Nat.zero_le _⟩ (.cons rfl rfl (.cons rfl rfl (.cons rfl rfl (.cons rfl rfl (.cons rfl rfl .nil))))) (.dead .nil) ?_
  rintro ⟨i, m, c⟩ ⟨hinv, hi⟩
  dsimp only at hinv hi ⊢
  have hm := hinv.len
  have hc1 := hinv.c1
  by_cases hon : i < a.length ∨ i < b.length ∨ 0 < c
  · have hle := R24.plus_len da db hinv hon
    have hst := R24.plus_step da db ta tb hinv hon
    have d1 := rf_digit a i
    have d2 := rf_digit b i
    have hx := R24.get_lt da i
    have hy := R24.get_lt db i
    generalize a[i]?.getD 0 = x at d1 hx hst
    generalize b[i]?.getD 0 = y at d2 hy hst
    have hr : ((x : Int) + (y : Int) + (c : Int)) % 16777216 = (((x + y + c) % 16777216 : Nat) : Int) := by omega
    have hq : ((x : Int) + (y : Int) + (c : Int)) / 16777216 = (((x + y + c) / 16777216 : Nat) : Int) := by omega
    have f1 : (i : Int) < ((w24 a).length : Nat) ↔ i < a.length := by omega
    have f2 : (i : Int) < ((w24 b).length : Nat) ↔ i < b.length := by omega
    have f3 : (0 : Int) < (c : Int) ↔ 0 < c := by omega
    cases i with
    | zero =>
      repeat' (first | (apply S.move; exact rfl; exact rfl) | (apply S.assign; exact rfl; exact rfl) | (apply S.gCN; (iterate 4 exact rfl)) | (apply S.gFF; exact rfl; exact rfl; assumption) | (apply S.gFT; exact rfl; exact rfl; assumption; exact rfl) | (apply S.pC; exact rfl; exact rfl; exact rfl) | (apply S.pTp; exact rfl; assumption; exact rfl; exact rfl) | (apply S.pFp; exact rfl; assumption; exact rfl; exact rfl) | (apply S.arith; (iterate 4 exact rfl); omega) | (apply S.call; exact rfl; exact rfl; exact d1; exact rfl) | (apply S.call; exact rfl; exact rfl; exact d2; exact rfl) | (apply S.buildSliceF; (iterate 8 exact rfl)) | (apply S.rem; exact rfl; exact rfl; exact rfl; omega) | (apply S.quo; exact rfl; exact rfl; exact rfl; omega) | (apply S.appendNU 0; (iterate 7 exact rfl); exact hr; decide) | (apply S.cmp; (iterate 4 exact rfl)) | (apply S.lenR; exact rfl; exact rfl) | (apply S.gsF; exact rfl; exact rfl; exact rfl; intro hc; rotate_left; intro hc; rotate_right) | apply S.nil | apply T.regs | apply T.reg | (apply T.cC; exact rfl) | (apply T.cS; exact rfl; intro hc; rotate_left; intro hc; rotate_right) | apply T.seq | (apply T.skip; first | change T _ _ _ _ _ | change Done _ _ _ _ _ | change Next _ _ _ _ _ _ | skip) | (apply T.ret; change Done _ _ _ _ _) | (apply T.exit; first | change T _ _ _ _ _ | change Done _ _ _ _ _ | change Next _ _ _ _ _ _ | skip) | apply T.block)
      all_goals first
        | (change Next _ _ _ _ _ _; exact Next.go ⟨0 + 1, m ++ [(x + y + c) % 16777216], (x + y + c) / 16777216⟩ ⟨hst, by dsimp only; omega⟩ (by dsimp only; omega) (.cons rfl rfl (.cons (by rw [← hq]; rfl) rfl (.cons rfl rfl (.cons rfl rfl (.cons rfl rfl .nil))))) (by rw [show m = [] from List.eq_nil_of_length_eq_zero hm]; exact .live rfl .nil))
        | (exfalso; omega)
    | succ i =>
      repeat' (first | (apply S.move; exact rfl; exact rfl) | (apply S.assign; exact rfl; exact rfl) | (apply S.gCN; (iterate 4 exact rfl)) | (apply S.gFF; exact rfl; exact rfl; assumption) | (apply S.gFT; exact rfl; exact rfl; assumption; exact rfl) | (apply S.pC; exact rfl; exact rfl; exact rfl) | (apply S.pTp; exact rfl; assumption; exact rfl; exact rfl) | (apply S.pFp; exact rfl; assumption; exact rfl; exact rfl) | (apply S.arith; (iterate 4 exact rfl); omega) | (apply S.call; exact rfl; exact rfl; exact d1; exact rfl) | (apply S.call; exact rfl; exact rfl; exact d2; exact rfl) | (apply S.buildSliceF; (iterate 8 exact rfl)) | (apply S.rem; exact rfl; exact rfl; exact rfl; omega) | (apply S.quo; exact rfl; exact rfl; exact rfl; omega) | (apply S.appendU; (iterate 7 exact rfl); exact hm; exact hr; decide; omega) | (apply S.cmp; (iterate 4 exact rfl)) | (apply S.lenR; exact rfl; exact rfl) | (apply S.gsF; exact rfl; exact rfl; exact rfl; intro hc; rotate_left; intro hc; rotate_right) | apply S.nil | apply T.regs | apply T.reg | (apply T.cC; exact rfl) | (apply T.cS; exact rfl; intro hc; rotate_left; intro hc; rotate_right) | apply T.seq | (apply T.skip; first | change T _ _ _ _ _ | change Done _ _ _ _ _ | change Next _ _ _ _ _ _ | skip) | (apply T.ret; change Done _ _ _ _ _) | (apply T.exit; first | change T _ _ _ _ _ | change Done _ _ _ _ _ | change Next _ _ _ _ _ _ | skip) | apply T.block)
      all_goals first
        | (change Next _ _ _ _ _ _; exact Next.go ⟨i + 1 + 1, m ++ [(x + y + c) % 16777216], (x + y + c) / 16777216⟩ ⟨hst, by dsimp only; omega⟩ (by dsimp only; omega) (.cons rfl rfl (.cons (by rw [← hq]; rfl) rfl (.cons rfl rfl (.cons rfl rfl (.cons rfl rfl .nil))))) (.live (wsA_under _ _ _) .nil))
        | (exfalso; omega)
  · obtain ⟨f1, f2, rfl⟩ : a.length ≤ i ∧ b.length ≤ i ∧ c = 0 := by omega
    have g1 : ¬ (i : Int) < ((w24 a).length : Nat) := by omega
    have g2 : ¬ (i : Int) < ((w24 b).length : Nat) := by omega
    have hend := R24.plus_end hinv f1 f2
    refine T.sealU 5 0 hm rfl rfl ?_
    repeat' (first | (apply S.move; exact rfl; exact rfl) | (apply S.assign; exact rfl; exact rfl) | (apply S.gFF; exact rfl; exact rfl; assumption) | (apply S.pFp; exact rfl; assumption; exact rfl; exact rfl) | (apply S.cmp; (iterate 4 exact rfl)) | (apply S.lenR; exact rfl; exact rfl) | apply S.nil | apply T.regs | (apply T.cCN; exact rfl) | apply T.seq | (apply T.ret; change Done _ _ _ _ _) | (apply T.exit; first | change T _ _ _ _ _ | change Done _ _ _ _ _ | change Next _ _ _ _ _ _ | skip))
    exact done1 (by simp) Tryz.results122 rfl (by rw [hend]; exact .one (.one (.lf _)))
theorem rf_plus (a b : Nat) (ha : (R24.wds a).length ≤ 4000) (hb : (R24.wds b).length ≤ 4000) : Fn0 Tryz.prog 122 [.sl (w24 (R24.wds a)), .sl (w24 (R24.wds b))] (.sl (w24 (R24.wds (a + b)))) := by
  have := rf_plus_l (R24.wds a) (R24.wds b) (R24.wds_dig a) (R24.wds_dig b) (R24.wds_trim a) (R24.wds_trim b) ha hb
  rwa [R24.wds_val, R24.wds_val] at this
set_option maxHeartbeats 16000000 in
theorem rf_minus_l (a b : List Nat) (da : R24.Dig a) (db : R24.Dig b) (hla : a.length ≤ 4000) (hle : b.length ≤ a.length) (hv : R24.val b ≤ R24.val a) : Fn0 Tryz.prog 125 [.sl (w24 a), .sl (w24 b)] (.sl (w24 (R24.pw a.length (R24.val a - R24.val b)))) := by
  have e1 : (w24 a).length = a.length := wsR_len _ _
  have e2 : (w24 b).length = b.length := wsR_len _ _
  refine Fn0.of Tryz.func125 Tryz.ntmps125 rfl rfl rfl ?_
  simp only [entryTm]
  repeat' (first | (apply S.assign; exact rfl; exact rfl) | apply S.nil | apply T.regs | apply T.seq | apply T.block)
  refine T.kill 0 ?_
  refine T.loopS (fun (s : PlS) => R24.MinusInv a b s.m s.i s.c ∧ s.i ≤ a.length) (fun s => a.length - s.i) (fun s => [(7, .i (s.i : Int)), (6, .i (s.c : Int)), (5, slT 0 s.i), (0, .sl (w24 a)), (1, .sl (w24 b))]) (fun s => [slB .i64 s.m s.i]) ⟨0, [], 0⟩ ⟨R24.minus_start a b, Nat.zero_le _⟩ (.cons rfl rfl (.cons rfl rfl (.cons rfl rfl (.cons rfl rfl (.cons rfl rfl .nil))))) (.dead .nil) ?_
  rintro ⟨i, m, c⟩ ⟨hinv, hi⟩
  dsimp only at hinv hi ⊢
  have hm := hinv.len
  have hc1 := hinv.c1
  by_cases hil : i < a.length
  · have h3 : (i : Int) < ((w24 a).length : Nat) := by omega
    obtain ⟨x, hx⟩ : ∃ x, a[i]? = some x := ⟨a[i]'(by omega), List.getElem?_eq_getElem (by omega)⟩
    have hbx := wsR_ati (k := .i64) hx
    have hxl := da.get hx
    have d2 := rf_digit b i
    have hy := R24.get_lt db i
    obtain ⟨y, hyy⟩ : ∃ y, y = b[i]?.getD 0 := ⟨_, rfl⟩
    rw [← hyy] at d2 hy
    by_cases hn : (x : Int) - (y : Int) - (c : Int) < 0
    · have hst := R24.minus_step (d := x + 16777216 - y - c) (c' := 1) hinv (by omega) (by omega) (by rw [hx, ← hyy, Option.getD_some]; omega)
      have hr : (x : Int) - (y : Int) - (c : Int) + 16777216 = ((x + 16777216 - y - c : Nat) : Int) := by omega
      cases i with
      | zero =>
        repeat' (first | (apply S.move; exact rfl; exact rfl) | (apply S.assign; exact rfl; exact rfl) | (apply S.loadR; exact rfl; exact rfl; exact rfl) | (apply S.arith; (iterate 4 exact rfl); omega) | (apply S.call; exact rfl; exact rfl; exact d2; exact rfl) | (apply S.buildSliceF; (iterate 8 exact rfl)) | (apply S.indexR; exact rfl; exact rfl; exact rfl; exact hbx; omega; exact rfl) | (apply S.appendNU 0; (iterate 7 exact rfl); exact hr; decide) | (apply T.drawAll anyOrder (by decide +kernel)) | (apply S.cmp; (iterate 4 exact rfl)) | (apply S.lenR; exact rfl; exact rfl) | apply S.nil | apply T.regs | apply T.reg | (apply T.cT; exact rfl; assumption) | apply T.seq | (apply T.skip; first | change T _ _ _ _ _ | change Done _ _ _ _ _ | change Next _ _ _ _ _ _ | skip) | apply T.block)
        change Next _ _ _ _ _ _
        exact Next.go ⟨0 + 1, m ++ [x + 16777216 - y - c], 1⟩ ⟨hst, by dsimp only; omega⟩ (by dsimp only; omega) (.cons rfl rfl (.cons rfl rfl (.cons rfl rfl (.cons rfl rfl (.cons rfl rfl .nil))))) (by rw [show m = [] from List.eq_nil_of_length_eq_zero hm]; exact .live rfl .nil)
      | succ i =>
        repeat' (first | (apply S.move; exact rfl; exact rfl) | (apply S.assign; exact rfl; exact rfl) | (apply S.loadR; exact rfl; exact rfl; exact rfl) | (apply S.arith; (iterate 4 exact rfl); omega) | (apply S.call; exact rfl; exact rfl; exact d2; exact rfl) | (apply S.buildSliceF; (iterate 8 exact rfl)) | (apply S.indexR; exact rfl; exact rfl; exact rfl; exact hbx; omega; exact rfl) | (apply S.appendU; (iterate 7 exact rfl); exact hm; exact hr; decide; omega) | (apply T.drawAll anyOrder (by decide +kernel)) | (apply S.cmp; (iterate 4 exact rfl)) | (apply S.lenR; exact rfl; exact rfl) | apply S.nil | apply T.regs | apply T.reg | (apply T.cT; exact rfl; assumption) | apply T.seq | (apply T.skip; first | change T _ _ _ _ _ | change Done _ _ _ _ _ | change Next _ _ _ _ _ _ | skip) | apply T.block)
        change Next _ _ _ _ _ _
        exact Next.go ⟨i + 1 + 1, m ++ [x + 16777216 - y - c], 1⟩ ⟨hst, by dsimp only; omega⟩ (by dsimp only; omega) (.cons rfl rfl (.cons rfl rfl (.cons rfl rfl (.cons rfl rfl (.cons rfl rfl .nil))))) (.live (wsA_under _ _ _) .nil)
    · have hst := R24.minus_step (d := x - y - c) (c' := 0) hinv (by omega) (by omega) (by rw [hx, ← hyy, Option.getD_some]; omega)
      have hr : (x : Int) - (y : Int) - (c : Int) = ((x - y - c : Nat) : Int) := by omega
      cases i with
      | zero =>
        repeat' (first | (apply S.move; exact rfl; exact rfl) | (apply S.assign; exact rfl; exact rfl) | (apply S.loadR; exact rfl; exact rfl; exact rfl) | (apply S.arith; (iterate 4 exact rfl); omega) | (apply S.call; exact rfl; exact rfl; exact d2; exact rfl) | (apply S.buildSliceF; (iterate 8 exact rfl)) | (apply S.indexR; exact rfl; exact rfl; exact rfl; exact hbx; omega; exact rfl) | (apply S.appendNU 0; (iterate 7 exact rfl); exact hr; decide) | (apply T.drawAll anyOrder (by decide +kernel)) | (apply S.cmp; (iterate 4 exact rfl)) | (apply S.lenR; exact rfl; exact rfl) | apply S.nil | apply T.regs | apply T.reg | (apply T.cT; exact rfl; assumption) | (apply T.cF; exact rfl; assumption) | apply T.seq | (apply T.skip; first | change T _ _ _ _ _ | change Done _ _ _ _ _ | change Next _ _ _ _ _ _ | skip) | apply T.block)
        change Next _ _ _ _ _ _
        exact Next.go ⟨0 + 1, m ++ [x - y - c], 0⟩ ⟨hst, by dsimp only; omega⟩ (by dsimp only; omega) (.cons rfl rfl (.cons rfl rfl (.cons rfl rfl (.cons rfl rfl (.cons rfl rfl .nil))))) (by rw [show m = [] from List.eq_nil_of_length_eq_zero hm]; exact .live rfl .nil)
      | succ i =>
        repeat' (first | (apply S.move; exact rfl; exact rfl) | (apply S.assign; exact rfl; exact rfl) | (apply S.loadR; exact rfl; exact rfl; exact rfl) | (apply S.arith; (iterate 4 exact rfl); omega) | (apply S.call; exact rfl; exact rfl; exact d2; exact rfl) | (apply S.buildSliceF; (iterate 8 exact rfl)) | (apply S.indexR; exact rfl; exact rfl; exact rfl; exact hbx; omega; exact rfl) | (apply S.appendU; (iterate 7 exact rfl); exact hm; exact hr; decide; omega) | (apply T.drawAll anyOrder (by decide +kernel)) | (apply S.cmp; (iterate 4 exact rfl)) | (apply S.lenR; exact rfl; exact rfl) | apply S.nil | apply T.regs | apply T.reg | (apply T.cT; exact rfl; assumption) | (apply T.cF; exact rfl; assumption) | apply T.seq | (apply T.skip; first | change T _ _ _ _ _ | change Done _ _ _ _ _ | change Next _ _ _ _ _ _ | skip) | apply T.block)
        change Next _ _ _ _ _ _
        exact Next.go ⟨i + 1 + 1, m ++ [x - y - c], 0⟩ ⟨hst, by dsimp only; omega⟩ (by dsimp only; omega) (.cons rfl rfl (.cons rfl rfl (.cons rfl rfl (.cons rfl rfl (.cons rfl rfl .nil))))) (.live (wsA_under _ _ _) .nil)
  · have h3 : ¬ (i : Int) < ((w24 a).length : Nat) := by omega
    obtain rfl : i = a.length := by omega
    have hend := R24.minus_end hle hv hinv
    refine T.sealU 5 0 hm rfl rfl ?_
    repeat' (first | (apply S.move; exact rfl; exact rfl) | (apply S.assign; exact rfl; exact rfl) | (apply S.cmp; (iterate 4 exact rfl)) | (apply S.lenR; exact rfl; exact rfl) | apply S.nil | apply T.regs | (apply T.cF; exact rfl; assumption) | apply T.seq | (apply T.ret; change Done _ _ _ _ _) | (apply T.exit; first | change T _ _ _ _ _ | change Done _ _ _ _ _ | change Next _ _ _ _ _ _ | skip))
    exact done1 (by simp) Tryz.results125 rfl (by rw [hend]; exact .one (.one (.lf _)))
end Go.Proofs.YtgegcgfdffmoeaaGreat
