/- Plain facts on numerals and on the texts of fractions: no program. -/
import Derived.Test.YtpjkiljgccjemaaDoorRatT
import Derived.Lib.AtoiAll
import Derived.Lib.IndexMore
import Derived.Lib.IndexBytes
import Derived.Lib.ItoaMem
namespace Go.Proofs.YtpjkiljgccjemaaDoor
open Go.Lib

theorem digit_toNat {d : Nat} (h : d < 10) : (UInt8.ofNat (48 + d)).toNat = 48 + d := by
  rw [UInt8.toNat_ofNat_of_lt' (by simp [UInt8.size]; omega)]
theorem dec_big {u : Nat} (h : ¬ u < 10) : decDigits u = decDigits (u / 10) ++ [UInt8.ofNat (48 + u % 10)] := by rw [decDigits, dif_neg h]
theorem dec_digit (u : Nat) : ∀ c ∈ decDigits u, 48 ≤ c.toNat ∧ c.toNat ≤ 57 := by
  induction u using Nat.strongRecOn with
  | _ u ih =>
    intro c hc
    by_cases h : u < 10
    · rw [decDigits_one h] at hc
      obtain rfl : c = UInt8.ofNat (48 + u) := by simpa using hc
      rw [digit_toNat h]; omega
    · rw [dec_big h] at hc
      rcases List.mem_append.1 hc with h1 | h1
      · exact ih (u / 10) (by omega) c h1
      · obtain rfl : c = UInt8.ofNat (48 + u % 10) := by simpa using h1
        rw [digit_toNat (by omega)]; omega
theorem dec_ne (u : Nat) : decDigits u ≠ [] := by
  intro h
  have := decDigits_length u
  have h2 := nDigits_pos u
  rw [h] at this
  simp at this
  omega
theorem parse_snoc (c : UInt8) (l : List UInt8) : ∀ (acc m : Nat), parseUint10 acc l = .ok m → parseUint10 acc (l ++ [c]) = parseUint10 m [c] := by
  induction l with
  | nil => intro acc m h; simp only [parseUint10] at h; injection h with h; subst h; rfl
  | cons b r ih =>
    intro acc m h
    simp only [parseUint10, List.cons_append] at h ⊢
    split
    · rename_i h1
      rw [if_pos h1] at h
      split
      · rename_i h2; rw [if_pos h2] at h; cases h
      · rename_i h2
        rw [if_neg h2] at h
        split
        · rename_i h3; rw [if_pos h3] at h; cases h
        · rename_i h3
          rw [if_neg h3] at h
          have := ih _ m h
          simpa only [parseUint10] using this
    · rename_i h1; rw [if_neg h1] at h; cases h
theorem parse_dec (u : Nat) (hu : u < 18446744073709551616) : parseUint10 0 (decDigits u) = .ok u := by
  induction u using Nat.strongRecOn with
  | _ u ih =>
    by_cases h : u < 10
    · rw [decDigits_one h]
      simp only [parseUint10, digit_toNat h]
      rw [if_pos (by omega), if_neg (by omega), if_neg (by omega)]
      simp
    · rw [dec_big h, parse_snoc _ _ 0 (u / 10) (ih (u / 10) (by omega) (by omega))]
      simp only [parseUint10, digit_toNat (show u % 10 < 10 by omega)]
      rw [if_pos (by omega), if_neg (by omega), if_neg (by omega)]
      congr 1
      omega
theorem head_dec (u : Nat) : ∃ c r, decDigits u = c :: r ∧ 48 ≤ c.toNat ∧ c.toNat ≤ 57 := by
  cases h : decDigits u with
  | nil => exact absurd h (dec_ne u)
  | cons c r => exact ⟨c, r, rfl, dec_digit u c (by rw [h]; simp)⟩
theorem atoi_itoa (n : Int) (h0 : -9223372036854775808 ≤ n) (h1 : n ≤ 9223372036854775807) : atoiAll (itoa n) = .ok n := by
  unfold itoa
  by_cases hn : n < 0
  · rw [if_pos hn]
    unfold atoiAll
    simp only []
    have e : parseMag (decDigits n.natAbs) = .ok n.natAbs := by
      unfold parseMag
      rw [if_neg (dec_ne _), parse_dec _ (by omega)]
    rw [show (if (45 : UInt8).toNat = 43 ∨ (45 : UInt8).toNat = 45 then decDigits n.natAbs else 45 :: decDigits n.natAbs) = decDigits n.natAbs from rfl, e]
    show (if ¬ ((45 : UInt8).toNat = 45) ∧ 9223372036854775808 ≤ n.natAbs then NumEnd.range else if ((45 : UInt8).toNat = 45) ∧ 9223372036854775808 < n.natAbs then .range else .ok (if (45 : UInt8).toNat = 45 then -(n.natAbs : Int) else n.natAbs)) = .ok n
    rw [if_neg (fun h => h.1 rfl), if_neg (fun h => absurd h.2 (by omega)), if_pos (by decide : (45 : UInt8).toNat = 45)]
    congr 1
    omega
  · rw [if_neg hn]
    obtain ⟨c, r, e, c1, c2⟩ := head_dec n.toNat
    have e2 : parseMag (decDigits n.toNat) = .ok n.toNat := by
      unfold parseMag
      rw [if_neg (dec_ne _), parse_dec _ (by omega)]
    rw [e] at e2 ⊢
    unfold atoiAll
    simp only []
    rw [if_neg (by omega), e2]
    show (if ¬ (c.toNat = 45) ∧ 9223372036854775808 ≤ n.toNat then NumEnd.range else if (c.toNat = 45) ∧ 9223372036854775808 < n.toNat then .range else .ok (if c.toNat = 45 then -(n.toNat : Int) else n.toNat)) = .ok n
    rw [if_neg (fun h => absurd h.2 (by omega)), if_neg (fun h => absurd h.1 (by omega)), if_neg (by omega)]
    congr 1
    omega
theorem itoa_inj {n m : Int} (n0 : -9223372036854775808 ≤ n) (n1 : n ≤ 9223372036854775807) (m0 : -9223372036854775808 ≤ m) (m1 : m ≤ 9223372036854775807) (h : itoa n = itoa m) : n = m := by
  have := atoi_itoa n n0 n1
  rw [h, atoi_itoa m m0 m1] at this
  injection this with this
  exact this.symm
theorem itoa_no (n : Int) : (47 : UInt8) ∉ itoa n := by
  unfold itoa
  split
  · intro h
    rcases List.mem_cons.1 h with h | h
    · exact absurd h (by decide)
    · have := dec_digit _ _ h; simp at this
  · intro h
    have := dec_digit _ _ h; simp at this
theorem indexByte_no {l : List UInt8} {c : UInt8} (h : c ∉ l) : indexByte l c = -1 := by
  induction l with
  | nil => rfl
  | cons b r ih =>
    have hb : (b == c) = false := by
      rw [beq_eq_false_iff_ne]; intro e; exact h (by simp [e])
    unfold indexByte
    rw [hb, ih fun hm => h (by simp [hm])]
    rfl
theorem indexByte_at {l r : List UInt8} {c : UInt8} (h : c ∉ l) : indexByte (l ++ c :: r) c = l.length := by
  induction l with
  | nil => simp [indexByte]
  | cons b t ih =>
    have hb : (b == c) = false := by
      rw [beq_eq_false_iff_ne]; intro e; exact h (by simp [e])
    have := ih fun hm => h (by simp [hm])
    simp only [List.cons_append, indexByte, hb, this]
    have h2 : ((t.length : Int) == -1) = false := by rw [beq_eq_false_iff_ne]; omega
    simp [h2]
theorem cut_no {l : List UInt8} (h : (47 : UInt8) ∉ l) : cut l [47] = (l, [], false) := by
  unfold cut
  rw [index_one, indexByte_no h]
  rfl
theorem cut_at {l r : List UInt8} (h : (47 : UInt8) ∉ l) : cut (l ++ 47 :: r) [47] = (l, r, true) := by
  unfold cut
  rw [index_one, indexByte_at h, if_pos (by omega)]
  simp
/-- The texts of valid fractions part them. -/
theorem textL_inj {n d m e : Int} (h1 : validB n d = true) (h2 : validB m e = true) (h : textL n d = textL m e) : n = m ∧ d = e := by
  obtain ⟨a1, a2, a3, a4, _⟩ := validB_spec.1 h1
  obtain ⟨b1, b2, b3, b4, _⟩ := validB_spec.1 h2
  unfold textL at h
  by_cases hd : d = 1 <;> by_cases he : e = 1
  · rw [if_pos hd, if_pos he] at h
    exact ⟨itoa_inj (by omega) (by omega) (by omega) (by omega) h, by omega⟩
  · rw [if_pos hd, if_neg he] at h
    exact absurd (by rw [h]; simp : (47 : UInt8) ∈ itoa n) (itoa_no n)
  · rw [if_neg hd, if_pos he] at h
    exact absurd (by rw [← h]; simp : (47 : UInt8) ∈ itoa m) (itoa_no m)
  · rw [if_neg hd, if_neg he] at h
    have := congrArg (fun s => cut s [47]) h
    simp only [cut_at (itoa_no _)] at this
    simp only [Prod.mk.injEq, and_true] at this
    exact ⟨itoa_inj (by omega) (by omega) (by omega) (by omega) this.1, itoa_inj (by omega) (by omega) (by omega) (by omega) this.2⟩
/-- What a text is read as: the fraction, and 0; or 0/0 and 7. -/
def Parsed (s : List UInt8) (r : Int × Int × Int) : Prop := (∃ n d, validB n d = true ∧ textL n d = s ∧ r = (n, d, 0)) ∨ ((∀ n d, validB n d = true → textL n d ≠ s) ∧ r = (0, 0, 7))
open Classical in
noncomputable def parseS (s : List UInt8) : Int × Int × Int := if h : ∃ p : Int × Int, validB p.1 p.2 = true ∧ textL p.1 p.2 = s then (h.choose.1, h.choose.2, 0) else (0, 0, 7)
theorem parseS_yes {s : List UInt8} {n d : Int} (hv : validB n d = true) (ht : textL n d = s) : parseS s = (n, d, 0) := by
  unfold parseS
  have h : ∃ p : Int × Int, validB p.1 p.2 = true ∧ textL p.1 p.2 = s := ⟨(n, d), hv, ht⟩
  rw [dif_pos h]
  obtain ⟨e1, e2⟩ := textL_inj h.choose_spec.1 hv (h.choose_spec.2.trans ht.symm)
  rw [e1, e2]
theorem parseS_no {s : List UInt8} (h : ∀ n d, validB n d = true → textL n d ≠ s) : parseS s = (0, 0, 7) := by
  unfold parseS
  rw [dif_neg fun ⟨p, hv, ht⟩ => h p.1 p.2 hv ht]
end Go.Proofs.YtpjkiljgccjemaaDoor
