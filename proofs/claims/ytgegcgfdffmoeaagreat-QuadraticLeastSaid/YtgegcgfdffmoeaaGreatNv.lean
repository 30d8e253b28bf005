/- Plain facts: quadratic pieces below zero, searches by halves: the program's and the reference's. No program. No conditions but those of each statement. | Plain facts: the first time below zero by the program is that by the reference. No program. No conditions but those of each statement. -/
import Derived.Test.YtgegcgfdffmoeaaGreatNu
set_option linter.unusedSimpArgs false
namespace Go.Proofs.YtgegcgfdffmoeaaGreat
set_option linter.unusedVariables false
/-! ### A piece -/
theorem vR_step (p : PcQ) (a t : Rat) : vR p t - vR p a = (t - a) * (sR p a + p.c * (t - a)) := by unfold vR sR; grind
theorem vR_back (p : PcQ) (a t : Rat) : vR p t - vR p a = (t - a) * (sR p t - p.c * (t - a)) := by unfold vR sR; grind
theorem sR_step (p : PcQ) (a t : Rat) : sR p t = sR p a + 2 * (p.c * (t - a)) := by unfold sR; grind
theorem disc (p : PcQ) (t : Rat) : 4 * p.a * p.c - p.b * p.b = 4 * (p.c * vR p t) - sR p t * sR p t := by unfold vR sR; grind
theorem sq_nonneg (x : Rat) : 0 ≤ x * x := by
  rcases (Rat.le_total : (0 : Rat) ≤ x ∨ x ≤ 0) with h | h
  · exact Rat.mul_nonneg h h
  · have := Rat.mul_nonneg (a := -x) (b := -x) (by grind) (by grind)
    grind
/-- Not negative at both ends, negative between: it bends up, falls at first, rises at last. -/
theorem dip {p : PcQ} {a s t : Rat} (h1 : a ≤ s) (h2 : s ≤ t) (ha : 0 ≤ vR p a) (hs : vR p s < 0) (ht : 0 ≤ vR p t) : 0 < p.c ∧ sR p a < 0 ∧ 0 < sR p t := by
  have n1 : a < s := Rat.lt_of_le_of_ne h1 (fun e => by subst e; exact absurd hs (Rat.not_lt.2 ha))
  have n2 : s < t := Rat.lt_of_le_of_ne h2 (fun e => by subst e; exact absurd hs (Rat.not_lt.2 ht))
  have d1 : 0 < s - a := by grind
  have d2 : 0 < t - s := by grind
  have e1 := vR_back p a s
  have e2 := vR_step p s t
  have g1 : sR p s - p.c * (s - a) < 0 := (Rat.mul_neg_iff_of_pos_left d1).1 (by rw [← e1]; grind)
  have g2 : 0 < sR p s + p.c * (t - s) := (Rat.mul_pos_iff_of_pos_left d2).1 (by rw [← e2]; grind)
  have g3 : 0 < (t - a) * p.c := by grind
  have hc : 0 < p.c := (Rat.mul_pos_iff_of_pos_left (by grind)).1 g3
  have k1 := Rat.mul_pos hc d1
  have k2 := Rat.mul_pos hc d2
  have k3 := sR_step p a s
  have k4 := sR_step p s t
  exact ⟨hc, by grind, by grind⟩
theorem lowX_eq {p : PcQ} (hc : 0 < p.c) : 2 * p.c * (lowX p - p.f) = -p.b := by
  unfold lowX
  have h : 2 * p.c ≠ 0 := by grind
  have := Rat.mul_div_cancel (a := -p.b) h
  grind
theorem sR_lowX {p : PcQ} (hc : 0 < p.c) (t : Rat) : sR p t = 2 * p.c * (t - lowX p) := by
  have := lowX_eq hc
  unfold sR
  grind
theorem sR_neg_iff {p : PcQ} (hc : 0 < p.c) (t : Rat) : sR p t < 0 ↔ t < lowX p := by
  rw [sR_lowX hc, Rat.mul_neg_iff_of_pos_left (by grind)]
  constructor <;> intro h <;> grind
theorem sR_pos_iff {p : PcQ} (hc : 0 < p.c) (t : Rat) : 0 < sR p t ↔ lowX p < t := by
  rw [sR_lowX hc, Rat.mul_pos_iff_of_pos_left (by grind)]
  constructor <;> intro h <;> grind
theorem disc_low {p : PcQ} (hc : 0 < p.c) : 4 * p.a * p.c - p.b * p.b < 0 ↔ vR p (lowX p) < 0 := by
  have h1 : sR p (lowX p) = 0 := by rw [sR_lowX hc]; grind
  rw [disc p (lowX p), h1]
  have k := Rat.mul_neg_iff_of_pos_left hc (b := vR p (lowX p))
  constructor
  · intro h; exact k.1 (by grind)
  · intro h; have := k.2 h; grind
theorem belR_to {p : PcQ} {a t : Rat} (h : belR p a t) : a < t ∧ ∃ s, a ≤ s ∧ s ≤ t ∧ vR p s < 0 := by
  obtain ⟨h1, h2⟩ := h
  refine ⟨h1, ?_⟩
  rcases h2 with (h2 | h2) | ⟨hc, h3, h4, h5⟩
  · exact ⟨a, Rat.le_refl, Rat.le_of_lt h1, h2⟩
  · exact ⟨t, Rat.le_of_lt h1, Rat.le_refl, h2⟩
  · exact ⟨lowX p, Rat.le_of_lt ((sR_neg_iff hc a).1 h3), Rat.le_of_lt ((sR_pos_iff hc t).1 h4), (disc_low hc).1 h5⟩
theorem belR_of {p : PcQ} {a s t : Rat} (h0 : a < t) (h1 : a ≤ s) (h2 : s ≤ t) (hs : vR p s < 0) : belR p a t := by
  refine ⟨h0, ?_⟩
  by_cases ha : vR p a < 0
  · exact .inl (.inl ha)
  by_cases ht : vR p t < 0
  · exact .inl (.inr ht)
  obtain ⟨hc, g1, g2⟩ := dip h1 h2 (Rat.not_lt.1 ha) hs (Rat.not_lt.1 ht)
  refine .inr ⟨hc, g1, g2, ?_⟩
  rw [disc p s]
  have k1 := (Rat.mul_neg_iff_of_pos_left hc (b := vR p s)).2 hs
  have k2 := sq_nonneg (sR p s)
  grind
theorem belR_mono {p : PcQ} {a t t' : Rat} (h : belR p a t) (ht : t ≤ t') : belR p a t' := by
  obtain ⟨h0, s, h1, h2, h3⟩ := belR_to h
  exact belR_of (rlt_le h0 ht) h1 (Rat.le_trans h2 ht) h3
theorem num_neg_iff (q : Rat) : q.num < 0 ↔ q < 0 := by rw [← Int.not_le, Rat.num_nonneg, Rat.not_le]
/-- It falls at a zero: it is below zero right behind. -/
theorem fall_neg {p : PcQ} {a t : Rat} (h0 : vR p a = 0) (hf : falR p a) (ht : a < t) : belR p a t := by
  have d : 0 < t - a := by grind
  rcases hf with hf | ⟨hf, hc⟩
  · rcases (Rat.le_total : p.c ≤ 0 ∨ 0 ≤ p.c) with hc | hc
    · refine belR_of ht (Rat.le_of_lt ht) Rat.le_refl ?_
      have e := vR_step p a t
      have g : sR p a + p.c * (t - a) < 0 := by
        have := Rat.mul_nonneg (a := -p.c) (b := t - a) (by grind) (by grind)
        grind
      have := (Rat.mul_neg_iff_of_pos_left d).2 g
      grind
    · by_cases hc0 : p.c = 0
      · refine belR_of ht (Rat.le_of_lt ht) Rat.le_refl ?_
        have e := vR_step p a t
        have := (Rat.mul_neg_iff_of_pos_left d (b := sR p a)).2 hf
        rw [hc0] at e
        grind
      · have hcp : 0 < p.c := Rat.lt_of_le_of_ne hc (fun e => hc0 e.symm)
        have hl := (sR_neg_iff hcp a).1 hf
        obtain ⟨s, s1, s2, s3⟩ : ∃ s, a < s ∧ s ≤ t ∧ s ≤ lowX p := by
          by_cases e : t ≤ lowX p
          · exact ⟨t, ht, Rat.le_refl, e⟩
          · exact ⟨lowX p, hl, Rat.le_of_lt (Rat.not_le.1 e), Rat.le_refl⟩
        refine belR_of ht (Rat.le_of_lt s1) s2 ?_
        have ds : 0 < s - a := by grind
        have e := vR_step p a s
        have g : sR p a + p.c * (s - a) < 0 := by
          rw [sR_lowX hcp a]
          have := Rat.mul_pos hcp ds
          have := Rat.mul_nonneg (a := p.c) (b := lowX p - s) (Rat.le_of_lt hcp) (by grind)
          grind
        have := (Rat.mul_neg_iff_of_pos_left ds).2 g
        grind
  · refine belR_of ht (Rat.le_of_lt ht) Rat.le_refl ?_
    have e := vR_step p a t
    have hc' := (num_neg_iff _).1 hc
    have g : sR p a + p.c * (t - a) < 0 := by
      have := Rat.mul_pos (a := -p.c) (b := t - a) (by grind) d
      grind
    have := (Rat.mul_neg_iff_of_pos_left d).2 g
    grind
/-! ### Milliseconds -/
theorem mil_mul (m : Int) : 1000 * mil m = (m : Rat) := by
  unfold mil
  rw [Rat.mkRat_eq_div]
  have : ((1000 : Nat) : Rat) = 1000 := rfl
  rw [this]
  have h : (1000 : Rat) ≠ 0 := by decide
  grind
theorem den_mul (q : Rat) : ((q.den : Int) : Rat) * q = (q.num : Rat) := by
  have h1 := Rat.mkRat_self q
  rw [Rat.mkRat_eq_div] at h1
  have h2 : ((q.den : Int) : Rat) = (q.den : Rat) := Rat.intCast_natCast _
  have h3 : (0 : Rat) < ((q.den : Int) : Rat) := Rat.intCast_pos.2 (by have := q.den_pos; omega)
  rw [h2] at h3 ⊢
  have h4 : (q.den : Rat) ≠ 0 := by grind
  conv => lhs; rw [← h1]
  grind
theorem mil_le' {m : Int} {q : Rat} : mil m ≤ q ↔ m * q.den ≤ 1000 * q.num := by
  have hd : (0 : Rat) < ((q.den : Int) : Rat) := Rat.intCast_pos.2 (by have := q.den_pos; omega)
  rw [← Rat.intCast_le_intCast, Rat.intCast_mul, Rat.intCast_mul, ← den_mul q, ← mil_mul m, show ((1000 : Int) : Rat) = 1000 from rfl]
  constructor
  · intro h
    have := Rat.mul_le_mul_of_nonneg_left h (Rat.le_of_lt hd)
    grind
  · intro h
    exact Rat.le_of_mul_le_mul_left (c := ((q.den : Int) : Rat)) (by grind) hd
theorem le_mil {m : Int} {q : Rat} : q ≤ mil m ↔ 1000 * q.num ≤ m * q.den := by
  have hd : (0 : Rat) < ((q.den : Int) : Rat) := Rat.intCast_pos.2 (by have := q.den_pos; omega)
  rw [← Rat.intCast_le_intCast, Rat.intCast_mul, Rat.intCast_mul, ← den_mul q, ← mil_mul m, show ((1000 : Int) : Rat) = 1000 from rfl]
  constructor
  · intro h
    have := Rat.mul_le_mul_of_nonneg_left h (Rat.le_of_lt hd)
    grind
  · intro h
    exact Rat.le_of_mul_le_mul_left (c := ((q.den : Int) : Rat)) (by grind) hd
theorem mil_le {m : Int} {q : Rat} : mil m ≤ q ↔ m ≤ milQ q := by
  rw [mil_le', milQ, Int.le_ediv_iff_mul_le (by have := q.den_pos; omega)]
theorem mil_mono {m n : Int} (h : m ≤ n) : mil m ≤ mil n := by
  have h1 := mil_mul m
  have h2 := mil_mul n
  have h3 : (m : Rat) ≤ (n : Rat) := Rat.intCast_le_intCast.2 h
  grind
theorem milX_iff {q : Rat} : milX q ↔ mil (milQ q) = q := by
  have hd : (0 : Int) < q.den := by have := q.den_pos; omega
  have h1 : mil (milQ q) ≤ q := mil_le.2 (Int.le_refl _)
  have h2 := Int.emod_add_mul_ediv (1000 * q.num) q.den
  have h3 := Int.emod_nonneg (1000 * q.num) (show (q.den : Int) ≠ 0 by omega)
  have h4 : (q.den : Int) * (1000 * q.num / q.den) = milQ q * q.den := Int.mul_comm _ _
  unfold milX
  constructor
  · intro h
    refine Rat.le_antisymm h1 (le_mil.2 ?_)
    omega
  · intro h
    have := le_mil.1 (show q ≤ mil (milQ q) by rw [h]; exact Rat.le_refl)
    omega
/-! ### Searches -/
theorem bisT_spec {B : Int → Prop} [DecidablePred B] : ∀ {n : Nat} {lo hi : Int}, B lo → ¬ B hi → lo < hi → hi - lo ≤ 2 ^ n → B (bisT B n lo hi) ∧ ¬ B (bisT B n lo hi + 1)
  | 0, lo, hi, h1, h2, h3, h4 => by
    have : hi = lo + 1 := by simp at h4; omega
    subst this
    exact ⟨h1, h2⟩
  | n + 1, lo, hi, h1, h2, h3, h4 => by
    rw [bisT]
    by_cases h : 1 < hi - lo
    · obtain ⟨m1, m2, m3, m4⟩ := half2_bd h
      have h4' : hi - lo ≤ 2 * 2 ^ n := by rw [Int.pow_succ] at h4; omega
      have g1 : hi - half2 lo hi ≤ 2 ^ n := by generalize (2 : Int) ^ n = W at *; omega
      have g2 : half2 lo hi - lo ≤ 2 ^ n := by generalize (2 : Int) ^ n = W at *; omega
      rw [if_pos h]
      split
      · rename_i hB; exact bisT_spec hB h2 m2 g1
      · rename_i hB; exact bisT_spec h1 hB m1 g2
    · rw [if_neg h]
      have : hi = lo + 1 := by omega
      subst this
      exact ⟨h1, h2⟩
theorem bis_spec {B : Int → Prop} [DecidablePred B] : ∀ {n : Nat} {lo hi : Int}, ¬ B lo → B hi → lo < hi → hi - lo ≤ 2 ^ n → ¬ B (bis B n lo hi) ∧ B (bis B n lo hi + 1)
  | 0, lo, hi, h1, h2, h3, h4 => by
    have : hi = lo + 1 := by simp at h4; omega
    subst this
    exact ⟨h1, h2⟩
  | n + 1, lo, hi, h1, h2, h3, h4 => by
    rw [bis]
    by_cases h : 1 < hi - lo
    · have h4' : hi - lo ≤ 2 * 2 ^ n := by rw [Int.pow_succ] at h4; omega
      have g1 : hi - (lo + (hi - lo) / 2) ≤ 2 ^ n := by generalize (2 : Int) ^ n = W at *; omega
      have g2 : lo + (hi - lo) / 2 - lo ≤ 2 ^ n := by generalize (2 : Int) ^ n = W at *; omega
      rw [if_pos h]
      split
      · rename_i hB; exact bis_spec h1 hB (by omega) g2
      · rename_i hB; exact bis_spec hB h2 (by omega) g1
    · rw [if_neg h]
      have : hi = lo + 1 := by omega
      subst this
      exact ⟨h1, h2⟩
theorem last_uniq {P : Int → Prop} (hm : ∀ m n : Int, m ≤ n → P n → P m) {r s : Int} (h1 : P r) (h2 : ¬ P (r + 1)) (h3 : P s) (h4 : ¬ P (s + 1)) : r = s := by
  rcases Int.lt_trichotomy r s with h | h | h
  · exact absurd (hm (r + 1) s (by omega) h3) h2
  · exact h
  · exact absurd (hm (s + 1) r (by omega) h1) h4
end Go.Proofs.YtgegcgfdffmoeaaGreat
set_option linter.unusedSimpArgs false
namespace Go.Proofs.YtgegcgfdffmoeaaGreat
set_option linter.unusedVariables false
theorem num_le_iff (q : Rat) : q.num ≤ 0 ↔ q ≤ 0 := by
  have h := Rat.num_nonneg (q := -q)
  rw [Rat.neg_num] at h
  constructor
  · intro h1
    have := h.1 (by omega)
    grind
  · intro h1
    have := h.2 (by grind)
    omega
theorem mil_low {q : Rat} (h : rangP q) : mil (-2251799813685248) ≤ q := by
  have h1 := mil_mul (-2251799813685248)
  rw [show ((-2251799813685248 : Int) : Rat) = -2251799813685248 from rfl] at h1
  have := h.1
  grind
theorem mil_high {q : Rat} (h : rangP q) : q < mil 2251799813685248 := by
  have h1 := mil_mul 2251799813685248
  rw [show ((2251799813685248 : Int) : Rat) = 2251799813685248 from rfl] at h1
  have := h.2
  grind
theorem milQ_range {q : Rat} (h : rangP q) : -1099511627776000 ≤ milQ q ∧ milQ q ≤ 1099511627776000 := by
  constructor
  · refine mil_le.1 ?_
    have h1 := mil_mul (-1099511627776000)
    rw [show ((-1099511627776000 : Int) : Rat) = -1099511627776000 from rfl] at h1
    have := h.1
    grind
  · rcases Int.lt_or_le 1099511627776000 (milQ q) with h2 | h2
    · exfalso
      have h3 := mil_le.2 (show (1099511627776001 : Int) ≤ milQ q by omega)
      have h1 := mil_mul 1099511627776001
      rw [show ((1099511627776001 : Int) : Rat) = 1099511627776001 from rfl] at h1
      have := h.2
      grind
    · exact h2
theorem milQ_mono {a e : Rat} (h : a ≤ e) : milQ a ≤ milQ e := mil_le.1 (Rat.le_trans (mil_le.2 (Int.le_refl _)) h)
theorem mil_succ (q : Rat) : q < mil (milQ q + 1) := Rat.not_le.1 fun h => by have := mil_le.1 h; omega
theorem floor_uniq {q : Rat} {r : Int} (h1 : mil r ≤ q) (h2 : ¬ mil (r + 1) ≤ q) : r = milQ q :=
  last_uniq (P := fun m => mil m ≤ q) (fun m n hmn h => Rat.le_trans (mil_mono hmn) h) h1 h2 (mil_le.2 (Int.le_refl _)) (Rat.not_le.2 (mil_succ q))
theorem enc_true {p : PcQ} {a y : Rat} (h : rangP a) : encR p a y true = enQ a := by
  have hP : ∀ m, encP p a y true m ↔ mil m ≤ a := fun m => by unfold encP; simp
  obtain ⟨s1, s2⟩ := bisT_spec (B := encP p a y true) (n := 52) ((hP _).2 (mil_low h)) (fun e => absurd ((hP _).1 e) (Rat.not_le.2 (mil_high h))) (by decide) (by decide)
  have e : encLo p a y true = milQ a := floor_uniq ((hP _).1 s1) fun e => s2 ((hP _).2 e)
  have hI : encI p a true (milQ a) ↔ milX a := by unfold encI; rw [milX_iff]; simp
  unfold encR enQ
  rw [e]
  by_cases hx : milX a
  · rw [if_pos (hI.2 hx), if_pos hx]
  · rw [if_neg (fun q => hx (hI.1 q)), if_neg hx]
theorem cut_mono {e t t' : Rat} (h : t ≤ t') : cutR e t ≤ cutR e t' := by
  unfold cutR
  split <;> split
  · exact Rat.le_refl
  · rename_i h1 h2; exact absurd (rlt_le h1 h) h2
  · rename_i h1 h2; exact Rat.not_lt.1 h1
  · exact h
theorem fir_fall {p : PcQ} {a e : Rat} (ha : rangP a) (he : rangP e) (hae : a < e) (h0 : vR p a = 0) (hf : falR p a) : firR p a e = enQ a := by
  have hP : ∀ m, ¬ firB p a e m ↔ mil m ≤ a := fun m => by
    unfold firB cutR
    constructor
    · intro h
      refine Rat.not_lt.1 fun h1 => h (fall_neg h0 hf ?_)
      split
      · exact hae
      · exact h1
    · intro h
      rw [if_neg (Rat.not_lt.2 (Rat.le_trans h (Rat.le_of_lt hae)))]
      exact fun h1 => Rat.not_lt.2 h h1.1
  obtain ⟨r1, r2⟩ := milQ_range ha
  obtain ⟨r3, r4⟩ := milQ_range he
  have hm := milQ_mono (Rat.le_of_lt hae)
  have k2 : firB p a e (milQ e + 2) := Decidable.byContradiction fun h => by
    have h1 := mil_le.1 ((hP _).1 h)
    omega
  obtain ⟨s1, s2⟩ := bis_spec (B := firB p a e) (n := 64) ((hP _).2 (mil_le.2 (Int.le_refl _))) k2 (by omega) (by omega)
  have e1 : firLo p a e = milQ a := floor_uniq ((hP _).1 s1) fun q => (hP _).2 q s2
  have hI : firP p a (milQ a) ↔ milX a := by
    rw [milX_iff]
    unfold firP
    constructor
    · intro h; exact Rat.le_antisymm (mil_le.2 (Int.le_refl _)) h.1
    · intro h
      rw [h]
      refine ⟨Rat.le_refl, h0, ?_⟩
      rcases hf with hf | hf
      · exact .inl hf
      · exact .inr ⟨hf.1, (num_neg_iff _).1 hf.2⟩
  unfold firR enQ
  rw [e1]
  by_cases hx : milX a
  · rw [if_pos (hI.2 hx), if_pos hx]
  · rw [if_neg (fun q => hx (hI.1 q)), if_neg hx]
theorem fir_enc {p : PcQ} {a y e : Rat} (ha : rangP a) (he : rangP e) (hye : y ≤ e) (hbe : belR p a e) (hpt : ∀ t, (t ≤ a ∨ t ≤ y ∧ 0 ≤ vR p t) ↔ ¬ belR p a (cutR e t)) : firR p a e = encR p a y false := by
  have hae := hbe.1
  have hP : ∀ m, encP p a y false m ↔ ¬ firB p a e m := fun m => by
    unfold encP firB
    rw [← hpt]
    simp
  obtain ⟨r1, r2⟩ := milQ_range ha
  obtain ⟨r3, r4⟩ := milQ_range he
  have hm := milQ_mono (Rat.le_of_lt hae)
  have k1 : ∀ m, mil m ≤ a → encP p a y false m := fun m h => .inl h
  have k2 : ∀ m, e < mil m → ¬ encP p a y false m := fun m h => by
    rintro (h1 | h1)
    · exact Rat.not_lt.2 (Rat.le_trans h1 (Rat.le_of_lt hae)) h
    · exact Rat.not_lt.2 (Rat.le_trans h1.2.1 hye) h
  obtain ⟨s1, s2⟩ := bisT_spec (B := encP p a y false) (n := 52) (k1 _ (mil_low ha)) (k2 _ (mil_high he)) (by decide) (by decide)
  have k3 : firB p a e (milQ e + 2) := Decidable.byContradiction fun h => k2 (milQ e + 2) (Rat.not_le.1 fun q => by have := mil_le.1 q; omega) ((hP _).2 h)
  obtain ⟨s3, s4⟩ := bis_spec (B := firB p a e) (n := 64) ((hP _).1 (k1 _ (mil_le.2 (Int.le_refl _)))) k3 (by omega) (by omega)
  have e1 : encLo p a y false = firLo p a e := by
    refine last_uniq (P := encP p a y false) (fun m n hmn h => ?_) s1 s2 ((hP _).2 s3) (fun q => (hP _).1 q s4)
    exact (hP m).2 fun q => (hP n).1 h (belR_mono q (cut_mono (mil_mono hmn)))
  have hI : ∀ m, encI p a false m ↔ firP p a m := fun m => by
    unfold encI firP falR
    rw [num_neg_iff]
    simp
  unfold firR encR
  rw [e1]
  by_cases hx : firP p a (firLo p a e)
  · rw [if_pos hx, if_pos ((hI _).2 hx)]
  · rw [if_neg hx, if_neg fun q => hx ((hI _).1 q)]
theorem step_same {p : PcQ} {a e : Rat} (ha : rangP a) (he : rangP e) (hae : a ≤ e) :
    (if vR p a < 0 then some (enQ a) else if belR p a e then some (firR p a e) else none) = rfS p a e := by
  unfold rfS
  by_cases h1 : vR p a < 0
  · rw [if_pos h1, if_pos (.inl h1), enc_true ha]
  rw [if_neg h1]
  by_cases h2 : vR p a = 0 ∧ falR p a ∧ a < e
  · rw [if_pos (show vR p a < 0 ∨ vR p a = 0 ∧ falR p a ∧ a < e from .inr h2), if_pos (show belR p a e from fall_neg h2.1 h2.2.1 h2.2.2), enc_true ha, fir_fall ha he h2.2.2 h2.1 h2.2.1]
  rw [if_neg (show ¬ (vR p a < 0 ∨ vR p a = 0 ∧ falR p a ∧ a < e) from fun h => h.elim h1 h2)]
  have g1 : 0 ≤ vR p a := Rat.not_lt.1 h1
  by_cases h3 : vR p e < 0
  · have hlt : a < e := Rat.lt_of_le_of_ne hae fun q => by subst q; exact h1 h3
    have hbe : belR p a e := belR_of hlt hae Rat.le_refl h3
    rw [if_pos hbe, if_pos h3]
    congr 1
    refine fir_enc ha he Rat.le_refl hbe fun t => ?_
    constructor
    · rintro (h4 | ⟨h4, h5⟩) h6
      · refine Rat.not_lt.2 ?_ h6.1
        unfold cutR
        rw [if_neg (Rat.not_lt.2 (Rat.le_trans h4 hae))]
        exact h4
      · have hcut : cutR e t = t := by unfold cutR; rw [if_neg (Rat.not_lt.2 h4)]
        rw [hcut] at h6
        obtain ⟨q0, s, q1, q2, q3⟩ := belR_to h6
        obtain ⟨d1, d2, d3⟩ := dip q1 q2 g1 q3 h5
        have d4 := vR_step p t e
        have d5 := Rat.mul_nonneg (a := e - t) (b := sR p t + p.c * (e - t)) (by grind) (by
          have := Rat.mul_nonneg (a := p.c) (b := e - t) (Rat.le_of_lt d1) (by grind)
          grind)
        grind
    · intro h4
      by_cases h5 : t ≤ a
      · exact .inl h5
      · refine .inr ?_
        have h5' := Rat.not_le.1 h5
        by_cases h6 : e < t
        · exfalso
          apply h4
          unfold cutR
          rw [if_pos h6]
          exact hbe
        · have hcut : cutR e t = t := by unfold cutR; rw [if_neg h6]
          rw [hcut] at h4
          exact ⟨Rat.not_lt.1 h6, Rat.not_lt.1 fun h7 => h4 (belR_of h5' (Rat.le_of_lt h5') Rat.le_refl h7)⟩
  rw [if_neg h3]
  have g2 : 0 ≤ vR p e := Rat.not_lt.1 h3
  by_cases hc : p.c.num ≤ 0
  · rw [if_pos hc, if_neg]
    intro h
    obtain ⟨q0, s, q1, q2, q3⟩ := belR_to h
    have := (dip q1 q2 g1 q3 g2).1
    exact absurd this (Rat.not_lt.2 ((num_le_iff _).1 hc))
  · rw [if_neg hc]
    have hcp : 0 < p.c := Rat.not_le.1 fun h => hc ((num_le_iff _).2 h)
    by_cases h4 : a < lowX p ∧ lowX p < e ∧ vR p (lowX p) < 0
    · obtain ⟨h4, h5, h6⟩ := h4
      have hlt : a < e := rlt_le h4 (Rat.le_of_lt h5)
      have hbe : belR p a e := belR_of hlt (Rat.le_of_lt h4) (Rat.le_of_lt h5) h6
      rw [if_pos hbe, if_pos (show a < lowX p ∧ lowX p < e ∧ vR p (lowX p) < 0 from ⟨h4, h5, h6⟩)]
      congr 1
      refine fir_enc ha he (Rat.le_of_lt h5) hbe fun t => ?_
      constructor
      · rintro (h7 | ⟨h7, h8⟩) h9
        · refine Rat.not_lt.2 ?_ h9.1
          unfold cutR
          rw [if_neg (Rat.not_lt.2 (Rat.le_trans h7 hae))]
          exact h7
        · have hcut : cutR e t = t := by unfold cutR; rw [if_neg (Rat.not_lt.2 (Rat.le_trans h7 (Rat.le_of_lt h5)))]
          rw [hcut] at h9
          obtain ⟨q0, s, q1, q2, q3⟩ := belR_to h9
          exact Rat.not_lt.2 h7 ((sR_pos_iff hcp t).1 (dip q1 q2 g1 q3 h8).2.2)
      · intro h7
        by_cases h8 : t ≤ a
        · exact .inl h8
        · refine .inr ?_
          have h8' := Rat.not_le.1 h8
          by_cases h9 : lowX p < t
          · exfalso
            apply h7
            have : lowX p ≤ cutR e t := by
              unfold cutR
              split
              · exact Rat.le_of_lt h5
              · exact Rat.le_of_lt h9
            exact belR_of (rlt_le h4 this) (Rat.le_of_lt h4) this h6
          · have h9' := Rat.not_lt.1 h9
            have hcut : cutR e t = t := by unfold cutR; rw [if_neg (Rat.not_lt.2 (Rat.le_trans h9' (Rat.le_of_lt h5)))]
            rw [hcut] at h7
            exact ⟨h9', Rat.not_lt.1 fun q => h7 (belR_of h8' (Rat.le_of_lt h8') Rat.le_refl q)⟩
    · rw [if_neg h4, if_neg]
      intro h
      obtain ⟨q0, s, q1, q2, q3⟩ := belR_to h
      obtain ⟨d1, d2, d3⟩ := dip q1 q2 g1 q3 g2
      refine h4 ⟨(sR_neg_iff hcp a).1 d2, (sR_pos_iff hcp e).1 d3, ?_⟩
      have k1 := disc p s
      have k2 := (Rat.mul_neg_iff_of_pos_left hcp (b := vR p s)).2 q3
      have k3 := sq_nonneg (sR p s)
      exact (disc_low hcp).1 (by grind)
/-! ### The pieces one after the other -/
theorem pcAt_cons (x : PcQ) (l : List PcQ) (i : Nat) : pcAt (x :: l) (i + 1) = pcAt l i := by unfold pcAt; simp
theorem allQ_at (l : List PcQ) (fr : Rat) (i : Nat) : pcAt (allQ l fr) i = rfP l fr ((i : Int) - 1) := by
  unfold allQ rfP
  cases i with
  | zero => rw [if_pos (by decide)]; rfl
  | succ i => rw [if_neg (by omega), pcAt_cons, show (((i + 1 : Nat) : Int) - 1).toNat = i by omega]
theorem ptA_at (l : List PcQ) (fr : Rat) (i : Nat) : ptA (allQ l fr) fr i = rfB l fr ((i : Int) - 1) := by
  unfold ptA rfB
  cases i with
  | zero => rw [if_neg (fun h => absurd h.1 (by decide)), if_neg (fun h => absurd h.1 (by decide))]
  | succ i =>
    have e : (((i + 1 : Nat) : Int) - 1).toNat = i := by omega
    rw [e, allQ, pcAt_cons]
    by_cases h : fr < (pcAt l i).f
    · rw [if_pos ⟨by omega, h⟩, if_pos ⟨by omega, h⟩]
    · rw [if_neg fun q => h q.2, if_neg fun q => h q.2]
theorem ptB_at (l : List PcQ) (fr te : Rat) (i : Nat) : ptB (allQ l fr) te i = rfE l te ((i : Int) - 1) := by
  unfold ptB rfE
  have e : ((i : Int) - 1 + 1).toNat = i := by omega
  have e2 : (allQ l fr).length = l.length + 1 := rfl
  rw [e, e2, allQ, pcAt_cons]
  by_cases h : i < l.length ∧ (pcAt l i).f < te
  · rw [if_pos ⟨by omega, h.2⟩, if_pos ⟨by omega, h.2⟩]
  · rw [if_neg fun q => h ⟨by omega, q.2⟩, if_neg fun q => h ⟨by omega, q.2⟩]
theorem rfB_bds {l : List PcQ} {fr te : Rat} (hs : sortC l) (hle : fr ≤ te) {k : Int} (h1 : rpI l fr ≤ k) (h2 : k ≤ rpI l te) :
    fr ≤ rfB l fr k ∧ rfB l fr k ≤ te ∧ (k + 1 < l.length → rfB l fr k < (pcAt l (k + 1).toNat).f) := by
  obtain ⟨r1, r2⟩ := rpI_range l fr
  obtain ⟨r3, r4⟩ := rpI_range l te
  by_cases e : rpI l fr = k
  · rw [← e, rfB_at hs]
    refine ⟨Rat.le_refl, hle, fun h4 => Rat.not_le.1 fun h5 => ?_⟩
    have := (rp_iff hs fr (i := (rpI l fr + 1).toNat) (by omega)).1 h5
    omega
  · obtain ⟨i, rfl⟩ : ∃ i : Nat, k = i := ⟨k.toNat, by omega⟩
    obtain ⟨h4, h5⟩ := rfB_above hs (fr := fr) (i := i) (by omega) (by omega)
    rw [h4]
    refine ⟨Rat.le_of_lt h5, (rp_iff hs te (by omega)).2 h2, fun h6 => ?_⟩
    rw [show ((i : Int) + 1).toNat = i + 1 by omega]
    exact hs i (by omega)
theorem ptOut_iff {l : List PcQ} {fr te : Rat} (hs : sortC l) (hle : fr ≤ te) {i : Nat} (hi : i ≤ l.length) : ¬ ptOut (allQ l fr) fr te i ↔ rpI l fr ≤ (i : Int) - 1 ∧ (i : Int) - 1 ≤ rpI l te := by
  obtain ⟨r1, r2⟩ := rpI_range l fr
  obtain ⟨r3, r4⟩ := rpI_range l te
  have e2 : (allQ l fr).length = l.length + 1 := rfl
  unfold ptOut
  rw [ptA_at, e2, show pcAt (allQ l fr) (i + 1) = pcAt l i from pcAt_cons _ _ _]
  have hge : fr ≤ rfB l fr ((i : Int) - 1) := by
    unfold rfB
    split
    · rename_i h; exact Rat.le_of_lt h.2
    · exact Rat.le_refl
  constructor
  · intro h
    constructor
    · rcases Int.lt_or_le ((i : Int) - 1) (rpI l fr) with h1 | h1
      · exfalso
        have h2 : (pcAt l i).f ≤ fr := (rp_iff hs fr (i := i) (by omega)).2 (by omega)
        exact h (.inr ⟨by omega, Rat.le_trans h2 hge⟩)
      · exact h1
    · rcases Int.lt_or_le (rpI l te) ((i : Int) - 1) with h1 | h1
      · exfalso
        apply h
        refine .inl ?_
        have h2 : te < (pcAt l (i - 1)).f := Rat.not_le.1 fun h3 => by have := (rp_iff hs te (i := i - 1) (by omega)).1 h3; omega
        unfold rfB
        rw [show ((i : Int) - 1).toNat = i - 1 by omega, if_pos ⟨by omega, rle_lt hle h2⟩]
        exact h2
      · exact h1
  · rintro ⟨h1, h2⟩ h
    obtain ⟨b1, b2, b3⟩ := rfB_bds hs hle h1 h2
    rcases h with h | h
    · exact Rat.not_lt.2 b2 h
    · have := b3 (by omega)
      rw [show ((i : Int) - 1 + 1).toNat = i by omega] at this
      exact Rat.not_lt.2 h.2 this
theorem stepF_at {l : List PcQ} {fr te : Rat} (hs : sortC l) (hle : fr ≤ te) (hr1 : rangP fr) (hr2 : rangP te) {i : Nat} (hi : i ≤ l.length) :
    stepF (allQ l fr) fr te i = if rpI l fr ≤ (i : Int) - 1 ∧ (i : Int) - 1 ≤ rpI l te then rfStep l fr te ((i : Int) - 1) else none := by
  unfold stepF
  by_cases h : rpI l fr ≤ (i : Int) - 1 ∧ (i : Int) - 1 ≤ rpI l te
  · rw [if_neg ((ptOut_iff hs hle hi).2 h), if_pos h, allQ_at, ptA_at, ptB_at, rfStep]
    obtain ⟨b1, b2, b3⟩ := rfB_bds hs hle h.1 h.2
    have b4 : rfB l fr ((i : Int) - 1) ≤ rfE l te ((i : Int) - 1) ∧ rfE l te ((i : Int) - 1) ≤ te := by
      unfold rfE
      split
      · rename_i h4; exact ⟨Rat.le_of_lt (b3 h4.1), Rat.le_of_lt h4.2⟩
      · exact ⟨b2, Rat.le_refl⟩
    refine step_same ⟨Rat.le_trans hr1.1 b1, Rat.le_trans b2 hr2.2⟩ ⟨Rat.le_trans hr1.1 (Rat.le_trans b1 b4.1), Rat.le_trans b4.2 hr2.2⟩ b4.1
  · rw [if_pos (Decidable.byContradiction fun q => h ((ptOut_iff hs hle hi).1 q)), if_neg h]
theorem scan_same {l : List PcQ} {fr te : Rat} (hs : sortC l) (hle : fr ≤ te) (hr1 : rangP fr) (hr2 : rangP te) : ∀ i : Nat, i ≤ l.length + 1 → scanF (allQ l fr) fr te i = rfScan l fr te (min ((i : Int) - 1 - rpI l fr).toNat (rfN l fr te))
  | 0, _ => by
    obtain ⟨r1, r2⟩ := rpI_range l fr
    rw [show ((0 : Nat) : Int) - 1 - rpI l fr = -1 - rpI l fr by omega, show (-1 - rpI l fr).toNat = 0 by omega, Nat.zero_min]; rfl
  | i + 1, hi => by
    obtain ⟨r1, r2⟩ := rpI_range l fr
    have hN : rfN l fr te = (rpI l te - rpI l fr + 1).toNat := rfl
    rw [scanF, scan_same hs hle hr1 hr2 i (by omega), stepF_at hs hle hr1 hr2 (by omega)]
    by_cases h : rpI l fr ≤ (i : Int) - 1 ∧ (i : Int) - 1 ≤ rpI l te
    · rw [if_pos h, show min (((i + 1 : Nat) : Int) - 1 - rpI l fr).toNat (rfN l fr te) = min ((i : Int) - 1 - rpI l fr).toNat (rfN l fr te) + 1 by omega, rfScan]
      rw [show rpI l fr + ((min ((i : Int) - 1 - rpI l fr).toNat (rfN l fr te) : Nat) : Int) = (i : Int) - 1 by omega]
      cases rfScan l fr te (min ((i : Int) - 1 - rpI l fr).toNat (rfN l fr te)) <;> rfl
    · rw [if_neg h, show min (((i + 1 : Nat) : Int) - 1 - rpI l fr).toNat (rfN l fr te) = min ((i : Int) - 1 - rpI l fr).toNat (rfN l fr te) by omega]
      split
      · rename_i h2; rw [h2]
      · rename_i h2; rw [h2]
theorem first_same {l : List PcQ} {fr te : Rat} (hs : sortC l) (hle : fr ≤ te) (hr1 : rangP fr) (hr2 : rangP te) : firstA l fr te = rfFirst l fr te := by
  obtain ⟨r1, r2⟩ := rpI_range l fr
  obtain ⟨r3, r4⟩ := rpI_range l te
  have hN : rfN l fr te = (rpI l te - rpI l fr + 1).toNat := rfl
  unfold firstA rfFirst
  rw [show (allQ l fr).length = l.length + 1 from rfl, scan_same hs hle hr1 hr2 _ (Nat.le_refl _), show min (((l.length + 1 : Nat) : Int) - 1 - rpI l fr).toNat (rfN l fr te) = rfN l fr te by omega]
  cases rfScan l fr te (rfN l fr te) <;> rfl
end Go.Proofs.YtgegcgfdffmoeaaGreat
