/- Sums of parts of a list: plain facts. -/
import Derived.Test.YtpjkiljgccjemaaDoorListB
set_option linter.unusedSimpArgs false
namespace Go.Proofs.YtpjkiljgccjemaaDoor

def qsum : List (Int × Int) → Rat
  | [] => 0
  | p :: r => ratV p.1 p.2 + qsum r
theorem qsum_append (a b : List (Int × Int)) : qsum (a ++ b) = qsum a + qsum b := by
  induction a with
  | nil => simp [qsum, Rat.zero_add]
  | cons p r ih => simp only [List.cons_append, qsum, ih, Rat.add_assoc]
theorem qsum_reverse (a : List (Int × Int)) : qsum a.reverse = qsum a := by
  induction a with
  | nil => rfl
  | cons p r ih => rw [List.reverse_cons, qsum_append, ih]; simp only [qsum]; rw [Rat.add_zero, Rat.add_comm]
theorem allV_append (a b : List (Int × Int)) : allV (a ++ b) = (allV a && allV b) := by unfold allV; rw [List.all_append]
theorem allV_reverse (a : List (Int × Int)) : allV a.reverse = allV a := by unfold allV; rw [List.all_reverse]
/-- How a sum ends. -/
theorem sumFrom_ends : ∀ (l : List (Int × Int)) (s : Int × Int), validB s.1 s.2 = true → allV l = true →
    (∃ n d, sumFrom s l = (n, d, 0) ∧ validB n d = true ∧ ratV n d = ratV s.1 s.2 + qsum l) ∨ sumFrom s l = (0, 0, 5)
  | [], s, hs, _ => .inl ⟨s.1, s.2, rfl, hs, by simp [qsum, Rat.add_zero]⟩
  | p :: r, s, hs, hl => by
    have hl' : validB p.1 p.2 = true ∧ allV r = true := by simpa [allV] using hl
    have he := addS_eq hs hl'.1
    by_cases h : (addS s.1 s.2 p.1 p.2).2.2 = 0
    · obtain ⟨_, _, hv, hq⟩ := addS_ok h
      simp only [sumFrom]
      rw [if_pos h]
      rcases sumFrom_ends r ((addS s.1 s.2 p.1 p.2).1, (addS s.1 s.2 p.1 p.2).2.1) hv hl'.2 with ⟨n, d, e1, e2, e3⟩ | e
      · exact .inl ⟨n, d, e1, e2, by rw [e3, hq, qsum, Rat.add_assoc]⟩
      · exact .inr e
    · simp only [sumFrom]
      rw [if_neg h]
      rcases outQ_err (ratV s.1 s.2 + ratV p.1 p.2) with h' | h'
      · rw [he] at h; exact absurd h' h
      · rw [he, h']; exact .inr rfl
theorem sumFrom_append : ∀ (a b : List (Int × Int)) (s : Int × Int) {n d : Int}, sumFrom s (a ++ b) = (n, d, 0) → ∃ n' d', sumFrom s a = (n', d', 0)
  | [], _, s, n, d, _ => ⟨s.1, s.2, rfl⟩
  | p :: r, b, s, n, d, h => by
    simp only [List.cons_append, sumFrom] at h ⊢
    split at h
    · rename_i h1; rw [if_pos h1]; exact sumFrom_append r b _ h
    · rename_i h1; simp only [Prod.mk.injEq] at h; exact absurd h.2.2 h1
theorem valid01 : validB 0 1 = true := by decide
theorem ratV01 : ratV 0 1 = 0 := by decide
/-- How Sum ends. -/
theorem sumS_ends {l : List (Int × Int)} (hl : l.length ≤ 1000) : (∃ n d, sumS l = (n, d, 0) ∧ allV l = true ∧ validB n d = true ∧ ratV n d = qsum l) ∨ (allV l = true ∧ sumS l = (0, 0, 5)) ∨ (allV l = false ∧ sumS l = (0, 0, 1)) := by
  unfold sumS
  cases hv : allV l
  · exact .inr (.inr ⟨rfl, rfl⟩)
  · rw [if_pos rfl, if_neg (by omega)]
    rcases sumFrom_ends l (0, 1) valid01 hv with ⟨n, d, e1, e2, e3⟩ | e
    · exact .inl ⟨n, d, e1, rfl, e2, by rw [e3, ratV01, Rat.zero_add]⟩
    · exact .inr (.inl ⟨rfl, e⟩)
/-- The parts of a list whose sum fits. -/
theorem sum_split {l : List (Int × Int)} {k : Nat} {n d : Int} (hl : l.length ≤ 1000) (h : sumS l = (n, d, 0)) :
    ∃ n1 d1, sumS (l.take k) = (n1, d1, 0) ∧ ((∃ n2 d2, sumS (l.drop k) = (n2, d2, 0) ∧ addS n1 d1 n2 d2 = (n, d, 0)) ∨ sumS (l.drop k) = (0, 0, 5)) ∧ (sumS l.reverse = (0, 0, 5) ∨ sumS l.reverse = (n, d, 0)) := by
  rcases sumS_ends hl with ⟨n', d', e1, e2, e3, e4⟩ | ⟨_, e⟩ | ⟨_, e⟩
  · obtain ⟨rfl, rfl⟩ : n' = n ∧ d' = d := by rw [h] at e1; simp only [Prod.mk.injEq] at e1; exact ⟨e1.1.symm, e1.2.1.symm⟩
    have hat : allV (l.take k ++ l.drop k) = true := by rw [List.take_append_drop]; exact e2
    rw [allV_append, Bool.and_eq_true] at hat
    have hlt : (l.take k).length ≤ 1000 := by simp; omega
    have hld : (l.drop k).length ≤ 1000 := by simp; omega
    have hq : qsum (l.take k) + qsum (l.drop k) = qsum l := by rw [← qsum_append, List.take_append_drop]
    have hlr : l.reverse.length ≤ 1000 := by simpa using hl
    have hw : outQ (qsum l) = (n', d', 0) := by rw [← e4, outQ_ratV e3]
    have hf : ∃ n1 d1, sumS (l.take k) = (n1, d1, 0) := by
      unfold sumS at h ⊢
      rw [if_pos e2, if_neg (by omega)] at h
      rw [if_pos hat.1, if_neg (by omega)]
      exact sumFrom_append (l.take k) (l.drop k) (0, 1) (by rw [List.take_append_drop]; exact h)
    obtain ⟨n1, d1, hf⟩ := hf
    refine ⟨n1, d1, hf, ?_, ?_⟩
    · rcases sumS_ends hld with ⟨n2, d2, f1, f2, f3, f4⟩ | ⟨_, e⟩ | ⟨e, _⟩
      · refine .inl ⟨n2, d2, f1, ?_⟩
        rcases sumS_ends hlt with ⟨n3, d3, g1, g2, g3, g4⟩ | ⟨_, e⟩ | ⟨_, e⟩
        · obtain ⟨rfl, rfl⟩ : n3 = n1 ∧ d3 = d1 := by rw [hf] at g1; simp only [Prod.mk.injEq] at g1; exact ⟨g1.1.symm, g1.2.1.symm⟩
          rw [addS_eq g3 f3, g4, f4, hq, hw]
        · rw [hf] at e; simp at e
        · rw [hf] at e; simp at e
      · exact .inr e
      · rw [hat.2] at e; exact absurd e (by decide)
    · rcases sumS_ends hlr with ⟨n2, d2, f1, f2, f3, f4⟩ | ⟨_, e⟩ | ⟨e, _⟩
      · rw [qsum_reverse, ← e4] at f4
        have := outQ_ratV f3
        rw [f4, outQ_ratV e3] at this
        rw [f1, ← this]; exact .inr rfl
      · exact .inl e
      · rw [allV_reverse, e2] at e; exact absurd e (by decide)
  · rw [h] at e; simp at e
  · rw [h] at e; simp at e
end Go.Proofs.YtpjkiljgccjemaaDoor
