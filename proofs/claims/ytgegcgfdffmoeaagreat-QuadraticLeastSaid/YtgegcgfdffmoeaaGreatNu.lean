/- Plain facts: the least value by the program is the least value by the reference. No program. No conditions but those of each statement. | Plain facts: the least value by the program is the least value by the reference, the second half. No program. No conditions but those of each statement. -/
import Derived.Test.YtgegcgfdffmoeaaGreatNt
import Derived.Test.YtgegcgfdffmoeaaGreatNm
set_option linter.unusedSimpArgs false
namespace Go.Proofs.YtgegcgfdffmoeaaGreat
set_option linter.unusedVariables false
/-! ### The least of a list, none if there is a none -/
def minS (a o : Option Rat) : Option Rat := a.bind fun m => rlIn m o
def minO : List (Option Rat) → Option Rat
  | [] => none
  | o :: L => L.foldl minS o
theorem minO_app {L : List (Option Rat)} (h : L ≠ []) (M : List (Option Rat)) : minO (L ++ M) = M.foldl minS (minO L) := by
  cases L with
  | nil => exact absurd rfl h
  | cons o L => simp only [minO, List.cons_append, List.foldl_append]
theorem minO_snoc {L : List (Option Rat)} (h : L ≠ []) (o : Option Rat) : minO (L ++ [o]) = minS (minO L) o := minO_app h [o]
theorem foldl_none (M : List (Option Rat)) : M.foldl minS none = none := by
  induction M with
  | nil => rfl
  | cons o M ih => exact ih
theorem foldl_spec : ∀ (M : List (Option Rat)) (m : Rat), (none ∈ M → M.foldl minS (some m) = none) ∧ (none ∉ M → ∃ r, M.foldl minS (some m) = some r ∧ (r = m ∨ some r ∈ M) ∧ r ≤ m ∧ ∀ q, some q ∈ M → r ≤ q)
  | [], m => ⟨fun h => by simp at h, fun _ => ⟨m, rfl, .inl rfl, Rat.le_refl, fun q h => by simp at h⟩⟩
  | none :: M, m => ⟨fun _ => foldl_none M, fun h => absurd (List.mem_cons_self) h⟩
  | some x :: M, m => by
    have ih := foldl_spec M (minQ m x)
    constructor
    · intro h
      rcases List.mem_cons.1 h with h | h
      · cases h
      · exact ih.1 h
    · intro h
      obtain ⟨r, h1, h2, h3, h4⟩ := ih.2 fun h' => h (List.mem_cons_of_mem _ h')
      have hm : minQ m x ≤ m ∧ minQ m x ≤ x ∧ (minQ m x = m ∨ minQ m x = x) := by
        unfold minQ
        split
        · rename_i e; exact ⟨Rat.le_of_lt e, Rat.le_refl, .inr rfl⟩
        · rename_i e; exact ⟨Rat.le_refl, Rat.not_lt.1 e, .inl rfl⟩
      refine ⟨r, h1, ?_, Rat.le_trans h3 hm.1, fun q hq => ?_⟩
      · rcases h2 with h2 | h2
        · rcases hm.2.2 with e | e
          · exact .inl (h2.trans e)
          · exact .inr (by rw [h2, e]; exact List.mem_cons_self)
        · exact .inr (List.mem_cons_of_mem _ h2)
      · rcases List.mem_cons.1 hq with hq | hq
        · injection hq with hq
          subst hq
          exact Rat.le_trans h3 hm.2.1
        · exact h4 q hq
theorem minO_none {L : List (Option Rat)} (h : none ∈ L) : minO L = none := by
  cases L with
  | nil => rfl
  | cons o L =>
    cases o with
    | none => exact foldl_none L
    | some m =>
      rcases List.mem_cons.1 h with h | h
      · cases h
      · exact (foldl_spec L m).1 h
theorem minO_some {L : List (Option Rat)} (h0 : L ≠ []) (h : none ∉ L) : ∃ r, minO L = some r ∧ some r ∈ L ∧ ∀ q, some q ∈ L → r ≤ q := by
  cases L with
  | nil => exact absurd rfl h0
  | cons o L =>
    cases o with
    | none => exact absurd List.mem_cons_self h
    | some m =>
      obtain ⟨r, h1, h2, h3, h4⟩ := (foldl_spec L m).2 fun h' => h (List.mem_cons_of_mem _ h')
      refine ⟨r, h1, ?_, fun q hq => ?_⟩
      · rcases h2 with h2 | h2
        · rw [h2]; exact List.mem_cons_self
        · exact List.mem_cons_of_mem _ h2
      · rcases List.mem_cons.1 hq with hq | hq
        · injection hq with hq; subst hq; exact h3
        · exact h4 q hq
theorem minO_eq {L M : List (Option Rat)} (hL : L ≠ []) (hM : M ≠ []) (h1 : none ∈ L ↔ none ∈ M) (h2 : none ∉ L → ∀ q, some q ∈ L ↔ some q ∈ M) : minO L = minO M := by
  by_cases h : none ∈ L
  · rw [minO_none h, minO_none (h1.1 h)]
  · obtain ⟨r, a1, a2, a3⟩ := minO_some hL h
    obtain ⟨s, b1, b2, b3⟩ := minO_some hM (fun e => h (h1.2 e))
    rw [a1, b1]
    have := a3 s ((h2 h s).2 b2)
    have := b3 r ((h2 h r).1 a2)
    congr 1
    exact Rat.le_antisymm (by assumption) (by assumption)
/-! ### What both reckon -/
def valO (p : PcQ) (u : Rat) : Option Rat := if okV p u then some (valR p u) else none
def xP (p : PcQ) (a b : Rat) : List (Option Rat) :=
  if ¬ Fits (2 * p.c) then [none] else if ¬ Fits (-p.b / (2 * p.c)) then [none] else if ¬ Fits (a - p.f) then [none]
  else if a - p.f < -p.b / (2 * p.c) then (if ¬ Fits (b - p.f) then [none] else if -p.b / (2 * p.c) < b - p.f then [valO p (-p.b / (2 * p.c))] else []) else []
def P1 (l : List PcQ) (fr te : Rat) (i : Nat) : List (Option Rat) := if fr < (pcAt l i).f ∧ (pcAt l i).f ≤ te then [some (pcAt l i).a, rlVal l ((i : Int) - 1) (pcAt l i).f] else []
def P2 (l : List PcQ) (fr te : Rat) (i : Nat) : List (Option Rat) := if lsOut l fr te i then [] else xP (pcAt l i) (lsA l fr i) (ptB l te i)
def LP (l : List PcQ) (fr te : Rat) : Nat → List (Option Rat)
  | 0 => [rlVal l (rpI l fr) fr, rlVal l (rpI l te) te]
  | i + 1 => LP l fr te i ++ P1 l fr te i ++ P2 l fr te i
theorem LP_ne (l : List PcQ) (fr te : Rat) (i : Nat) : LP l fr te i ≠ [] := by
  induction i with
  | zero => simp [LP]
  | succ i ih => simp [LP, ih]
theorem mem_LP {l : List PcQ} {fr te : Rat} {o : Option Rat} : ∀ n, (o ∈ LP l fr te n ↔ o = rlVal l (rpI l fr) fr ∨ o = rlVal l (rpI l te) te ∨ ∃ i, i < n ∧ (o ∈ P1 l fr te i ∨ o ∈ P2 l fr te i))
  | 0 => by simp [LP]
  | n + 1 => by
    rw [LP, List.mem_append, List.mem_append, mem_LP n]
    constructor
    · rintro (((h | h | ⟨i, hi, h⟩) | h) | h)
      · exact .inl h
      · exact .inr (.inl h)
      · exact .inr (.inr ⟨i, by omega, h⟩)
      · exact .inr (.inr ⟨n, by omega, .inl h⟩)
      · exact .inr (.inr ⟨n, by omega, .inr h⟩)
    · rintro (h | h | ⟨i, hi, h⟩)
      · exact .inl (.inl (.inl h))
      · exact .inl (.inl (.inr (.inl h)))
      · by_cases e : i = n
        · subst e
          rcases h with h | h
          · exact .inl (.inr h)
          · exact .inr h
        · exact .inl (.inl (.inr (.inr ⟨i, by omega, h⟩)))
/-- The value at a time, as the program reckons it, with its error. -/
theorem at_rlVal (l : List PcQ) (t : Rat) (hs : sortC l) : (∀ w, rlVal l (rpI l t) t = some w → atQ l t = w ∧ ∀ e, atE l t e = e) ∧ (rlVal l (rpI l t) t = none → atE l t 0 = 5) := by
  rw [← pcI_rpI hs t]
  unfold rlVal atQ atE
  by_cases h : pcI l t < 0
  · rw [if_pos h, if_pos h]
    refine ⟨fun w hw => ?_, fun h => by cases h⟩
    injection hw with hw
    exact ⟨hw, fun e => if_pos h⟩
  · rw [if_neg h, if_neg h]
    by_cases h1 : okA (pcAt l (pcI l t).toNat) t
    · rw [if_pos h1]
      refine ⟨fun w hw => ?_, fun h => by cases h⟩
      injection hw with hw
      rw [kQ_ok h1.1]
      refine ⟨by rw [(val_okV h1.2 0).1]; exact hw, fun e => ?_⟩
      rw [if_neg h, kE_ok h1.1, (val_okV h1.2 e).2]
    · rw [if_neg h1]
      refine ⟨fun w hw => (by cases hw), fun _ => ?_⟩
      rw [if_neg h]
      by_cases h2 : Fits (t - (pcAt l (pcI l t).toNat).f)
      · rw [kQ_ok h2, kE_ok h2]
        exact val_bad fun h3 => h1 ⟨h2, h3⟩
      · rw [kE_bad h2, valE_five]
theorem atE_five (l : List PcQ) (t : Rat) : atE l t 5 = 5 := by
  unfold atE
  split
  · rfl
  · rw [kE_five, valE_five]
theorem bef_rlVal (l : List PcQ) (i : Nat) : (∀ w, rlVal l ((i : Int) - 1) (pcAt l i).f = some w → bef l i = w ∧ befE l i 0 = 0) ∧ (rlVal l ((i : Int) - 1) (pcAt l i).f = none → befE l i 0 = 5) := by
  unfold rlVal bef befE
  cases i with
  | zero =>
    rw [if_pos (by decide)]
    refine ⟨fun w hw => ?_, fun h => by cases h⟩
    injection hw with hw
    exact ⟨hw, rfl⟩
  | succ i =>
    have e : (((i + 1 : Nat) : Int) - 1).toNat = i := by omega
    rw [if_neg (show ¬ ((i + 1 : Nat) : Int) - 1 < 0 by omega), if_pos (show 0 < i + 1 by omega), if_pos (show 0 < i + 1 by omega), e, Nat.add_sub_cancel]
    by_cases h1 : okA (pcAt l i) (pcAt l (i + 1)).f
    · rw [if_pos h1]
      refine ⟨fun w hw => ?_, fun h => by cases h⟩
      injection hw with hw
      rw [kQ_ok h1.1, kE_ok h1.1, (val_okV h1.2 0).1, (val_okV h1.2 0).2]
      exact ⟨hw, rfl⟩
    · rw [if_neg h1]
      refine ⟨fun w hw => (by cases hw), fun _ => ?_⟩
      by_cases h2 : Fits ((pcAt l (i + 1)).f - (pcAt l i).f)
      · rw [kQ_ok h2, kE_ok h2]
        exact val_bad fun h3 => h1 ⟨h2, h3⟩
      · rw [kE_bad h2, valE_five]
theorem befE_five (l : List PcQ) (i : Nat) : befE l i 5 = 5 := by
  unfold befE
  split
  · rw [kE_five, valE_five]
  · rfl
/-! ### The program's loop -/
/-- What the program holds, and what it has seen. -/
def lsInv (L : List (Option Rat)) (s : LS) : Prop := s.e = 0 ∧ minO L = some s.m ∨ s.e = 5 ∧ none ∈ L
theorem lsVE_five (p : PcQ) : lsVE p 5 = 5 := by
  unfold lsVE
  split
  · exact kE_five _
  · rw [kE_five, kE_five]
theorem ls1_inv {l : List PcQ} {fr te : Rat} {i : Nat} {L : List (Option Rat)} {s : LS} (hL : L ≠ []) (h : lsInv L s) : lsInv (L ++ P1 l fr te i) (ls1 l fr te i s) := by
  unfold ls1 P1
  by_cases hc : fr < (pcAt l i).f ∧ (pcAt l i).f ≤ te
  · rw [if_pos hc, if_pos hc]
    obtain ⟨b1, b2⟩ := bef_rlVal l i
    rcases h with ⟨h1, h2⟩ | ⟨h1, h2⟩
    · cases hv : rlVal l ((i : Int) - 1) (pcAt l i).f with
      | none => exact .inr ⟨by dsimp only; rw [h1]; exact b2 hv, by simp⟩
      | some w =>
        obtain ⟨b3, b4⟩ := b1 w hv
        refine .inl ⟨by dsimp only; rw [h1]; exact b4, ?_⟩
        rw [minO_app hL, h2, b3]
        rfl
    · exact .inr ⟨by dsimp only; rw [h1]; exact befE_five l i, by simp [h2]⟩
  · rw [if_neg hc, if_neg hc, List.append_nil]
    exact h
theorem ls2_inv {l : List PcQ} {fr te : Rat} {i : Nat} {L : List (Option Rat)} {s : LS} (hL : L ≠ []) (h : lsInv L s) :
    lsInv (L ++ P2 l fr te i) (ls2 l fr te i s).1 ∧ ((ls2 l fr te i s).2 = true → (ls2 l fr te i s).1.e = 5) := by
  unfold ls2 P2
  by_cases ho : lsOut l fr te i
  · rw [if_pos ho, if_pos ho, List.append_nil]
    exact ⟨h, fun h => by cases h⟩
  rw [if_neg ho, if_neg ho]
  have hc : 0 < (pcAt l i).c.num := by
    rcases Int.lt_or_le 0 (pcAt l i).c.num with h | h
    · exact h
    · exact absurd (.inr (.inr h)) ho
  generalize pcAt l i = p at *
  generalize lsA l fr i = a at *
  generalize ptB l te i = b at *
  clear ho
  have hne : 2 * p.c ≠ 0 := fun h => by
    have : p.c = 0 := by grind
    rw [this] at hc
    exact absurd hc (by decide)
  rcases h with ⟨h1, h2⟩ | ⟨h1, h2⟩
  · rw [h1]
    unfold xP
    by_cases f1 : Fits (2 * p.c)
    · have e1 : lsV p = kQ (-p.b / (2 * p.c)) := by unfold lsV; rw [kQ_ok f1, if_neg hne]
      have e2 : lsVE p 0 = kE (-p.b / (2 * p.c)) 0 := by unfold lsVE; rw [kQ_ok f1, if_neg hne, kE_ok f1]
      rw [if_neg (show ¬ ¬ Fits (2 * p.c) from fun h => h f1), e2]
      by_cases f2 : Fits (-p.b / (2 * p.c))
      · rw [kQ_ok f2] at e1
        rw [if_neg (show ¬ ¬ Fits (-p.b / (2 * p.c)) from fun h => h f2), kE_ok f2, if_neg (show ¬ (0 : Int) ≠ 0 from fun h => h rfl)]
        refine ⟨?_, fun h => by cases h⟩
        unfold ls3
        rw [e1]
        generalize -p.b / (2 * p.c) = v at *
        by_cases f3 : Fits (a - p.f)
        · rw [if_neg (show ¬ ¬ Fits (a - p.f) from fun h => h f3), kQ_ok f3, kE_ok f3]
          by_cases g1 : a - p.f < v
          · rw [if_pos g1, if_pos g1]
            by_cases f4 : Fits (b - p.f)
            · rw [if_neg (show ¬ ¬ Fits (b - p.f) from fun h => h f4), kQ_ok f4, kE_ok f4]
              by_cases g2 : v < b - p.f
              · rw [if_pos g2, if_pos g2]
                unfold valO
                by_cases f5 : okV p v
                · rw [if_pos f5, (val_okV f5 0).1, (val_okV f5 0).2]
                  exact .inl ⟨rfl, by rw [minO_snoc hL, h2]; rfl⟩
                · rw [if_neg f5, val_bad f5]
                  exact .inr ⟨rfl, by simp⟩
              · rw [if_neg g2, if_neg g2, List.append_nil]
                exact .inl ⟨rfl, h2⟩
            · rw [if_pos (show ¬ Fits (b - p.f) from f4), kE_bad f4]
              refine .inr ⟨?_, by simp⟩
              split
              · exact valE_five _ _
              · rfl
          · rw [if_neg g1, if_neg g1, List.append_nil]
            exact .inl ⟨rfl, h2⟩
        · rw [if_pos (show ¬ Fits (a - p.f) from f3), kE_bad f3]
          refine .inr ⟨?_, by simp⟩
          split
          · split
            · dsimp only
              rw [kE_five]; exact valE_five _ _
            · exact kE_five _
          · rfl
      · rw [if_pos (show ¬ Fits (-p.b / (2 * p.c)) from f2), kE_bad f2, if_pos (show (5 : Int) ≠ 0 by decide)]
        exact ⟨.inr ⟨rfl, by simp⟩, fun _ => rfl⟩
    · have e2 : lsVE p 0 = 5 := by unfold lsVE; rw [show kQ (2 * p.c) = 0 from if_neg f1, if_pos rfl, kE_bad f1]
      rw [if_pos (show ¬ Fits (2 * p.c) from f1), e2, if_pos (show (5 : Int) ≠ 0 by decide)]
      exact ⟨.inr ⟨rfl, by simp⟩, fun _ => rfl⟩
  · rw [h1, lsVE_five, if_pos (show (5 : Int) ≠ 0 by decide)]
    exact ⟨.inr ⟨rfl, by simp [h2]⟩, fun _ => rfl⟩
theorem lsK_inv (l : List PcQ) (fr te : Rat) (hs : sortC l) : ∀ n, lsInv (LP l fr te n) (lsK l fr te n).1 ∧ ((lsK l fr te n).2 = true → (lsK l fr te n).1.e = 5)
  | 0 => by
    refine ⟨?_, fun h => by cases h⟩
    rw [lsK, LP]
    obtain ⟨a1, a2⟩ := at_rlVal l fr hs
    obtain ⟨b1, b2⟩ := at_rlVal l te hs
    unfold lsInv ls0
    dsimp only
    cases hv : rlVal l (rpI l fr) fr with
    | none => exact .inr ⟨by rw [a2 hv, atE_five], by simp⟩
    | some w =>
      cases hx : rlVal l (rpI l te) te with
      | none => exact .inr ⟨by rw [(a1 w hv).2, b2 hx], by simp⟩
      | some x => exact .inl ⟨by rw [(a1 w hv).2, (b1 x hx).2], by rw [(a1 w hv).1, (b1 x hx).1]; rfl⟩
  | n + 1 => by
    obtain ⟨i1, i2⟩ := lsK_inv l fr te hs n
    rw [LP, lsK]
    cases hk : lsK l fr te n with
    | mk s b =>
      rw [hk] at i1 i2
      cases b with
      | true =>
        refine ⟨.inr ⟨i2 rfl, ?_⟩, i2⟩
        rcases i1 with ⟨h1, _⟩ | ⟨_, h2⟩
        · have := i2 rfl
          rw [h1] at this
          cases this
        · simp [h2]
      | false => exact ls2_inv (by simp [LP_ne]) (ls1_inv (LP_ne _ _ _ _) i1)
theorem leastA_minO (l : List PcQ) (fr te : Rat) (hs : sortC l) : leastA l fr te = optA (minO (LP l fr te l.length)) := by
  unfold leastA
  rcases (lsK_inv l fr te hs l.length).1 with ⟨h1, h2⟩ | ⟨h1, h2⟩
  · rw [h1, h2]; rfl
  · rw [h1, minO_none h2, resA_five]; rfl
end Go.Proofs.YtgegcgfdffmoeaaGreat
set_option linter.unusedSimpArgs false
namespace Go.Proofs.YtgegcgfdffmoeaaGreat
set_option linter.unusedVariables false
def vxR (p : PcQ) (b e : Rat) : List (Option Rat) :=
  if ¬ Fits (2 * p.c) then [none] else if ¬ Fits (-p.b / (2 * p.c)) then [none] else if -p.b / (2 * p.c) ≤ b - p.f ∨ e - p.f ≤ -p.b / (2 * p.c) then [] else [valO p (-p.b / (2 * p.c))]
def xK (l : List PcQ) (fr te : Rat) (k : Int) : List (Option Rat) := if k < 0 ∨ (pcAt l k.toNat).c.num ≤ 0 then [] else vxR (pcAt l k.toNat) (rfB l fr k) (rfE l te k)
def LR (l : List PcQ) (fr te : Rat) : Nat → List (Option Rat)
  | 0 => [rlVal l (rpI l fr) fr]
  | j + 1 => LR l fr te j ++ ([rlVal l (rpI l fr + j) (rfB l fr (rpI l fr + j)), rlVal l (rpI l fr + j) (rfE l te (rpI l fr + j))] ++ xK l fr te (rpI l fr + j))
theorem LR_ne (l : List PcQ) (fr te : Rat) (j : Nat) : LR l fr te j ≠ [] := by
  cases j with
  | zero => simp [LR]
  | succ j => simp [LR]
theorem rlEnd_fold (l : List PcQ) (fr te : Rat) (k : Int) (m : Rat) : rlEnd l k (rfB l fr k) (rfE l te k) m = (xK l fr te k).foldl minS (some m) := by
  unfold rlEnd xK
  split
  · rfl
  · unfold rlVtx vxR
    split
    · rfl
    · split
      · rfl
      · split
        · rfl
        · unfold valO
          split <;> rfl
theorem rlK_minO (l : List PcQ) (fr te : Rat) : ∀ j, rlK l fr te j = minO (LR l fr te j)
  | 0 => rfl
  | j + 1 => by
    rw [rlK, LR, minO_app (LR_ne _ _ _ _), rlK_minO l fr te j]
    cases minO (LR l fr te j) with
    | none => rw [foldl_none]; rfl
    | some m =>
      change rlStep l fr te (rpI l fr + j) m = _
      rw [List.foldl_append, rlStep]
      generalize hk : rpI l fr + (j : Int) = k
      simp only [List.foldl_cons, List.foldl_nil]
      cases h1 : rlVal l k (rfB l fr k) with
      | none => exact (foldl_none _).symm
      | some v =>
        change (rlIn (minQ m v) (rlVal l k (rfE l te k))).bind _ = _
        cases h2 : rlVal l k (rfE l te k) with
        | none => exact (foldl_none _).symm
        | some w => exact rlEnd_fold l fr te k _
theorem mem_LR {l : List PcQ} {fr te : Rat} {o : Option Rat} : ∀ n, (o ∈ LR l fr te n ↔ o = rlVal l (rpI l fr) fr ∨ ∃ j : Nat, j < n ∧ (o = rlVal l (rpI l fr + j) (rfB l fr (rpI l fr + j)) ∨ o = rlVal l (rpI l fr + j) (rfE l te (rpI l fr + j)) ∨ o ∈ xK l fr te (rpI l fr + j)))
  | 0 => by simp [LR]
  | n + 1 => by
    rw [LR, List.mem_append, List.mem_append, mem_LR n]
    constructor
    · rintro ((h | ⟨j, hj, h⟩) | h | h)
      · exact .inl h
      · exact .inr ⟨j, by omega, h⟩
      · rcases List.mem_cons.1 h with h | h
        · exact .inr ⟨n, by omega, .inl h⟩
        · exact .inr ⟨n, by omega, .inr (.inl (List.mem_singleton.1 h))⟩
      · exact .inr ⟨n, by omega, .inr (.inr h)⟩
    · rintro (h | ⟨j, hj, h⟩)
      · exact .inl (.inl h)
      · by_cases e : j = n
        · subst e
          rcases h with h | h | h
          · exact .inr (.inl (by rw [h]; exact List.mem_cons_self))
          · exact .inr (.inl (by rw [h]; exact List.mem_cons_of_mem _ List.mem_cons_self))
          · exact .inr (.inr h)
        · exact .inl (.inr ⟨j, by omega, h⟩)
/-! ### Where the times lie -/
theorem rpN_mono (l : List PcQ) (t : Rat) {m n : Nat} (h : m ≤ n) : rpN l t m ≤ rpN l t n := by
  induction n with
  | zero => obtain rfl : m = 0 := by omega
            exact Nat.le_refl _
  | succ n ih =>
    by_cases e : m = n + 1
    · subst e; exact Nat.le_refl _
    · have := ih (by omega)
      have h2 := rpN_le l t n
      rw [rpN]
      split <;> omega
theorem rpN_low {l : List PcQ} {t : Rat} : ∀ {n i : Nat}, i < rpN l t n → (pcAt l i).f ≤ t
  | 0, i, h => by simp [rpN] at h
  | n + 1, i, h => by
    rw [rpN] at h
    split at h
    · rename_i hc
      by_cases e : i = n
      · subst e; exact hc.2
      · exact rpN_low (n := n) (by rw [hc.1]; omega)
    · exact rpN_low h
theorem rp_iff {l : List PcQ} (hs : sortC l) (t : Rat) {i : Nat} (hi : i < l.length) : (pcAt l i).f ≤ t ↔ (i : Int) ≤ rpI l t := by
  unfold rpI
  constructor
  · intro h
    have h1 := rpN_full hs t i hi h
    have h2 := rpN_mono l t (m := i + 1) (n := l.length) hi
    omega
  · intro h
    exact rpN_low (n := l.length) (by omega)
theorem rp_mono {l : List PcQ} (hs : sortC l) {fr te : Rat} (h : fr ≤ te) : rpI l fr ≤ rpI l te := by
  obtain ⟨r1, r2⟩ := rpI_range l fr
  obtain ⟨r3, r4⟩ := rpI_range l te
  by_cases h0 : rpI l fr < 0
  · omega
  · have h1 := (rp_iff hs fr (i := (rpI l fr).toNat) (by omega)).2 (by omega)
    have := (rp_iff hs te (i := (rpI l fr).toNat) (by omega)).1 (Rat.le_trans h1 h)
    omega
theorem rlt_le {a b c : Rat} (h : a < b) (k : b ≤ c) : a < c := Rat.not_le.1 fun h2 => Rat.not_lt.2 (Rat.le_trans k h2) h
theorem rle_lt {a b c : Rat} (h : a ≤ b) (k : b < c) : a < c := Rat.not_le.1 fun h2 => Rat.not_lt.2 (Rat.le_trans h2 h) k
theorem ptB_rfE (l : List PcQ) (te : Rat) (i : Nat) : ptB l te i = rfE l te i := by
  unfold ptB rfE
  rw [show ((i : Int) + 1).toNat = i + 1 by omega]
  by_cases h : i + 1 < l.length ∧ (pcAt l (i + 1)).f < te
  · rw [if_pos h, if_pos ⟨by omega, h.2⟩]
  · rw [if_neg h, if_neg fun h2 => h ⟨by omega, h2.2⟩]
section
variable {l : List PcQ} {fr te : Rat} (hs : sortC l) (hle : fr ≤ te)
include hs
theorem rfB_at : rfB l fr (rpI l fr) = fr := by
  obtain ⟨r1, r2⟩ := rpI_range l fr
  unfold rfB
  rw [if_neg]
  rintro ⟨h0, h1⟩
  exact Rat.not_lt.2 ((rp_iff hs fr (i := (rpI l fr).toNat) (by omega)).2 (by omega)) h1
theorem rfB_above {i : Nat} (h : rpI l fr < i) (hi : i < l.length) : rfB l fr i = (pcAt l i).f ∧ fr < (pcAt l i).f := by
  have h1 : fr < (pcAt l i).f := Rat.not_le.1 fun h2 => by have := (rp_iff hs fr hi).1 h2; omega
  unfold rfB
  rw [if_pos ⟨by omega, by rw [Int.toNat_natCast]; exact h1⟩, Int.toNat_natCast]
  exact ⟨rfl, h1⟩
theorem rfE_at : rfE l te (rpI l te) = te := by
  obtain ⟨r1, r2⟩ := rpI_range l te
  unfold rfE
  rw [if_neg]
  rintro ⟨h0, h1⟩
  have := (rp_iff hs te (i := (rpI l te + 1).toNat) (by omega)).1 (Rat.le_of_lt h1)
  omega
theorem rfE_below {i : Nat} (h : (i : Int) ≤ rpI l te) : rfE l te ((i : Int) - 1) = (pcAt l i).f ∧ (pcAt l i).f ≤ te := by
  obtain ⟨r1, r2⟩ := rpI_range l te
  have h1 := (rp_iff hs te (i := i) (by omega)).2 h
  unfold rfE
  rw [show (i : Int) - 1 + 1 = i by omega, Int.toNat_natCast]
  refine ⟨?_, h1⟩
  split
  · rfl
  · rename_i hc
    exact Rat.le_antisymm (Rat.not_lt.1 fun h2 => hc ⟨by omega, h2⟩) h1
theorem lsA_rfB {i : Nat} (h : rpI l fr ≤ i) (hi : i < l.length) : lsA l fr i = rfB l fr i := by
  unfold lsA
  by_cases e : rpI l fr = i
  · have h1 := (rp_iff hs fr hi).2 (by omega)
    rw [← e, rfB_at hs]
    split
    · rfl
    · rename_i h2
      exact Rat.le_antisymm h1 (Rat.not_lt.1 h2)
  · obtain ⟨h1, h2⟩ := rfB_above hs (fr := fr) (i := i) (by omega) hi
    rw [if_neg (Rat.not_lt.2 (Rat.le_of_lt h2)), h1]
include hle
theorem lsOut_iff {i : Nat} (hi : i < l.length) : ¬ lsOut l fr te i ↔ rpI l fr ≤ i ∧ (i : Int) ≤ rpI l te ∧ 0 < (pcAt l i).c.num := by
  have hB := ptB_rfE l te i
  constructor
  · intro h
    have hc : 0 < (pcAt l i).c.num := by
      rcases Int.lt_or_le 0 (pcAt l i).c.num with h1 | h1
      · exact h1
      · exact absurd (.inr (.inr h1)) h
    refine ⟨?_, ?_, hc⟩
    · rcases Int.lt_or_le i (rpI l fr) with h1 | h1
      · exfalso
        obtain ⟨r1, r2⟩ := rpI_range l fr
        have h2 : (pcAt l (i + 1)).f ≤ fr := (rp_iff hs fr (i := i + 1) (by omega)).2 (by omega)
        have h3 : (pcAt l i).f < (pcAt l (i + 1)).f := hs i (by omega)
        have hA : lsA l fr i = fr := by unfold lsA; rw [if_pos (rlt_le h3 h2)]
        unfold lsOut at h
        rw [hA] at h
        by_cases h4 : (pcAt l (i + 1)).f < te
        · have hb : ptB l te i = (pcAt l (i + 1)).f := by unfold ptB; rw [if_pos ⟨by omega, h4⟩]
          rw [hb] at h
          by_cases h5 : (pcAt l (i + 1)).f < fr
          · exact h (.inl h5)
          · have := Rat.le_antisymm h2 (Rat.not_lt.1 h5)
            exact h (.inr (.inl ⟨this.symm, by omega, this⟩))
        · have hb : ptB l te i = te := by unfold ptB; rw [if_neg fun h6 => h4 h6.2]
          have h5 := Rat.not_lt.1 h4
          have h6 : (pcAt l (i + 1)).f = fr := Rat.le_antisymm h2 (Rat.le_trans hle h5)
          rw [hb] at h
          have h7 : fr = te := Rat.le_antisymm hle (Rat.le_trans h5 h2)
          exact h (.inr (.inl ⟨h7, by omega, h6⟩))
      · exact h1
    · rcases Int.lt_or_le (rpI l te) i with h1 | h1
      · exfalso
        have h2 : te < (pcAt l i).f := Rat.not_le.1 fun h3 => by have := (rp_iff hs te hi).1 h3; omega
        have hA : lsA l fr i = (pcAt l i).f := by unfold lsA; rw [if_neg (Rat.not_lt.2 (Rat.le_trans hle (Rat.le_of_lt h2)))]
        have hb : ptB l te i ≤ te := by
          unfold ptB
          split
          · rename_i h3; exact Rat.le_of_lt h3.2
          · exact Rat.le_refl
        exact h (.inl (by rw [hA]; exact rle_lt hb h2))
      · exact h1
  · rintro ⟨h1, h2, h3⟩ h
    rw [lsOut, lsA_rfB hs h1 hi, hB] at h
    have hAE : rfB l fr i ≤ rfE l te i ∧ (i + 1 < l.length → rfB l fr i < (pcAt l (i + 1)).f) := by
      have hb1 : rfB l fr i ≤ te ∧ (i + 1 < l.length → rfB l fr i < (pcAt l (i + 1)).f) := by
        by_cases e : rpI l fr = i
        · rw [← e, rfB_at hs]
          refine ⟨hle, fun h4 => Rat.not_le.1 fun h5 => ?_⟩
          have := (rp_iff hs fr h4).1 h5
          omega
        · obtain ⟨h4, h5⟩ := rfB_above hs (fr := fr) (i := i) (by omega) hi
          rw [h4]
          exact ⟨(rp_iff hs te hi).2 h2, fun h6 => hs i h6⟩
      refine ⟨?_, hb1.2⟩
      unfold rfE
      rw [show ((i : Int) + 1).toNat = i + 1 by omega]
      split
      · rename_i h4; exact Rat.le_of_lt (hb1.2 (by omega))
      · exact hb1.1
    rcases h with h | h | h
    · exact Rat.not_lt.2 hAE.1 h
    · have := hAE.2 h.2.1
      rw [h.2.2] at this
      exact absurd this Rat.lt_irrefl
    · omega
end
theorem rlVal_own {l : List PcQ} (hl : okC l) (i : Nat) : rlVal l (i : Int) (pcAt l i).f = some (pcAt l i).a := by
  have ok := pcAt_ok hl i
  unfold rlVal
  rw [if_neg (by omega), Int.toNat_natCast]
  generalize pcAt l i = p at *
  have z : p.f - p.f = 0 := by grind
  have e1 : p.c * 0 = 0 := by grind
  have e2 : p.b + p.c * 0 = p.b := by grind
  have e3 : (p.b + p.c * 0) * 0 = 0 := by grind
  have e4 : p.a + (p.b + p.c * 0) * 0 = p.a := by grind
  rw [if_pos, z, valR, e4]
  rw [okA, z]
  refine ⟨Fits.zero, ?_, ?_, ?_, ?_⟩
  · rw [e1]; exact Fits.zero
  · rw [e2]; exact ok.b
  · rw [e3]; exact Fits.zero
  · rw [e4]; exact ok.a
theorem xP_sub {p : PcQ} {a b : Rat} {o : Option Rat} (h : o ∈ xP p a b) : o ∈ vxR p a b ∨ ¬ Fits (a - p.f) ∨ ¬ Fits (b - p.f) := by
  unfold xP at h
  unfold vxR
  by_cases f1 : ¬ Fits (2 * p.c)
  · rw [if_pos f1] at h ⊢; exact .inl h
  rw [if_neg f1] at h ⊢
  by_cases f2 : ¬ Fits (-p.b / (2 * p.c))
  · rw [if_pos f2] at h ⊢; exact .inl h
  rw [if_neg f2] at h ⊢
  by_cases f3 : ¬ Fits (a - p.f)
  · exact .inr (.inl f3)
  rw [if_neg f3] at h
  by_cases f4 : ¬ Fits (b - p.f)
  · exact .inr (.inr f4)
  split at h
  · rename_i g1
    try rw [if_neg f4] at h
    split at h
    · rename_i g2
      rw [if_neg fun e => e.elim (Rat.not_le.2 g1) (Rat.not_le.2 g2)]
      exact .inl h
    · simp at h
  · simp at h
theorem vxR_sub {p : PcQ} {a b : Rat} {o : Option Rat} (h : o ∈ vxR p a b) : o ∈ xP p a b ∨ none ∈ xP p a b := by
  unfold vxR at h
  unfold xP
  by_cases f1 : ¬ Fits (2 * p.c)
  · rw [if_pos f1] at h ⊢; exact .inl h
  rw [if_neg f1] at h ⊢
  by_cases f2 : ¬ Fits (-p.b / (2 * p.c))
  · rw [if_pos f2] at h ⊢; exact .inl h
  rw [if_neg f2] at h ⊢
  by_cases f3 : ¬ Fits (a - p.f)
  · rw [if_pos f3]; exact .inr (by simp)
  rw [if_neg f3]
  split at h
  · simp at h
  · rename_i g
    rw [if_pos (Rat.not_le.1 fun e => g (.inl e))]
    by_cases f4 : ¬ Fits (b - p.f)
    · rw [if_pos f4]; exact .inr (by simp)
    rw [if_neg f4, if_pos (Rat.not_le.1 fun e => g (.inr e))]
    exact .inl h
theorem rlVal_unfit {l : List PcQ} {i : Nat} {t : Rat} (h : ¬ Fits (t - (pcAt l i).f)) : rlVal l (i : Int) t = none := by
  unfold rlVal
  rw [if_neg (by omega), Int.toNat_natCast, if_neg fun e => h e.1]
theorem LP_LR {l : List PcQ} {fr te : Rat} (hl : okC l) (hs : sortC l) (hle : fr ≤ te) {o : Option Rat} (h : o ∈ LP l fr te l.length) : o ∈ LR l fr te (rfN l fr te) ∨ none ∈ LR l fr te (rfN l fr te) := by
  have hm := rp_mono hs hle
  obtain ⟨r1, r2⟩ := rpI_range l fr
  obtain ⟨r3, r4⟩ := rpI_range l te
  have hN : rfN l fr te = (rpI l te - rpI l fr + 1).toNat := rfl
  have key : ∀ (k : Int) (o : Option Rat), rpI l fr ≤ k → k ≤ rpI l te → (o = rlVal l k (rfB l fr k) ∨ o = rlVal l k (rfE l te k) ∨ o ∈ xK l fr te k) → o ∈ LR l fr te (rfN l fr te) := fun k o h1 h2 h3 =>
    (mem_LR _).2 (.inr ⟨(k - rpI l fr).toNat, by omega, by rw [show rpI l fr + ((k - rpI l fr).toNat : Int) = k by omega]; exact h3⟩)
  rcases (mem_LP _).1 h with h | h | ⟨i, hi, h | h⟩
  · exact .inl ((mem_LR _).2 (.inl h))
  · exact .inl (key (rpI l te) o hm (Int.le_refl _) (.inr (.inl (by rw [rfE_at hs]; exact h))))
  · unfold P1 at h
    split at h
    · rename_i hc
      have k1 : rpI l fr < i := by
        rcases Int.lt_or_le (rpI l fr) i with h1 | h1
        · exact h1
        · exact absurd ((rp_iff hs fr hi).2 h1) (Rat.not_le.2 hc.1)
      have k2 : (i : Int) ≤ rpI l te := (rp_iff hs te hi).1 hc.2
      rcases List.mem_cons.1 h with h | h
      · exact .inl (key i o (by omega) k2 (.inl (by rw [(rfB_above hs k1 hi).1, rlVal_own hl i]; exact h)))
      · exact .inl (key (i - 1) o (by omega) (by omega) (.inr (.inl (by rw [(rfE_below hs k2).1]; exact List.mem_singleton.1 h))))
    · simp at h
  · unfold P2 at h
    split at h
    · simp at h
    · rename_i ho
      obtain ⟨k1, k2, k3⟩ := (lsOut_iff hs hle hi).1 ho
      rw [lsA_rfB hs k1 hi, ptB_rfE l te i] at h
      rcases xP_sub h with h | h | h
      · refine .inl (key i o k1 k2 (.inr (.inr ?_)))
        unfold xK
        rw [Int.toNat_natCast, if_neg (by omega)]
        exact h
      · exact .inr (key i none k1 k2 (.inl (rlVal_unfit h).symm))
      · exact .inr (key i none k1 k2 (.inr (.inl (rlVal_unfit h).symm)))
theorem LR_LP {l : List PcQ} {fr te : Rat} (hl : okC l) (hs : sortC l) (hle : fr ≤ te) {o : Option Rat} (h : o ∈ LR l fr te (rfN l fr te)) : o ∈ LP l fr te l.length ∨ none ∈ LP l fr te l.length := by
  have hm := rp_mono hs hle
  obtain ⟨r1, r2⟩ := rpI_range l fr
  obtain ⟨r3, r4⟩ := rpI_range l te
  have hN : rfN l fr te = (rpI l te - rpI l fr + 1).toNat := rfl
  have key : ∀ (i : Nat) (o : Option Rat), i < l.length → (o ∈ P1 l fr te i ∨ o ∈ P2 l fr te i) → o ∈ LP l fr te l.length := fun i o h1 h2 => (mem_LP _).2 (.inr (.inr ⟨i, h1, h2⟩))
  rcases (mem_LR _).1 h with h | ⟨j, hj, h⟩
  · exact .inl ((mem_LP _).2 (.inl h))
  · obtain ⟨k, hk⟩ : ∃ k, k = rpI l fr + (j : Int) := ⟨_, rfl⟩
    rw [← hk] at h
    have k1 : rpI l fr ≤ k := by omega
    have k2 : k ≤ rpI l te := by omega
    rcases h with h | h | h
    · by_cases e : rpI l fr = k
      · rw [← e, rfB_at hs] at h
        exact .inl ((mem_LP _).2 (.inl h))
      · obtain ⟨i, rfl⟩ : ∃ i : Nat, k = i := ⟨k.toNat, by omega⟩
        have hi : i < l.length := by omega
        obtain ⟨b1, b2⟩ := rfB_above hs (fr := fr) (i := i) (by omega) hi
        rw [b1, rlVal_own hl i] at h
        refine .inl (key i o hi (.inl ?_))
        unfold P1
        rw [if_pos ⟨b2, (rp_iff hs te hi).2 k2⟩, h]
        exact List.mem_cons_self
    · by_cases e : k = rpI l te
      · rw [e, rfE_at hs] at h
        exact .inl ((mem_LP _).2 (.inr (.inl h)))
      · obtain ⟨i, hik⟩ : ∃ i : Nat, k + 1 = i := ⟨(k + 1).toNat, by omega⟩
        have hi : i < l.length := by omega
        obtain ⟨b1, b2⟩ := rfE_below hs (te := te) (i := i) (by omega)
        rw [show k = (i : Int) - 1 by omega, b1] at h
        refine .inl (key i o hi (.inl ?_))
        unfold P1
        rw [if_pos ⟨Rat.not_le.1 fun h2 => by have := (rp_iff hs fr hi).1 h2; omega, b2⟩, h]
        exact List.mem_cons_of_mem _ List.mem_cons_self
    · unfold xK at h
      split at h
      · simp at h
      · rename_i hc
        obtain ⟨i, rfl⟩ : ∃ i : Nat, k = i := ⟨k.toNat, by omega⟩
        have hi : i < l.length := by omega
        rw [Int.toNat_natCast] at h hc
        have ho := (lsOut_iff hs hle hi).2 ⟨k1, k2, by omega⟩
        rw [← lsA_rfB hs k1 hi, ← ptB_rfE l te i] at h
        rcases vxR_sub h with h | h
        · exact .inl (key i o hi (.inr (by unfold P2; rw [if_neg ho]; exact h)))
        · exact .inr (key i none hi (.inr (by unfold P2; rw [if_neg ho]; exact h)))
theorem least_same {l : List PcQ} {fr te : Rat} (hl : okC l) (hs : sortC l) (hle : fr ≤ te) : leastA l fr te = rlA l fr te := by
  rw [leastA_minO l fr te hs, rlA, rlK_minO]
  congr 1
  have h1 : none ∈ LP l fr te l.length ↔ none ∈ LR l fr te (rfN l fr te) := ⟨fun h => (LP_LR hl hs hle h).elim id id, fun h => (LR_LP hl hs hle h).elim id id⟩
  refine minO_eq (LP_ne _ _ _ _) (LR_ne _ _ _ _) h1 fun hn q => ⟨fun h => (LP_LR hl hs hle h).elim id fun h2 => absurd (h1.2 h2) hn, fun h => (LR_LP hl hs hle h).elim id fun h2 => absurd h2 hn⟩
end Go.Proofs.YtgegcgfdffmoeaaGreat
