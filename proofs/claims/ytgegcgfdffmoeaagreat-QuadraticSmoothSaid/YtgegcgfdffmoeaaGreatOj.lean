/- Plain laws: smooth curves. No conditions but those of each statement. -/
import Derived.Test.YtgegcgfdffmoeaaGreatOg
set_option linter.unusedSimpArgs false
namespace Go.Proofs.YtgegcgfdffmoeaaGreat
set_option linter.unusedVariables false
def smX (l : List PcQ) (n : Nat) : Prop := (pcAt l 0).b = 0 ∧ ∀ k, k < n → valR (pcAt l k) ((pcAt l (k + 1)).f - (pcAt l k).f) = (pcAt l (k + 1)).a ∧ sloR (pcAt l k) ((pcAt l (k + 1)).f - (pcAt l k).f) = (pcAt l (k + 1)).b
theorem kE_zero {r : Rat} {e : Int} (h : kE r e = 0) : Fits r ∧ e = 0 := by
  unfold kE at h
  split at h
  · exact ⟨by assumption, h⟩
  · split at h
    · cases h
    · contradiction
theorem valE_zero {p : PcQ} {u : Rat} {e : Int} (h : valE p u e = 0) : e = 0 := (kE_zero (kE_zero (kE_zero (kE_zero h).2).2).2).2
theorem sloE_zero {p : PcQ} {u : Rat} {e : Int} (h : sloE p u e = 0) : e = 0 := (kE_zero (kE_zero (kE_zero h).2).2).2
theorem smE_or (l : List PcQ) : ∀ n : Nat, smE l n = 0 ∨ smE l n = 5
  | 0 => .inl rfl
  | n + 1 => by
    show smEnd l (n + 1) (smE l n) = 0 ∨ smEnd l (n + 1) (smE l n) = 5
    exact sloE_or _ _ (valE_or _ _ (kE_or _ (smE_or l n)))
theorem smE_exact (l : List PcQ) : ∀ n : Nat, smE l n = 0 → (smK l n ↔ smX l n)
  | 0, _ => by
    unfold smK smX
    rw [eqF_iff]
    exact ⟨fun h => ⟨h, fun k hk => (by omega)⟩, fun h => h.1⟩
  | n + 1, h => by
    have h' : sloE (pcAt l n) (smU l (n + 1)) (valE (pcAt l n) (smU l (n + 1)) (smE1 l (n + 1) (smE l n))) = 0 := h
    have h2 := sloE_zero h'
    rw [h2] at h'
    have h3 := valE_zero h2
    rw [h3] at h2
    obtain ⟨hF, h4⟩ := kE_zero (r := (pcAt l (n + 1)).f - (pcAt l n).f) h3
    have ih := smE_exact l n h4
    have hu : smU l (n + 1) = (pcAt l (n + 1)).f - (pcAt l n).f := kQ_ok hF
    rw [hu] at h2 h'
    have oV : okV (pcAt l n) ((pcAt l (n + 1)).f - (pcAt l n).f) := Classical.byContradiction fun k => by rw [val_bad k] at h2;cases h2
    have oS : okS (pcAt l n) ((pcAt l (n + 1)).f - (pcAt l n).f) := Classical.byContradiction fun k => by rw [slo_bad k] at h';cases h'
    have hst : smStep l (n + 1) ↔ (valR (pcAt l n) ((pcAt l (n + 1)).f - (pcAt l n).f) = (pcAt l (n + 1)).a ∧ sloR (pcAt l n) ((pcAt l (n + 1)).f - (pcAt l n).f) = (pcAt l (n + 1)).b) := by
      unfold smStep
      rw [eqF_iff, eqF_iff, hu, Nat.add_sub_cancel, (val_okV oV 0).1, (slo_okS oS 0).1]
    rw [smK, ih, hst]
    unfold smX
    constructor
    · rintro ⟨⟨g1, g2⟩, g3⟩
      refine ⟨g1, fun k hk => ?_⟩
      by_cases e : k = n
      · subst e;exact g3
      · exact g2 k (by omega)
    · rintro ⟨g1, g2⟩
      exact ⟨⟨g1, fun k hk => g2 k (by omega)⟩, g2 n (by omega)⟩
theorem smX_cont {a : List PcQ} {s t : Rat} (hs : sortC a) (hx : smX a (a.length - 1)) (hst : s ≤ t) (hl : ∀ p ∈ a, p.f ≤ s ∨ t ≤ p.f) : vaX a t = vaX a s + (slX a s + atC a s * (t - s)) * (t - s) ∧ slX a t = slX a s + 2 * (atC a s * (t - s)) := by
  by_cases he : pcI a s = pcI a t
  · exact ⟨vaX_step he, slX_step he⟩
  have hmem : ∀ k, k < a.length → pcAt a k ∈ a := fun k hk => by rw [pcAt_of (List.getElem?_eq_getElem hk)];exact List.getElem_mem hk
  have hlt := pcI_lt a t
  have hls := pcI_lt a s
  have hr := (pcK_range a s a.length).1
  have hr' : -1 ≤ pcI a s := hr
  -- the later one is the next one
  have hgt : pcI a s < pcI a t := by
    rcases Int.lt_trichotomy (pcI a s) (pcI a t) with h | h | h
    · exact h
    · exact absurd h he
    · have h1 : ¬ pcI a s < 0 := by
        have := (pcK_range a t a.length).1
        have h2 : -1 ≤ pcI a t := this
        omega
      have h2 := pcI_at h1
      have h3 := pcI_later (l := a) (t := t) (j := (pcI a s).toNat) (by omega) (by omega)
      exact absurd (Rat.le_trans h2 hst) h3
  obtain ⟨j, hj⟩ : ∃ j : Nat, pcI a t = j := ⟨(pcI a t).toNat, by omega⟩
  have hjl : j < a.length := by omega
  have hjt : (pcAt a j).f ≤ t := by
    have := pcI_at (l := a) (t := t) (by omega)
    rwa [show (pcI a t).toNat = j by omega] at this
  have hjs : t ≤ (pcAt a j).f := (hl _ (hmem j hjl)).resolve_left (pcI_later (l := a) (t := s) (by omega) hjl)
  have hje : t = (pcAt a j).f := Rat.le_antisymm hjs hjt
  have hnext : pcI a s + 1 = j := by
    rcases Int.lt_or_le (pcI a s + 1) j with h | h
    · obtain ⟨i, hi⟩ : ∃ i : Nat, pcI a s + 1 = i := ⟨(pcI a s + 1).toNat, by omega⟩
      have h1 := (hl _ (hmem i (by omega))).resolve_left (pcI_later (l := a) (t := s) (by omega) (by omega))
      have h2 := sortC_lt hs (i := i) (j := j) (by omega) hjl
      exfalso
      grind
    · omega
  have hvt : vaX a t = (pcAt a j).a := by
    unfold vaX
    rw [if_neg (by omega), show (pcI a t).toNat = j by omega, ← hje]
    unfold valR
    grind
  have hst2 : slX a t = (pcAt a j).b := by
    unfold slX
    rw [if_neg (by omega), show (pcI a t).toNat = j by omega, ← hje]
    unfold sloR
    grind
  rw [hvt, hst2]
  by_cases hk : pcI a s < 0
  · obtain rfl : j = 0 := by omega
    have h1 : vaX a s = (pcAt a 0).a := if_pos hk
    have h2 : slX a s = 0 := if_pos hk
    have h3 : atC a s = 0 := if_pos hk
    rw [h1, h2, h3, hx.1]
    constructor <;> grind
  · obtain ⟨i, rfl⟩ : ∃ i, j = i + 1 := ⟨j - 1, by omega⟩
    have hi : (pcI a s).toNat = i := by omega
    obtain ⟨g1, g2⟩ := hx.2 i (by omega)
    have h1 : vaX a s = valR (pcAt a i) (s - (pcAt a i).f) := by unfold vaX;rw [if_neg hk, hi]
    have h2 : slX a s = sloR (pcAt a i) (s - (pcAt a i).f) := by unfold slX;rw [if_neg hk, hi]
    have h3 : atC a s = (pcAt a i).c := by unfold atC;rw [if_neg hk, hi]
    rw [h1, h2, h3, ← g1, ← g2, ← hje]
    exact ⟨taylorV _ s t, taylorS _ s t⟩
theorem Sum.smooth {op : Rat → Rat → Rat} {a b s : List PcQ} {tms : List Rat} (h : Sum op a b tms s) {c : Rat} (hop : ∀ p q, op p q = p + c * q) (ha : sortC a) (hb : sortC b) (ha0 : a ≠ []) (hb0 : b ≠ []) (hxa : smX a (a.length - 1)) (hxb : smX b (b.length - 1)) : smX s (s.length - 1) := by
  have hpos := h.pos ha0
  have zero : ∀ {l : List PcQ}, sortC l → l ≠ [] → smX l (l.length - 1) → (∀ p ∈ l, tms[0] ≤ p.f) → slX l tms[0] = 0 := fun {l} hs h0 hx hl => by
    rcases (vaX_first hs hl h0).2 with h1 | ⟨h1, h2⟩
    · exact if_pos h1
    · unfold slX
      rw [if_neg (by omega), h1]
      show sloR (pcAt l 0) (tms[0] - (pcAt l 0).f) = 0
      unfold sloR
      rw [hx.1, h2]
      grind
  refine ⟨?_, fun k hk => ?_⟩
  · rw [h.at hpos]
    show op (slX a tms[0]) (slX b tms[0]) = 0
    rw [zero ha ha0 hxa (h.first (fun p hp => .inl hp) hpos), zero hb hb0 hxb (h.first (fun p hp => .inr hp) hpos), hop]
    grind
  · rw [h.len] at hk
    have hk1 : k < tms.length := by omega
    have hk2 : k + 1 < tms.length := by omega
    have hle : tms[k] ≤ tms[k + 1] := h.asc (by omega) hk2
    have gap : ∀ {l : List PcQ}, (∀ p ∈ l, p ∈ a ∨ p ∈ b) → ∀ p ∈ l, p.f ≤ tms[k] ∨ tms[k + 1] ≤ p.f := fun {l} hl p hp => by
      obtain ⟨j, hj, hpj⟩ := h.has (hl p hp)
      rw [← hpj]
      rcases Nat.lt_or_ge k j with hkj | hkj
      · exact .inr (h.asc (by omega) hj)
      · exact .inl (h.asc hkj hk1)
    obtain ⟨v1, s1⟩ := smX_cont ha hxa hle (gap fun p hp => .inl hp)
    obtain ⟨v2, s2⟩ := smX_cont hb hxb hle (gap fun p hp => .inr hp)
    rw [h.at hk1, h.at hk2]
    show valR _ (tms[k + 1] - tms[k]) = op (vaX a tms[k + 1]) (vaX b tms[k + 1]) ∧ sloR _ (tms[k + 1] - tms[k]) = op (slX a tms[k + 1]) (slX b tms[k + 1])
    rw [v1, v2, s1, s2]
    unfold valR sloR
    simp only [hop]
    constructor <;> grind
theorem sh_smE {by_ : Rat} {l : List PcQ} (h : shEs by_ l = 0) : ∀ n : Nat, n < l.length → smE (l.map (shP by_)) n = smE l n ∧ (smK (l.map (shP by_)) n ↔ smK l n)
  | 0, hn => by
    refine ⟨rfl, ?_⟩
    unfold smK
    rw [sh_at h hn]
  | n + 1, hn => by
    obtain ⟨h1, h2⟩ := sh_smE h n (by omega)
    have hu : (pcAt l (n + 1)).f + by_ - ((pcAt l n).f + by_) = (pcAt l (n + 1)).f - (pcAt l n).f := by grind
    constructor
    · show smEnd _ (n + 1) _ = smEnd _ (n + 1) _
      unfold smEnd smE1 smU
      rw [h1, Nat.add_sub_cancel, sh_at h hn, sh_at h (show n < l.length by omega)]
      simp only [hu]
      rfl
    · rw [smK, smK, h2]
      unfold smStep smU
      rw [Nat.add_sub_cancel, sh_at h hn, sh_at h (show n < l.length by omega)]
      simp only [hu]
      exact Iff.rfl
end Go.Proofs.YtgegcgfdffmoeaaGreat
