/- Plain laws: before the first contact no two sets touch. No conditions but those of each statement. -/
import Derived.Test.YtlncmkafjjomgaaGreatOq
set_option linter.unusedSimpArgs false
namespace Go.Proofs.YtlncmkafjjomgaaGreat
set_option linter.unusedVariables false
open Go Go.RowKit
def NoT (a b : SetR) (x y : List PcQ) (L : Rat) : Prop := ∀ t, 0 ≤ t → t ≤ L → atE x t 0 = 0 → atE y t 0 = 0 → ∃ e : Int, touC a b (atQ x t) (atQ y t) = .tup [.b false, .i e]
theorem tou_no {a b : SetR} {p q : Rat} (h : nearP a b → ¬ (p - hangQ a < q ∧ q - hangQ b < p)) : ∃ e : Int, touC a b p q = .tup [.b false, .i e] := by
 unfold touC
 split
 ·rename_i hn
  split
  ·split
   ·rw [decide_eq_false (h hn)]
    exact ⟨_, rfl⟩
   ·exact ⟨_, rfl⟩
  ·exact ⟨_, rfl⟩
 ·exact ⟨_, rfl⟩
theorem noT_hang {a b : SetR} {x y : List PcQ} {L : Rat} (h : nearP a b → hangI a = 0 ∧ hangI b = 0) : NoT a b x y L := fun t _ _ _ _ => tou_no fun hn => by
 obtain ⟨h1, h2⟩ := h hn
 have e1 : hangQ a = 0 := by unfold hangQ;rw [h1];rfl
 have e2 : hangQ b = 0 := by unfold hangQ;rw [h2];rfl
 rw [e1, e2]
 rintro ⟨k1, k2⟩
 grind
theorem noT_dist {a b : SetR} {x y : List PcQ} {L : Rat} {l : List PcQ} (hd : Dst x y (hangQ a) l ∨ Dst y x (hangQ b) l) (h : ∀ t, 0 ≤ t → t ≤ L → 0 ≤ vaX l t) : NoT a b x y L := fun t h0 h1 e1 e2 => tou_no fun _ => by
 have hv := h t h0 h1
 rw [atQ_ex e1, atQ_ex e2]
 rcases hd with hd | hd
 ·rw [hd.val] at hv
  rintro ⟨k1, k2⟩
  grind
 ·rw [hd.val] at hv
  rintro ⟨k1, k2⟩
  grind
theorem timesQ_lenC (a b : List PcQ) : (timesQ a b).length ≤ a.length + b.length := by
 have h := foldQ_len ((a ++ b).map (·.f)) []
 rw [List.length_map, List.length_append, List.length_nil] at h
 rw [timesQ, putAll]
 omega
theorem joinE_or {op : Rat → Rat → Rat} {a b : List PcQ} (h : a.length + b.length ≤ 200) : joinE op a b = 0 ∨ joinE op a b = 5 := by
 have h2 := timesQ_lenC a b
 unfold joinE
 rw [if_neg (by omega)]
 exact jEs_or _ _ _ _
theorem lwE_or {x y : List PcQ} {by_ : Rat} (h : x.length + y.length ≤ 200) : lwE x y by_ = 0 ∨ lwE x y by_ = 5 := by
 unfold lwE
 split
 ·split
  ·exact .inl rfl
  ·exact .inr rfl
 ·rename_i hj
  exact .inr ((joinE_or h).resolve_left hj)
theorem dsE_or {ha hb : Rat} {x y : List PcQ} (h : x.length + y.length ≤ 200) : dsE ha hb x y = 0 ∨ dsE ha hb x y = 5 := by
 unfold dsE
 split
 ·split
  ·split
   ·split
    ·split
     ·exact lwE_or h
     ·exact lwE_or (by omega)
    ·exact .inr rfl
   ·exact .inr rfl
  ·exact atE_or _ _
 ·exact atE_or _ _
theorem firstA_or (l : List PcQ) (fr te : Rat) : firstA l fr te = spE 12 ∨ ∃ lo hi : Int, firstA l fr te = .tup [rowA [.i lo, .i hi], .i 0] := by
 unfold firstA
 cases e : scanF (allQ l fr) fr te (allQ l fr).length with
 | none => exact .inl rfl
 | some r =>
  refine .inr ?_
  obtain ⟨j, _, hst, _⟩ := scanF_out e
  have key : ∃ u v : Int, r = [.i u, .i v] := by
   unfold stepF at hst
   split at hst
   ·cases hst
   ·split at hst
    ·injection hst with hst;subst hst;unfold enQ;split <;> exact ⟨_, _, rfl⟩
    ·split at hst
     ·injection hst with hst;subst hst;unfold firR;split <;> exact ⟨_, _, rfl⟩
     ·cases hst
  obtain ⟨u, v, rfl⟩ := key
  exact ⟨u, v, rfl⟩
theorem fir_says {a b : SetR} {x y : List PcQ} {te : Rat} (h : Two a b x y) (hn : x.length + y.length ≤ 200) (h0 : 0 ≤ te) (h1 : te ≤ 1099511627776) :
  firC a b x y te = spE 5 ∨ (firC a b x y te = spE 12 ∧ NoT a b x y te) ∨ ∃ lo hi : Int, firC a b x y te = .tup [rowA [.i lo, .i hi], .i 0] ∧ 0 ≤ lo ∧ mil lo ≤ te ∧ NoT a b x y (mil (lo - 1)) := by
 unfold firC
 by_cases hc : nearP a b ∧ ¬ (hangI a = 0 ∧ hangI b = 0)
 ·rw [if_pos hc]
  by_cases hd : dsE (hangQ a) (hangQ b) x y = 0
  ·rw [if_pos hd]
   have hD := ds_dst h.ox h.oy h.x0 h.y0 h.sx h.sy hd
   obtain ⟨_, hs, _, _⟩ := ds_all h.ox h.oy h.x0 h.y0 h.sx h.sy hd
   have r1 : rangP 0 := ⟨by decide, by decide⟩
   have r2 : rangP te := ⟨Rat.le_trans (by decide) h0, h1⟩
   rcases firstA_or (dsL (hangQ a) (hangQ b) x y) 0 te with hf | ⟨lo, hi, hf⟩
   ·exact .inr (.inl ⟨hf, noT_dist hD fun t k0 k1 => first_none hs hf k0 k1⟩)
   ·obtain ⟨g1, g2⟩ := first_range hf r1 r2
    have hm0 : milQ 0 = 0 := by decide +kernel
    rw [hm0] at g1
    refine .inr (.inr ⟨lo, hi, hf, g1, g2, noT_dist hD fun t k0 k1 => ?_⟩)
    have hle : t ≤ te := Rat.le_trans k1 (Rat.le_trans (mil_mono (by omega)) g2)
    exact first_before hs hf r1 r2 k0 hle k1
  ·rw [if_neg hd, (dsE_or hn).resolve_left hd]
   exact .inl rfl
 ·rw [if_neg hc]
  refine .inr (.inl ⟨rfl, noT_hang fun hn => ?_⟩)
  exact Classical.not_not.1 fun k => hc ⟨hn, k⟩
end Go.Proofs.YtlncmkafjjomgaaGreat
