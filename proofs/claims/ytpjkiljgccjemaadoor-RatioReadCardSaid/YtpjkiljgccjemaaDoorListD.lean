/- slices.Clone and slices.Reverse of lists of fractions. -/
import Derived.Test.YtpjkiljgccjemaaDoorListB
import Derived.OwnWalk
import Derived.Laws.OwnMore
import Derived.Laws.AppendOwn
import Derived.RegionTactic
import Derived.BigRegion
import Derived.WalkSpells
import Derived.Lib.SliceRun
set_option linter.unusedSimpArgs false
namespace Go.Proofs.YtpjkiljgccjemaaDoor
set_option linter.unusedVariables false
open Go.RowKit Go.Sort

/-- The cells of fractions. -/
def flat (l : List (Int × Int)) : List Value := l.flatMap fun p => [.int .i64 p.1, .int .i64 p.2]
theorem flat_length (l : List (Int × Int)) : (flat l).length = l.length * 2 := by
  induction l with
  | nil => rfl
  | cons p r ih => simp only [flat, List.flatMap_cons, List.length_append] at ih ⊢; rw [ih]; simp; omega
theorem flat_get : ∀ (l : List (Int × Int)) (i : Nat), (flat l)[i * 2]? = l[i]?.map (fun p => .int .i64 p.1) ∧ (flat l)[i * 2 + 1]? = l[i]?.map (fun p => .int .i64 p.2)
  | [], i => by simp [flat]
  | p :: r, 0 => by simp [flat]
  | p :: r, i + 1 => by
    have := flat_get r i
    rw [show (i + 1) * 2 = i * 2 + 2 by omega]
    simpa [flat] using this
theorem flat_set : ∀ (l : List (Int × Int)) (i : Nat) (p : Int × Int), ((flat l).set (i * 2) (.int .i64 p.1)).set (i * 2 + 1) (.int .i64 p.2) = flat (l.set i p)
  | [], i, p => by simp [flat]
  | q :: r, 0, p => by simp [flat]
  | q :: r, i + 1, p => by
    have := flat_set r i p
    rw [show (i + 1) * 2 = i * 2 + 2 by omega]
    simpa [flat] using this
theorem flat_one (l : List (Int × Int)) : ∀ u ∈ flat l, u.oneCell' = true := by
  intro u hu
  simp only [flat, List.mem_flatMap] at hu
  obtain ⟨p, _, hp⟩ := hu
  rcases List.mem_cons.1 hp with rfl | hp
  · rfl
  · rcases List.mem_cons.1 hp with rfl | hp
    · rfl
    · simp at hp
theorem flat_idx (l : List (Int × Int)) (j : Nat) (u : Value) (h : (flat l)[j]? = some u) : ∃ i p, l[i]? = some p ∧ ((j = i * 2 ∧ u = .int .i64 p.1) ∨ (j = i * 2 + 1 ∧ u = .int .i64 p.2)) := by
  have hj : j < l.length * 2 := by
    have := (List.getElem?_eq_some_iff.1 h).1
    rwa [flat_length] at this
  obtain ⟨p, hp⟩ : ∃ p, l[j / 2]? = some p := ⟨_, List.getElem?_eq_getElem (by omega)⟩
  have hg := flat_get l (j / 2)
  rw [hp] at hg
  refine ⟨j / 2, p, hp, ?_⟩
  rcases Nat.mod_two_eq_zero_or_one j with e | e
  · left
    have hj2 : j = j / 2 * 2 := by omega
    refine ⟨hj2, ?_⟩
    have h1 := hg.1
    rw [← hj2, h] at h1
    simpa using h1
  · right
    have hj2 : j = j / 2 * 2 + 1 := by omega
    refine ⟨hj2, ?_⟩
    have h1 := hg.2
    rw [← hj2, h] at h1
    simpa using h1
abbrev OwnFr (w : World) (base : Nat) (v : Value) (l : List (Int × Int)) : Prop := w.ownsRow base 23 2 v l.length (flat l)
/-- What is owned is held. -/
theorem OwnFr.at {w : World} {base : Nat} {v : Value} {l : List (Int × Int)} (h : OwnFr w base v l) : ∃ (a : Option Addr) (cap b : Nat), v = .slice a l.length cap ∧ (l ≠ [] → a = some ⟨b, 0, none⟩) ∧ FrAt w b 0 l := by
  rcases h.2 with ⟨rfl, hn⟩ | ⟨g, cap, cur, rfl, hb, hg, hc, hm, hs, ht⟩
  · obtain rfl : l = [] := List.length_eq_zero_iff.1 hn
    exact ⟨none, 0, 0, rfl, fun h => absurd rfl h, fun i p hp => by simp at hp⟩
  · refine ⟨some ⟨g, 0, none⟩, cap, g, rfl, fun _ => rfl, fun i p hp => ?_⟩
    have hi : i < l.length := (List.getElem?_eq_some_iff.1 hp).1
    have hgt := flat_get l i
    rw [hp] at hgt
    have c1 := h.cellAt (i * 2) (by omega)
    have c2 := h.cellAt (i * 2 + 1) (by omega)
    rw [hgt.1] at c1
    rw [hgt.2] at c2
    simpa using ⟨c1, c2⟩
theorem infoFrac : (Tryd.prog.info? 23).map (fun i => (i.zero, i.size, i.bytes)) = some (some (.agg #[.int .i64 0, .int .i64 0]), 2, 16) := by kernel_rfl
theorem FrAt.cells {w : World} {b o : Nat} {l : List (Int × Int)} (h : FrAt w b o l) (j : Nat) (u : Value) (hj : (flat l)[j]? = some u) : w.cell? ((⟨b, o, none⟩ : Addr).add j) = some u := by
  have e : (⟨b, o, none⟩ : Addr).add j = ⟨b, o + j, none⟩ := by
    unfold Addr.add
    split
    · rename_i h; simp_all
    · rfl
  rw [e]
  obtain ⟨i, p, hp, ⟨rfl, rfl⟩ | ⟨rfl, rfl⟩⟩ := flat_idx l j u hj
  · exact (h i p hp).1
  · exact (h i p hp).2
def CloneEnds (l : List (Int × Int)) (w : World) (e : Ending) (w' : World) : Prop := ∃ v, e = .returned v ∧ OwnFr w' w.heap.size v l ∧ Tr w w'
set_option maxRecDepth 100000 in
theorem clone_any (l : List (Int × Int)) (a : Option Addr) (cap b o : Nat) (w : World) (ha : l ≠ [] → a = some ⟨b, o, none⟩) (hl : l.length ≤ 1000) (hF : FrAt w b o l) :
    Calls Tryd.prog 38 #[.slice a l.length cap] w (CloneEnds l w) := by
  obtain ⟨i0, hi, hz0, hz1, hz2⟩ := info_parts infoFrac
  have HF := Lib.hid hF
  have HA := Lib.hid ha
  clear hF ha
  have hnil := fun (W : World) (x : Option Addr) (n c : Nat) => Lib.run_eql_slice_nil (P := Tryd.prog) W 42 23 x n c 0 0 Tryd.underlying42
  cases a with
  | none =>
    obtain rfl : l = [] := by
      by_cases h : l = []
      · exact h
      · have := HA.out h; cases this
    go_enter Tryd.func38, Tryd.ntmps38
    go_wp2
    go_ret
    exact ⟨_, rfl, World.ownsRow_nil _ _ _ _, (by repeat (first | exact Tr.refl _ | assumption | apply Tr.al | apply Tr.drN | apply Tr.dr | (refine Tr.set ?_ (by first | omega | (simp; done) | (simp; omega)) _)))⟩
  | some ad =>
    have hcells : Hid (∀ (W : World) (j : Nat) (u : Value), Tr w W → (flat l)[j]? = some u → W.cell? (ad.add j) = some u) := fun W j u hT hj => by
      have hne : l ≠ [] := by rintro rfl; simp [flat] at hj
      obtain rfl : ad = ⟨b, o, none⟩ := Option.some.inj (HA.out hne)
      exact (HF.out.tr hT).cells j u hj
    have hfl := Lib.hid (flat_length l)
    have hf1 := Lib.hid (flat_one l)
    go_enter Tryd.func38, Tryd.ntmps38
    go_wp2_with (at_builtin; refine wpList_append_own _ rfl _ _ 42 rfl w.heap.size 23 i0 (.agg #[.int .i64 0, .int .i64 0]) 2 16 Tryd.underlying42 hi hz0 hz1 hz2 rfl (by decide) _ 0 [] rfl (World.ownsRow_made _ #[] 0 (Nat.le_refl _) (by decide) rfl) ad l.length cap (flat l) rfl hfl.out (fun j u hj => hcells.out _ j u (by repeat (first | exact Tr.refl _ | assumption | apply Tr.al | apply Tr.drN | apply Tr.dr | (refine Tr.set ?_ (by first | omega | (simp; done) | (simp; omega)) _))) hj) hf1.out (by unfold maxLen; omega) (by omega) (by simp) ?_; intro v' w1 hown' hgrow _)
    go_ret
    refine ⟨_, rfl, ?_, ?_⟩
    · simpa using hown'
    · exact Below.grown ((Tr.refl _).al _) hgrow (by simp) (fun k hk => by have h : some w.heap.size = some k := hk; injection h with h; omega)

def revIdx (n i k : Nat) : Nat := if k < i ∨ n ≤ k + i then n - 1 - k else k
def MidRev (l m : List (Int × Int)) (i : Nat) : Prop := m.length = l.length ∧ ∀ k, k < l.length → m[k]? = l[revIdx l.length i k]?
theorem mid_start (l : List (Int × Int)) : MidRev l l 0 := ⟨rfl, fun k hk => by unfold revIdx; rw [if_neg (by omega)]⟩
theorem mid_step {l m : List (Int × Int)} {i j : Nat} {p q : Int × Int} (h : MidRev l m i) (hij : i + j + 1 = l.length) (hi : i < j) (hp : m[i]? = some p) (hq : m[j]? = some q) : MidRev l ((m.set i q).set j p) (i + 1) := by
  obtain ⟨h1, h2⟩ := h
  refine ⟨by simpa using h1, fun k hk => ?_⟩
  have ei := h2 i (by omega)
  have ej := h2 j (by omega)
  rw [show revIdx l.length i i = i by unfold revIdx; rw [if_neg (by omega)], hp] at ei
  rw [show revIdx l.length i j = j by unfold revIdx; rw [if_neg (by omega)], hq] at ej
  by_cases k1 : k = j
  · subst k1
    rw [List.getElem?_set_self (by simp; omega), show revIdx l.length (i + 1) k = i by unfold revIdx; rw [if_pos (by omega)]; omega, ← ei]
  · rw [List.getElem?_set_ne (by omega)]
    by_cases k2 : k = i
    · subst k2
      rw [List.getElem?_set_self (by omega), show revIdx l.length (k + 1) k = j by unfold revIdx; rw [if_pos (by omega)]; omega, ← ej]
    · rw [List.getElem?_set_ne (by omega), h2 k hk]
      congr 1
      unfold revIdx
      by_cases c : k < i ∨ l.length ≤ k + i
      · rw [if_pos c, if_pos (by omega)]
      · rw [if_neg c, if_neg (by omega)]
theorem mid_end {l m : List (Int × Int)} {i : Nat} (h : MidRev l m i) (hi : l.length ≤ 2 * i + 1) : m = l.reverse := by
  obtain ⟨h1, h2⟩ := h
  apply List.ext_getElem?
  intro k
  by_cases hk : k < l.length
  · rw [h2 k hk, List.getElem?_reverse (by omega)]
    unfold revIdx
    by_cases c : k < i ∨ l.length ≤ k + i
    · rw [if_pos c]
    · rw [if_neg c]; congr 1; omega
  · rw [List.getElem?_eq_none (by omega), List.getElem?_eq_none (by simp; omega)]
theorem own_swap {wr : World} {base g cap i j : Nat} {m : List (Int × Int)} {p q : Int × Int} (h : OwnFr wr base (.slice (some ⟨g, 0, none⟩) m.length cap) m) :
    OwnFr ((((wr.setCell ⟨g, i * 2, none⟩ (.int .i64 q.1)).setCell ⟨g, i * 2 + 1, none⟩ (.int .i64 q.2)).setCell ⟨g, j * 2, none⟩ (.int .i64 p.1)).setCell ⟨g, j * 2 + 1, none⟩ (.int .i64 p.2)) base (.slice (some ⟨g, 0, none⟩) ((m.set i q).set j p).length cap) ((m.set i q).set j p) := by
  have := ((((h.stored (i * 2) (.int .i64 q.1)).1.stored (i * 2 + 1) (.int .i64 q.2)).1.stored (j * 2) (.int .i64 p.1)).1.stored (j * 2 + 1) (.int .i64 p.2)).1
  rw [flat_set, flat_set] at this
  simpa [OwnFr] using this

def RevEnds (l : List (Int × Int)) (base g cap : Nat) (w : World) (e : Ending) (w' : World) : Prop := (∃ v, e = .returned v) ∧ OwnFr w' base (.slice (some ⟨g, 0, none⟩) l.reverse.length cap) l.reverse ∧ Below base w w'
set_option maxRecDepth 100000 in
theorem reverse_any (l : List (Int × Int)) (base g cap : Nat) (w : World) (hl : l.length ≤ 1000) (hg : base ≤ g) (h : OwnFr w base (.slice (some ⟨g, 0, none⟩) l.length cap) l) :
    Calls Tryd.prog 39 #[.slice (some ⟨g, 0, none⟩) l.length cap] w (RevEnds l base g cap w) := by
  have HO := Lib.hid h
  clear h
  go_enter Tryd.func39, Tryd.ntmps39
  go_wp2
  go_loopw [2, 3] (fun a b wr => ∃ (i : Nat) (j : Int) (m : List (Int × Int)), a = .int .i64 i ∧ b = .int .i64 j ∧ i + j + 1 = l.length ∧ 2 * i ≤ l.length ∧ Hid (MidRev l m i ∧ OwnFr wr base (.slice (some ⟨g, 0, none⟩) m.length cap) m) ∧ Hid (Below base w wr)) (fun a b _ => (intOf b - intOf a + 1).toNat)
  case atStart => exact ⟨0, _, l, rfl, rfl, by omega, by omega, (⟨mid_start l, HO.out⟩ : MidRev l l 0 ∧ OwnFr w base (.slice (some ⟨g, 0, none⟩) l.length cap) l), (Below.refl _ _ : Below base w w)⟩
  case round =>
    obtain ⟨i, j', m, rfl, rfl, hij, hi, HM, HB⟩ := hrel
    by_cases hlt : (i : Int) < j'
    · obtain ⟨j, rfl⟩ : ∃ j : Nat, j' = j := ⟨j'.toNat, by omega⟩
      have hml := HM.out.1.1
      obtain ⟨p, hp⟩ : ∃ p, m[i]? = some p := ⟨_, List.getElem?_eq_getElem (by omega)⟩
      obtain ⟨q, hq⟩ : ∃ q, m[j]? = some q := ⟨_, List.getElem?_eq_getElem (by omega)⟩
      have c1 := HM.out.2.cellAt (i * 2) (by omega)
      have c2 := HM.out.2.cellAt (i * 2 + 1) (by omega)
      have c3 := HM.out.2.cellAt (j * 2) (by omega)
      have c4 := HM.out.2.cellAt (j * 2 + 1) (by omega)
      rw [(flat_get m i).1, hp] at c1
      rw [(flat_get m i).2, hp] at c2
      rw [(flat_get m j).1, hq] at c3
      rw [(flat_get m j).2, hq] at c4
      simp only [Option.map_some] at c1 c2 c3 c4
      have f1 := HM.out.2.frozenAt (i * 2)
      have f2 := HM.out.2.frozenAt (i * 2 + 1)
      have f3 := HM.out.2.frozenAt (j * 2)
      have f4 := HM.out.2.frozenAt (j * 2 + 1)
      have HS := Lib.hid (mid_step HM.out.1 (by omega) (by omega) hp hq)
      have HW := Lib.hid (own_swap (i := i) (j := j) (p := p) (q := q) HM.out.2)
      have HX : Hid (Below base w ((((wr.setCell ⟨g, i * 2, none⟩ (.int .i64 q.1)).setCell ⟨g, i * 2 + 1, none⟩ (.int .i64 q.2)).setCell ⟨g, j * 2, none⟩ (.int .i64 p.1)).setCell ⟨g, j * 2 + 1, none⟩ (.int .i64 p.2))) := ((((HB.out.setCell hg _).setCell hg _).setCell hg _).setCell hg _ : Below base w _)
      clear hp hq hml
      go_wp2
      go_region
      all_goals
        go_wp2
        go_roundw
        case rel => exact ⟨i + 1, (j : Int) - 1, _, by go_num, rfl, by omega, by omega, (⟨HS.out, HW.out⟩ : _ ∧ _), (Below.drew HX.out : Below base w _)⟩
        case measure => simp [intOf]; omega
    · have HR := Lib.hid (mid_end HM.out.1 (by omega))
      go_wp2
      go_end0
      have := HM.out.2
      rw [HR.out] at this
      exact ⟨⟨_, rfl⟩, this, HB.out⟩

def RevV (l : List (Int × Int)) (base : Nat) (v : Value) (w : World) (e : Ending) (w' : World) : Prop := (∃ x, e = .returned x) ∧ OwnFr w' base v l.reverse ∧ Below base w w'
set_option maxRecDepth 100000 in
theorem reverseV_any (l : List (Int × Int)) (base : Nat) (v : Value) (w : World) (hl : l.length ≤ 1000) (h : OwnFr w base v l) :
    Calls Tryd.prog 39 #[v] w (RevV l base v w) := by
  rcases h.2 with ⟨rfl, hn⟩ | ⟨g, cap, cur, rfl, hb, hg, hc, hm, hs, ht⟩
  · obtain rfl : l = [] := List.length_eq_zero_iff.1 hn
    have HO := Lib.hid h
    clear h hn
    go_enter Tryd.func39, Tryd.ntmps39
    go_wp2
    refine wp_loop_rounds 1 ?_
    rw [rounds_succ]
    go_wp2
    go_end0
    exact ⟨⟨_, rfl⟩, HO.out, Below.refl _ _⟩
  · refine (reverse_any l base g cap w hl hb h).mono ?_
    rintro e w' ⟨h1, h2, h3⟩
    exact ⟨h1, by simpa using h2, h3⟩
theorem sumOwn_any (l : List (Int × Int)) (base : Nat) (v : Value) (w : World) (hl : l.length ≤ 1000) (h : OwnFr w base v l) :
    Calls Tryd.prog 31 #[v] w fun e w' => e = .returned (.tuple #[.agg #[.int .i64 (sumS l).1, .int .i64 (sumS l).2.1], .int .i64 (sumS l).2.2]) ∧ Tr w w' := by
  obtain ⟨a, cap, b, rfl, ha, hF⟩ := h.at
  exact sum_any l a cap b 0 w ha (by omega) hF
theorem Keep.below {w w1 : World} {base : Nat} (hb : Below base w w1) : ∀ {l : List (Addr × Value)}, Keep w l → (∀ p ∈ l, p.1.block < base) → Keep w1 l
  | [], _, _ => trivial
  | p :: r, h, hl => by
    have hp := hl p (by simp)
    exact ⟨⟨by rw [Below.cell hb hp]; exact h.1.1, by rw [Below.frozen hb hp]; exact h.1.2.1, Nat.lt_of_lt_of_le h.1.2.2 (Below.size hb)⟩, Keep.below hb h.2 fun q hq => hl q (by simp [hq])⟩
theorem FrAt.take {w : World} {b o : Nat} {l : List (Int × Int)} (h : FrAt w b o l) (k : Nat) : FrAt w b o (l.take k) := fun i p hp => by
  rw [List.getElem?_take] at hp
  split at hp
  · exact h i p hp
  · cases hp
theorem FrAt.drop {w : World} {b o : Nat} {l : List (Int × Int)} (h : FrAt w b o l) (k : Nat) : FrAt w b (o + k * 2) (l.drop k) := fun i p hp => by
  rw [List.getElem?_drop] at hp
  have := h (k + i) p hp
  rw [show o + k * 2 + i * 2 = o + (k + i) * 2 by omega]
  exact this
theorem itoa_len (n : Int) (h0 : -9223372036854775808 ≤ n) (h1 : n ≤ 9223372036854775807) : (Lib.itoa n).length ≤ 21 := Lib.itoa_length_le n h0 h1
theorem textL_len {n d : Int} (hv : validB n d = true) : (textL n d).length ≤ 100 := by
  obtain ⟨a1, a2, a3, a4, _⟩ := validB_spec.1 hv
  have h1 := itoa_len n (by omega) (by omega)
  have h2 := itoa_len d (by omega) (by omega)
  unfold textL
  split
  · omega
  · simp; omega
end Go.Proofs.YtpjkiljgccjemaaDoor
