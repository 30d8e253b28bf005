/- Contracts: what is small;cues that are found. No conditions but those of each statement. -/
import Derived.Test.YtlapbaiejnaeiaaGreatDoorMk
import Derived.Test.YtlapbaiejnaeiaaGreatDoorMb
set_option linter.unusedSimpArgs false
set_option linter.unusedVariables false
namespace Go.Proofs.YtlapbaiejnaeiaaGreatDoor
open Go.RowKit
/-! ### What is small -/
structure SheetR where
 cues : List CueR
 apart : List (ByteArray × ByteArray)
def C8 (p : ByteArray × ByteArray) : List Lf := [.s p.1, .s p.2]
def SheetR.row (c : SheetR) : List Lf := [.sl (c.cues.map CueR.row), .sl (c.apart.map C8)]
def SheetR.fits (c : SheetR) : Prop := c.cues.length <= 9223372036854775807 /\ c.apart.length <= 9223372036854775807 /\ ∀ q ∈ c.cues, q.moves.length <= 140737488355328
/-! ### Cues that are found -/
abbrev Bb (l : List CueR) (n : ByteArray) : Int := idx (fun q : CueR => q.name = n) l
theorem S8 {α : Type} {p : α -> Prop} [DecidablePred p] {l : List α} : 0 <= idx p l ↔ ∃ x ∈ l, p x := decide_eq_decide.1 (Fk p l)
theorem idx_lt_iff {α : Type} {p : α -> Prop} [DecidablePred p] : ∀ {l : List α} {i : Nat}, (0 <= idx p l /\ idx p l < i) ↔ ∃ y ∈ l.take i, p y
 | [], i => by simp [idx]
 | x :: l, 0 => by simp only [List.take_zero, List.not_mem_nil, false_and, exists_false, iff_false];omega
 | x :: l, i + 1 => by
  have ih := idx_lt_iff (p := p) (l := l) (i := i)
  have hg := E4 p l
  rw [List.take_succ_cons, idx]
  by_cases hx : p x
  ·rw [if_pos hx]
   exact ⟨fun _ => ⟨x, by simp, hx⟩, fun _ => by omega⟩
  ·rw [if_neg hx]
   constructor
   ·intro h
    split at h
    ·omega
    ·obtain ⟨y, hy, hp⟩ := ih.1 (by omega)
     exact ⟨y, by simp [hy], hp⟩
   ·rintro ⟨y, hy, hp⟩
    rcases List.mem_cons.1 hy with rfl | hy
    ·exact absurd hp hx
    ·have := ih.2 ⟨y, hy, hp⟩
     rw [if_neg (by omega)];omega
theorem Tt (n : ByteArray) (q : CueR) : Fn0 Tryz.prog 246 [A4 q.row, .rop [.s n]] (.b (decide (q.name = n))) := by
 refine Fn0.of Tryz.func246 Tryz.ntmps246 rfl rfl rfl ?_
 simp only [A0]
 repeat' (first | refine W ?_ | refine V ?_|(refine W2 ?_ ?_ <;> intro hc))
 all_goals exact A3 (by simp) Tryz.results246 rfl (by rfl)
theorem H4 (l : List CueR) (n : ByteArray) (hs : l.length <= 9223372036854775807) : Fn0 Tryz.prog 214 [.sl (l.map CueR.row), .s n] (.i (Bb l n)) := by
 have hc : Fn0 Tryz.prog 224 [.sl (l.map CueR.row), .fn (.func 246) [] [.rop [.s n]]] (.i (Bb l n)) :=
  Ii l CueR.row (fun q => q.name = n) _ _ (fun _ => rfl) hs rfl fun q _ => Tt n q
 refine Fn0.of Tryz.func214 Tryz.ntmps214 rfl rfl rfl ?_
 simp only [A0]
 repeat' (first | refine W ?_|(apply S.callV;exact rfl;exact hc;exact .cons (.one (.lf _)) (.cons (.fn (.cons (.ptr0 (cs := [.s n]) rfl) .nil)) .nil);exact rfl;exact rfl) | refine V ?_|(refine W2 ?_ ?_ <;> intro hc))
 all_goals exact A3 (by simp) Tryz.results214 rfl (by rfl)
theorem Nf (l : List CueR) (k : Nat) (n : ByteArray) (hs : l.length <= 9223372036854775807) : Fn0 Tryz.prog 214 [.sl ((l.map CueR.row).take ((k : Nat) : Int).toNat), .s n] (.i (Bb (l.take k) n)) := by
 rw [Int.toNat_natCast, <- List.map_take]
 exact H4 (l.take k) n (by simp;omega)
/-! ### Pairs of cues -/
def Hw (p q : ByteArray × ByteArray) : Prop := p.1 = q.1 /\ p.2 = q.2 \/ p.1 = q.2 /\ p.2 = q.1
def Ch (p : ByteArray × ByteArray) : ByteArray × ByteArray := if gtS p.1 p.2 then (p.2, p.1) else p
theorem P7 (p q : ByteArray × ByteArray) : Ch p = Ch q ↔ Hw p q := by
 obtain ⟨a, b⟩ := p
 obtain ⟨c, d⟩ := q
 unfold Ch Hw
 have t1 : ¬ gtS a b -> ¬ gtS b a -> a = b := Ms
 have t2 : gtS a b -> ¬ gtS b a := Ig
 have t3 : gtS b a -> ¬ gtS a b := Ig
 have t4 : ¬ gtS c d -> ¬ gtS d c -> c = d := Ms
 have t5 : gtS c d -> ¬ gtS d c := Ig
 by_cases h1 : gtS a b <;> by_cases h2 : gtS c d <;> simp only [h1, h2, if_true, if_false, Prod.mk.injEq]
 ·constructor
  ·rintro ⟨rfl, rfl⟩;exact .inl ⟨rfl, rfl⟩
  ·rintro (⟨rfl, rfl⟩ | ⟨rfl, rfl⟩)
   ·exact ⟨rfl, rfl⟩
   ·exact absurd h2 (t2 h1)
 ·constructor
  ·rintro ⟨rfl, rfl⟩;exact .inr ⟨rfl, rfl⟩
  ·rintro (⟨rfl, rfl⟩ | ⟨rfl, rfl⟩)
   ·exact absurd h1 h2
   ·exact ⟨rfl, rfl⟩
 ·constructor
  ·rintro ⟨rfl, rfl⟩;exact .inr ⟨rfl, rfl⟩
  ·rintro (⟨rfl, rfl⟩ | ⟨rfl, rfl⟩)
   ·exact absurd h2 h1
   ·exact ⟨rfl, rfl⟩
 ·constructor
  ·rintro ⟨rfl, rfl⟩;exact .inl ⟨rfl, rfl⟩
  ·rintro (⟨rfl, rfl⟩ | ⟨rfl, rfl⟩)
   ·exact ⟨rfl, rfl⟩
   ·have := t1 h1 h2
    exact ⟨this, this.symm⟩
def C1 (l : List (ByteArray × ByteArray)) : List ((ByteArray × ByteArray) × Value) := l.foldl (fun es x => E7 es (Ch x) (.agg #[])) []
theorem Jp (l : List (ByteArray × ByteArray)) (x : ByteArray × ByteArray) : C1 (l ++ [x]) = E7 (C1 l) (Ch x) (.agg #[]) := by simp [C1]
theorem U5 (es : List ((ByteArray × ByteArray) × Value)) (s r : ByteArray × ByteArray) (v : Value) : C5 (E7 es s v) r = if s = r then some v else C5 es r := by
 induction es with
 | nil => rfl
 | cons p es ih =>
  obtain ⟨k, u⟩ := p
  by_cases e : k = s
  ·subst e
   by_cases e2 : k = r <;> simp [E7, C5, e2]
  ·by_cases e2 : k = r
   ·subst e2
    have : ¬ s = k := fun h => e h.symm
    simp [E7, C5, e, this]
   ·simp [E7, C5, e, e2, ih]
theorem Sy (l : List (ByteArray × ByteArray)) (r : ByteArray × ByteArray) : (C5 (C1 l) r ≠ none ↔ ∃ y ∈ l, Ch y = r) /\ ∀ u, C5 (C1 l) r = some u -> u = .agg #[] := by
 have key : ∀ m : List (ByteArray × ByteArray), (C5 (C1 m.reverse) r ≠ none ↔ ∃ y ∈ m.reverse, Ch y = r) /\ ∀ u, C5 (C1 m.reverse) r = some u -> u = .agg #[] := fun m => by
  induction m with
  | nil => simp [C1, C5]
  | cons x m ih =>
   rw [List.reverse_cons, Jp, U5]
   by_cases e : Ch x = r
   ·rw [if_pos e]
    exact ⟨⟨fun _ => ⟨x, by simp, e⟩, fun _ => by simp⟩, fun u hu => by injection hu with hu;exact hu.symm⟩
   ·rw [if_neg e]
    refine ⟨⟨fun h => ?_, ?_⟩, ih.2⟩
    ·obtain ⟨y, hy, h2⟩ := ih.1.1 h
     exact ⟨y, by simp only [List.mem_append];exact .inl hy, h2⟩
    ·rintro ⟨y, hy, h2⟩
     rcases List.mem_append.1 hy with hy | hy
     ·exact ih.1.2 ⟨y, hy, h2⟩
     ·obtain rfl : y = x := by simpa using hy
      exact absurd h2 e
 have := key l.reverse
 rwa [List.reverse_reverse] at this
def okP (c : SheetR) (i : Nat) (p : ByteArray × ByteArray) : Prop := (0 <= Bb c.cues p.1 /\ 0 <= Bb c.cues p.2) /\ ¬ p.1 = p.2 /\ ¬ ∃ y ∈ c.apart.take i, Hw y p
def Ip (c : SheetR) : Prop := (c.apart.length : Int) <= 1000 /\ ∀ i p, c.apart[i]? = some p -> okP c i p
noncomputable instance (c : SheetR) : Decidable (Ip c) := Classical.propDecidable _
set_option maxHeartbeats 8000000 in
theorem Ts (c : SheetR) (hs : c.cues.length <= 9223372036854775807) (hs2 : c.apart.length <= 9223372036854775807) : Fn0 Tryz.prog 215 [A4 c.row] (.b (decide (Ip c))) := by
 have hle : (c.apart.map C8).length = c.apart.length := List.length_map _
 refine Fn0.of Tryz.func215 Tryz.ntmps215 rfl rfl rfl ?_
 simp only [A0]
 repeat' (first | refine W ?_|(apply S.makeMap;exact rfl;exact rfl) | refine V ?_|(refine W2 ?_ ?_ <;> intro hc))
 all_goals first
  | exact A3 (by simp) Tryz.results215 rfl (congrArg Value.bool (decide_eq_false (fun h => by have := h.1;omega)).symm)
  | skip
 refine T.loopS (fun k => k <= c.apart.length /\ ∀ i p, i < k -> c.apart[i]? = some p -> okP c i p) (fun k => c.apart.length - k) (fun k => [(16, .i k), (15, .i (c.apart.map C8).length), (14, .sl (c.apart.map C8)), (3, .mp 1), (1, .ptr 0 0)]) (fun k => [.live (c.row.map .lf), .map (Bz (C1 (c.apart.take k)))]) 0 ⟨Nat.zero_le _, by intro i p h;omega⟩ CV (.live rfl (.map .nil)) ?_
 rintro k ⟨hk, hok⟩
 by_cases hlt : k < c.apart.length
 ·have h1 : (k : Int) < ((c.apart.map C8).length : Nat) := by omega
  obtain ⟨x, hx⟩ := Ac hlt
  have hb := Ae (R := C8) hx
  have hsn := Bd hx
  have hso : C1 (c.apart.take (k + 1)) = E7 (C1 (c.apart.take k)) (Ch x) (.agg #[]) := by rw [hsn, Jp]
  obtain ⟨hg1, hg2⟩ := Sy (c.apart.take k) (Ch x)
  have hsame : C5 (C1 (c.apart.take k)) (Ch x) ≠ none ↔ ∃ y ∈ c.apart.take k, Hw y x := by
   rw [hg1]
   exact ⟨fun ⟨y, hy, h⟩ => ⟨y, hy, (P7 _ _).1 h⟩, fun ⟨y, hy, h⟩ => ⟨y, hy, (P7 _ _).2 h⟩⟩
  have hbad : ¬ okP c k x -> ¬ Ip c := fun h hh => h (hh.2 k x hx)
  by_cases hgt : gtS x.1 x.2
  ·have hn : Ch x = (x.2, x.1) := by unfold Ch;rw [if_pos hgt]
   rw [hn] at hso hg2 hsame
   repeat' (first | refine W ?_|(apply T.drawAll A2 (by kernel_rfl))|refine Zi hb ?_|(apply S.loadRW;(iterate 4 exact rfl))|(apply S.idxAP;(iterate 4 exact rfl);exact ⟨by decide, by decide⟩;exact rfl)|(apply S.strGt;exact rfl;exact rfl;exact rfl)|(apply S.lookupP;(iterate 4 exact rfl);exact hg2)|(apply S.mapUpdateP;(iterate 5 exact rfl))|refine Zc (H4 c.cues _ hs) ?_|refine Za ?_ | refine V ?_|(refine W2 ?_ ?_ <;> intro hc))
   all_goals (try change Next _ _ _ _ _ _)
   all_goals first
    | exact A3 (by simp) Tryz.results215 rfl (congrArg Value.bool (decide_eq_false (hbad fun hh => by
      obtain ⟨⟨g1, g2⟩, g3, g4⟩ := hh
      first
       | omega
       | exact g4 (hsame.1 (by assumption))
       | exact g3 (by assumption)
       | exact g3 (Eq.symm (by assumption)))).symm)
    | exact Next.go (k + 1) ⟨by omega, by
      intro i p hi hp
      rcases Nat.lt_or_ge i k with h9 | h9
      ·exact hok i p h9 hp
      ·obtain rfl : i = k := by omega
       obtain rfl : x = p := by rw [hx] at hp;injection hp
       exact ⟨⟨by omega, by omega⟩, (by first | assumption | exact fun e => (by assumption : ¬ _ = _) (Eq.symm e)), fun g => hsame.2 g (by assumption)⟩⟩ (by omega) CV (by show CovH _ _ [.live _, .map (Bz (C1 (c.apart.take (k + 1))))];rw [hso];exact .live rfl (.map .nil))
  ·have hn : Ch x = (x.1, x.2) := by unfold Ch;rw [if_neg hgt]
   rw [hn] at hso hg2 hsame
   repeat' (first | refine W ?_|(apply T.drawAll A2 (by kernel_rfl))|refine Zi hb ?_|(apply S.loadRW;(iterate 4 exact rfl))|(apply S.idxAP;(iterate 4 exact rfl);exact ⟨by decide, by decide⟩;exact rfl)|(apply S.strGt;exact rfl;exact rfl;exact rfl)|(apply S.lookupP;(iterate 4 exact rfl);exact hg2)|(apply S.mapUpdateP;(iterate 5 exact rfl))|refine Zc (H4 c.cues _ hs) ?_|refine Za ?_ | refine V ?_|(refine W2 ?_ ?_ <;> intro hc))
   all_goals (try change Next _ _ _ _ _ _)
   all_goals first
    | exact A3 (by simp) Tryz.results215 rfl (congrArg Value.bool (decide_eq_false (hbad fun hh => by
      obtain ⟨⟨g1, g2⟩, g3, g4⟩ := hh
      first
       | omega
       | exact g4 (hsame.1 (by assumption))
       | exact g3 (by assumption)
       | exact g3 (Eq.symm (by assumption)))).symm)
    | exact Next.go (k + 1) ⟨by omega, by
      intro i p hi hp
      rcases Nat.lt_or_ge i k with h9 | h9
      ·exact hok i p h9 hp
      ·obtain rfl : i = k := by omega
       obtain rfl : x = p := by rw [hx] at hp;injection hp
       exact ⟨⟨by omega, by omega⟩, (by first | assumption | exact fun e => (by assumption : ¬ _ = _) (Eq.symm e)), fun g => hsame.2 g (by assumption)⟩⟩ (by omega) CV (by show CovH _ _ [.live _, .map (Bz (C1 (c.apart.take (k + 1))))];rw [hso];exact .live rfl (.map .nil))
 ·have h1 : ¬ (k : Int) < ((c.apart.map C8).length : Nat) := by omega
  repeat' (first | refine W ?_ | refine V ?_|(refine W2 ?_ ?_ <;> intro hc))
  exact A3 (by simp) Tryz.results215 rfl (congrArg Value.bool (decide_eq_true ⟨by omega, fun i p hp => hok i p (by have := (List.getElem?_eq_some_iff.1 hp).1;omega) hp⟩).symm)
end Go.Proofs.YtlapbaiejnaeiaaGreatDoor
