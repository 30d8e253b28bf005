/- Contracts: sheets of cues that are valid (both sides). No conditions but those of each statement. -/
import Derived.Test.YtkboebgkcjcpfaaGreatDoorMm
import Derived.Test.YtkboebgkcjcpfaaGreatDoorMb
set_option linter.unusedSimpArgs false
set_option linter.unusedVariables false
namespace Go.Proofs.YtkboebgkcjcpfaaGreatDoor
open Go.RowKit
def Eo (l : List CueR) : Int := (l.map fun q => (q.moves.length : Int)).sum
theorem Rj (l : List CueR) (q : CueR) : Eo (l ++ [q]) = Eo l + q.moves.length := by simp [Eo, List.sum_append]
def okQ (h : HouseR) (l : List CueR) (i : Nat) (q : CueR) : Prop := Eo (l.take (i + 1)) <= 100 /\ Cj h q /\ (¬ ∃ y ∈ l.take i, y.name = q.name) /\ (q.link = 1 -> q.after = ⟨#[]⟩) /\ (¬ q.link = 1 -> ∃ y ∈ l.take i, y.name = q.after)
def Ws (h : HouseR) (l : List CueR) : Prop := ∀ i q, l[i]? = some q -> okQ h l i q
def validP (h : HouseR) (c : SheetR) : Prop := D7 h /\ (c.cues.length : Int) <= 60 /\ Ws h c.cues /\ L2 c
noncomputable instance (h : HouseR) (c : SheetR) : Decidable (validP h c) := Classical.propDecidable _
theorem V4 : ¬ B8 ⟨#[]⟩ = true := by simp [B8]
theorem A1y {h : HouseR} {l : List CueR} {k : Nat} {n : ByteArray} (hok : ∀ i q, i < k -> l[i]? = some q -> okQ h l i q) (hn : ∃ y ∈ l.take k, y.name = n) : ¬ n = ⟨#[]⟩ := by
 rintro rfl
 obtain ⟨y, hy, he⟩ := hn
 obtain ⟨i, hi⟩ := List.getElem?_of_mem hy
 have hik : i < k := by have := (List.getElem?_eq_some_iff.1 hi).1;simp at this;omega
 have := (hok i y hik (by rw [List.getElem?_take_of_lt hik] at hi;exact hi)).2.1.1
 rw [he] at this
 exact V4 this
set_option maxHeartbeats 8000000 in
theorem Qg (h : HouseR) (c : SheetR) (hf : h.fits) (hc : c.fits) : Fn0 Tryz.prog 85 [A4 h.row, A4 c.row] (.b (decide (validP h c))) := by
 obtain ⟨hc1, hc2, hc3⟩ := hc
 have hf1 := hf.1
 have hle : (c.cues.map CueR.row).length = c.cues.length := List.length_map _
 refine Fn0.of Tryz.func85 Tryz.ntmps85 rfl rfl rfl ?_
 simp only [A0]
 repeat' (first | refine W ?_|refine Zc (Mi h hf) ?_ | refine V ?_|(refine W2 ?_ ?_ <;> intro hc))
 all_goals first
  | exact A5 (by simp) Tryz.results85 rfl (congrArg Value.bool (decide_eq_false (fun hh => by
    obtain ⟨g1, g2, _⟩ := hh
    first | contradiction | omega)).symm)
  | skip
 refine T.loopS (fun k => k <= c.cues.length /\ (0 <= Eo (c.cues.take k) /\ Eo (c.cues.take k) <= 100) /\ ∀ i q, i < k -> c.cues[i]? = some q -> okQ h c.cues i q) (fun k => c.cues.length - k) (fun k => [(20, .i k), (19, .i (c.cues.map CueR.row).length), (18, .sl (c.cues.map CueR.row)), (2, .ptr 0 0), (3, .ptr 1 0), (5, .i (Eo (c.cues.take k)))]) (fun _ => [.live (h.row.map .lf), .live (c.row.map .lf)]) 0 ⟨Nat.zero_le _, by simp [Eo], by intro i q h;omega⟩ CV CH ?_
 rintro k ⟨hk, hsum, hok⟩
 by_cases hlt : k < c.cues.length
 ·have h1 : (k : Int) < ((c.cues.map CueR.row).length : Nat) := by omega
  obtain ⟨q, hq⟩ := Ac hlt
  have hb := Ad (R := CueR.row) hq
  have hsn := Af hq
  have hmem : q ∈ c.cues := List.mem_of_getElem? hq
  have hm3 := hc3 q hmem
  have hle3 : (q.moves.map MoveR.row).length = q.moves.length := List.length_map _
  have hss : Eo (c.cues.take (k + 1)) = Eo (c.cues.take k) + (q.moves.map MoveR.row).length := by rw [hsn, Rj, hle3]
  have hidx : Az c.cues q.name = (k : Int) ↔ _ := Fj (p := fun s : CueR => s.name = q.name) hq rfl
  have haft : 0 <= Az (c.cues.take k) q.after ↔ _ := Wx
  have hne := A1y (n := q.after) hok
  have hbad : ¬ okQ h c.cues k q -> ¬ validP h c := fun g hh => g (hh.2.2.1 k q hq)
  repeat' (first | refine W ?_|(apply T.drawAll A3 (by kernel_rfl))|(apply S.indexR;(iterate 3 exact rfl);exact hb;omega;exact rfl)|(apply S.loadRW;(iterate 4 exact rfl))|(apply S.boolNe;(iterate 3 exact rfl))|(apply S.call;exact rfl;exact rfl;exact Qf h q hf1 (by omega);exact rfl)|refine Zc (Iv c.cues q.name hc1) ?_|(apply S.sliceTo;(iterate 3 exact rfl);omega;(intro row hr;obtain ⟨z, _, rfl⟩ := List.mem_map.1 hr;rfl))|refine Zc (Rl c.cues k q.after hc1) ?_|refine Za ?_ | refine V ?_|(refine W2 ?_ ?_ <;> intro hc))
  all_goals (try change Next _ _ _ _ _ _)
  all_goals first
   | exact A5 (by simp) Tryz.results85 rfl (congrArg Value.bool (decide_eq_false (hbad fun hh => by
     obtain ⟨g1, g2, g3, g4, g5⟩ := hh
     have g6 := hidx.2 g3
     first
      | contradiction
      | omega
      | exact (by assumption : ¬ (q.link = 1 ↔ q.after = ⟨#[]⟩)) ⟨g4, fun e => Classical.byContradiction fun hn => hne (g5 hn) e⟩
      | (have := haft.2 (g5 (by assumption));omega))).symm)
   | exact Next.go (k + 1) ⟨by omega, by rw [hss];omega, by
     intro i p hi hp
     rcases Nat.lt_or_ge i k with h9 | h9
     ·exact hok i p h9 hp
     ·obtain rfl : i = k := by omega
      obtain rfl : q = p := by rw [hq] at hp;injection hp
      have g7 : q.link = 1 ↔ q.after = ⟨#[]⟩ := by first | assumption | exact Classical.byContradiction (by assumption)
      exact ⟨by rw [hss];omega, by assumption, hidx.1 (by first | assumption | exact Classical.byContradiction (by assumption)), g7.1, fun hn => haft.1 (by first | contradiction | omega)⟩⟩ (by omega) (.cons rfl rfl (.cons rfl rfl (.cons rfl rfl (.cons rfl rfl (.cons rfl rfl (.cons (by rw [hss];rfl) rfl .nil)))))) CH
 ·have h1 : ¬ (k : Int) < ((c.cues.map CueR.row).length : Nat) := by omega
  have hall : Ws h c.cues := fun i p hp => hok i p (by have := (List.getElem?_eq_some_iff.1 hp).1;omega) hp
  repeat' (first | refine W ?_|refine Zc (Yt c hc1 hc2) ?_ | refine V ?_|(refine W2 ?_ ?_ <;> intro hc))
  all_goals exact A5 (by simp) Tryz.results85 rfl (congrArg Value.bool (decide_eq_decide.2 ⟨fun g => ⟨by assumption, by omega, hall, g⟩, fun g => g.2.2.2⟩))
set_option maxHeartbeats 8000000 in
theorem R7 (h : HouseR) (c : SheetR) (hf : h.fits) (hc : c.fits) : Fn0 Tryz.prog 44 [A4 h.row, A4 c.row] (.b (decide (validP h c))) := by
 obtain ⟨hc1, hc2, hc3⟩ := hc
 have hf1 := hf.1
 have hle : (c.cues.map CueR.row).length = c.cues.length := List.length_map _
 have hle2 : (c.apart.map Be).length = c.apart.length := List.length_map _
 refine Fn0.of Tryz.func44 Tryz.ntmps44 rfl rfl rfl ?_
 simp only [A0]
 repeat' (first | refine W ?_|refine Zc (A0e h hf) ?_ | refine V ?_|(refine W2 ?_ ?_ <;> intro hc))
 all_goals first
  | exact A5 (by simp) Tryz.results44 rfl (congrArg Value.bool (decide_eq_false (fun hh => by
    obtain ⟨g1, g2, g3, g4⟩ := hh
    have g5 := g4.1
    first | contradiction | omega)).symm)
  | skip
 refine T.loopS (fun k => k <= c.cues.length /\ (0 <= Eo (c.cues.take k) /\ Eo (c.cues.take k) <= 100) /\ ∀ i q, i < k -> c.cues[i]? = some q -> okQ h c.cues i q) (fun k => c.cues.length - k) (fun k => [(6, .i k), (2, .ptr 0 0), (3, .ptr 1 0), (5, .i (Eo (c.cues.take k)))]) (fun _ => [.live (h.row.map .lf), .live (c.row.map .lf)]) 0 ⟨Nat.zero_le _, by simp [Eo], by intro i q h;omega⟩ CV CH ?_
 rintro k ⟨hk, hsum, hok⟩
 by_cases hlt : k < c.cues.length
 ·have h1 : (k : Int) < ((c.cues.map CueR.row).length : Nat) := by omega
  obtain ⟨q, hq⟩ := Ac hlt
  have hb := Ad (R := CueR.row) hq
  have hsn := Af hq
  have hmem : q ∈ c.cues := List.mem_of_getElem? hq
  have hm3 := hc3 q hmem
  have hle3 : (q.moves.map MoveR.row).length = q.moves.length := List.length_map _
  have hss : Eo (c.cues.take (k + 1)) = Eo (c.cues.take k) + (q.moves.map MoveR.row).length := by rw [hsn, Rj, hle3]
  have hidx : Az c.cues q.name = (k : Int) ↔ _ := Fj (p := fun s : CueR => s.name = q.name) hq rfl
  have haft : (0 <= Az c.cues q.after /\ Az c.cues q.after < (k : Int)) ↔ _ := idx_lt_iff
  have hbad : ¬ okQ h c.cues k q -> ¬ validP h c := fun g hh => g (hh.2.2.1 k q hq)
  repeat' (first | refine W ?_|(apply T.drawAll A3 (by kernel_rfl))|(apply S.indexR;(iterate 3 exact rfl);exact hb;omega;exact rfl)|(apply S.loadRW;(iterate 4 exact rfl))|(apply S.call;exact rfl;exact rfl;exact A0h h q hf1 (by omega);exact rfl)|refine Zc (Ts c _ hc1) ?_|refine Za ?_ | refine V ?_|(refine W2 ?_ ?_ <;> intro hc))
  all_goals (try change Next _ _ _ _ _ _)
  all_goals first
   | exact A5 (by simp) Tryz.results44 rfl (congrArg Value.bool (decide_eq_false (hbad fun hh => by
     obtain ⟨g1, g2, g3, g4, g5⟩ := hh
     have g6 := hidx.2 g3
     first
      | contradiction
      | omega
      | exact (by assumption : ¬ q.after = (⟨#[]⟩ : ByteArray)) (g4 (by assumption))
      | (have := haft.2 (g5 (by assumption));omega))).symm)
   | exact Next.go (k + 1) ⟨by omega, by rw [hss];omega, by
     intro i p hi hp
     rcases Nat.lt_or_ge i k with h9 | h9
     ·exact hok i p h9 hp
     ·obtain rfl : i = k := by omega
      obtain rfl : q = p := by rw [hq] at hp;injection hp
      exact ⟨by rw [hss];omega, by assumption, hidx.1 (by first | assumption | exact Classical.byContradiction (by assumption)), fun e => (by first | contradiction | assumption | exact Classical.byContradiction (by assumption)), fun hn => haft.1 (by first | contradiction | omega)⟩⟩ (by omega) (.cons rfl rfl (.cons rfl rfl (.cons rfl rfl (.cons (by rw [hss];rfl) rfl .nil)))) CH
 ·have h1 : ¬ (k : Int) < ((c.cues.map CueR.row).length : Nat) := by omega
  have hall : Ws h c.cues := fun i p hp => hok i p (by have := (List.getElem?_eq_some_iff.1 hp).1;omega) hp
  repeat' (first | refine W ?_ | refine V ?_|(refine W2 ?_ ?_ <;> intro hc))
  refine T.loopS (fun k => k <= c.apart.length /\ ∀ i p, i < k -> c.apart[i]? = some p -> okP c i p) (fun k => c.apart.length - k) (fun k => [(9, .i k), (2, .ptr 0 0), (3, .ptr 1 0)]) (fun _ => [.live (h.row.map .lf), .live (c.row.map .lf)]) 0 ⟨Nat.zero_le _, by intro i q h;omega⟩ CV CH ?_
  rintro k ⟨hk, hokp⟩
  by_cases hlt2 : k < c.apart.length
  ·have h1 : (k : Int) < ((c.apart.map Be).length : Nat) := by omega
   obtain ⟨x, hx⟩ := Ac hlt2
   have hb := Ad (R := Be) hx
   have hsn := Af hx
   have hbad : ¬ okP c k x -> ¬ validP h c := fun g hh => g (hh.2.2.2.2 k x hx)
   repeat' (first | refine W ?_|(apply T.drawAll A3 (by kernel_rfl))|(apply S.indexR;(iterate 3 exact rfl);exact hb;omega;exact rfl)|(apply S.idxAR;(iterate 3 exact rfl);exact ⟨by decide, by decide⟩;exact rfl)|refine Zc (Ts c _ hc1) ?_|refine Za ?_ | refine V ?_|(refine W2 ?_ ?_ <;> intro hc))
   all_goals first
    | exact A5 (by simp) Tryz.results44 rfl (congrArg Value.bool (decide_eq_false (hbad fun hh => by
      obtain ⟨⟨g1, g2⟩, g3, g4⟩ := hh
      first
       | contradiction
       | omega)).symm)
    | skip
   refine T.loopS (fun j => j <= k /\ ∀ y ∈ c.apart.take j, ¬ G0 y x) (fun j => k - j) (fun j => [(12, .i j), (9, .i k), (2, .ptr 0 0), (3, .ptr 1 0), (10, .s x.1), (11, .s x.2)]) (fun _ => [.live (h.row.map .lf), .live (c.row.map .lf)]) 0 ⟨Nat.zero_le _, by simp⟩ CV CH ?_
   rintro j ⟨hj, hne⟩
   by_cases hjk : j < k
   ·have h2 : (j : Int) < k := by omega
    obtain ⟨y, hy⟩ := Ac (l := c.apart) (k := j) (by omega)
    have hby := Ad (R := Be) hy
    have hsj := Af hy
    have hyk : y ∈ c.apart.take k := List.mem_of_getElem? (by rw [List.getElem?_take_of_lt hjk];exact hy)
    repeat' (first | refine W ?_|(apply T.drawAll A3 (by kernel_rfl))|(apply S.indexR;(iterate 3 exact rfl);exact hby;omega;exact rfl)|(apply S.idxAR;(iterate 3 exact rfl);exact ⟨by decide, by decide⟩;exact rfl)|refine Za ?_ | refine V ?_|(refine W2 ?_ ?_ <;> intro hc))
    all_goals (try change Next _ _ _ _ _ _)
    all_goals first
     | exact A5 (by simp) Tryz.results44 rfl (congrArg Value.bool (decide_eq_false (hbad fun hh => by
       obtain ⟨_, _, g4⟩ := hh
       refine g4 ⟨y, hyk, ?_⟩
       first
        | exact .inl ⟨by assumption, by assumption⟩
        | exact .inr ⟨by assumption, by assumption⟩)).symm)
     | exact Next.go (j + 1) ⟨by omega, by rw [hsj];intro z hz;rcases List.mem_append.1 hz with hz | hz;exact hne z hz;obtain rfl : z = y := (by simpa using hz);unfold G0;rintro (⟨e1, e2⟩ | ⟨e1, e2⟩) <;> contradiction⟩ (by omega) CV CH
   ·have h2 : ¬ (j : Int) < k := by omega
    obtain rfl : j = k := by omega
    repeat' (first | refine W ?_|refine Za ?_ | refine V ?_|(refine W2 ?_ ?_ <;> intro hc))
    all_goals (try change Next _ _ _ _ _ _)
    exact Next.go (j + 1) ⟨by omega, by
      intro i p hi hp
      rcases Nat.lt_or_ge i j with h9 | h9
      ·exact hokp i p h9 hp
      ·obtain rfl : i = j := by omega
       obtain rfl : x = p := by rw [hx] at hp;injection hp
       exact ⟨⟨by omega, by omega⟩, by assumption, fun ⟨y, hy, he⟩ => hne y hy he⟩⟩ (by omega) CV CH
  ·have h1 : ¬ (k : Int) < ((c.apart.map Be).length : Nat) := by omega
   have hallp : L2 c := ⟨by omega, fun i p hp => hokp i p (by have := (List.getElem?_eq_some_iff.1 hp).1;omega) hp⟩
   repeat' (first | refine W ?_ | refine V ?_|(refine W2 ?_ ?_ <;> intro hc))
   exact A5 (by simp) Tryz.results44 rfl (congrArg Value.bool (decide_eq_true ⟨by assumption, by omega, hall, hallp⟩).symm)
theorem An {H : AH} (l : List Lf) : OutL H (l.map .lf) (l.map .lf) := by
 induction l with
 | nil => exact .nil
 | cons x l ih => exact .cons (.lf x) ih
theorem Res.row {P : Program} {st : St} {t b n : Nat} {ty : TypeId} {cells : List AV} {ds : TypeDesc} (cs : List Lf) [hu : HasU P ty ds] [hi : HasS P ty n] (h : st.tm.get t = some (.ptr b 0)) (hb : st.H.at b = .live cells) (hd : ds.isRow = true) (hc : cells = cs.map .lf) (hn : Nat.beq cs.length n = true) : Res P st (.cell t ty) (A4 cs) := by
 subst hc
 have hn' := Nat.eq_of_beq_eq_true hn
 have := Res.cells h hb hu.out hd hi.out (Nat.ble_eq_true_of_le (by simp;omega))
 rw [List.drop_zero, List.take_of_length_le (by simp;omega)] at this
 exact this
noncomputable instance (h : HouseR) (c : SheetR) : Decidable (¬ Lg h 8 \/ ¬ Ld c 8) := Classical.propDecidable _
def Cp (h : HouseR) (l : List Int) : Prop := ∀ (i : Nat) (n : Int) (s : SetR), l[i]? = some n -> h.sets[i]? = some s -> s.low <= n /\ n <= s.high
open Classical in
noncomputable def Cq (h : HouseR) (l : List Int) (q : CueR) : Int := if D7 h /\ Cj h q then (if l.length = h.sets.length then (if Cp h l then 0 else 2) else 3) else 1
theorem N9 {h : HouseR} {l : List Int} {q : CueR} (g : ¬ (D7 h /\ Cj h q)) : Cq h l q = 1 := by unfold Cq;rw [if_neg g]
theorem So {h : HouseR} {l : List Int} {q : CueR} (g : D7 h /\ Cj h q) (g2 : ¬ l.length = h.sets.length) : Cq h l q = 3 := by unfold Cq;rw [if_pos g, if_neg g2]
theorem Sn {h : HouseR} {l : List Int} {q : CueR} (g : D7 h /\ Cj h q) (g2 : l.length = h.sets.length) (g3 : ¬ Cp h l) : Cq h l q = 2 := by unfold Cq;rw [if_pos g, if_pos g2, if_neg g3]
theorem N8 {h : HouseR} {l : List Int} {q : CueR} (g : D7 h /\ Cj h q) (g2 : l.length = h.sets.length) (g3 : Cp h l) : Cq h l q = 0 := by unfold Cq;rw [if_pos g, if_pos g2, if_pos g3]
set_option maxHeartbeats 8000000 in
theorem Yv (h : HouseR) (l : List Int) (q : CueR) (hf : h.fits) (hq : q.moves.length <= 9223372036854775807) (hl : l.length <= 9223372036854775807) : Fn0 Tryz.prog 87 [A4 h.row, .sl (l.map A1), A4 q.row] (.i (Cq h l q)) := by
 have hf1 := hf.1
 have hle : (h.sets.map SetR.row).length = h.sets.length := List.length_map _
 have hle2 : (l.map A1).length = l.length := List.length_map _
 refine Fn0.of Tryz.func87 Tryz.ntmps87 rfl rfl rfl ?_
 simp only [A0]
 repeat' (first | refine W ?_|refine Zc (Mi h hf) ?_|refine Zc (Qf h q hf1 hq) ?_ | refine V ?_|(refine W2 ?_ ?_ <;> intro hc))
 all_goals first
  | exact A5 (by simp) Tryz.results87 rfl (congrArg (Value.int .i64) (N9 (fun g => absurd g.1 (by assumption))).symm)
  | exact A5 (by simp) Tryz.results87 rfl (congrArg (Value.int .i64) (N9 (fun g => absurd g.2 (by assumption))).symm)
  | exact A5 (by simp) Tryz.results87 rfl (congrArg (Value.int .i64) (So ⟨by assumption, by assumption⟩ (by omega)).symm)
  | skip
 have hg : D7 h /\ Cj h q := ⟨by assumption, by assumption⟩
 have hll : l.length = h.sets.length := by omega
 refine T.loopS (fun k => k <= l.length /\ ∀ (i : Nat) (n : Int) (s : SetR), i < k -> l[i]? = some n -> h.sets[i]? = some s -> s.low <= n /\ n <= s.high) (fun k => l.length - k) (fun k => [(28, .i k), (27, .i (l.map A1).length), (26, .sl (l.map A1)), (3, .ptr 0 0)]) (fun _ => [.live (h.row.map .lf)]) 0 ⟨Nat.zero_le _, by intro i n s h;omega⟩ CV (.live rfl .nil) ?_
 rintro k ⟨hk, hok⟩
 by_cases hlt : k < l.length
 ·have h1 : (k : Int) < ((l.map A1).length : Nat) := by omega
  obtain ⟨x, hx⟩ := Ac hlt
  obtain ⟨s, hs⟩ := Ac (l := h.sets) (k := k) (by omega)
  have hb := Ad (R := A1) hx
  have hbs := Ad (R := SetR.row) hs
  repeat' (first | refine W ?_|(apply T.drawAll A3 (by kernel_rfl))|(apply S.indexR;(iterate 3 exact rfl);exact hb;omega;exact rfl)|(apply S.indexR;(iterate 3 exact rfl);exact hbs;omega;exact rfl)|refine Zc (G7 _ _ _) ?_|refine Za ?_ | refine V ?_|(refine W2 ?_ ?_ <;> intro hc))
  all_goals (try change Next _ _ _ _ _ _)
  all_goals first
   | exact Next.go (k + 1) ⟨by omega, by
     intro i n t hi hn ht
     rcases Nat.lt_or_ge i k with h9 | h9
     ·exact hok i n t h9 hn ht
     ·obtain rfl : i = k := by omega
      obtain rfl : x = n := by rw [hx] at hn;injection hn
      obtain rfl : s = t := by rw [hs] at ht;injection ht
      assumption⟩ (by omega) CV (.live rfl .nil)
   | exact A5 (by simp) Tryz.results87 rfl (congrArg (Value.int .i64) (Sn hg hll (fun g => absurd (g k x s hx hs) (by assumption))).symm)
 ·have h1 : ¬ (k : Int) < ((l.map A1).length : Nat) := by omega
  repeat' (first | refine W ?_ | refine V ?_|(refine W2 ?_ ?_ <;> intro hc))
  exact A5 (by simp) Tryz.results87 rfl (congrArg (Value.int .i64) (N8 hg hll (fun i n s hn hs => hok i n s (by have := (List.getElem?_eq_some_iff.1 hn).1;omega) hn hs)).symm)
def Q6 (d : Int) (m : MoveR) : Int := if C4 m then (if 0 <= d /\ d <= 1048576 then 0 else 2) else 1
theorem Om (d : Int) (m : MoveR) : Fn0 Tryz.prog 230 [.i d, A4 m.row] (.i (Q6 d m)) := by
 refine Fn0.of Tryz.func230 Tryz.ntmps230 rfl rfl rfl ?_
 simp only [A0]
 repeat' (first | refine W ?_|refine Zc (Jk m) ?_|refine Zc (Mm _ _ _) ?_ | refine V ?_|(refine W2 ?_ ?_ <;> intro hc))
 all_goals exact A5 (by simp) Tryz.results230 rfl (by unfold Q6;simp [*])
set_option maxHeartbeats 4000000 in
theorem A3d (d w : Int) (m : MoveR) (hm : C4 m) (hd : 0 <= d /\ d <= 1048576) (hw : 0 <= w /\ w <= 32768) : Fn0 Tryz.prog 214 [.i d, A4 m.row, .i w] (.b (decide (w * w * (m.rise + m.fall) <= 2 * m.rise * m.fall * d))) := by
 obtain ⟨_, _, _, h4, h5⟩ := hm
 have b1 : 0 <= w * w /\ w * w <= 32768 * 32768 := ⟨Int.mul_nonneg hw.1 hw.1, Int.mul_le_mul hw.2 hw.2 hw.1 (by omega)⟩
 have b2 : 0 <= w * w * (m.rise + m.fall) /\ w * w * (m.rise + m.fall) <= 32768 * 32768 * 32768 := ⟨Int.mul_nonneg b1.1 (by omega), Int.mul_le_mul b1.2 (by omega) (by omega) (by omega)⟩
 have b3 : 0 <= 2 * m.rise * m.fall /\ 2 * m.rise * m.fall <= 32768 * 16384 := ⟨Int.mul_nonneg (by omega) (by omega), Int.mul_le_mul (by omega) h5.2 (by omega) (by omega)⟩
 have b4 : 0 <= 2 * m.rise * m.fall * d /\ 2 * m.rise * m.fall * d <= 32768 * 16384 * 1048576 := ⟨Int.mul_nonneg b3.1 hd.1, Int.mul_le_mul b3.2 hd.2 hd.1 (by omega)⟩
 refine Fn0.of Tryz.func214 Tryz.ntmps214 rfl rfl rfl ?_
 simp only [A0]
 repeat' (first | refine W ?_|refine Za ?_ | refine V ?_|(refine W2 ?_ ?_ <;> intro hc))
 all_goals exact A5 (by simp) Tryz.results214 rfl rfl
def Ka (P : Nat -> Bool) : Nat -> Nat
 | 0 => 0
 | k + 1 => if P (k + 1) = true then k + 1 else Ka P k
theorem Q5 {P : Nat -> Bool} {lo : Nat} : ∀ {k : Nat}, (lo = 0 \/ P lo = true) -> lo <= k -> (∀ w, lo < w -> w <= k -> ¬ P w = true) -> Ka P k = lo
 | 0, _, h, _ => by simp [Ka];omega
 | k + 1, h0, h, hn => by
  rw [Ka]
  by_cases e : lo = k + 1
  ·rw [if_pos]
   ·exact e.symm
   ·rcases h0 with h0 | h0
    ·omega
    ·rw [<- e];exact h0
  ·rw [if_neg (hn (k + 1) (by omega) (Nat.le_refl _))]
   exact Q5 h0 (by omega) fun w h1 h2 => hn w h1 (by omega)
def Cc (d : Int) (m : MoveR) (w : Int) : Prop := w * w * (m.rise + m.fall) <= 2 * d * m.rise * m.fall
instance (d : Int) (m : MoveR) (w : Int) : Decidable (Cc d m w) := by unfold Cc;exact inferInstance
theorem Sl {d : Int} {m : MoveR} {v w : Int} (hm : 0 <= m.rise + m.fall) (h0 : 0 <= v) (h : v <= w) (hw : Cc d m w) : Cc d m v := by
 unfold Cc at hw ⊢
 have h1 : v * v <= w * w := Int.mul_le_mul h h h0 (by omega)
 have h2 := Int.mul_le_mul_of_nonneg_right h1 hm
 omega
def Av (d : Int) (m : MoveR) : Nat := if d = 0 then 0 else Ka (fun w => decide (Cc d m w)) m.speed.toNat
set_option maxHeartbeats 4000000 in
theorem A37 (d : Int) (m : MoveR) (hm : C4 m) (hd : 0 <= d /\ d <= 1048576) : Fn0 Tryz.prog 231 [.i d, A4 m.row] (.i (Av d m)) := by
 obtain ⟨_, _, h3, h4, h5⟩ := hm
 by_cases hd0 : d = 0
 ·skip
  refine Fn0.of Tryz.func231 Tryz.ntmps231 rfl rfl rfl ?_
  simp only [A0]
  repeat' (first | refine W ?_|(apply T.drawAll A3 (by kernel_rfl)) | refine V ?_|(refine W2 ?_ ?_ <;> intro hc))
  all_goals exact A5 (by simp) Tryz.results231 rfl (by simp [Av, hd0])
 ·have c1 : 0 <= 2 * d * m.rise /\ 2 * d * m.rise <= 2097152 * 16384 := ⟨Int.mul_nonneg (by omega) (by omega), Int.mul_le_mul (by omega) h4.2 (by omega) (by omega)⟩
  have c2 : 0 <= 2 * d * m.rise * m.fall /\ 2 * d * m.rise * m.fall <= 2097152 * 16384 * 16384 := ⟨Int.mul_nonneg c1.1 (by omega), Int.mul_le_mul c1.2 h5.2 (by omega) (by omega)⟩
  have key : ∀ w : Int, 0 <= w -> w <= 8192 -> (0 <= w * w /\ w * w <= 8192 * 8192) /\ 0 <= w * w * (m.rise + m.fall) /\ w * w * (m.rise + m.fall) <= 8192 * 8192 * 32768 := fun w g1 g2 => by
   have b1 : 0 <= w * w /\ w * w <= 8192 * 8192 := ⟨Int.mul_nonneg g1 g1, Int.mul_le_mul g2 g2 g1 (by omega)⟩
   exact ⟨b1, Int.mul_nonneg b1.1 (by omega), Int.mul_le_mul b1.2 (by omega) (by omega) (by omega)⟩
  have hsp : ((m.speed.toNat : Nat) : Int) = m.speed := Int.toNat_of_nonneg (by omega)
  refine Fn0.of Tryz.func231 Tryz.ntmps231 rfl rfl rfl ?_
  simp only [A0]
  repeat' (first | refine W ?_|(apply T.drawAll A3 (by kernel_rfl)) | refine V ?_|(refine W2 ?_ ?_ <;> intro hc))
  refine T.loopS (fun (p : Nat × Nat) => p.1 <= p.2 /\ p.2 <= m.speed.toNat /\ Cc d m p.1 /\ ∀ w : Nat, p.2 < w -> w <= m.speed.toNat -> ¬ Cc d m w) (fun p => p.2 - p.1) (fun p => [(5, .i p.1), (6, .i p.2), (0, .i d), (3, .ptr 0 0)]) (fun _ => [.live (m.row.map .lf)]) (0, m.speed.toNat) ⟨by omega, Nat.le_refl _, by unfold Cc;simp only [Int.natCast_zero, Int.zero_mul, Int.ofNat_zero];omega, by intro w h1 h2;omega⟩ (.cons rfl rfl (.cons (by rw [hsp];rfl) rfl CV)) (.live rfl .nil) ?_
  rintro p ⟨i1, i2, i3, i4⟩
  by_cases hlt : p.1 < p.2
  ·have h1 : (p.1 : Int) < p.2 := by omega
   have kb := key (((p.1 : Int) + p.2 + 1) / 2) (by omega) (by omega)
   have hmid : ((p.1 : Int) + p.2 + 1) / 2 = (((p.1 + p.2 + 1) / 2 : Nat) : Int) := by omega
   repeat' (first | refine W ?_|(apply S.quo;(iterate 3 exact rfl);omega)|refine Za ?_ | refine V ?_|(refine W2 ?_ ?_ <;> intro hc))
   all_goals (try change Next _ _ _ _ _ _)
   all_goals first
    | exact Next.go ((p.1 + p.2 + 1) / 2, p.2) ⟨by simp only;omega, i2, by simp only;rw [<- hmid];assumption, i4⟩ (by simp only;omega) (.cons (by rw [<- hmid];rfl) rfl CV) (.live rfl .nil)
    | exact Next.go (p.1, (p.1 + p.2 + 1) / 2 - 1) ⟨by simp only;omega, by simp only;omega, i3, by
      intro w g1 g2 g3
      simp only at g1
      have g4 : Cc d m (((p.1 : Int) + p.2 + 1) / 2) := Sl (v := ((p.1 : Int) + p.2 + 1) / 2) (by omega) (by omega) (by omega) g3
      exact absurd g4 (by assumption)⟩ (by simp only;omega) (.cons rfl rfl (.cons (by rw [show (((p.1 + p.2 + 1) / 2 - 1 : Nat) : Int) = ((p.1 : Int) + p.2 + 1) / 2 - 1 by omega];rfl) rfl CV)) (.live rfl .nil)
  ·have h1 : ¬ (p.1 : Int) < p.2 := by omega
   have ht : Av d m = p.1 := by
    unfold Av
    rw [if_neg hd0]
    exact Q5 (.inr (decide_eq_true i3)) (by omega) fun w g1 g2 g3 => i4 w (by omega) g2 (of_decide_eq_true g3)
   repeat' (first | refine W ?_ | refine V ?_|(refine W2 ?_ ?_ <;> intro hc))
   exact A5 (by simp) Tryz.results231 rfl (by rw [ht])
theorem A11 (d w : Int) (m : MoveR) : (w * w * (m.rise + m.fall) <= 2 * m.rise * m.fall * d) ↔ Cc d m w := by
 unfold Cc
 rw [show 2 * m.rise * m.fall * d = 2 * d * m.rise * m.fall by ac_rfl]
theorem A0f (d w : Int) (m : MoveR) (hm : C4 m) (hd : 0 <= d /\ d <= 1048576) (hw : 0 <= w /\ w <= 32768) : Fn0 Tryz.prog 214 [.i d, A4 m.row, .i w] (.b (decide (Cc d m w))) := by
 have := A3d d w m hm hd hw
 rwa [decide_eq_decide.2 (A11 d w m)] at this
set_option maxHeartbeats 4000000 in
theorem A4u (d : Int) (m : MoveR) (hm : C4 m) (hd : 1 <= d /\ d <= 1048576) : Fn0 Tryz.prog 180 [.i d, A4 m.row] (.i (Av d m)) := by
 have hmv := hm
 obtain ⟨_, _, h3, h4, h5⟩ := hm
 have hpos : 0 <= 2 * d * m.rise * m.fall := Int.mul_nonneg (Int.mul_nonneg (by omega) (by omega)) (by omega)
 refine Fn0.of Tryz.func180 Tryz.ntmps180 rfl rfl rfl ?_
 simp only [A0]
 repeat' (first | refine W ?_ | refine V ?_|(refine W2 ?_ ?_ <;> intro hc))
 refine T.loopS (fun (p : Nat × Nat) => (p.1 : Int) <= m.speed /\ p.2 <= 16384 /\ (p.2 = 0 \/ ∃ k, p.2 = 2 ^ k) /\ Cc d m p.1 /\ ∀ w : Nat, p.1 + (if p.2 = 0 then 1 else 2 * p.2) <= w -> (w : Int) <= m.speed -> ¬ Cc d m w) (fun p => p.2) (fun p => [(5, .i p.1), (6, .i p.2), (0, .i d), (3, .ptr 0 0)]) (fun _ => [.live (m.row.map .lf)]) (0, 16384) ⟨by simp only [Int.ofNat_zero, Int.natCast_zero];omega, Nat.le_refl _, .inr ⟨14, rfl⟩, by unfold Cc;simp only [Int.natCast_zero, Int.zero_mul, Int.ofNat_zero];exact hpos, by intro w h1 h2;have h9 : 0 + 32768 <= w := h1;omega⟩ CV (.live rfl .nil) ?_
 rintro p ⟨i1, i2, i3, i4, i5⟩
 by_cases hlt : 0 < p.2
 ·have h1 : (p.2 : Int) > 0 := by omega
  have h1' : (0 : Int) < p.2 := by omega
  have hhalf : (p.2 : Int) / 2 = ((p.2 / 2 : Nat) : Int) := by omega
  have hpow : (p.2 / 2 = 0 \/ ∃ k, p.2 / 2 = 2 ^ k) /\ (if p.2 / 2 = 0 then 1 else 2 * (p.2 / 2)) = p.2 := by
   rcases i3 with i3 | ⟨k, i3⟩
   ·omega
   ·cases k with
    | zero => rw [i3];exact ⟨.inl rfl, rfl⟩
    | succ k =>
     have e : p.2 / 2 = 2 ^ k := by rw [i3, Nat.pow_succ];omega
     have e2 : 0 < 2 ^ k := Nat.two_pow_pos k
     refine ⟨.inr ⟨k, e⟩, ?_⟩
     rw [if_neg (by omega), e, i3, Nat.pow_succ];omega
  have i5' : ∀ w : Nat, p.1 + 2 * p.2 <= w -> (w : Int) <= m.speed -> ¬ Cc d m w := fun w g1 g2 => i5 w (by rw [if_neg (by omega)];exact g1) g2
  repeat' (first | refine W ?_|(apply S.call;exact rfl;exact rfl;exact A0f d _ m hmv (by omega) (by omega);exact rfl)|(apply S.quo;(iterate 3 exact rfl);omega)|refine Za ?_ | refine V ?_|(refine W2 ?_ ?_ <;> intro hc))
  all_goals (try change Next _ _ _ _ _ _)
  all_goals first
   | exact Next.go (p.1 + p.2, p.2 / 2) ⟨by simp only [Int.natCast_add];omega, by simp only;omega, hpow.1, by simp only [Int.natCast_add];assumption, by
     intro w g1 g2
     simp only at g1
     rw [hpow.2] at g1
     exact i5' w (by omega) g2⟩ (by simp only;omega) (.cons (by rw [show ((p.1 + p.2 : Nat) : Int) = (p.1 : Int) + p.2 by omega];rfl) rfl (.cons (by rw [<- hhalf];rfl) rfl CV)) (.live rfl .nil)
   | exact Next.go (p.1, p.2 / 2) ⟨i1, by simp only;omega, hpow.1, i4, by
     intro w g1 g2 g3
     simp only at g1
     rw [hpow.2] at g1
     have g4 : Cc d m ((p.1 : Int) + p.2) := Sl (v := (p.1 : Int) + p.2) (by omega) (by omega) (by omega) g3
     first | contradiction | omega⟩ (by simp only;omega) (.cons rfl rfl (.cons (by rw [<- hhalf];rfl) rfl CV)) (.live rfl .nil)
 ·have h1 : ¬ (p.2 : Int) > 0 := by omega
  have h1' : ¬ (0 : Int) < p.2 := by omega
  have ht : Av d m = p.1 := by
   unfold Av
   rw [if_neg (by omega)]
   exact Q5 (.inr (decide_eq_true i4)) (by omega) fun w g1 g2 g3 => i5 w (by rw [if_pos (by omega)];omega) (by omega) (of_decide_eq_true g3)
  repeat' (first | refine W ?_ | refine V ?_|(refine W2 ?_ ?_ <;> intro hc))
  exact A5 (by simp) Tryz.results180 rfl (by rw [ht])
end Go.Proofs.YtkboebgkcjcpfaaGreatDoor
