/- Contracts: sheets of cues that are valid (both sides). No conditions but those of each statement. -/
import Derived.Test.YtlapbaiejnaeiaaGreatDoorMm
import Derived.Test.YtlapbaiejnaeiaaGreatDoorMb
set_option linter.unusedSimpArgs false
set_option linter.unusedVariables false
namespace Go.Proofs.YtlapbaiejnaeiaaGreatDoor
open Go.RowKit
def Gb (l : List CueR) : Int := (l.map fun q => (q.moves.length : Int)).sum
theorem Va (l : List CueR) (q : CueR) : Gb (l ++ [q]) = Gb l + q.moves.length := by simp [Gb, List.sum_append]
def okQ (h : HouseR) (l : List CueR) (i : Nat) (q : CueR) : Prop := Gb (l.take (i + 1)) <= 100 /\ C0 h q /\ (¬ ∃ y ∈ l.take i, y.name = q.name) /\ (q.link = 1 -> q.after = ⟨#[]⟩) /\ (¬ q.link = 1 -> ∃ y ∈ l.take i, y.name = q.after)
def S3 (h : HouseR) (l : List CueR) : Prop := ∀ i q, l[i]? = some q -> okQ h l i q
def validP (h : HouseR) (c : SheetR) : Prop := Bx h /\ (c.cues.length : Int) <= 60 /\ S3 h c.cues /\ Ip c
noncomputable instance (h : HouseR) (c : SheetR) : Decidable (validP h c) := Classical.propDecidable _
theorem Qm : ¬ B9 ⟨#[]⟩ = true := by simp [B9]
theorem Vm {h : HouseR} {l : List CueR} {k : Nat} {n : ByteArray} (hok : ∀ i q, i < k -> l[i]? = some q -> okQ h l i q) (hn : ∃ y ∈ l.take k, y.name = n) : ¬ n = ⟨#[]⟩ := by
 rintro rfl
 obtain ⟨y, hy, he⟩ := hn
 obtain ⟨i, hi⟩ := List.getElem?_of_mem hy
 have hik : i < k := by have := (List.getElem?_eq_some_iff.1 hi).1;simp at this;omega
 have := (hok i y hik (by rw [List.getElem?_take_of_lt hik] at hi;exact hi)).2.1.1
 rw [he] at this
 exact Qm this
set_option maxHeartbeats 8000000 in
theorem Mm (h : HouseR) (c : SheetR) (hf : h.fits) (hc : c.fits) : Fn0 Tryz.prog 157 [A4 h.row, A4 c.row] (.b (decide (validP h c))) := by
 obtain ⟨hc1, hc2, hc3⟩ := hc
 have hf1 := hf.1
 have hle : (c.cues.map CueR.row).length = c.cues.length := List.length_map _
 refine Fn0.of Tryz.func157 Tryz.ntmps157 rfl rfl rfl ?_
 simp only [A0]
 repeat' (first | refine W ?_|refine Zc (Ga h hf) ?_ | refine V ?_|(refine W2 ?_ ?_ <;> intro hc))
 all_goals first
  | exact A3 (by simp) Tryz.results157 rfl (congrArg Value.bool (decide_eq_false (fun hh => by
    obtain ⟨g1, g2, _⟩ := hh
    first | contradiction | omega)).symm)
  | skip
 refine T.loopS (fun k => k <= c.cues.length /\ (0 <= Gb (c.cues.take k) /\ Gb (c.cues.take k) <= 100) /\ ∀ i q, i < k -> c.cues[i]? = some q -> okQ h c.cues i q) (fun k => c.cues.length - k) (fun k => [(20, .i k), (19, .i (c.cues.map CueR.row).length), (18, .sl (c.cues.map CueR.row)), (2, .ptr 0 0), (3, .ptr 1 0), (5, .i (Gb (c.cues.take k)))]) (fun _ => [.live (h.row.map .lf), .live (c.row.map .lf)]) 0 ⟨Nat.zero_le _, by simp [Gb], by intro i q h;omega⟩ CV CH ?_
 rintro k ⟨hk, hsum, hok⟩
 by_cases hlt : k < c.cues.length
 ·have h1 : (k : Int) < ((c.cues.map CueR.row).length : Nat) := by omega
  obtain ⟨q, hq⟩ := Ac hlt
  have hb := Ae (R := CueR.row) hq
  have hsn := Bd hq
  have hmem : q ∈ c.cues := List.mem_of_getElem? hq
  have hm3 := hc3 q hmem
  have hle3 : (q.moves.map MoveR.row).length = q.moves.length := List.length_map _
  have hss : Gb (c.cues.take (k + 1)) = Gb (c.cues.take k) + (q.moves.map MoveR.row).length := by rw [hsn, Va, hle3]
  have hidx : Bb c.cues q.name = (k : Int) ↔ _ := Hc (p := fun s : CueR => s.name = q.name) hq rfl
  have haft : 0 <= Bb (c.cues.take k) q.after ↔ _ := S8
  have hne := Vm (n := q.after) hok
  have hbad : ¬ okQ h c.cues k q -> ¬ validP h c := fun g hh => g (hh.2.2.1 k q hq)
  repeat' (first | refine W ?_|(apply T.drawAll A2 (by kernel_rfl))|refine Zi hb ?_|(apply S.loadRW;(iterate 4 exact rfl))|(apply S.boolNe;exact rfl;exact rfl;exact rfl)|(apply S.call;exact rfl;exact rfl;exact Ml h q hf1 (by omega);exact rfl)|refine Zc (H4 c.cues q.name hc1) ?_|(apply S.sliceTo;exact rfl;exact rfl;exact rfl;omega;(intro row hr;obtain ⟨z, _, rfl⟩ := List.mem_map.1 hr;rfl))|refine Zc (Nf c.cues k q.after hc1) ?_|refine Za ?_ | refine V ?_|(refine W2 ?_ ?_ <;> intro hc))
  all_goals (try change Next _ _ _ _ _ _)
  all_goals first
   | exact A3 (by simp) Tryz.results157 rfl (congrArg Value.bool (decide_eq_false (hbad fun hh => by
     obtain ⟨g1, g2, g3, g4, g5⟩ := hh
     have g6 := hidx.2 g3
     first
      | contradiction
      | omega
      | exact (by assumption : ¬ (q.link = 1 ↔ q.after = ⟨#[]⟩)) ⟨g4, fun e => Classical.byContradiction fun hn => hne (g5 hn) e⟩
      | (have := haft.2 (g5 (by assumption));omega))).symm)
   | exact Next.go (k + 1) ⟨by omega, by rw [hss];omega, by
     intro i p hi hp
     rcases Nat.lt_or_ge i k with h9 | h9
     ·exact hok i p h9 hp
     ·obtain rfl : i = k := by omega
      obtain rfl : q = p := by rw [hq] at hp;injection hp
      have g7 : q.link = 1 ↔ q.after = ⟨#[]⟩ := by first | assumption | exact Classical.byContradiction (by assumption)
      exact ⟨by rw [hss];omega, by assumption, hidx.1 (by first | assumption | exact Classical.byContradiction (by assumption)), g7.1, fun hn => haft.1 (by first | contradiction | omega)⟩⟩ (by omega) (.cons rfl rfl (.cons rfl rfl (.cons rfl rfl (.cons rfl rfl (.cons rfl rfl (.cons (by rw [hss];rfl) rfl .nil)))))) CH
 ·have h1 : ¬ (k : Int) < ((c.cues.map CueR.row).length : Nat) := by omega
  have hall : S3 h c.cues := fun i p hp => hok i p (by have := (List.getElem?_eq_some_iff.1 hp).1;omega) hp
  repeat' (first | refine W ?_|refine Zc (Ts c hc1 hc2) ?_ | refine V ?_|(refine W2 ?_ ?_ <;> intro hc))
  all_goals exact A3 (by simp) Tryz.results157 rfl (congrArg Value.bool (decide_eq_decide.2 ⟨fun g => ⟨by assumption, by omega, hall, g⟩, fun g => g.2.2.2⟩))
theorem Bm {H : AH} (l : List Lf) : OutL H (l.map .lf) (l.map .lf) := by
 induction l with
 | nil => exact .nil
 | cons x l ih => exact .cons (.lf x) ih
theorem Res.row {P : Program} {st : St} {t b n : Nat} {ty : TypeId} {cells : List AV} {ds : TypeDesc} (cs : List Lf) [hu : HasU P ty ds] [hi : HasS P ty n] (h : st.tm.get t = some (.ptr b 0)) (hb : st.H.at b = .live cells) (hd : ds.isRow = true) (hc : cells = cs.map .lf) (hn : Nat.beq cs.length n = true) : Res P st (.cell t ty) (A4 cs) := by
 subst hc
 have hn' := Nat.eq_of_beq_eq_true hn
 have := Res.cells h hb hu.out hd hi.out (Nat.ble_eq_true_of_le (by simp;omega))
 rw [List.drop_zero, List.take_of_length_le (by simp;omega)] at this
 exact this
def Bv (h : HouseR) (l : List Int) : Prop := ∀ (i : Nat) (n : Int) (s : SetR), l[i]? = some n -> h.sets[i]? = some s -> s.low <= n /\ n <= s.high
open Classical in
noncomputable def Cl (h : HouseR) (l : List Int) (q : CueR) : Int := if Bx h /\ C0 h q then (if l.length = h.sets.length then (if Bv h l then 0 else 2) else 3) else 1
theorem K7 {h : HouseR} {l : List Int} {q : CueR} (g : ¬ (Bx h /\ C0 h q)) : Cl h l q = 1 := by unfold Cl;rw [if_neg g]
theorem Oh {h : HouseR} {l : List Int} {q : CueR} (g : Bx h /\ C0 h q) (g2 : ¬ l.length = h.sets.length) : Cl h l q = 3 := by unfold Cl;rw [if_pos g, if_neg g2]
theorem Og {h : HouseR} {l : List Int} {q : CueR} (g : Bx h /\ C0 h q) (g2 : l.length = h.sets.length) (g3 : ¬ Bv h l) : Cl h l q = 2 := by unfold Cl;rw [if_pos g, if_pos g2, if_neg g3]
theorem Of {h : HouseR} {l : List Int} {q : CueR} (g : Bx h /\ C0 h q) (g2 : l.length = h.sets.length) (g3 : Bv h l) : Cl h l q = 0 := by unfold Cl;rw [if_pos g, if_pos g2, if_pos g3]
set_option maxHeartbeats 8000000 in
theorem Tu (h : HouseR) (l : List Int) (q : CueR) (hf : h.fits) (hq : q.moves.length <= 9223372036854775807) (hl : l.length <= 9223372036854775807) : Fn0 Tryz.prog 159 [A4 h.row, .sl (l.map A1), A4 q.row] (.i (Cl h l q)) := by
 have hf1 := hf.1
 have hle : (h.sets.map SetR.row).length = h.sets.length := List.length_map _
 have hle2 : (l.map A1).length = l.length := List.length_map _
 refine Fn0.of Tryz.func159 Tryz.ntmps159 rfl rfl rfl ?_
 simp only [A0]
 repeat' (first | refine W ?_|refine Zc (Ga h hf) ?_|refine Zc (Ml h q hf1 hq) ?_ | refine V ?_|(refine W2 ?_ ?_ <;> intro hc))
 all_goals first
  | exact A3 (by simp) Tryz.results159 rfl (congrArg (Value.int .i64) (K7 (fun g => absurd g.1 (by assumption))).symm)
  | exact A3 (by simp) Tryz.results159 rfl (congrArg (Value.int .i64) (K7 (fun g => absurd g.2 (by assumption))).symm)
  | exact A3 (by simp) Tryz.results159 rfl (congrArg (Value.int .i64) (Oh ⟨by assumption, by assumption⟩ (by omega)).symm)
  | skip
 have hg : Bx h /\ C0 h q := ⟨by assumption, by assumption⟩
 have hll : l.length = h.sets.length := by omega
 refine T.loopS (fun k => k <= l.length /\ ∀ (i : Nat) (n : Int) (s : SetR), i < k -> l[i]? = some n -> h.sets[i]? = some s -> s.low <= n /\ n <= s.high) (fun k => l.length - k) (fun k => [(28, .i k), (27, .i (l.map A1).length), (26, .sl (l.map A1)), (3, .ptr 0 0)]) (fun _ => [.live (h.row.map .lf)]) 0 ⟨Nat.zero_le _, by intro i n s h;omega⟩ CV (.live rfl .nil) ?_
 rintro k ⟨hk, hok⟩
 by_cases hlt : k < l.length
 ·have h1 : (k : Int) < ((l.map A1).length : Nat) := by omega
  obtain ⟨x, hx⟩ := Ac hlt
  obtain ⟨s, hs⟩ := Ac (l := h.sets) (k := k) (by omega)
  have hb := Ae (R := A1) hx
  have hbs := Ae (R := SetR.row) hs
  repeat' (first | refine W ?_|(apply T.drawAll A2 (by kernel_rfl))|refine Zi hb ?_|refine Zi hbs ?_|refine Zc (Er _ _ _) ?_|refine Za ?_ | refine V ?_|(refine W2 ?_ ?_ <;> intro hc))
  all_goals (try change Next _ _ _ _ _ _)
  all_goals first
   | exact Next.go (k + 1) ⟨by omega, by
     intro i n t hi hn ht
     rcases Nat.lt_or_ge i k with h9 | h9
     ·exact hok i n t h9 hn ht
     ·obtain rfl : i = k := by omega
      obtain rfl : x = n := by rw [hx] at hn;injection hn
      obtain rfl : s = t := by rw [hs] at ht;injection ht
      assumption⟩ (by omega) CV (.live rfl .nil)
   | exact A3 (by simp) Tryz.results159 rfl (congrArg (Value.int .i64) (Og hg hll (fun g => absurd (g k x s hx hs) (by assumption))).symm)
 ·have h1 : ¬ (k : Int) < ((l.map A1).length : Nat) := by omega
  repeat' (first | refine W ?_ | refine V ?_|(refine W2 ?_ ?_ <;> intro hc))
  exact A3 (by simp) Tryz.results159 rfl (congrArg (Value.int .i64) (Of hg hll (fun i n s hn hs => hok i n s (by have := (List.getElem?_eq_some_iff.1 hn).1;omega) hn hs)).symm)
def Mf (d : Int) (m : MoveR) : Int := if Cf m then (if 0 <= d /\ d <= 1048576 then 0 else 2) else 1
theorem L5 (d : Int) (m : MoveR) : Fn0 Tryz.prog 175 [.i d, A4 m.row] (.i (Mf d m)) := by
 refine Fn0.of Tryz.func175 Tryz.ntmps175 rfl rfl rfl ?_
 simp only [A0]
 repeat' (first | refine W ?_|refine Zc (Hq m) ?_|refine Zc (Jm _ _ _) ?_ | refine V ?_|(refine W2 ?_ ?_ <;> intro hc))
 all_goals exact A3 (by simp) Tryz.results175 rfl (by unfold Mf;simp [*])
def Hz (P : Nat -> Bool) : Nat -> Nat
 | 0 => 0
 | k + 1 => if P (k + 1) = true then k + 1 else Hz P k
theorem Rm {P : Nat -> Bool} {lo : Nat} : ∀ {k : Nat}, (lo = 0 \/ P lo = true) -> lo <= k -> (∀ w, lo < w -> w <= k -> ¬ P w = true) -> Hz P k = lo
 | 0, _, h, _ => by simp [Hz];omega
 | k + 1, h0, h, hn => by
  rw [Hz]
  by_cases e : lo = k + 1
  ·rw [if_pos]
   ·exact e.symm
   ·rcases h0 with h0 | h0
    ·omega
    ·rw [<- e];exact h0
  ·rw [if_neg (hn (k + 1) (by omega) (Nat.le_refl _))]
   exact Rm h0 (by omega) fun w h1 h2 => hn w h1 (by omega)
def Dn (d : Int) (m : MoveR) (w : Int) : Prop := w * w * (m.rise + m.fall) <= 2 * d * m.rise * m.fall
instance (d : Int) (m : MoveR) (w : Int) : Decidable (Dn d m w) := by unfold Dn;exact inferInstance
theorem W6 {d : Int} {m : MoveR} {v w : Int} (hm : 0 <= m.rise + m.fall) (h0 : 0 <= v) (h : v <= w) (hw : Dn d m w) : Dn d m v := by
 unfold Dn at hw ⊢
 have h1 : v * v <= w * w := Int.mul_le_mul h h h0 (by omega)
 have h2 := Int.mul_le_mul_of_nonneg_right h1 hm
 omega
def Ar (d : Int) (m : MoveR) : Nat := if d = 0 then 0 else Hz (fun w => decide (Dn d m w)) m.speed.toNat
set_option maxHeartbeats 4000000 in
theorem Wx (d : Int) (m : MoveR) (hm : Cf m) (hd : 0 <= d /\ d <= 1048576) : Fn0 Tryz.prog 176 [.i d, A4 m.row] (.i (Ar d m)) := by
 obtain ⟨_, _, h3, h4, h5⟩ := hm
 by_cases hd0 : d = 0
 ·skip
  refine Fn0.of Tryz.func176 Tryz.ntmps176 rfl rfl rfl ?_
  simp only [A0]
  repeat' (first | refine W ?_|(apply T.drawAll A2 (by kernel_rfl)) | refine V ?_|(refine W2 ?_ ?_ <;> intro hc))
  all_goals exact A3 (by simp) Tryz.results176 rfl (by simp [Ar, hd0])
 ·have c1 : 0 <= 2 * d * m.rise /\ 2 * d * m.rise <= 2097152 * 16384 := ⟨Int.mul_nonneg (by omega) (by omega), Int.mul_le_mul (by omega) h4.2 (by omega) (by omega)⟩
  have c2 : 0 <= 2 * d * m.rise * m.fall /\ 2 * d * m.rise * m.fall <= 2097152 * 16384 * 16384 := ⟨Int.mul_nonneg c1.1 (by omega), Int.mul_le_mul c1.2 h5.2 (by omega) (by omega)⟩
  have key : ∀ w : Int, 0 <= w -> w <= 8192 -> (0 <= w * w /\ w * w <= 8192 * 8192) /\ 0 <= w * w * (m.rise + m.fall) /\ w * w * (m.rise + m.fall) <= 8192 * 8192 * 32768 := fun w g1 g2 => by
   have b1 : 0 <= w * w /\ w * w <= 8192 * 8192 := ⟨Int.mul_nonneg g1 g1, Int.mul_le_mul g2 g2 g1 (by omega)⟩
   exact ⟨b1, Int.mul_nonneg b1.1 (by omega), Int.mul_le_mul b1.2 (by omega) (by omega) (by omega)⟩
  have hsp : ((m.speed.toNat : Nat) : Int) = m.speed := Int.toNat_of_nonneg (by omega)
  refine Fn0.of Tryz.func176 Tryz.ntmps176 rfl rfl rfl ?_
  simp only [A0]
  repeat' (first | refine W ?_|(apply T.drawAll A2 (by kernel_rfl)) | refine V ?_|(refine W2 ?_ ?_ <;> intro hc))
  refine T.loopS (fun (p : Nat × Nat) => p.1 <= p.2 /\ p.2 <= m.speed.toNat /\ Dn d m p.1 /\ ∀ w : Nat, p.2 < w -> w <= m.speed.toNat -> ¬ Dn d m w) (fun p => p.2 - p.1) (fun p => [(5, .i p.1), (6, .i p.2), (0, .i d), (3, .ptr 0 0)]) (fun _ => [.live (m.row.map .lf)]) (0, m.speed.toNat) ⟨by omega, Nat.le_refl _, by unfold Dn;simp only [Int.natCast_zero, Int.zero_mul, Int.ofNat_zero];omega, by intro w h1 h2;omega⟩ (.cons rfl rfl (.cons (by rw [hsp];rfl) rfl CV)) (.live rfl .nil) ?_
  rintro p ⟨i1, i2, i3, i4⟩
  by_cases hlt : p.1 < p.2
  ·have h1 : (p.1 : Int) < p.2 := by omega
   have kb := key (((p.1 : Int) + p.2 + 1) / 2) (by omega) (by omega)
   have hmid : ((p.1 : Int) + p.2 + 1) / 2 = (((p.1 + p.2 + 1) / 2 : Nat) : Int) := by omega
   repeat' (first | refine W ?_|(apply S.quo;exact rfl;exact rfl;exact rfl;omega)|refine Za ?_ | refine V ?_|(refine W2 ?_ ?_ <;> intro hc))
   all_goals (try change Next _ _ _ _ _ _)
   all_goals first
    | exact Next.go ((p.1 + p.2 + 1) / 2, p.2) ⟨by simp only;omega, i2, by simp only;rw [<- hmid];assumption, i4⟩ (by simp only;omega) (.cons (by rw [<- hmid];rfl) rfl CV) (.live rfl .nil)
    | exact Next.go (p.1, (p.1 + p.2 + 1) / 2 - 1) ⟨by simp only;omega, by simp only;omega, i3, by
      intro w g1 g2 g3
      simp only at g1
      have g4 : Dn d m (((p.1 : Int) + p.2 + 1) / 2) := W6 (v := ((p.1 : Int) + p.2 + 1) / 2) (by omega) (by omega) (by omega) g3
      exact absurd g4 (by assumption)⟩ (by simp only;omega) (.cons rfl rfl (.cons (by rw [show (((p.1 + p.2 + 1) / 2 - 1 : Nat) : Int) = ((p.1 : Int) + p.2 + 1) / 2 - 1 by omega];rfl) rfl CV)) (.live rfl .nil)
  ·have h1 : ¬ (p.1 : Int) < p.2 := by omega
   have ht : Ar d m = p.1 := by
    unfold Ar
    rw [if_neg hd0]
    exact Rm (.inr (decide_eq_true i3)) (by omega) fun w g1 g2 g3 => i4 w (by omega) g2 (of_decide_eq_true g3)
   repeat' (first | refine W ?_ | refine V ?_|(refine W2 ?_ ?_ <;> intro hc))
   exact A3 (by simp) Tryz.results176 rfl (by rw [ht])
end Go.Proofs.YtlapbaiejnaeiaaGreatDoor
