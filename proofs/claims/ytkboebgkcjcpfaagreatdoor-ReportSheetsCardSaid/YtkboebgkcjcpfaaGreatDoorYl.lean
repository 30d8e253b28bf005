/- Contracts: the reference's links, of valid sheets. No conditions but those of each statement. -/
import Derived.Test.YtkboebgkcjcpfaaGreatDoorPd
set_option linter.unusedSimpArgs false
set_option linter.unusedVariables false
namespace Go.Proofs.YtkboebgkcjcpfaaGreatDoor
open Go Go.RowKit
theorem Ow (n m : Int) : Fn0 Tryz.prog 136 [.i n, .i m] (.b (decide (0 <= n /\ n <= m))) := by
 refine Fn0.of Tryz.func136 Tryz.ntmps136 rfl rfl rfl ?_
 simp only [A0]
 repeat' (first
  | refine W ?_

  | refine V ?_
  | (refine W2 ?_ ?_ <;> intro hc))
 all_goals exact A5 (by simp) Tryz.results136 rfl (by simp [*])
theorem Nk (c : SheetR) (n : ByteArray) (hs : c.cues.length <= 9223372036854775807) : Fn0 Tryz.prog 84 [A4 c.row, .s n] (.i (Az c.cues n)) := by
 have hle : (c.cues.map CueR.row).length = c.cues.length := List.length_map _
 refine Fn0.of Tryz.func84 Tryz.ntmps84 rfl rfl rfl ?_
 simp only [A0]
 repeat' (first
  | refine W ?_

  | refine V ?_
  | (refine W2 ?_ ?_ <;> intro hc))
 refine T.loopS (fun k => k <= c.cues.length /\ ∀ s ∈ c.cues.take k, ¬ s.name = n) (fun k => c.cues.length - k) (fun k => [(5, .i k), (2, .ptr 0 0), (1, .s n)]) (fun _ => [.live (c.row.map .lf)]) 0 ⟨Nat.zero_le _, by simp⟩ CV (.live rfl .nil) ?_
 rintro k ⟨hk, hno⟩
 by_cases hlt : k < c.cues.length
 ·have h1 : (k : Int) < ((c.cues.map CueR.row).length : Nat) := by omega
  obtain ⟨x, hx⟩ := Ac hlt
  have hb := Ad (R := CueR.row) hx
  have hsn := Af hx
  repeat' (first
   | refine W ?_
   | (apply T.drawAll A3 (by kernel_rfl))|(apply S.indexR;(iterate 3 exact rfl);exact hb;omega;exact rfl)|refine Za ?_
   | refine V ?_
   | (refine W2 ?_ ?_ <;> intro hc))
  all_goals (try change Next _ _ _ _ _ _)
  all_goals first
   | exact Next.go (k + 1) ⟨by omega, by rw [hsn];intro y hy;rcases List.mem_append.1 hy with hy | hy;exact hno y hy;obtain rfl : y = x := (by simpa using hy);assumption⟩ (by omega) CV (.live rfl .nil)
   | exact A5 (by simp) Tryz.results84 rfl (by rw [Az, Ca hx hno (by assumption)])
 ·have h1 : ¬ (k : Int) < ((c.cues.map CueR.row).length : Nat) := by omega
  repeat' (first
   | refine W ?_

   | refine V ?_
   | (refine W2 ?_ ?_ <;> intro hc))
  exact A5 (by simp) Tryz.results84 rfl (by rw [Az, Nb hno (by omega)])
theorem Ou (c : SheetR) (m : Nat) (hs : c.cues.length <= 60) (hm : m <= c.cues.length) : Fn0 Tryz.prog 83 [A4 c.row, .i m] (.i (Aq (c.cues.take m) : Nat)) := by
 have hle : (c.cues.map CueR.row).length = c.cues.length := List.length_map _
 refine Fn0.of Tryz.func83 Tryz.ntmps83 rfl rfl rfl ?_
 simp only [A0]
 repeat' (first
  | refine W ?_

  | refine V ?_
  | (refine W2 ?_ ?_ <;> intro hc))
 refine T.loopS (fun k => k <= m) (fun k => m - k) (fun k => [(6, .i k), (5, .i (Aq (c.cues.take k) : Nat)), (2, .ptr 0 0), (1, .i m)]) (fun _ => [.live (c.row.map .lf)]) 0 (Nat.zero_le _) CV (.live rfl .nil) ?_
 intro k hk
 by_cases hlt : k < m
 ·have h1 : (k : Int) < (m : Nat) := by omega
  obtain ⟨q, hq⟩ := Ac (l := c.cues) (k := k) (by omega)
  have hb := Ad (R := CueR.row) hq
  have hm60 : Aq (c.cues.take k) <= 60 := Nat.le_trans (F9 _) (by rw [List.length_take];omega)
  repeat' (first
   | refine W ?_
   | (apply S.indexR;(iterate 3 exact rfl);exact hb;omega;exact rfl)|refine Za ?_
   | refine V ?_
   | (refine W2 ?_ ?_ <;> intro hc))
  all_goals (try change Next _ _ _ _ _ _)
  all_goals first
   | exact Next.go (k + 1) (by omega) (by omega) (.cons rfl rfl (.cons (by rw [E8 hq (by assumption)];rfl) rfl CV)) (.live rfl .nil)
   | exact Next.go (k + 1) (by omega) (by omega) (.cons rfl rfl (.cons (by rw [Fu hq (by assumption)];rfl) rfl CV)) (.live rfl .nil)
 ·have h1 : ¬ (k : Int) < (m : Nat) := by omega
  obtain rfl : k = m := by omega
  repeat' (first
   | refine W ?_

   | refine V ?_
   | (refine W2 ?_ ?_ <;> intro hc))
  all_goals exact A5 (by simp) Tryz.results83 rfl rfl
set_option maxHeartbeats 4000000 in
theorem A0k (c : SheetR) (h60 : c.cues.length <= 60) (L G : List Int) (hL : L.length <= 1000) (hG : G.length <= 4611686018427387904) : Fn0 Tryz.prog 81 [A4 c.row, .sl (L.map A1), .sl (G.map A1)] (.i (stE c.cues L G)) := by
 have hle : (c.cues.map CueR.row).length = c.cues.length := List.length_map _
 have hll : (L.map A1).length = L.length := List.length_map _
 have hlg : (G.map A1).length = G.length := List.length_map _
 have cm := Ou c (c.cues.map CueR.row).length h60 (by omega)
 rw [show c.cues.take (c.cues.map CueR.row).length = c.cues by rw [hle, List.take_length]] at cm
 unfold stE
 by_cases e1 : L.length ≠ c.cues.length \/ G.length ≠ Aq c.cues
 ·rw [if_pos e1]
  refine Fn0.of Tryz.func81 Tryz.ntmps81 rfl rfl rfl ?_
  simp only [A0]
  repeat' (first
   | refine W ?_
   | refine Zc cm ?_
   | refine V ?_
   | (refine W2 ?_ ?_ <;> intro hc))
  all_goals first
   | exact A5 (by simp) Tryz.results81 rfl rfl
   | (exfalso;omega)
 ·rw [if_neg e1]
  have g1 : ((L.map A1).length : Int) = ((c.cues.map CueR.row).length : Nat) := by omega
  have g2 : ((G.map A1).length : Int) = (Aq c.cues : Nat) := by omega
  have n1 : ¬ ¬ ((L.map A1).length : Int) = ((c.cues.map CueR.row).length : Nat) := fun k => k g1
  have n2 : ¬ ¬ ((G.map A1).length : Int) = (Aq c.cues : Nat) := fun k => k g2
  refine Fn0.of Tryz.func81 Tryz.ntmps81 rfl rfl rfl ?_
  simp only [A0]
  repeat' (first
   | refine W ?_
   | refine Zc cm ?_
   | refine V ?_
   | (refine W2 ?_ ?_ <;> intro hc))
  refine T.loopS (fun k => k <= L.length /\ ∀ x ∈ L.take k, ¬ Ck x) (fun k => L.length - k) (fun k => [(7, .i k), (1, .sl (L.map A1)), (2, .sl (G.map A1))]) (fun _ => []) 0 ⟨Nat.zero_le _, by simp⟩ CV .nil ?_
  rintro k ⟨hk, hno⟩
  by_cases hlt : k < L.length
  ·have h1 : (k : Int) < ((L.map A1).length : Nat) := by omega
   obtain ⟨x, hx⟩ := Ac hlt
   have hb := Ad (R := A1) hx
   have hsn := Af hx
   have cw := Ow x 2147483648
   by_cases hw : Ck x
   ·rw [decide_eq_false hw] at cw
    rw [if_pos (.inl ⟨x, List.mem_of_getElem? hx, hw⟩)]
    repeat' (first
     | refine W ?_
     | (apply S.indexR;(iterate 3 exact rfl);exact hb;omega;exact rfl)|refine Zc cw ?_
     | refine V ?_
     | (refine W2 ?_ ?_ <;> intro hc))
    all_goals exact A5 (by simp) Tryz.results81 rfl rfl
   ·rw [decide_eq_true (Classical.not_not.1 hw)] at cw
    repeat' (first
     | refine W ?_
     | (apply S.indexR;(iterate 3 exact rfl);exact hb;omega;exact rfl)|refine Zc cw ?_|refine Za ?_
     | refine V ?_
     | (refine W2 ?_ ?_ <;> intro hc))
    all_goals (try change Next _ _ _ _ _ _)
    all_goals exact Next.go (k + 1) ⟨by omega, by rw [hsn];intro y hy;rcases List.mem_append.1 hy with hy | hy;exact hno y hy;obtain rfl : y = x := (by simpa using hy);assumption⟩ (by omega) CV .nil
  have h1 : ¬ (k : Int) < ((L.map A1).length : Nat) := by omega
  have hnoL : ¬ Cn L := fun ⟨x, hx, hw⟩ => hno x (by rw [List.take_of_length_le (by omega)];exact hx) hw
  repeat' (first
   | refine W ?_

   | refine V ?_
   | (refine W2 ?_ ?_ <;> intro hc))
  refine T.loopS (fun k => k <= G.length /\ ∀ x ∈ G.take k, ¬ Ck x) (fun k => G.length - k) (fun k => [(8, .i k), (2, .sl (G.map A1))]) (fun _ => []) 0 ⟨Nat.zero_le _, by simp⟩ CV .nil ?_
  clear hno h1 hlt hk
  clear k
  rintro k ⟨hk, hno⟩
  by_cases hlt : k < G.length
  ·have h1 : (k : Int) < ((G.map A1).length : Nat) := by omega
   obtain ⟨x, hx⟩ := Ac hlt
   have hb := Ad (R := A1) hx
   have hsn := Af hx
   have cw := Ow x 2147483648
   by_cases hw : Ck x
   ·rw [decide_eq_false hw] at cw
    rw [if_pos (.inr ⟨x, List.mem_of_getElem? hx, hw⟩)]
    repeat' (first
     | refine W ?_
     | (apply S.indexR;(iterate 3 exact rfl);exact hb;omega;exact rfl)|refine Zc cw ?_
     | refine V ?_
     | (refine W2 ?_ ?_ <;> intro hc))
    all_goals exact A5 (by simp) Tryz.results81 rfl rfl
   ·rw [decide_eq_true (Classical.not_not.1 hw)] at cw
    repeat' (first
     | refine W ?_
     | (apply S.indexR;(iterate 3 exact rfl);exact hb;omega;exact rfl)|refine Zc cw ?_|refine Za ?_
     | refine V ?_
     | (refine W2 ?_ ?_ <;> intro hc))
    all_goals (try change Next _ _ _ _ _ _)
    all_goals exact Next.go (k + 1) ⟨by omega, by rw [hsn];intro y hy;rcases List.mem_append.1 hy with hy | hy;exact hno y hy;obtain rfl : y = x := (by simpa using hy);assumption⟩ (by omega) CV .nil
  ·have h1 : ¬ (k : Int) < ((G.map A1).length : Nat) := by omega
   rw [if_neg (by
    rintro (hw | ⟨x, hx, hw⟩)
    ·exact hnoL hw
    ·exact hno x (by rw [List.take_of_length_le (by omega)];exact hx) hw)]
   repeat' (first
    | refine W ?_

    | refine V ?_
    | (refine W2 ?_ ?_ <;> intro hc))
   all_goals exact A5 (by simp) Tryz.results81 rfl rfl
theorem Lo {n k i : Nat} (hi : i < n) : (Cd n k)[i]? = some (decide (i < k)) \/ n < k := by
 by_cases h : i < k
 ·rcases Nat.lt_or_ge n k with h2 | h2
  ·exact .inr h2
  ·rw [decide_eq_true h];exact .inl (F1 h)
 ·rw [decide_eq_false h]
  refine .inl ?_
  unfold Cd
  rw [List.getElem?_append_right (by rw [List.length_replicate];omega), List.length_replicate, List.getElem?_replicate, if_pos (by omega)]
set_option maxHeartbeats 32000000 in
theorem A0l (c : SheetR) (lk : LkP c.cues) (h60 : c.cues.length <= 60) : Fn0 Tryz.prog 82 [A4 c.row] (.tup [.sl ((upL c.cues.length).map A1), .b true]) := by
 have hle : (c.cues.map CueR.row).length = c.cues.length := List.length_map _
 have hd0 : List.replicate (c.cues.map CueR.row).length (AV.val (.bool false)) = bA (Cd c.cues.length 0) := by rw [hle];simp [Cd, bA]
 refine Fn0.of Tryz.func82 Tryz.ntmps82 rfl rfl rfl ?_
 simp only [A0]
 repeat' (first
  | refine W ?_
  | (apply S.makeO (n := (c.cues.map CueR.row).length);(iterate 3 exact rfl);omega;exact rfl;exact rfl)
  | refine V ?_
  | (refine W2 ?_ ?_ <;> intro hc))
 rw [hd0]
 refine T.kill 2 ?_
 refine T.loopS (fun k => k <= c.cues.length) (fun k => c.cues.length + 1 - k) (fun k => [(1, .ptr 0 0), (4, .own 1 0 (c.cues.map CueR.row).length 1), (5, rT 2 1 k)]) (fun k => [.live (c.row.map .lf), .live (bA (Cd c.cues.length k)), rB (Aa (upL k)) k]) 0 (Nat.zero_le _) CV (.live rfl (.live (Al _ _) (.dead .nil))) ?_
 intro k hk
 by_cases hkn : k < c.cues.length
 ·have hdl := Sg (n := c.cues.length) (k := k) (by omega)
  have h0n : (0 : Int) < ((c.cues.map CueR.row).length : Nat) := by omega
  have hkl : (k : Int) < ((c.cues.map CueR.row).length : Nat) := by omega
  have hul : (Aa (upL k)).length = k * 1 := by rw [Bn, El, Nat.mul_one]
  rcases Nat.eq_zero_or_pos k with h0 | hpos
  ·rw [show rT 2 1 k = .val (.slice none 0 0) by rw [h0];rfl, show rB (Aa (upL k)) k = .dead by rw [h0];rfl]
   repeat' (first
    | refine W ?_
    | (apply S.lenN;exact rfl;exact rfl)|refine Za ?_
    | refine V ?_
    | (refine W2 ?_ ?_ <;> intro hc))
   refine T.loopS (fun s : Int × Int => -1 <= s.1 /\ s.1 < c.cues.length /\ (s.1 < k -> s.2 = k)) (fun s => (s.1 + 1).toNat) (fun s => [(7, .i s.1), (6, .i s.2), (1, .ptr 0 0), (4, .own 1 0 (c.cues.map CueR.row).length 1), (5, .val (.slice none 0 0))]) (fun _ => [.live (c.row.map .lf), .live (bA (Cd c.cues.length k)), .dead]) (((c.cues.map CueR.row).length : Int) - 1, -1) ⟨by dsimp only;omega, by dsimp only;omega, fun h => by dsimp only at h;exfalso;omega⟩ CW (.live rfl (.live (Al _ _) (.dead .nil))) ?_
   rintro ⟨i, x⟩ ⟨hi1, hi2, hx⟩
   dsimp only at hi1 hi2 hx
   by_cases hi0 : 0 <= i
   ·obtain ⟨q, hq⟩ := Ac (l := c.cues) (k := i.toNat) (by omega)
    have hb : (c.cues.map CueR.row)[i.toNat]? = some q.row := by rw [List.getElem?_map, hq];rfl
    obtain ⟨_, _, _, _, q5, q6⟩ := lk i.toNat q hq
    have cf := Nk c q.after (by omega)
    by_cases hik : i < k
    ·have hd1 := Ew (F1 (n := c.cues.length) (k := k) (j := i.toNat) (by omega))
     repeat' (first
      | refine W ?_
      | (apply S.indexR;(iterate 3 exact rfl);exact hb;omega;exact rfl)|(apply T.drawAll A3 (by decide +kernel))|(apply S.indexO (o2 := i.toNat);(iterate 4 exact rfl);omega;omega)|(apply S.loadP;exact rfl;exact rfl;exact hd1;exact rfl)|refine Za ?_
      | refine V ?_
      | (refine W2 ?_ ?_ <;> intro hc))
     all_goals (try change Next _ _ _ _ _ _)
     all_goals exact Next.go (i - 1, x) ⟨by dsimp only;omega, by dsimp only;omega, fun _ => hx hik⟩ (by dsimp only;omega) CW (.live rfl (.live (Al _ _) (.dead .nil)))
    ·have hd1 : (bA (Cd c.cues.length k))[i.toNat]? = some (.val (.bool false)) := Ew ((Lo (n := c.cues.length) (k := k) (i := i.toNat) (by omega)).resolve_right (by omega) |>.trans (by rw [decide_eq_false (by omega)]))
     by_cases ha : q.after = ⟨#[]⟩
     ·repeat' (first
      | refine W ?_
      | (apply S.indexR;(iterate 3 exact rfl);exact hb;omega;exact rfl)|(apply T.drawAll A3 (by decide +kernel))|(apply S.indexO (o2 := i.toNat);(iterate 4 exact rfl);omega;omega)|(apply S.loadP;exact rfl;exact rfl;exact hd1;exact rfl)|refine Za ?_
      | refine V ?_
      | (refine W2 ?_ ?_ <;> intro hc))
      all_goals (try change Next _ _ _ _ _ _)
      all_goals exact Next.go (i - 1, i) ⟨by dsimp only;omega, by dsimp only;omega, fun h => by dsimp only at h ⊢;omega⟩ (by dsimp only;omega) CW (.live rfl (.live (Al _ _) (.dead .nil)))
     ·obtain ⟨a1, a2⟩ := q6 (fun e => ha (q5 e))
      rw [a1] at cf
      generalize Bu c.cues q = z at *
      by_cases hz : z < k
      ·try (exfalso;omega)
       all_goals have hd2 := Ew (F1 (n := c.cues.length) hz)
       repeat' (first
        | refine W ?_
        | (apply S.indexR;(iterate 3 exact rfl);exact hb;omega;exact rfl)|(apply T.drawAll A3 (by decide +kernel))|refine Zc cf ?_|(apply S.indexO (o2 := z);(iterate 4 exact rfl);omega;omega)|(apply S.indexO (o2 := i.toNat);(iterate 4 exact rfl);omega;omega)|(apply S.loadP;exact rfl;exact rfl;exact hd1;exact rfl)|(apply S.loadP;exact rfl;exact rfl;exact hd2;exact rfl)|refine Za ?_
        | refine V ?_
        | (refine W2 ?_ ?_ <;> intro hc))
       all_goals (try change Next _ _ _ _ _ _)
       all_goals exact Next.go (i - 1, i) ⟨by dsimp only;omega, by dsimp only;omega, fun h => by dsimp only at h ⊢;omega⟩ (by dsimp only;omega) CW (.live rfl (.live (Al _ _) (.dead .nil)))
      ·have hd2 : (bA (Cd c.cues.length k))[z]? = some (.val (.bool false)) := Ew ((Lo (n := c.cues.length) (k := k) (i := z) (by omega)).resolve_right (by omega) |>.trans (by rw [decide_eq_false hz]))
       repeat' (first
        | refine W ?_
        | (apply S.indexR;(iterate 3 exact rfl);exact hb;omega;exact rfl)|(apply T.drawAll A3 (by decide +kernel))|refine Zc cf ?_|(apply S.indexO (o2 := z);(iterate 4 exact rfl);omega;omega)|(apply S.indexO (o2 := i.toNat);(iterate 4 exact rfl);omega;omega)|(apply S.loadP;exact rfl;exact rfl;exact hd1;exact rfl)|(apply S.loadP;exact rfl;exact rfl;exact hd2;exact rfl)|refine Za ?_
        | refine V ?_
        | (refine W2 ?_ ?_ <;> intro hc))
       all_goals (try change Next _ _ _ _ _ _)
       all_goals exact Next.go (i - 1, x) ⟨by dsimp only;omega, by dsimp only;omega, fun h => by dsimp only at h ⊢;exfalso;omega⟩ (by dsimp only;omega) CW (.live rfl (.live (Al _ _) (.dead .nil)))
   obtain rfl : x = (k : Int) := hx (by omega)
   have hneg : ¬ (k : Int) < 0 := by omega
   repeat' (first
    | refine W ?_
    | (apply S.indexO (o2 := k);(iterate 4 exact rfl);omega;omega)|(apply S.storeB;(iterate 3 exact rfl);omega)|(apply S.buildSlice1;(iterate 7 exact rfl))|(apply S.appendN 2 (rows := []);(iterate 4 exact rfl);exact I9 c.row _ .dead rfl;(iterate 3 exact rfl);exact Ae rfl;exact rfl;exact Nat.le_of_ble_eq_true rfl;exact Nat.le_of_ble_eq_true rfl)|refine Za ?_
    | refine V ?_
    | (refine W2 ?_ ?_ <;> intro hc))
   all_goals (try change Next _ _ _ _ _ _)
   all_goals exact Next.go (k + 1) (by omega) (by omega) (.cons rfl rfl (.cons rfl rfl (.cons (by rw [h0];rfl) rfl .nil))) (by rw [<- Fq hkn, h0];exact .live rfl (.live (Al _ _) (.live rfl .nil)))
  ·rw [Gn hpos, Gm hpos]
   have hus : Aa (upL (k + 1)) = Aa (upL k) ++ ([A1 (k : Int)].flatten).map AV.lf := by rw [Kc];simp [Aa]
   repeat' (first
    | refine W ?_
    | (apply S.lenO;(iterate 3 exact rfl))|refine Za ?_
    | refine V ?_
    | (refine W2 ?_ ?_ <;> intro hc))
   refine T.loopS (fun s : Int × Int => -1 <= s.1 /\ s.1 < c.cues.length /\ (s.1 < k -> s.2 = k)) (fun s => (s.1 + 1).toNat) (fun s => [(7, .i s.1), (6, .i s.2), (1, .ptr 0 0), (4, .own 1 0 (c.cues.map CueR.row).length 1), (5, .own 2 0 k 1)]) (fun _ => [.live (c.row.map .lf), .live (bA (Cd c.cues.length k)), .live (Aa (upL k))]) (((c.cues.map CueR.row).length : Int) - 1, -1) ⟨by dsimp only;omega, by dsimp only;omega, fun h => by dsimp only at h;exfalso;omega⟩ CW (.live rfl (.live (Al _ _) (.live (Ar _ _) .nil))) ?_
   rintro ⟨i, x⟩ ⟨hi1, hi2, hx⟩
   dsimp only at hi1 hi2 hx
   by_cases hi0 : 0 <= i
   ·obtain ⟨q, hq⟩ := Ac (l := c.cues) (k := i.toNat) (by omega)
    have hb : (c.cues.map CueR.row)[i.toNat]? = some q.row := by rw [List.getElem?_map, hq];rfl
    obtain ⟨_, _, _, _, q5, q6⟩ := lk i.toNat q hq
    have cf := Nk c q.after (by omega)
    by_cases hik : i < k
    ·have hd1 := Ew (F1 (n := c.cues.length) (k := k) (j := i.toNat) (by omega))
     repeat' (first
      | refine W ?_
      | (apply S.indexR;(iterate 3 exact rfl);exact hb;omega;exact rfl)|(apply T.drawAll A3 (by decide +kernel))|(apply S.indexO (o2 := i.toNat);(iterate 4 exact rfl);omega;omega)|(apply S.loadP;exact rfl;exact rfl;exact hd1;exact rfl)|refine Za ?_
      | refine V ?_
      | (refine W2 ?_ ?_ <;> intro hc))
     all_goals (try change Next _ _ _ _ _ _)
     all_goals exact Next.go (i - 1, x) ⟨by dsimp only;omega, by dsimp only;omega, fun _ => hx hik⟩ (by dsimp only;omega) CW (.live rfl (.live (Al _ _) (.live (Ar _ _) .nil)))
    ·have hd1 : (bA (Cd c.cues.length k))[i.toNat]? = some (.val (.bool false)) := Ew ((Lo (n := c.cues.length) (k := k) (i := i.toNat) (by omega)).resolve_right (by omega) |>.trans (by rw [decide_eq_false (by omega)]))
     by_cases ha : q.after = ⟨#[]⟩
     ·repeat' (first
      | refine W ?_
      | (apply S.indexR;(iterate 3 exact rfl);exact hb;omega;exact rfl)|(apply T.drawAll A3 (by decide +kernel))|(apply S.indexO (o2 := i.toNat);(iterate 4 exact rfl);omega;omega)|(apply S.loadP;exact rfl;exact rfl;exact hd1;exact rfl)|refine Za ?_
      | refine V ?_
      | (refine W2 ?_ ?_ <;> intro hc))
      all_goals (try change Next _ _ _ _ _ _)
      all_goals exact Next.go (i - 1, i) ⟨by dsimp only;omega, by dsimp only;omega, fun h => by dsimp only at h ⊢;omega⟩ (by dsimp only;omega) CW (.live rfl (.live (Al _ _) (.live (Ar _ _) .nil)))
     ·obtain ⟨a1, a2⟩ := q6 (fun e => ha (q5 e))
      rw [a1] at cf
      generalize Bu c.cues q = z at *
      by_cases hz : z < k
      ·try (exfalso;omega)
       all_goals have hd2 := Ew (F1 (n := c.cues.length) hz)
       repeat' (first
        | refine W ?_
        | (apply S.indexR;(iterate 3 exact rfl);exact hb;omega;exact rfl)|(apply T.drawAll A3 (by decide +kernel))|refine Zc cf ?_|(apply S.indexO (o2 := z);(iterate 4 exact rfl);omega;omega)|(apply S.indexO (o2 := i.toNat);(iterate 4 exact rfl);omega;omega)|(apply S.loadP;exact rfl;exact rfl;exact hd1;exact rfl)|(apply S.loadP;exact rfl;exact rfl;exact hd2;exact rfl)|refine Za ?_
        | refine V ?_
        | (refine W2 ?_ ?_ <;> intro hc))
       all_goals (try change Next _ _ _ _ _ _)
       all_goals exact Next.go (i - 1, i) ⟨by dsimp only;omega, by dsimp only;omega, fun h => by dsimp only at h ⊢;omega⟩ (by dsimp only;omega) CW (.live rfl (.live (Al _ _) (.live (Ar _ _) .nil)))
      ·have hd2 : (bA (Cd c.cues.length k))[z]? = some (.val (.bool false)) := Ew ((Lo (n := c.cues.length) (k := k) (i := z) (by omega)).resolve_right (by omega) |>.trans (by rw [decide_eq_false hz]))
       repeat' (first
        | refine W ?_
        | (apply S.indexR;(iterate 3 exact rfl);exact hb;omega;exact rfl)|(apply T.drawAll A3 (by decide +kernel))|refine Zc cf ?_|(apply S.indexO (o2 := z);(iterate 4 exact rfl);omega;omega)|(apply S.indexO (o2 := i.toNat);(iterate 4 exact rfl);omega;omega)|(apply S.loadP;exact rfl;exact rfl;exact hd1;exact rfl)|(apply S.loadP;exact rfl;exact rfl;exact hd2;exact rfl)|refine Za ?_
        | refine V ?_
        | (refine W2 ?_ ?_ <;> intro hc))
       all_goals (try change Next _ _ _ _ _ _)
       all_goals exact Next.go (i - 1, x) ⟨by dsimp only;omega, by dsimp only;omega, fun h => by dsimp only at h ⊢;exfalso;omega⟩ (by dsimp only;omega) CW (.live rfl (.live (Al _ _) (.live (Ar _ _) .nil)))
   obtain rfl : x = (k : Int) := hx (by omega)
   have hneg : ¬ (k : Int) < 0 := by omega
   repeat' (first
    | refine W ?_
    | (apply S.indexO (o2 := k);(iterate 4 exact rfl);omega;omega)|(apply S.storeB;(iterate 3 exact rfl);omega)|(apply S.buildSlice1;(iterate 7 exact rfl))|(apply S.appendO;(iterate 4 exact rfl);exact I9 c.row _ (.live _) rfl;(iterate 3 exact rfl);exact hul;exact Ae rfl;exact rfl;exact Bf _ _;simp only [List.length_cons, List.length_nil];omega;simp only [List.length_cons, List.length_nil];omega)|refine Za ?_
    | refine V ?_
    | (refine W2 ?_ ?_ <;> intro hc))
   all_goals (try change Next _ _ _ _ _ _)
   all_goals exact Next.go (k + 1) (by omega) (by omega) CV (by rw [<- Fq hkn];show CovH _ _ [_, _, .live (Aa (upL (k + 1)))];rw [hus];exact .live rfl (.live (Al _ _) (.live (by rw [<- List.map_append];exact Ar _ _) .nil)))
 ·obtain rfl : k = c.cues.length := by omega
  refine T.sealR 5 2 (rows := (upL c.cues.length).map A1) (Bx _) (by rw [List.length_map, El]) rfl rfl ?_
  have h1 : ¬ (((upL c.cues.length).map A1).length : Int) < ((c.cues.map CueR.row).length : Nat) := by rw [List.length_map, El];omega
  generalize upL c.cues.length = U at *
  repeat' (first
   | refine W ?_

   | refine V ?_
   | (refine W2 ?_ ?_ <;> intro hc))
  all_goals exact D2 rfl rfl rfl
def zS (l : List CueR) (L G : List Int) (k : Nat) : List Int := stK l L G k ++ List.replicate (l.length - k) 0
theorem A5x (l : List CueR) (L G : List Int) {k : Nat} (h : k <= l.length) : (zS l L G k).length = l.length := by
 unfold zS
 rw [List.length_append, Bz, List.length_replicate];omega
theorem A5y (l : List CueR) (L G : List Int) {k : Nat} (h : k < l.length) : (zS l L G k).set k (stV l L G (stK l L G k) k) = zS l L G (k + 1) := by
 unfold zS
 rw [show l.length - k = (l.length - (k + 1)) + 1 by omega, List.replicate_succ, M3 _ _ _ _ (Bz l L G k), stK, List.append_assoc];rfl
theorem A6f {l : List CueR} {L G : List Int} {j k : Nat} (h : j < k) : (zS l L G k)[j]? = some ((stK l L G k).getD j 0) := by
 unfold zS
 rw [List.getElem?_append_left (by rw [Bz];exact h), M4 l L G h, List.getD_eq_getElem?_getD, M4 l L G h];rfl
theorem A56 (l : List CueR) (L G : List Int) : zS l L G l.length = stK l L G l.length := by unfold zS;simp
theorem A3o {l : List Int} {k : Nat} {x y : Int} : (l.set k x).set k y = l.set k y := List.set_set ..
set_option maxHeartbeats 32000000 in
theorem Ov (c : SheetR) (lk : LkP c.cues) (h60 : c.cues.length <= 60) (L G : List Int) (hL : L.length <= 1000) (hG : G.length <= 4611686018427387904) : Fn0 Tryz.prog 46 [A4 c.row, .sl (L.map A1), .sl (G.map A1)] (.tup [.sl ((srL c.cues L G).map A1), .i (stE c.cues L G)]) := by
 have cg := A0k c h60 L G hL hG
 have co := A0l c lk h60
 have hle : (c.cues.map CueR.row).length = c.cues.length := List.length_map _
 have hlu : ((upL c.cues.length).map A1).length = c.cues.length := by rw [List.length_map, El]
 unfold srL
 by_cases e0 : stE c.cues L G = 0
 ·rw [if_pos e0]
  rw [e0] at cg ⊢
  have hEq : ¬ (L.length ≠ c.cues.length \/ G.length ≠ Aq c.cues) /\ ¬ (Cn L \/ Cn G) := by
   unfold stE at e0
   split at e0
   ·cases e0
   ·split at e0
    ·cases e0
    ·exact ⟨by assumption, by assumption⟩
  obtain ⟨e1, e2⟩ := hEq
  have e3 : ¬ Cn L := fun k => e2 (.inl k)
  have e4 : ¬ Cn G := fun k => e2 (.inr k)
  have hrep : List.replicate (c.cues.map CueR.row).length (AV.val (.int .i64 0)) = iA (zS c.cues L G 0) := by rw [hle];simp [zS, stK, iA]
  refine Fn0.of Tryz.func46 Tryz.ntmps46 rfl rfl rfl ?_
  simp only [A0]
  repeat' (first
   | refine W ?_
   | refine Zc cg ?_|refine Zc co ?_|(apply S.makeO (n := (c.cues.map CueR.row).length);(iterate 3 exact rfl);omega;exact rfl;exact rfl)
   | refine V ?_
   | (refine W2 ?_ ?_ <;> intro hc))
  rw [hrep]
  refine T.loopS (fun k => k <= c.cues.length) (fun k => c.cues.length - k) (fun k => [(12, .i k), (9, .sl ((upL c.cues.length).map A1)), (11, .own 1 0 (c.cues.map CueR.row).length 1), (3, .ptr 0 0), (1, .sl (L.map A1)), (2, .sl (G.map A1))]) (fun k => [.live (c.row.map .lf), .live (iA (zS c.cues L G k))]) 0 (Nat.zero_le _) CW (.live rfl (.live (Bl _ _) .nil)) ?_
  intro k hk
  by_cases hlt : k < c.cues.length
  ·have h1 : (k : Int) < (((upL c.cues.length).map A1).length : Nat) := by omega
   obtain ⟨q, hq⟩ := Ac hlt
   have hb := Ad (R := CueR.row) hq
   have hbu := Ad (R := A1) (A1s hlt)
   have hfl := A5x c.cues L G hk
   obtain ⟨_, _, q3, q4, _, q6⟩ := lk k q hq
   have hset := A5y c.cues L G hlt
   have hbd := I3 lk e3 e4 k
   by_cases hm : q.link = 1
   ·have hml := Vt hq hm
    have hmg : Aq (c.cues.take k) < G.length := by omega
    have hml60 : Aq c.cues <= 60 := Nat.le_trans (F9 _) h60
    obtain ⟨g, hg⟩ := Ac hmg
    have hbg := Ad (R := A1) hg
    have hgD : G.getD (Aq (c.cues.take k)) 0 = g := by rw [List.getD_eq_getElem?_getD, hg];rfl
    have hgr := Dl e4 (Aq (c.cues.take k))
    rw [hgD] at hgr
    have hv : stV c.cues L G (stK c.cues L G k) k = g + q.delay := by unfold stV;rw [hq];simp only [hm, if_true];rw [hgD]
    rw [hv] at hset
    have cm := Ou c k h60 hk
    generalize Aq (c.cues.take k) = mk at *
    repeat' (first
     | refine W ?_
     | (apply S.indexR;(iterate 3 exact rfl);exact hb;omega;exact rfl)|(apply S.indexR;(iterate 3 exact rfl);exact hbu;omega;exact rfl)|(apply S.indexR;(iterate 3 exact rfl);exact hbg;omega;exact rfl)|refine Zc cm ?_|(apply T.draw 12 A3 (by decide +kernel);simp only [td])|(apply T.drawR 12 A3 (by decide +kernel);simp only [td])|(apply S.indexO (o2 := k);(iterate 4 exact rfl);omega;omega)|(apply S.storeI;(iterate 3 exact rfl);first | omega|(rw [List.length_set];omega))|refine Za ?_
     | refine V ?_
     | (refine W2 ?_ ?_ <;> intro hc))
    all_goals (try change Next _ _ _ _ _ _)
    all_goals exact Next.go (k + 1) (by omega) (by omega) CW (by rw [<- hset];exact .live rfl (.live (Bl _ _) .nil))
   ·obtain ⟨a1, a2⟩ := q6 hm
    have cf := Nk c q.after (by omega)
    rw [a1] at cf
    have hz := hbd _ a2
    have hat := Hu (A6f (l := c.cues) (L := L) (G := G) a2)
    have hLz := Dl e3 (Bu c.cues q)
    have hzL : Bu c.cues q < L.length := by omega
    obtain ⟨lz, hlz⟩ := Ac hzL
    have hbl := Ad (R := A1) hlz
    have hLD : L.getD (Bu c.cues q) 0 = lz := by rw [List.getD_eq_getElem?_getD, hlz];rfl
    rw [hLD] at hLz
    have hat2 : ∀ v : Int, (iA ((zS c.cues L G k).set k v))[k]? = some (.val (.int .i64 v)) := fun v => Hu (by rw [List.getElem?_set_self (by omega)])
    by_cases hm2 : q.link = 2
    ·have hv : stV c.cues L G (stK c.cues L G k) k = (stK c.cues L G k).getD (Bu c.cues q) 0 + q.delay + lz := by unfold stV;rw [hq];simp only [hm, hm2, if_true, if_false];rw [hLD];rfl
     rw [hv] at hset
     generalize (stK c.cues L G k).getD (Bu c.cues q) 0 = sz at *
     generalize Bu c.cues q = z at *
     repeat' (first
      | refine W ?_
      | (apply S.indexR;(iterate 3 exact rfl);exact hb;omega;exact rfl)|(apply S.indexR;(iterate 3 exact rfl);exact hbu;omega;exact rfl)|(apply S.indexR;(iterate 3 exact rfl);exact hbl;omega;exact rfl)|refine Zc cf ?_|(apply T.draw 10 A3 (by decide +kernel);simp only [td])|(apply T.drawR 10 A3 (by decide +kernel);simp only [td])|(apply T.draw 12 A3 (by decide +kernel);simp only [td])|(apply T.drawR 12 A3 (by decide +kernel);simp only [td])|(apply S.indexO (o2 := z);(iterate 4 exact rfl);omega;omega)|(apply S.indexO (o2 := k);(iterate 4 exact rfl);omega;omega)|(apply S.loadP;exact rfl;exact rfl;exact hat;exact rfl)|(apply S.loadP;exact rfl;exact rfl;exact (hat2 _);exact rfl)|(apply S.storeI;(iterate 3 exact rfl);first | omega|(rw [List.length_set];omega))|refine Za ?_
      | refine V ?_
      | (refine W2 ?_ ?_ <;> intro hc))
     all_goals (try change Next _ _ _ _ _ _)
     all_goals exact Next.go (k + 1) (by omega) (by omega) CW (by rw [A3o, hset];exact .live rfl (.live (Bl _ _) .nil))
    ·have hv : stV c.cues L G (stK c.cues L G k) k = (stK c.cues L G k).getD (Bu c.cues q) 0 + q.delay := by unfold stV;rw [hq];simp only [hm, hm2, if_false]
     rw [hv] at hset
     generalize (stK c.cues L G k).getD (Bu c.cues q) 0 = sz at *
     generalize Bu c.cues q = z at *
     repeat' (first
      | refine W ?_
      | (apply S.indexR;(iterate 3 exact rfl);exact hb;omega;exact rfl)|(apply S.indexR;(iterate 3 exact rfl);exact hbu;omega;exact rfl)|refine Zc cf ?_|(apply T.draw 10 A3 (by decide +kernel);simp only [td])|(apply T.drawR 10 A3 (by decide +kernel);simp only [td])|(apply S.indexO (o2 := z);(iterate 4 exact rfl);omega;omega)|(apply S.indexO (o2 := k);(iterate 4 exact rfl);omega;omega)|(apply S.loadP;exact rfl;exact rfl;exact hat;exact rfl)|(apply S.storeI;(iterate 3 exact rfl);first | omega|(rw [List.length_set];omega))|refine Za ?_
      | refine V ?_
      | (refine W2 ?_ ?_ <;> intro hc))
     all_goals (try change Next _ _ _ _ _ _)
     all_goals exact Next.go (k + 1) (by omega) (by omega) CW (by rw [<- hset];exact .live rfl (.live (Bl _ _) .nil))
  ·have h1 : ¬ (k : Int) < (((upL c.cues.length).map A1).length : Nat) := by omega
   obtain rfl : k = c.cues.length := by omega
   rw [A56]
   have how := A01 (stK c.cues L G c.cues.length)
   rw [Bz] at how
   rw [hle]
   generalize stK c.cues L G c.cues.length = Z at *
   repeat' (first
    | (refine T.freeze 11 rfl rfl how ?_)
    | refine W ?_

    | refine V ?_
    | (refine W2 ?_ ?_ <;> intro hc))
   all_goals exact D2 rfl rfl rfl
 ·rw [if_neg e0]
  generalize stE c.cues L G = e at *
  refine Fn0.of Tryz.func46 Tryz.ntmps46 rfl rfl rfl ?_
  simp only [A0]
  repeat' (first
   | refine W ?_
   | refine Zc cg ?_|(refine T.nilU 6 rfl ?_;apply T.ret;change Cw _ _ _ _ _)
   | refine V ?_
   | (refine W2 ?_ ?_ <;> intro hc))
  all_goals exact D2 rfl rfl rfl
end Go.Proofs.YtkboebgkcjcpfaaGreatDoor
