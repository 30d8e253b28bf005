/- Contracts: the reference's pairs of near sets;slices.Equal, Index and Contains of pairs of strings. No conditions but those of each statement. -/
import Derived.Test.YtlncmkafjjomgaaGreatOs
set_option linter.unusedSimpArgs false
namespace Go.Proofs.YtlncmkafjjomgaaGreat
set_option linter.unusedVariables false
open Go Go.RowKit
def rowI (p : Int × Int) : List Lf := [.i p.1, .i p.2]
def ixN (l : List SetR) (k : Nat) (a : SetR) : Nat → List (Int × Int)
 | 0 => []
 | j + 1 => ixN l k a j ++ (match l[k + 1 + j]? with | some b => if nearP a b then [((k : Int), ((k + 1 + j : Nat) : Int))] else [] | none => [])
def ixK (l : List SetR) : Nat → List (Int × Int)
 | 0 => []
 | k + 1 => ixK l k ++ (match l[k]? with | some a => ixN l k a (l.length - (k + 1)) | none => [])
abbrev ixC (L : List (Int × Int)) : List AV := (L.map rowI).flatten.map .lf
theorem ixC_len (L : List (Int × Int)) : (ixC L).length = L.length * 2 := by
 rw [List.length_map]
 induction L with
 | nil => rfl
 | cons p L ih => rw [List.map_cons, List.flatten_cons, List.length_append, ih];simp [rowI];omega
theorem ixC_append (L M : List (Int × Int)) : ixC (L ++ M) = ixC L ++ ixC M := by simp [ixC]
theorem ix_row (L : List (Int × Int)) : ∀ r ∈ L.map rowI, r.length = 2 := by
 intro r hr
 obtain ⟨n, _, rfl⟩ := List.mem_map.1 hr
 rfl
theorem own_ixs (L : List (Int × Int)) : OwnRows (ixC L) 0 L.length 2 (L.map rowI) := by
 have := OwnRows.of (L.map rowI).flatten (ix_row L) rfl
 rw [List.length_map] at this
 exact this
theorem ixN_yes {l : List SetR} {k : Nat} {a b : SetR} {j : Nat} (h : l[k + 1 + j]? = some b) (hn : nearP a b) : ixN l k a (j + 1) = ixN l k a j ++ [((k : Int), ((k + 1 + j : Nat) : Int))] := by rw [ixN, h];simp only [hn, if_true]
theorem ixN_no {l : List SetR} {k : Nat} {a b : SetR} {j : Nat} (h : l[k + 1 + j]? = some b) (hn : ¬ nearP a b) : ixN l k a (j + 1) = ixN l k a j := by rw [ixN, h];simp only [hn, if_false, List.append_nil]
theorem ixN_len (l : List SetR) (k : Nat) (a : SetR) : ∀ j, (ixN l k a j).length ≤ j
 | 0 => Nat.le_refl _
 | j + 1 => by
  have ih := ixN_len l k a j
  rw [ixN, List.length_append]
  split
  ·split <;> simp <;> omega
  ·simp;omega
theorem ixK_len (l : List SetR) : ∀ k, (ixK l k).length ≤ k * l.length
 | 0 => by simp [ixK]
 | k + 1 => by
  have ih := ixK_len l k
  rw [ixK, List.length_append, Nat.add_mul, Nat.one_mul]
  split
  ·rename_i a _
   have := ixN_len l k a (l.length - (k + 1))
   omega
  ·simp;omega
set_option maxHeartbeats 32000000 in
theorem r40_pairs (h : HouseR) (h60 : h.sets.length ≤ 60) (hsP : ∀ s ∈ h.sets, setP s) : Fn0 Tryz.prog 17 [rowA h.row] (.sl ((ixK h.sets h.sets.length).map rowI)) := by
 have hle : (h.sets.map SetR.row).length = h.sets.length := List.length_map _
 refine Fn0.of Tryz.func17 Tryz.ntmps17 rfl rfl rfl ?_
 simp only [entryTm]
 repeat' (first|(apply S.assign;exact rfl;exact rfl)|(apply S.box;(iterate 6 exact rfl)) | apply S.nil | apply T.regs | apply T.seq | apply T.block)
 refine T.kill 1 ?_
 refine T.loopS (fun k => k ≤ h.sets.length) (fun k => h.sets.length - k) (fun k => [(4, .i k), (3, rT 1 2 (ixK h.sets k).length), (1, .ptr 0 0)]) (fun k => [.live (h.row.map .lf), rB (ixC (ixK h.sets k)) (ixK h.sets k).length]) 0 (Nat.zero_le _) (.cons rfl rfl (.cons rfl rfl (.cons rfl rfl .nil))) (.live rfl (.dead .nil)) ?_
 intro k hk
 by_cases hlt : (k : Int) < ((h.sets.map SetR.row).length : Nat)
 ·obtain ⟨a, ha⟩ := get_at (l := h.sets) (k := k) (by omega)
  have hb := row_at (R := SetR.row) ha
  have hma := List.mem_of_getElem? ha
  have hK : ixK h.sets (k + 1) = ixK h.sets k ++ ixN h.sets k a (h.sets.length - (k + 1)) := by rw [ixK, ha]
  have hb60 : (ixK h.sets k).length ≤ 3600 := Nat.le_trans (ixK_len h.sets k) (Nat.le_trans (Nat.mul_le_mul (show k ≤ 60 by omega) h60) (by decide))
  obtain ⟨L, hL⟩ : ∃ L, L = ixK h.sets k := ⟨_, rfl⟩
  rw [← hL] at hK hb60 ⊢
  clear hL
  cases L with
  | nil =>
   repeat' (first|(apply S.move;exact rfl;exact rfl)|(apply S.assign;exact rfl;exact rfl)|(apply S.fieldP;exact rfl;exact rfl;exact rfl)|(apply S.loadP;(iterate 4 exact rfl))|(apply S.arith;(iterate 4 exact rfl);omega)|(apply S.cmp;(iterate 4 exact rfl))|(apply S.lenR;exact rfl;exact rfl) | apply S.nil | apply T.regs|(apply T.cT;exact rfl;assumption) | apply T.seq|(apply T.skip;first | change T _ _ _ _ _ | change Done _ _ _ _ _ | change Next _ _ _ _ _ _ | skip) | apply T.block)
   refine T.loopS (fun j => k + 1 + j ≤ h.sets.length) (fun j => h.sets.length - j) (fun j => [(5, .i ((k + 1 + j : Nat) : Int)), (3, rT 1 2 ([] ++ ixN h.sets k a j).length), (4, .i k), (1, .ptr 0 0)]) (fun j => [.live (h.row.map .lf), rB (ixC ([] ++ ixN h.sets k a j)) ([] ++ ixN h.sets k a j).length]) 0 (by omega) (by rw [show [] ++ ixN h.sets k a 0 = [] from List.append_nil _];exact (.cons (by rw [show (((k + 1 + 0 : Nat) : Int)) = (k : Int) + 1 by omega];rfl) rfl (.cons rfl rfl (.cons rfl rfl (.cons rfl rfl .nil))))) (by rw [show [] ++ ixN h.sets k a 0 = [] from List.append_nil _];exact .live rfl (.dead .nil)) ?_
   intro j hj
   by_cases hltj : ((k + 1 + j : Nat) : Int) < ((h.sets.map SetR.row).length : Nat)
   ·obtain ⟨x, hx⟩ := get_at (l := h.sets) (k := k + 1 + j) (by omega)
    have hbx := row_at (R := SetR.row) hx
    have cn := r39_near a x (hsP a hma) (hsP x (List.mem_of_getElem? hx))
    have hj60 := ixN_len h.sets k a j
    have hll : ([] ++ ixN h.sets k a j).length ≤ 3700 := by rw [List.length_append];omega
    by_cases hn : nearP a x
    ·rw [decide_eq_true hn] at cn
     have hS : [] ++ ixN h.sets k a (j + 1) = ([] ++ ixN h.sets k a j) ++ [((k : Int), ((k + 1 + j : Nat) : Int))] := by rw [ixN_yes hx hn, List.append_assoc]
     have hS2 : ixC ([] ++ ixN h.sets k a (j + 1)) = ixC ([] ++ ixN h.sets k a j) ++ [.i k, .i ((k + 1 + j : Nat) : Int)] := by rw [hS, ixC_append];rfl
     have hS3 : ([] ++ ixN h.sets k a (j + 1)).length = ([] ++ ixN h.sets k a j).length + 1 := by rw [hS, List.length_append];rfl
     have hpc := ixC_len ([] ++ ixN h.sets k a j)
     generalize [] ++ ixN h.sets k a j = LL at *
     cases LL with
     | nil =>
      repeat' (first|(apply S.move;exact rfl;exact rfl)|(apply S.assign;exact rfl;exact rfl)|(apply S.fieldP;exact rfl;exact rfl;exact rfl)|(apply S.loadP;(iterate 4 exact rfl))|(apply S.arith;(iterate 4 exact rfl);omega)|(apply S.indexR;exact rfl;exact rfl;exact rfl;exact hb;omega;exact rfl)|(apply S.indexR;exact rfl;exact rfl;exact rfl;exact hbx;omega;exact rfl)|(apply S.call;exact rfl;exact rfl;exact cn;exact rfl)|(apply S.buildA;exact rfl;exact rfl;exact rfl)|(apply S.buildSlice1;(iterate 7 exact rfl))|(apply S.appendN 1 (rows := []);(iterate 8 exact rfl);exact rows_one rfl;exact rfl;exact Nat.le_of_ble_eq_true rfl;exact Nat.le_of_ble_eq_true rfl)|(apply T.drawAll anyOrder (by decide +kernel))|(apply S.loadRA;(iterate 4 exact rfl))|(apply S.cmp;(iterate 4 exact rfl))|(apply S.lenR;exact rfl;exact rfl) | apply S.nil | apply T.regs | apply T.reg|(apply T.cC;exact rfl)|(apply T.cT;exact rfl;assumption) | apply T.seq|(apply T.skip;first | change T _ _ _ _ _ | change Done _ _ _ _ _ | change Next _ _ _ _ _ _ | skip) | apply T.block)
      change Next _ _ _ _ _ _
      exact Next.go (j + 1) (by omega) (by omega) (by rw [hS3];exact (.cons (by rw [show (((k + 1 + (j + 1) : Nat) : Int)) = ((k + 1 + j : Nat) : Int) + 1 by omega];rfl) rfl (.cons rfl rfl (.cons rfl rfl (.cons rfl rfl .nil))))) (by rw [hS2, hS3];exact .live rfl (.live rfl .nil))
     | cons p0 LL =>
      have hll2 : LL.length + 1 ≤ 3700 := hll
      repeat' (first|(apply S.move;exact rfl;exact rfl)|(apply S.assign;exact rfl;exact rfl)|(apply S.fieldP;exact rfl;exact rfl;exact rfl)|(apply S.loadP;(iterate 4 exact rfl))|(apply S.arith;(iterate 4 exact rfl);omega)|(apply S.indexR;exact rfl;exact rfl;exact rfl;exact hb;omega;exact rfl)|(apply S.indexR;exact rfl;exact rfl;exact rfl;exact hbx;omega;exact rfl)|(apply S.call;exact rfl;exact rfl;exact cn;exact rfl)|(apply S.buildA;exact rfl;exact rfl;exact rfl)|(apply S.buildSlice1;(iterate 7 exact rfl))|(apply S.appendO;(iterate 8 exact rfl);(exact hpc);exact rows_one rfl;exact rfl;exact clear_lf _ _;simp only [List.length_cons, List.length_nil];omega;simp only [List.length_cons, List.length_nil];omega)|(apply T.drawAll anyOrder (by decide +kernel))|(apply S.loadRA;(iterate 4 exact rfl))|(apply S.cmp;(iterate 4 exact rfl))|(apply S.lenR;exact rfl;exact rfl) | apply S.nil | apply T.regs | apply T.reg|(apply T.cC;exact rfl)|(apply T.cT;exact rfl;assumption) | apply T.seq|(apply T.skip;first | change T _ _ _ _ _ | change Done _ _ _ _ _ | change Next _ _ _ _ _ _ | skip) | apply T.block)
      change Next _ _ _ _ _ _
      exact Next.go (j + 1) (by omega) (by omega) (by rw [hS3];exact (.cons (by rw [show (((k + 1 + (j + 1) : Nat) : Int)) = ((k + 1 + j : Nat) : Int) + 1 by omega];rfl) rfl (.cons rfl rfl (.cons rfl rfl (.cons rfl rfl .nil))))) (by rw [hS2, hS3];exact .live rfl (.live (by rw [List.all_append, under_lf];rfl) .nil))
    ·rw [decide_eq_false hn] at cn
     have hS : [] ++ ixN h.sets k a (j + 1) = [] ++ ixN h.sets k a j := by rw [ixN_no hx hn]
     generalize [] ++ ixN h.sets k a j = LL at *
     repeat' (first|(apply S.move;exact rfl;exact rfl)|(apply S.assign;exact rfl;exact rfl)|(apply S.fieldP;exact rfl;exact rfl;exact rfl)|(apply S.loadP;(iterate 4 exact rfl))|(apply S.arith;(iterate 4 exact rfl);omega)|(apply S.indexR;exact rfl;exact rfl;exact rfl;exact hb;omega;exact rfl)|(apply S.indexR;exact rfl;exact rfl;exact rfl;exact hbx;omega;exact rfl)|(apply S.call;exact rfl;exact rfl;exact cn;exact rfl)|(apply T.drawAll anyOrder (by decide +kernel))|(apply S.loadRA;(iterate 4 exact rfl))|(apply S.cmp;(iterate 4 exact rfl))|(apply S.lenR;exact rfl;exact rfl) | apply S.nil | apply T.regs | apply T.reg|(apply T.cCN;exact rfl)|(apply T.cT;exact rfl;assumption) | apply T.seq|(apply T.skip;first | change T _ _ _ _ _ | change Done _ _ _ _ _ | change Next _ _ _ _ _ _ | skip) | apply T.block)
     change Next _ _ _ _ _ _
     exact Next.go (j + 1) (by omega) (by omega) (by rw [hS];exact (.cons (by rw [show (((k + 1 + (j + 1) : Nat) : Int)) = ((k + 1 + j : Nat) : Int) + 1 by omega];rfl) rfl (.cons rfl (by cases LL <;> rfl) (.cons rfl rfl (.cons rfl rfl .nil))))) (by rw [hS];cases LL <;> first | exact .live rfl (.dead .nil) | exact .live rfl (.live (under_lf _ _) .nil))
   ·obtain rfl : j = h.sets.length - (k + 1) := by omega
    obtain ⟨LL, hLL⟩ : ∃ LL, LL = ixK h.sets (k + 1) := ⟨_, rfl⟩
    rw [← hK, ← hLL]
    repeat' (first|(apply S.move;exact rfl;exact rfl)|(apply S.assign;exact rfl;exact rfl)|(apply S.fieldP;exact rfl;exact rfl;exact rfl)|(apply S.loadP;(iterate 4 exact rfl))|(apply S.arith;(iterate 4 exact rfl);omega)|(apply S.cmp;(iterate 4 exact rfl))|(apply S.lenR;exact rfl;exact rfl) | apply S.nil | apply T.regs | apply T.reg|(apply T.cF;exact rfl;assumption) | apply T.seq|(apply T.exit;first | change T _ _ _ _ _ | change Done _ _ _ _ _ | change Next _ _ _ _ _ _ | skip))
    change Next _ _ _ _ _ _
    exact Next.go (k + 1) (by omega) (by omega) (by rw [← hLL];exact (.cons (by rw [show (((k + 1 : Nat) : Int)) = (k : Int) + 1 by omega];rfl) rfl (.cons rfl (by cases LL <;> rfl) (.cons rfl rfl .nil)))) (by rw [← hLL];clear hLL;cases LL <;> first | exact .live rfl (.dead .nil) | exact .live rfl (.live (under_lf _ _) .nil))
  | cons p L =>
   repeat' (first|(apply S.move;exact rfl;exact rfl)|(apply S.assign;exact rfl;exact rfl)|(apply S.fieldP;exact rfl;exact rfl;exact rfl)|(apply S.loadP;(iterate 4 exact rfl))|(apply S.arith;(iterate 4 exact rfl);omega)|(apply S.cmp;(iterate 4 exact rfl))|(apply S.lenR;exact rfl;exact rfl) | apply S.nil | apply T.regs|(apply T.cT;exact rfl;assumption) | apply T.seq|(apply T.skip;first | change T _ _ _ _ _ | change Done _ _ _ _ _ | change Next _ _ _ _ _ _ | skip) | apply T.block)
   refine T.loopS (fun j => k + 1 + j ≤ h.sets.length) (fun j => h.sets.length - j) (fun j => [(5, .i ((k + 1 + j : Nat) : Int)), (3, rT 1 2 ((p :: L) ++ ixN h.sets k a j).length), (4, .i k), (1, .ptr 0 0)]) (fun j => [.live (h.row.map .lf), rB (ixC ((p :: L) ++ ixN h.sets k a j)) ((p :: L) ++ ixN h.sets k a j).length]) 0 (by omega) (by rw [show (p :: L) ++ ixN h.sets k a 0 = (p :: L) from List.append_nil _];exact (.cons (by rw [show (((k + 1 + 0 : Nat) : Int)) = (k : Int) + 1 by omega];rfl) rfl (.cons rfl rfl (.cons rfl rfl (.cons rfl rfl .nil))))) (by rw [show (p :: L) ++ ixN h.sets k a 0 = (p :: L) from List.append_nil _];exact .live rfl (.live (under_lf _ _) .nil)) ?_
   intro j hj
   by_cases hltj : ((k + 1 + j : Nat) : Int) < ((h.sets.map SetR.row).length : Nat)
   ·obtain ⟨x, hx⟩ := get_at (l := h.sets) (k := k + 1 + j) (by omega)
    have hbx := row_at (R := SetR.row) hx
    have cn := r39_near a x (hsP a hma) (hsP x (List.mem_of_getElem? hx))
    have hj60 := ixN_len h.sets k a j
    have hll : ((p :: L) ++ ixN h.sets k a j).length ≤ 3700 := by rw [List.length_append];omega
    by_cases hn : nearP a x
    ·rw [decide_eq_true hn] at cn
     have hS : (p :: L) ++ ixN h.sets k a (j + 1) = ((p :: L) ++ ixN h.sets k a j) ++ [((k : Int), ((k + 1 + j : Nat) : Int))] := by rw [ixN_yes hx hn, List.append_assoc]
     have hS2 : ixC ((p :: L) ++ ixN h.sets k a (j + 1)) = ixC ((p :: L) ++ ixN h.sets k a j) ++ [.i k, .i ((k + 1 + j : Nat) : Int)] := by rw [hS, ixC_append];rfl
     have hS3 : ((p :: L) ++ ixN h.sets k a (j + 1)).length = ((p :: L) ++ ixN h.sets k a j).length + 1 := by rw [hS, List.length_append];rfl
     have hpc := ixC_len ((p :: L) ++ ixN h.sets k a j)
     generalize (p :: L) ++ ixN h.sets k a j = LL at *
     cases LL with
     | nil =>
      repeat' (first|(apply S.move;exact rfl;exact rfl)|(apply S.assign;exact rfl;exact rfl)|(apply S.fieldP;exact rfl;exact rfl;exact rfl)|(apply S.loadP;(iterate 4 exact rfl))|(apply S.arith;(iterate 4 exact rfl);omega)|(apply S.indexR;exact rfl;exact rfl;exact rfl;exact hb;omega;exact rfl)|(apply S.indexR;exact rfl;exact rfl;exact rfl;exact hbx;omega;exact rfl)|(apply S.call;exact rfl;exact rfl;exact cn;exact rfl)|(apply S.buildA;exact rfl;exact rfl;exact rfl)|(apply S.buildSlice1;(iterate 7 exact rfl))|(apply S.appendN 1 (rows := []);(iterate 8 exact rfl);exact rows_one rfl;exact rfl;exact Nat.le_of_ble_eq_true rfl;exact Nat.le_of_ble_eq_true rfl)|(apply T.drawAll anyOrder (by decide +kernel))|(apply S.loadRA;(iterate 4 exact rfl))|(apply S.cmp;(iterate 4 exact rfl))|(apply S.lenR;exact rfl;exact rfl) | apply S.nil | apply T.regs | apply T.reg|(apply T.cC;exact rfl)|(apply T.cT;exact rfl;assumption) | apply T.seq|(apply T.skip;first | change T _ _ _ _ _ | change Done _ _ _ _ _ | change Next _ _ _ _ _ _ | skip) | apply T.block)
      change Next _ _ _ _ _ _
      exact Next.go (j + 1) (by omega) (by omega) (by rw [hS3];exact (.cons (by rw [show (((k + 1 + (j + 1) : Nat) : Int)) = ((k + 1 + j : Nat) : Int) + 1 by omega];rfl) rfl (.cons rfl rfl (.cons rfl rfl (.cons rfl rfl .nil))))) (by rw [hS2, hS3];exact .live rfl (.live rfl .nil))
     | cons p0 LL =>
      have hll2 : LL.length + 1 ≤ 3700 := hll
      repeat' (first|(apply S.move;exact rfl;exact rfl)|(apply S.assign;exact rfl;exact rfl)|(apply S.fieldP;exact rfl;exact rfl;exact rfl)|(apply S.loadP;(iterate 4 exact rfl))|(apply S.arith;(iterate 4 exact rfl);omega)|(apply S.indexR;exact rfl;exact rfl;exact rfl;exact hb;omega;exact rfl)|(apply S.indexR;exact rfl;exact rfl;exact rfl;exact hbx;omega;exact rfl)|(apply S.call;exact rfl;exact rfl;exact cn;exact rfl)|(apply S.buildA;exact rfl;exact rfl;exact rfl)|(apply S.buildSlice1;(iterate 7 exact rfl))|(apply S.appendO;(iterate 8 exact rfl);(exact hpc);exact rows_one rfl;exact rfl;exact clear_lf _ _;simp only [List.length_cons, List.length_nil];omega;simp only [List.length_cons, List.length_nil];omega)|(apply T.drawAll anyOrder (by decide +kernel))|(apply S.loadRA;(iterate 4 exact rfl))|(apply S.cmp;(iterate 4 exact rfl))|(apply S.lenR;exact rfl;exact rfl) | apply S.nil | apply T.regs | apply T.reg|(apply T.cC;exact rfl)|(apply T.cT;exact rfl;assumption) | apply T.seq|(apply T.skip;first | change T _ _ _ _ _ | change Done _ _ _ _ _ | change Next _ _ _ _ _ _ | skip) | apply T.block)
      change Next _ _ _ _ _ _
      exact Next.go (j + 1) (by omega) (by omega) (by rw [hS3];exact (.cons (by rw [show (((k + 1 + (j + 1) : Nat) : Int)) = ((k + 1 + j : Nat) : Int) + 1 by omega];rfl) rfl (.cons rfl rfl (.cons rfl rfl (.cons rfl rfl .nil))))) (by rw [hS2, hS3];exact .live rfl (.live (by rw [List.all_append, under_lf];rfl) .nil))
    ·rw [decide_eq_false hn] at cn
     have hS : (p :: L) ++ ixN h.sets k a (j + 1) = (p :: L) ++ ixN h.sets k a j := by rw [ixN_no hx hn]
     generalize (p :: L) ++ ixN h.sets k a j = LL at *
     repeat' (first|(apply S.move;exact rfl;exact rfl)|(apply S.assign;exact rfl;exact rfl)|(apply S.fieldP;exact rfl;exact rfl;exact rfl)|(apply S.loadP;(iterate 4 exact rfl))|(apply S.arith;(iterate 4 exact rfl);omega)|(apply S.indexR;exact rfl;exact rfl;exact rfl;exact hb;omega;exact rfl)|(apply S.indexR;exact rfl;exact rfl;exact rfl;exact hbx;omega;exact rfl)|(apply S.call;exact rfl;exact rfl;exact cn;exact rfl)|(apply T.drawAll anyOrder (by decide +kernel))|(apply S.loadRA;(iterate 4 exact rfl))|(apply S.cmp;(iterate 4 exact rfl))|(apply S.lenR;exact rfl;exact rfl) | apply S.nil | apply T.regs | apply T.reg|(apply T.cCN;exact rfl)|(apply T.cT;exact rfl;assumption) | apply T.seq|(apply T.skip;first | change T _ _ _ _ _ | change Done _ _ _ _ _ | change Next _ _ _ _ _ _ | skip) | apply T.block)
     change Next _ _ _ _ _ _
     exact Next.go (j + 1) (by omega) (by omega) (by rw [hS];exact (.cons (by rw [show (((k + 1 + (j + 1) : Nat) : Int)) = ((k + 1 + j : Nat) : Int) + 1 by omega];rfl) rfl (.cons rfl (by cases LL <;> rfl) (.cons rfl rfl (.cons rfl rfl .nil))))) (by rw [hS];cases LL <;> first | exact .live rfl (.dead .nil) | exact .live rfl (.live (under_lf _ _) .nil))
   ·obtain rfl : j = h.sets.length - (k + 1) := by omega
    obtain ⟨LL, hLL⟩ : ∃ LL, LL = ixK h.sets (k + 1) := ⟨_, rfl⟩
    rw [← hK, ← hLL]
    repeat' (first|(apply S.move;exact rfl;exact rfl)|(apply S.assign;exact rfl;exact rfl)|(apply S.fieldP;exact rfl;exact rfl;exact rfl)|(apply S.loadP;(iterate 4 exact rfl))|(apply S.arith;(iterate 4 exact rfl);omega)|(apply S.cmp;(iterate 4 exact rfl))|(apply S.lenR;exact rfl;exact rfl) | apply S.nil | apply T.regs | apply T.reg|(apply T.cF;exact rfl;assumption) | apply T.seq|(apply T.exit;first | change T _ _ _ _ _ | change Done _ _ _ _ _ | change Next _ _ _ _ _ _ | skip))
    change Next _ _ _ _ _ _
    exact Next.go (k + 1) (by omega) (by omega) (by rw [← hLL];exact (.cons (by rw [show (((k + 1 : Nat) : Int)) = (k : Int) + 1 by omega];rfl) rfl (.cons rfl (by cases LL <;> rfl) (.cons rfl rfl .nil)))) (by rw [← hLL];clear hLL;cases LL <;> first | exact .live rfl (.dead .nil) | exact .live rfl (.live (under_lf _ _) .nil))
 ·obtain rfl : k = h.sets.length := by omega
  have hown := own_ixs (ixK h.sets h.sets.length)
  generalize ixK h.sets h.sets.length = L at *
  cases L with
  | nil =>
   repeat' (first|(apply S.move;exact rfl;exact rfl)|(apply S.assign;exact rfl;exact rfl)|(apply S.fieldP;exact rfl;exact rfl;exact rfl)|(apply S.loadP;(iterate 4 exact rfl))|(refine T.nilU 3 rfl ?_)|(apply S.cmp;(iterate 4 exact rfl))|(apply S.lenR;exact rfl;exact rfl) | apply S.nil | apply T.regs|(apply T.cF;exact rfl;assumption) | apply T.seq|(apply T.ret;change Done _ _ _ _ _)|(apply T.exit;first | change T _ _ _ _ _ | change Done _ _ _ _ _ | change Next _ _ _ _ _ _ | skip))
   exact done1 (by simp) Tryz.results17 rfl (.one (.one (.lf _)))
  | cons p L =>
   repeat' (first|(apply S.move;exact rfl;exact rfl)|(apply S.assign;exact rfl;exact rfl)|(apply S.fieldP;exact rfl;exact rfl;exact rfl)|(apply S.loadP;(iterate 4 exact rfl))|(refine T.freeze 3 rfl rfl hown ?_)|(apply S.cmp;(iterate 4 exact rfl))|(apply S.lenR;exact rfl;exact rfl) | apply S.nil | apply T.regs|(apply T.cF;exact rfl;assumption) | apply T.seq|(apply T.ret;change Done _ _ _ _ _)|(apply T.exit;first | change T _ _ _ _ _ | change Done _ _ _ _ _ | change Next _ _ _ _ _ _ | skip))
   exact done1 (by simp) Tryz.results17 rfl (.one (.one (.lf _)))
theorem take_eq_snoc {α : Type} {a b : List α} {k : Nat} {x y : α} (h : a.take k = b.take k) (hx : a[k]? = some x) (hy : b[k]? = some y) (e : x = y) : a.take (k + 1) = b.take (k + 1) := by
 rw [List.take_add_one, List.take_add_one, h, hx, hy, e]
set_option maxHeartbeats 8000000 in
theorem equal_prs (a b : List (ByteArray × ByteArray)) (ha : a.length ≤ 1000000) (hb : b.length ≤ 1000000) : Fn0 Tryz.prog 18 [.sl (a.map pairRow), .sl (b.map pairRow)] (.b (decide (a = b))) := by
 have hla : (a.map pairRow).length = a.length := List.length_map _
 have hlb : (b.map pairRow).length = b.length := List.length_map _
 by_cases hl : a.length = b.length
 ·have hl1 : ((a.map pairRow).length : Int) = ((b.map pairRow).length : Nat) := by omega
  refine Fn0.of Tryz.func18 Tryz.ntmps18 rfl rfl rfl ?_
  simp only [entryTm]
  repeat' (first|(apply S.move;exact rfl;exact rfl)|(apply S.assign;exact rfl;exact rfl)|(apply S.cmp;(iterate 4 exact rfl))|(apply S.lenR;exact rfl;exact rfl) | apply S.nil | apply T.regs|(apply T.cFn;exact rfl;assumption) | apply T.seq|(apply T.skip;first | change T _ _ _ _ _ | change Done _ _ _ _ _ | change Next _ _ _ _ _ _ | skip) | apply T.block)
  refine T.loopS (fun k => k ≤ a.length ∧ a.take k = b.take k) (fun k => a.length - k) (fun k => [(13, .i k), (12, .i (a.map pairRow).length), (0, .sl (a.map pairRow)), (1, .sl (b.map pairRow))]) (fun _ => []) 0 ⟨Nat.zero_le _, rfl⟩ (.cons rfl rfl (.cons rfl rfl (.cons rfl rfl (.cons rfl rfl .nil)))) .nil ?_
  rintro k ⟨hk, heq⟩
  by_cases hlt : k < a.length
  ·have h1 : (k : Int) < ((a.map pairRow).length : Nat) := by omega
   obtain ⟨x, hx⟩ := get_at hlt
   obtain ⟨y, hy⟩ := get_at (l := b) (k := k) (by omega)
   have hbx := row_at (R := pairRow) hx
   have hby := row_at (R := pairRow) hy
   obtain ⟨x1, x2⟩ := x
   obtain ⟨y1, y2⟩ := y
   repeat' (first|(apply S.move;exact rfl;exact rfl)|(apply S.assign;exact rfl;exact rfl)|(apply T.drawAll anyOrder (by decide +kernel))|(apply S.indexR;exact rfl;exact rfl;exact rfl;exact hbx;omega;exact rfl)|(apply S.indexR;exact rfl;exact rfl;exact rfl;exact hby;omega;exact rfl)|(apply S.arith;(iterate 4 exact rfl);omega)|(apply S.nePair (by kernel_rfl);exact rfl;exact rfl;exact rfl)|(apply S.loadRA;(iterate 4 exact rfl))|(apply S.cmp;(iterate 4 exact rfl)) | apply S.nil | apply T.regs | apply T.reg|(apply T.cT;exact rfl;assumption)|(apply T.cSn;exact rfl;intro hc;rotate_left;intro hc;rotate_right) | apply T.seq|(apply T.skip;first | change T _ _ _ _ _ | change Done _ _ _ _ _ | change Next _ _ _ _ _ _ | skip)|(apply T.ret;change Done _ _ _ _ _) | apply T.block)
   all_goals (try change Next _ _ _ _ _ _)
   all_goals first
    | exact Next.go (k + 1) ⟨by omega, take_eq_snoc heq hx hy (by first | assumption|(apply Classical.not_not.1;assumption))⟩ (by omega) (.cons rfl rfl (.cons rfl rfl (.cons rfl rfl (.cons rfl rfl .nil)))) .nil
    | exact doneV (by simp) Tryz.results18 rfl (congrArg Value.bool (decide_eq_false fun e => by subst e;rw [hx] at hy;injection hy with hy;contradiction).symm)
  ·have h1 : ¬ (k : Int) < ((a.map pairRow).length : Nat) := by omega
   rw [List.take_of_length_le (by omega), List.take_of_length_le (by omega)] at heq
   repeat' (first|(apply S.assign;exact rfl;exact rfl)|(apply S.cmp;(iterate 4 exact rfl)) | apply S.nil | apply T.regs|(apply T.cF;exact rfl;assumption) | apply T.seq|(apply T.ret;change Done _ _ _ _ _)|(apply T.exit;first | change T _ _ _ _ _ | change Done _ _ _ _ _ | change Next _ _ _ _ _ _ | skip))
   exact doneV (by simp) Tryz.results18 rfl (congrArg Value.bool (decide_eq_true heq).symm)
 ·have hl1 : ¬ ((a.map pairRow).length : Int) = ((b.map pairRow).length : Nat) := by omega
  refine Fn0.of Tryz.func18 Tryz.ntmps18 rfl rfl rfl ?_
  simp only [entryTm]
  repeat' (first|(apply S.move;exact rfl;exact rfl)|(apply S.assign;exact rfl;exact rfl)|(apply S.cmp;(iterate 4 exact rfl))|(apply S.lenR;exact rfl;exact rfl) | apply S.nil | apply T.regs|(apply T.cT;exact rfl;assumption) | apply T.seq|(apply T.ret;change Done _ _ _ _ _))
  all_goals exact doneV (by simp) Tryz.results18 rfl (congrArg Value.bool (decide_eq_false fun e => hl (by rw [e])).symm)
set_option maxHeartbeats 8000000 in
theorem index_prs (a : List (ByteArray × ByteArray)) (p : ByteArray × ByteArray) (ha : a.length ≤ 1000000) : Fn0 Tryz.prog 55 [.sl (a.map pairRow), rowA (pairRow p)] (.i (idx (fun q => q = p) a)) := by
 have hla : (a.map pairRow).length = a.length := List.length_map _
 obtain ⟨p1, p2⟩ := p
 refine Fn0.of Tryz.func55 Tryz.ntmps55 rfl rfl rfl ?_
 simp only [entryTm]
 repeat' (first|(apply S.move;exact rfl;exact rfl)|(apply S.assign;exact rfl;exact rfl)|(apply S.box;(iterate 6 exact rfl))|(apply S.lenR;exact rfl;exact rfl) | apply S.nil | apply T.regs | apply T.seq | apply T.block)
 refine T.loopS (fun k => k ≤ a.length ∧ ∀ x ∈ a.take k, ¬ x = (p1, p2)) (fun k => a.length - k) (fun k => [(8, .i k), (7, .i (a.map pairRow).length), (0, .sl (a.map pairRow)), (3, .ptr 0 0)]) (fun _ => [.live [.s p1, .s p2]]) 0 ⟨Nat.zero_le _, by simp⟩ (.cons rfl rfl (.cons rfl rfl (.cons rfl rfl (.cons rfl rfl .nil)))) (.live rfl .nil) ?_
 rintro k ⟨hk, hno⟩
 by_cases hlt : k < a.length
 ·have h1 : (k : Int) < ((a.map pairRow).length : Nat) := by omega
  obtain ⟨x, hx⟩ := get_at hlt
  have hbx := row_at (R := pairRow) hx
  obtain ⟨x1, x2⟩ := x
  repeat' (first|(apply S.move;exact rfl;exact rfl)|(apply S.assign;exact rfl;exact rfl)|(apply T.drawAll anyOrder (by decide +kernel))|(apply S.indexR;exact rfl;exact rfl;exact rfl;exact hbx;omega;exact rfl)|(apply S.arith;(iterate 4 exact rfl);omega)|(apply S.eqPair (by kernel_rfl);exact rfl;exact rfl;exact rfl)|(apply S.loadPA;(iterate 4 exact rfl))|(apply S.loadRA;(iterate 4 exact rfl))|(apply S.cmp;(iterate 4 exact rfl)) | apply S.nil | apply T.regs | apply T.reg|(apply T.cT;exact rfl;assumption)|(apply T.cS;exact rfl;intro hc;rotate_left;intro hc;rotate_right) | apply T.seq|(apply T.skip;first | change T _ _ _ _ _ | change Done _ _ _ _ _ | change Next _ _ _ _ _ _ | skip)|(apply T.ret;change Done _ _ _ _ _) | apply T.block)
  all_goals (try change Next _ _ _ _ _ _)
  all_goals first
   | exact Next.go (k + 1) ⟨by omega, fun y hy => by
     rw [snoc_at hx] at hy
     rcases List.mem_append.1 hy with hy | hy
     ·exact hno y hy
     ·obtain rfl : y = (x1, x2) := by simpa using hy
      exact fun e => absurd e.symm (by assumption)⟩ (by omega) (.cons rfl rfl (.cons rfl rfl (.cons rfl rfl (.cons rfl rfl .nil)))) (.live rfl .nil)
   | exact doneV (by simp) Tryz.results55 rfl (congrArg (Value.int .i64) (idx_at hx hno (Eq.symm (by assumption))).symm)
 ·have h1 : ¬ (k : Int) < ((a.map pairRow).length : Nat) := by omega
  repeat' (first|(apply S.assign;exact rfl;exact rfl)|(apply S.cmp;(iterate 4 exact rfl)) | apply S.nil | apply T.regs|(apply T.cF;exact rfl;assumption) | apply T.seq|(apply T.ret;change Done _ _ _ _ _)|(apply T.exit;first | change T _ _ _ _ _ | change Done _ _ _ _ _ | change Next _ _ _ _ _ _ | skip))
  exact doneV (by simp) Tryz.results55 rfl (congrArg (Value.int .i64) (idx_take hno (by omega)).symm)
theorem contains_prs (a : List (ByteArray × ByteArray)) (p : ByteArray × ByteArray) (ha : a.length ≤ 1000000) : Fn0 Tryz.prog 20 [.sl (a.map pairRow), rowA (pairRow p)] (.b (decide (∃ x ∈ a, x = p))) := by
 have ci := index_prs a p ha
 have hi : 0 ≤ idx (fun q => q = p) a ↔ ∃ x ∈ a, x = p := decide_eq_decide.1 (idx_ge (fun q => q = p) a)
 rw [show decide (∃ x ∈ a, x = p) = decide (idx (fun q => q = p) a ≥ 0) from decide_eq_decide.2 hi.symm]
 clear hi
 generalize idx (fun q => q = p) a = n at *
 refine Fn0.of Tryz.func20 Tryz.ntmps20 rfl rfl rfl ?_
 simp only [entryTm]
 repeat' (first|(apply S.move;exact rfl;exact rfl)|(apply S.assign;exact rfl;exact rfl)|(apply S.call;exact rfl;exact rfl;exact ci;exact rfl)|(apply S.loadPA;(iterate 4 exact rfl))|(apply S.box;(iterate 6 exact rfl))|(apply S.cmp;(iterate 4 exact rfl)) | apply S.nil | apply T.regs|(apply T.ret;change Done _ _ _ _ _))
 all_goals exact doneV (by simp) Tryz.results20 rfl (by rfl)
end Go.Proofs.YtlncmkafjjomgaaGreat
