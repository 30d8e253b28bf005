/- Contracts: the pairs of near sets of a house (the program's side, and the reference's). No conditions but those of each statement. -/
import Derived.Test.YtlncmkafjjomgaaGreatOo
import Derived.Test.YtlncmkafjjomgaaGreatOa
import Derived.Test.YtlncmkafjjomgaaGreatOl
set_option linter.unusedSimpArgs false
namespace Go.Proofs.YtlncmkafjjomgaaGreat
set_option linter.unusedVariables false
open Go Go.RowKit
abbrev cellsS (l : List SetR) : List AV := (l.map SetR.row).flatten.map .lf
theorem sets_row (l : List SetR) : ∀ r ∈ l.map SetR.row, r.length = 13 := by
 intro r hr
 obtain ⟨n, _, rfl⟩ := List.mem_map.1 hr
 rfl
theorem sets_one (l : List SetR) : (l.map SetR.row).flatten.all Lf.one = true := by
 rw [List.all_eq_true]
 intro x hx
 obtain ⟨r, hr, hxr⟩ := List.mem_flatten.1 hx
 obtain ⟨s, _, rfl⟩ := List.mem_map.1 hr
 simp only [SetR.row, List.mem_cons, List.not_mem_nil, or_false] at hxr
 rcases hxr with rfl | rfl | rfl | rfl | rfl | rfl | rfl | rfl | rfl | rfl | rfl | rfl | rfl <;> rfl
theorem own_sets (l : List SetR) : OwnRows (cellsS l) 0 (l.map SetR.row).length 13 (l.map SetR.row) := OwnRows.of (l.map SetR.row).flatten (sets_row l) rfl
set_option maxHeartbeats 8000000 in
theorem clone_sets (l : List SetR) (hl : l.length ≤ 1000) : FnOwn Tryz.prog 48 [.sl (l.map SetR.row)] (l.map SetR.row) 13 := by
 have hle : (l.map SetR.row).length = l.length := List.length_map _
 refine FnOwn.of Tryz.func48 Tryz.ntmps48 rfl rfl rfl ?_
 simp only [entryTm]
 repeat' (first|(apply S.move;exact rfl;exact rfl)|(apply S.assign;exact rfl;exact rfl)|(apply S.eqNil;exact rfl;exact rfl;intro hnil;rotate_left;rotate_right)|(apply S.buildSliceO;(iterate 6 exact rfl))|(apply S.appendO;(iterate 9 exact rfl);exact sets_row l;exact sets_one l;exact rfl;omega;omega) | apply S.nil | apply T.regs|(apply T.cC;exact rfl)|(apply T.cCN;exact rfl) | apply T.seq|(apply T.skip;first | change T _ _ _ _ _ | change Done _ _ _ _ _ | change Next _ _ _ _ _ _ | skip))
 all_goals (apply T.ret;change DoneO _ _ _ _ _ _)
 ·exact ⟨.inr rfl, .inl ⟨_, .cons (.tmp rfl) .nil, rfl, hnil⟩⟩
 ·exact ⟨.inr rfl, .inr (.inr ⟨0, .cons (Res.own0 rfl) .nil, rfl⟩)⟩

/-! ### Lists of pairs -/
def innN (l : List SetR) (k : Nat) (a : SetR) : Nat → List (ByteArray × ByteArray)
 | 0 => []
 | j + 1 => innN l k a j ++ (match l[k + 1 + j]? with | some b => if nearP a b then [(a.name, b.name)] else [] | none => [])
def prsK (l : List SetR) : Nat → List (ByteArray × ByteArray)
 | 0 => []
 | k + 1 => prsK l k ++ (match l[k]? with | some a => innN l k a (l.length - (k + 1)) | none => [])
abbrev prC (L : List (ByteArray × ByteArray)) : List AV := (L.map pairRow).flatten.map .lf
theorem prC_len (L : List (ByteArray × ByteArray)) : (prC L).length = L.length * 2 := by
 rw [List.length_map]
 induction L with
 | nil => rfl
 | cons p L ih => rw [List.map_cons, List.flatten_cons, List.length_append, ih];simp [pairRow];omega
theorem prC_append (L M : List (ByteArray × ByteArray)) : prC (L ++ M) = prC L ++ prC M := by simp [prC]
theorem pr_row (L : List (ByteArray × ByteArray)) : ∀ r ∈ L.map pairRow, r.length = 2 := by
 intro r hr
 obtain ⟨n, _, rfl⟩ := List.mem_map.1 hr
 rfl
theorem own_prs (L : List (ByteArray × ByteArray)) : OwnRows (prC L) 0 L.length 2 (L.map pairRow) := by
 have := OwnRows.of (L.map pairRow).flatten (pr_row L) rfl
 rw [List.length_map] at this
 exact this
theorem innN_yes {l : List SetR} {k : Nat} {a b : SetR} {j : Nat} (h : l[k + 1 + j]? = some b) (hn : nearP a b) : innN l k a (j + 1) = innN l k a j ++ [(a.name, b.name)] := by rw [innN, h];simp only [hn, if_true]
theorem innN_no {l : List SetR} {k : Nat} {a b : SetR} {j : Nat} (h : l[k + 1 + j]? = some b) (hn : ¬ nearP a b) : innN l k a (j + 1) = innN l k a j := by rw [innN, h];simp only [hn, if_false, List.append_nil]
theorem innN_len (l : List SetR) (k : Nat) (a : SetR) : ∀ j, (innN l k a j).length ≤ j
 | 0 => Nat.le_refl _
 | j + 1 => by
  have ih := innN_len l k a j
  rw [innN, List.length_append]
  split
  ·split <;> simp <;> omega
  ·simp;omega
theorem prsK_len (l : List SetR) : ∀ k, (prsK l k).length ≤ k * l.length
 | 0 => by simp [prsK]
 | k + 1 => by
  have ih := prsK_len l k
  rw [prsK, List.length_append, Nat.add_mul, Nat.one_mul]
  split
  ·rename_i a _
   have := innN_len l k a (l.length - (k + 1))
   omega
  ·simp;omega
theorem clear3 (X Y Z : List Lf) : AH.clear 3 0 [.live (X.map .lf), .live (Y.map .lf), .live (Z.map .lf)] = true := by
 simp only [AH.clear, HB.clear, clear_lf]
 rfl
set_option maxHeartbeats 32000000 in
theorem col_pairs (h : HouseR) (hf : h.fits) (hp : houseP h) : Fn0 Tryz.prog 15 [rowA h.row] (.tup [.sl ((prsK h.sets h.sets.length).map pairRow), .i 0]) := by
 have hv := house_valid h hf
 rw [decide_eq_true hp] at hv
 have h60 : h.sets.length ≤ 60 := hp.2.2.2.1
 have hsP : ∀ s ∈ h.sets, setP s := fun s hs => (hp.2.2.2.2.2.1 s hs).1
 have hle : (h.sets.map SetR.row).length = h.sets.length := List.length_map _
 skip
 refine Fn0.of Tryz.func15 Tryz.ntmps15 rfl rfl rfl ?_
 simp only [entryTm]
 repeat' (first|(apply S.move;exact rfl;exact rfl)|(apply S.assign;exact rfl;exact rfl)|(apply S.fieldP;exact rfl;exact rfl;exact rfl)|(apply S.loadP;(iterate 4 exact rfl))|(apply S.call;exact rfl;exact rfl;exact hv;exact rfl)|(apply S.loadPA;(iterate 4 exact rfl))|(apply S.box;(iterate 6 exact rfl))|(apply S.not;exact rfl;exact rfl;exact rfl)|(apply S.lenR;exact rfl;exact rfl) | apply S.nil | apply T.regs|(apply T.cCN;exact rfl) | apply T.seq|(apply T.skip;first | change T _ _ _ _ _ | change Done _ _ _ _ _ | change Next _ _ _ _ _ _ | skip) | apply T.block)
 refine T.kill 1 ?_
 refine T.loopS (fun k => k ≤ h.sets.length) (fun k => h.sets.length - k) (fun k => [(17, .i k), (4, rT 1 2 (prsK h.sets k).length), (16, .i (h.sets.map SetR.row).length), (15, .sl (h.sets.map SetR.row)), (1, .ptr 0 0)]) (fun k => [.live (h.row.map .lf), rB (prC (prsK h.sets k)) (prsK h.sets k).length]) 0 (Nat.zero_le _) (.cons rfl rfl (.cons rfl rfl (.cons rfl rfl (.cons rfl rfl (.cons rfl rfl .nil))))) (.live rfl (.dead .nil)) ?_
 intro k hk
 by_cases hlt : (k : Int) < ((h.sets.map SetR.row).length : Nat)
 ·obtain ⟨a, ha⟩ := get_at (l := h.sets) (k := k) (by omega)
  have hb := row_at (R := SetR.row) ha
  have hma := List.mem_of_getElem? ha
  have hcl := clone_sets (h.sets.drop (k + 1)) (by rw [List.length_drop];omega)
  have hdr : (h.sets.map SetR.row).drop ((k : Int) + 1).toNat = (h.sets.drop (k + 1)).map SetR.row := by rw [show ((k : Int) + 1).toNat = k + 1 by omega, List.map_drop]
  replace hcl : FnOwn Tryz.prog 48 [.sl ((h.sets.map SetR.row).drop ((k : Int) + 1).toNat)] ((h.sets.drop (k + 1)).map SetR.row) 13 := by rw [hdr];exact hcl
  clear hdr
  have hsl : (h.sets.drop (k + 1)).length = h.sets.length - (k + 1) := List.length_drop
  have hK : prsK h.sets (k + 1) = prsK h.sets k ++ innN h.sets k a (h.sets.length - (k + 1)) := by rw [prsK, ha]
  have hb60 : (prsK h.sets k).length ≤ 3600 := Nat.le_trans (prsK_len h.sets k) (Nat.le_trans (Nat.mul_le_mul (show k ≤ 60 by omega) h60) (by decide))
  have hmm : ∀ j x, (h.sets.drop (k + 1))[j]? = some x → h.sets[k + 1 + j]? = some x := fun j x hx => by rwa [List.getElem?_drop] at hx
  have hms : ∀ x ∈ h.sets.drop (k + 1), x ∈ h.sets := fun x hx => List.mem_of_mem_drop hx
  rw [← hsl] at hK
  generalize prsK h.sets k = L at *
  have hle2 : ((h.sets.drop (k + 1)).map SetR.row).length = (h.sets.drop (k + 1)).length := List.length_map _
  generalize h.sets.drop (k + 1) = m at *
  cases L with
  | nil =>
   repeat' (first|(apply S.move;exact rfl;exact rfl)|(apply S.assign;exact rfl;exact rfl)|(apply S.fieldP;exact rfl;exact rfl;exact rfl)|(apply S.loadP;(iterate 4 exact rfl))|(apply S.indexR;exact rfl;exact rfl;exact rfl;exact hb;omega;exact rfl)|(apply S.arith;(iterate 4 exact rfl);omega)|(apply S.sliceFrom;exact rfl;exact rfl;exact rfl;omega;(intro row hr;obtain ⟨z, _, rfl⟩ := List.mem_map.1 hr;rfl))|(apply S.callOwn 3 hcl;(iterate 4 exact rfl);(first | exact rfl | exact clear3 h.row _ a.row);exact rfl;exact sets_row m;intro hnil;rotate_left;rotate_right)|(apply S.lenO;exact rfl;exact rfl;exact rfl)|(apply S.loadRA;(iterate 4 exact rfl))|(apply S.alloc;(iterate 5 exact rfl))|(apply S.store;(iterate 7 exact rfl))|(apply S.cmp;(iterate 4 exact rfl))|(apply S.lenR;exact rfl;exact rfl) | apply S.nil | apply T.regs|(apply T.cT;exact rfl;assumption) | apply T.seq|(apply T.skip;first | change T _ _ _ _ _ | change Done _ _ _ _ _ | change Next _ _ _ _ _ _ | skip) | apply T.block)
   ·have hm0 : m = [] := List.map_eq_nil_iff.1 hnil
    subst hm0
    refine T.kill 3 ?_
    refine T.loopS (fun j : Nat => j = 0) (fun _ => 0) (fun j => [(29, .i j), (4, rT 1 2 ([] ++ innN h.sets k a j).length), (28, .i ((([] : List SetR)).map SetR.row).length), (27, .sl ((([] : List SetR)).map SetR.row)), (6, .ptr 2 0), (17, .i k), (16, .i (h.sets.map SetR.row).length), (15, .sl (h.sets.map SetR.row)), (1, .ptr 0 0)]) (fun j => [.live (h.row.map .lf), rB (prC ([] ++ innN h.sets k a j)) ([] ++ innN h.sets k a j).length, .live (a.row.map .lf), .dead]) 0 rfl (by rw [show [] ++ innN h.sets k a 0 = [] from List.append_nil _];exact (.cons rfl rfl (.cons rfl rfl (.cons rfl rfl (.cons rfl rfl (.cons rfl rfl (.cons rfl rfl (.cons rfl rfl (.cons rfl rfl (.cons rfl rfl .nil)))))))))) (by rw [show [] ++ innN h.sets k a 0 = [] from List.append_nil _];exact .live rfl (.dead (.live rfl (.dead .nil)))) ?_
    intro j hj
    subst hj
    have hltj : ¬ ((0 : Nat) : Int) < ((([] : List SetR).map SetR.row).length : Nat) := by simp
    have hK' : [] ++ innN h.sets k a 0 = prsK h.sets (k + 1) := hK.symm
    obtain ⟨LL, hLL⟩ : ∃ LL, LL = prsK h.sets (k + 1) := ⟨_, rfl⟩
    rw [hK', ← hLL]
    repeat' (first|(apply S.move;exact rfl;exact rfl)|(apply S.arith;(iterate 4 exact rfl);omega)|(apply S.cmp;(iterate 4 exact rfl)) | apply S.nil | apply T.regs | apply T.reg|(apply T.cCN;exact rfl) | apply T.seq|(apply T.exit;first | change T _ _ _ _ _ | change Done _ _ _ _ _ | change Next _ _ _ _ _ _ | skip))
    change Next _ _ _ _ _ _
    exact Next.go (k + 1) (by omega) (by omega) (by rw [← hLL];exact (.cons (by rw [show (((k + 1 : Nat) : Int)) = (k : Int) + 1 by omega];rfl) rfl (.cons rfl (by cases LL <;> rfl) (.cons rfl rfl (.cons rfl rfl (.cons rfl rfl .nil)))))) (by rw [← hLL];clear hLL;cases LL <;> first | exact .live rfl (.dead .nil) | exact .live rfl (.live (under_lf _ _) .nil))
   ·refine T.freeze 27 rfl rfl (own_sets m) ?_
    refine T.loopS (fun j => j ≤ (m).length) (fun j => (m).length - j) (fun j => [(29, .i j), (4, rT 1 2 ([] ++ innN h.sets k a j).length), (28, .i ((m).map SetR.row).length), (27, .sl ((m).map SetR.row)), (6, .ptr 2 0), (17, .i k), (16, .i (h.sets.map SetR.row).length), (15, .sl (h.sets.map SetR.row)), (1, .ptr 0 0)]) (fun j => [.live (h.row.map .lf), rB (prC ([] ++ innN h.sets k a j)) ([] ++ innN h.sets k a j).length, .live (a.row.map .lf), .dead]) 0 (Nat.zero_le _) (by rw [show [] ++ innN h.sets k a 0 = [] from List.append_nil _];exact (.cons rfl rfl (.cons rfl rfl (.cons rfl rfl (.cons rfl rfl (.cons rfl rfl (.cons rfl rfl (.cons rfl rfl (.cons rfl rfl (.cons rfl rfl .nil)))))))))) (by rw [show [] ++ innN h.sets k a 0 = [] from List.append_nil _];exact .live rfl (.dead (.live rfl (.dead .nil)))) ?_
    intro j hj
    by_cases hltj : (j : Int) < (((m).map SetR.row).length : Nat)
    ·obtain ⟨x, hx⟩ := get_at (l := m) (k := j) (by omega)
     have hbx := row_at (R := SetR.row) hx
     have hmx := hms x (List.mem_of_getElem? hx)
     have cn := sweep_near a x (hsP a hma) (hsP x hmx) (hf.2.2 a hma) (hf.2.2 x hmx)
     have hj60 := innN_len h.sets k a j
     have hll : ([] ++ innN h.sets k a j).length ≤ 3700 := by rw [List.length_append];omega
     by_cases hn : nearP a x
     ·rw [decide_eq_true hn] at cn
      have hS : [] ++ innN h.sets k a (j + 1) = ([] ++ innN h.sets k a j) ++ [(a.name, x.name)] := by rw [innN_yes (hmm j x hx) hn, List.append_assoc]
      have hS2 : prC ([] ++ innN h.sets k a (j + 1)) = prC ([] ++ innN h.sets k a j) ++ [.s a.name, .s x.name] := by rw [hS, prC_append];rfl
      have hS3 : ([] ++ innN h.sets k a (j + 1)).length = ([] ++ innN h.sets k a j).length + 1 := by rw [hS, List.length_append];rfl
      have hpc := prC_len ([] ++ innN h.sets k a j)
      generalize [] ++ innN h.sets k a j = LL at *
      cases LL with
      | nil =>
       repeat' (first|(apply S.move;exact rfl;exact rfl)|(apply S.assign;exact rfl;exact rfl)|(apply S.gC;exact rfl;exact rfl;exact rfl)|(apply S.fieldP;exact rfl;exact rfl;exact rfl)|(apply S.loadP;(iterate 4 exact rfl))|(apply S.pC;exact rfl;exact rfl;exact rfl)|(apply S.arith;(iterate 4 exact rfl);omega)|(apply S.indexR;exact rfl;exact rfl;exact rfl;exact hbx;omega;exact rfl)|(apply S.call;exact rfl;exact rfl;exact cn;exact rfl)|(apply S.buildA;exact rfl;exact rfl;exact rfl)|(apply S.buildSlice1;(iterate 7 exact rfl))|(apply S.appendN 1 (rows := []);(iterate 8 exact rfl);exact rows_one rfl;exact rfl;exact Nat.le_of_ble_eq_true rfl;exact Nat.le_of_ble_eq_true rfl)|(apply S.loadPA;(iterate 4 exact rfl))|(apply S.loadRA;(iterate 4 exact rfl))|(apply S.alloc;(iterate 5 exact rfl))|(apply S.store;(iterate 7 exact rfl))|(apply S.cmp;(iterate 4 exact rfl))|(apply S.extract;exact rfl;exact rfl;exact rfl) | apply S.nil | apply T.regs | apply T.reg|(apply T.cC;exact rfl)|(apply T.cT;exact rfl;assumption) | apply T.seq|(apply T.skip;first | change T _ _ _ _ _ | change Done _ _ _ _ _ | change Next _ _ _ _ _ _ | skip) | apply T.block)
       change Next _ _ _ _ _ _
       exact Next.go (j + 1) (by omega) (by omega) (by rw [hS3, show (((j + 1 : Nat) : Int)) = (j : Int) + 1 by omega];exact (.cons rfl rfl (.cons rfl rfl (.cons rfl rfl (.cons rfl rfl (.cons rfl rfl (.cons rfl rfl (.cons rfl rfl (.cons rfl rfl (.cons rfl rfl .nil)))))))))) (by rw [hS2, hS3];exact .live rfl (.live rfl (.live rfl (.dead .nil))))
      | cons p0 LL =>
       have hll2 : LL.length + 1 ≤ 3700 := hll
       repeat' (first|(apply S.move;exact rfl;exact rfl)|(apply S.assign;exact rfl;exact rfl)|(apply S.gC;exact rfl;exact rfl;exact rfl)|(apply S.fieldP;exact rfl;exact rfl;exact rfl)|(apply S.loadP;(iterate 4 exact rfl))|(apply S.pC;exact rfl;exact rfl;exact rfl)|(apply S.arith;(iterate 4 exact rfl);omega)|(apply S.indexR;exact rfl;exact rfl;exact rfl;exact hbx;omega;exact rfl)|(apply S.call;exact rfl;exact rfl;exact cn;exact rfl)|(apply S.buildA;exact rfl;exact rfl;exact rfl)|(apply S.buildSlice1;(iterate 7 exact rfl))|(apply S.appendO;(iterate 8 exact rfl);(first | exact hpc|(rw [prC_len];simp only [List.length_cons];omega));exact rows_one rfl;exact rfl;exact clear_lf _ _;simp only [List.length_cons, List.length_nil];omega;simp only [List.length_cons, List.length_nil];omega)|(apply S.loadPA;(iterate 4 exact rfl))|(apply S.loadRA;(iterate 4 exact rfl))|(apply S.alloc;(iterate 5 exact rfl))|(apply S.store;(iterate 7 exact rfl))|(apply S.cmp;(iterate 4 exact rfl))|(apply S.extract;exact rfl;exact rfl;exact rfl) | apply S.nil | apply T.regs | apply T.reg|(apply T.cC;exact rfl)|(apply T.cT;exact rfl;assumption) | apply T.seq|(apply T.skip;first | change T _ _ _ _ _ | change Done _ _ _ _ _ | change Next _ _ _ _ _ _ | skip) | apply T.block)
       change Next _ _ _ _ _ _
       exact Next.go (j + 1) (by omega) (by omega) (by rw [hS3, show (((j + 1 : Nat) : Int)) = (j : Int) + 1 by omega];exact (.cons rfl rfl (.cons rfl rfl (.cons rfl rfl (.cons rfl rfl (.cons rfl rfl (.cons rfl rfl (.cons rfl rfl (.cons rfl rfl (.cons rfl rfl .nil)))))))))) (by rw [hS2, hS3];exact .live rfl (.live (by rw [List.all_append, under_lf];rfl) (.live rfl (.dead .nil))))
     ·rw [decide_eq_false hn] at cn
      have hS : [] ++ innN h.sets k a (j + 1) = [] ++ innN h.sets k a j := by rw [innN_no (hmm j x hx) hn]
      generalize [] ++ innN h.sets k a j = LL at *
      repeat' (first|(apply S.move;exact rfl;exact rfl)|(apply S.assign;exact rfl;exact rfl)|(apply S.gC;exact rfl;exact rfl;exact rfl)|(apply S.pC;exact rfl;exact rfl;exact rfl)|(apply S.arith;(iterate 4 exact rfl);omega)|(apply S.indexR;exact rfl;exact rfl;exact rfl;exact hbx;omega;exact rfl)|(apply S.call;exact rfl;exact rfl;exact cn;exact rfl)|(apply S.loadPA;(iterate 4 exact rfl))|(apply S.loadRA;(iterate 4 exact rfl))|(apply S.alloc;(iterate 5 exact rfl))|(apply S.store;(iterate 7 exact rfl))|(apply S.cmp;(iterate 4 exact rfl))|(apply S.extract;exact rfl;exact rfl;exact rfl) | apply S.nil | apply T.regs | apply T.reg|(apply T.cCN;exact rfl)|(apply T.cT;exact rfl;assumption) | apply T.seq|(apply T.skip;first | change T _ _ _ _ _ | change Done _ _ _ _ _ | change Next _ _ _ _ _ _ | skip) | apply T.block)
      change Next _ _ _ _ _ _
      exact Next.go (j + 1) (by omega) (by omega) (by rw [hS, show (((j + 1 : Nat) : Int)) = (j : Int) + 1 by omega];exact (.cons rfl rfl (.cons rfl (by cases LL <;> rfl) (.cons rfl rfl (.cons rfl rfl (.cons rfl rfl (.cons rfl rfl (.cons rfl rfl (.cons rfl rfl (.cons rfl rfl .nil)))))))))) (by rw [hS];cases LL <;> first | exact .live rfl (.dead (.live rfl (.dead .nil))) | exact .live rfl (.live (under_lf _ _) (.live rfl (.dead .nil))))
    ·obtain rfl : j = (m).length := by omega
     obtain ⟨LL, hLL⟩ : ∃ LL, LL = prsK h.sets (k + 1) := ⟨_, rfl⟩
     rw [← hK, ← hLL]
     repeat' (first|(apply S.move;exact rfl;exact rfl)|(apply S.arith;(iterate 4 exact rfl);omega)|(apply S.cmp;(iterate 4 exact rfl)) | apply S.nil | apply T.regs | apply T.reg|(apply T.cF;exact rfl;assumption) | apply T.seq|(apply T.exit;first | change T _ _ _ _ _ | change Done _ _ _ _ _ | change Next _ _ _ _ _ _ | skip))
     change Next _ _ _ _ _ _
     exact Next.go (k + 1) (by omega) (by omega) (by rw [← hLL];exact (.cons (by rw [show (((k + 1 : Nat) : Int)) = (k : Int) + 1 by omega];rfl) rfl (.cons rfl (by cases LL <;> rfl) (.cons rfl rfl (.cons rfl rfl (.cons rfl rfl .nil)))))) (by rw [← hLL];clear hLL;cases LL <;> first | exact .live rfl (.dead .nil) | exact .live rfl (.live (under_lf _ _) .nil))
  | cons p L =>
   repeat' (first|(apply S.move;exact rfl;exact rfl)|(apply S.assign;exact rfl;exact rfl)|(apply S.fieldP;exact rfl;exact rfl;exact rfl)|(apply S.loadP;(iterate 4 exact rfl))|(apply S.indexR;exact rfl;exact rfl;exact rfl;exact hb;omega;exact rfl)|(apply S.arith;(iterate 4 exact rfl);omega)|(apply S.sliceFrom;exact rfl;exact rfl;exact rfl;omega;(intro row hr;obtain ⟨z, _, rfl⟩ := List.mem_map.1 hr;rfl))|(apply S.callOwn 3 hcl;(iterate 4 exact rfl);(first | exact rfl | exact clear3 h.row _ a.row);exact rfl;exact sets_row m;intro hnil;rotate_left;rotate_right)|(apply S.lenO;exact rfl;exact rfl;exact rfl)|(apply S.loadRA;(iterate 4 exact rfl))|(apply S.alloc;(iterate 5 exact rfl))|(apply S.store;(iterate 7 exact rfl))|(apply S.cmp;(iterate 4 exact rfl))|(apply S.lenR;exact rfl;exact rfl) | apply S.nil | apply T.regs|(apply T.cT;exact rfl;assumption) | apply T.seq|(apply T.skip;first | change T _ _ _ _ _ | change Done _ _ _ _ _ | change Next _ _ _ _ _ _ | skip) | apply T.block)
   ·have hm0 : m = [] := List.map_eq_nil_iff.1 hnil
    subst hm0
    refine T.kill 3 ?_
    refine T.loopS (fun j : Nat => j = 0) (fun _ => 0) (fun j => [(29, .i j), (4, rT 1 2 ((p :: L) ++ innN h.sets k a j).length), (28, .i ((([] : List SetR)).map SetR.row).length), (27, .sl ((([] : List SetR)).map SetR.row)), (6, .ptr 2 0), (17, .i k), (16, .i (h.sets.map SetR.row).length), (15, .sl (h.sets.map SetR.row)), (1, .ptr 0 0)]) (fun j => [.live (h.row.map .lf), rB (prC ((p :: L) ++ innN h.sets k a j)) ((p :: L) ++ innN h.sets k a j).length, .live (a.row.map .lf), .dead]) 0 rfl (by rw [show (p :: L) ++ innN h.sets k a 0 = (p :: L) from List.append_nil _];exact (.cons rfl rfl (.cons rfl rfl (.cons rfl rfl (.cons rfl rfl (.cons rfl rfl (.cons rfl rfl (.cons rfl rfl (.cons rfl rfl (.cons rfl rfl .nil)))))))))) (by rw [show (p :: L) ++ innN h.sets k a 0 = (p :: L) from List.append_nil _];exact .live rfl (.live (under_lf _ _) (.live rfl (.dead .nil)))) ?_
    intro j hj
    subst hj
    have hltj : ¬ ((0 : Nat) : Int) < ((([] : List SetR).map SetR.row).length : Nat) := by simp
    have hK' : (p :: L) ++ innN h.sets k a 0 = prsK h.sets (k + 1) := hK.symm
    obtain ⟨LL, hLL⟩ : ∃ LL, LL = prsK h.sets (k + 1) := ⟨_, rfl⟩
    rw [hK', ← hLL]
    repeat' (first|(apply S.move;exact rfl;exact rfl)|(apply S.arith;(iterate 4 exact rfl);omega)|(apply S.cmp;(iterate 4 exact rfl)) | apply S.nil | apply T.regs | apply T.reg|(apply T.cCN;exact rfl) | apply T.seq|(apply T.exit;first | change T _ _ _ _ _ | change Done _ _ _ _ _ | change Next _ _ _ _ _ _ | skip))
    change Next _ _ _ _ _ _
    exact Next.go (k + 1) (by omega) (by omega) (by rw [← hLL];exact (.cons (by rw [show (((k + 1 : Nat) : Int)) = (k : Int) + 1 by omega];rfl) rfl (.cons rfl (by cases LL <;> rfl) (.cons rfl rfl (.cons rfl rfl (.cons rfl rfl .nil)))))) (by rw [← hLL];clear hLL;cases LL <;> first | exact .live rfl (.dead .nil) | exact .live rfl (.live (under_lf _ _) .nil))
   ·refine T.freeze 27 rfl rfl (own_sets m) ?_
    refine T.loopS (fun j => j ≤ (m).length) (fun j => (m).length - j) (fun j => [(29, .i j), (4, rT 1 2 ((p :: L) ++ innN h.sets k a j).length), (28, .i ((m).map SetR.row).length), (27, .sl ((m).map SetR.row)), (6, .ptr 2 0), (17, .i k), (16, .i (h.sets.map SetR.row).length), (15, .sl (h.sets.map SetR.row)), (1, .ptr 0 0)]) (fun j => [.live (h.row.map .lf), rB (prC ((p :: L) ++ innN h.sets k a j)) ((p :: L) ++ innN h.sets k a j).length, .live (a.row.map .lf), .dead]) 0 (Nat.zero_le _) (by rw [show (p :: L) ++ innN h.sets k a 0 = (p :: L) from List.append_nil _];exact (.cons rfl rfl (.cons rfl rfl (.cons rfl rfl (.cons rfl rfl (.cons rfl rfl (.cons rfl rfl (.cons rfl rfl (.cons rfl rfl (.cons rfl rfl .nil)))))))))) (by rw [show (p :: L) ++ innN h.sets k a 0 = (p :: L) from List.append_nil _];exact .live rfl (.live (under_lf _ _) (.live rfl (.dead .nil)))) ?_
    intro j hj
    by_cases hltj : (j : Int) < (((m).map SetR.row).length : Nat)
    ·obtain ⟨x, hx⟩ := get_at (l := m) (k := j) (by omega)
     have hbx := row_at (R := SetR.row) hx
     have hmx := hms x (List.mem_of_getElem? hx)
     have cn := sweep_near a x (hsP a hma) (hsP x hmx) (hf.2.2 a hma) (hf.2.2 x hmx)
     have hj60 := innN_len h.sets k a j
     have hll : ((p :: L) ++ innN h.sets k a j).length ≤ 3700 := by rw [List.length_append];omega
     by_cases hn : nearP a x
     ·rw [decide_eq_true hn] at cn
      have hS : (p :: L) ++ innN h.sets k a (j + 1) = ((p :: L) ++ innN h.sets k a j) ++ [(a.name, x.name)] := by rw [innN_yes (hmm j x hx) hn, List.append_assoc]
      have hS2 : prC ((p :: L) ++ innN h.sets k a (j + 1)) = prC ((p :: L) ++ innN h.sets k a j) ++ [.s a.name, .s x.name] := by rw [hS, prC_append];rfl
      have hS3 : ((p :: L) ++ innN h.sets k a (j + 1)).length = ((p :: L) ++ innN h.sets k a j).length + 1 := by rw [hS, List.length_append];rfl
      have hpc := prC_len ((p :: L) ++ innN h.sets k a j)
      generalize (p :: L) ++ innN h.sets k a j = LL at *
      cases LL with
      | nil =>
       repeat' (first|(apply S.move;exact rfl;exact rfl)|(apply S.assign;exact rfl;exact rfl)|(apply S.gC;exact rfl;exact rfl;exact rfl)|(apply S.fieldP;exact rfl;exact rfl;exact rfl)|(apply S.loadP;(iterate 4 exact rfl))|(apply S.pC;exact rfl;exact rfl;exact rfl)|(apply S.arith;(iterate 4 exact rfl);omega)|(apply S.indexR;exact rfl;exact rfl;exact rfl;exact hbx;omega;exact rfl)|(apply S.call;exact rfl;exact rfl;exact cn;exact rfl)|(apply S.buildA;exact rfl;exact rfl;exact rfl)|(apply S.buildSlice1;(iterate 7 exact rfl))|(apply S.appendN 1 (rows := []);(iterate 8 exact rfl);exact rows_one rfl;exact rfl;exact Nat.le_of_ble_eq_true rfl;exact Nat.le_of_ble_eq_true rfl)|(apply S.loadPA;(iterate 4 exact rfl))|(apply S.loadRA;(iterate 4 exact rfl))|(apply S.alloc;(iterate 5 exact rfl))|(apply S.store;(iterate 7 exact rfl))|(apply S.cmp;(iterate 4 exact rfl))|(apply S.extract;exact rfl;exact rfl;exact rfl) | apply S.nil | apply T.regs | apply T.reg|(apply T.cC;exact rfl)|(apply T.cT;exact rfl;assumption) | apply T.seq|(apply T.skip;first | change T _ _ _ _ _ | change Done _ _ _ _ _ | change Next _ _ _ _ _ _ | skip) | apply T.block)
       change Next _ _ _ _ _ _
       exact Next.go (j + 1) (by omega) (by omega) (by rw [hS3, show (((j + 1 : Nat) : Int)) = (j : Int) + 1 by omega];exact (.cons rfl rfl (.cons rfl rfl (.cons rfl rfl (.cons rfl rfl (.cons rfl rfl (.cons rfl rfl (.cons rfl rfl (.cons rfl rfl (.cons rfl rfl .nil)))))))))) (by rw [hS2, hS3];exact .live rfl (.live rfl (.live rfl (.dead .nil))))
      | cons p0 LL =>
       have hll2 : LL.length + 1 ≤ 3700 := hll
       repeat' (first|(apply S.move;exact rfl;exact rfl)|(apply S.assign;exact rfl;exact rfl)|(apply S.gC;exact rfl;exact rfl;exact rfl)|(apply S.fieldP;exact rfl;exact rfl;exact rfl)|(apply S.loadP;(iterate 4 exact rfl))|(apply S.pC;exact rfl;exact rfl;exact rfl)|(apply S.arith;(iterate 4 exact rfl);omega)|(apply S.indexR;exact rfl;exact rfl;exact rfl;exact hbx;omega;exact rfl)|(apply S.call;exact rfl;exact rfl;exact cn;exact rfl)|(apply S.buildA;exact rfl;exact rfl;exact rfl)|(apply S.buildSlice1;(iterate 7 exact rfl))|(apply S.appendO;(iterate 8 exact rfl);(first | exact hpc|(rw [prC_len];simp only [List.length_cons];omega));exact rows_one rfl;exact rfl;exact clear_lf _ _;simp only [List.length_cons, List.length_nil];omega;simp only [List.length_cons, List.length_nil];omega)|(apply S.loadPA;(iterate 4 exact rfl))|(apply S.loadRA;(iterate 4 exact rfl))|(apply S.alloc;(iterate 5 exact rfl))|(apply S.store;(iterate 7 exact rfl))|(apply S.cmp;(iterate 4 exact rfl))|(apply S.extract;exact rfl;exact rfl;exact rfl) | apply S.nil | apply T.regs | apply T.reg|(apply T.cC;exact rfl)|(apply T.cT;exact rfl;assumption) | apply T.seq|(apply T.skip;first | change T _ _ _ _ _ | change Done _ _ _ _ _ | change Next _ _ _ _ _ _ | skip) | apply T.block)
       change Next _ _ _ _ _ _
       exact Next.go (j + 1) (by omega) (by omega) (by rw [hS3, show (((j + 1 : Nat) : Int)) = (j : Int) + 1 by omega];exact (.cons rfl rfl (.cons rfl rfl (.cons rfl rfl (.cons rfl rfl (.cons rfl rfl (.cons rfl rfl (.cons rfl rfl (.cons rfl rfl (.cons rfl rfl .nil)))))))))) (by rw [hS2, hS3];exact .live rfl (.live (by rw [List.all_append, under_lf];rfl) (.live rfl (.dead .nil))))
     ·rw [decide_eq_false hn] at cn
      have hS : (p :: L) ++ innN h.sets k a (j + 1) = (p :: L) ++ innN h.sets k a j := by rw [innN_no (hmm j x hx) hn]
      generalize (p :: L) ++ innN h.sets k a j = LL at *
      repeat' (first|(apply S.move;exact rfl;exact rfl)|(apply S.assign;exact rfl;exact rfl)|(apply S.gC;exact rfl;exact rfl;exact rfl)|(apply S.pC;exact rfl;exact rfl;exact rfl)|(apply S.arith;(iterate 4 exact rfl);omega)|(apply S.indexR;exact rfl;exact rfl;exact rfl;exact hbx;omega;exact rfl)|(apply S.call;exact rfl;exact rfl;exact cn;exact rfl)|(apply S.loadPA;(iterate 4 exact rfl))|(apply S.loadRA;(iterate 4 exact rfl))|(apply S.alloc;(iterate 5 exact rfl))|(apply S.store;(iterate 7 exact rfl))|(apply S.cmp;(iterate 4 exact rfl))|(apply S.extract;exact rfl;exact rfl;exact rfl) | apply S.nil | apply T.regs | apply T.reg|(apply T.cCN;exact rfl)|(apply T.cT;exact rfl;assumption) | apply T.seq|(apply T.skip;first | change T _ _ _ _ _ | change Done _ _ _ _ _ | change Next _ _ _ _ _ _ | skip) | apply T.block)
      change Next _ _ _ _ _ _
      exact Next.go (j + 1) (by omega) (by omega) (by rw [hS, show (((j + 1 : Nat) : Int)) = (j : Int) + 1 by omega];exact (.cons rfl rfl (.cons rfl (by cases LL <;> rfl) (.cons rfl rfl (.cons rfl rfl (.cons rfl rfl (.cons rfl rfl (.cons rfl rfl (.cons rfl rfl (.cons rfl rfl .nil)))))))))) (by rw [hS];cases LL <;> first | exact .live rfl (.dead (.live rfl (.dead .nil))) | exact .live rfl (.live (under_lf _ _) (.live rfl (.dead .nil))))
    ·obtain rfl : j = (m).length := by omega
     obtain ⟨LL, hLL⟩ : ∃ LL, LL = prsK h.sets (k + 1) := ⟨_, rfl⟩
     rw [← hK, ← hLL]
     repeat' (first|(apply S.move;exact rfl;exact rfl)|(apply S.arith;(iterate 4 exact rfl);omega)|(apply S.cmp;(iterate 4 exact rfl)) | apply S.nil | apply T.regs | apply T.reg|(apply T.cF;exact rfl;assumption) | apply T.seq|(apply T.exit;first | change T _ _ _ _ _ | change Done _ _ _ _ _ | change Next _ _ _ _ _ _ | skip))
     change Next _ _ _ _ _ _
     exact Next.go (k + 1) (by omega) (by omega) (by rw [← hLL];exact (.cons (by rw [show (((k + 1 : Nat) : Int)) = (k : Int) + 1 by omega];rfl) rfl (.cons rfl (by cases LL <;> rfl) (.cons rfl rfl (.cons rfl rfl (.cons rfl rfl .nil)))))) (by rw [← hLL];clear hLL;cases LL <;> first | exact .live rfl (.dead .nil) | exact .live rfl (.live (under_lf _ _) .nil))
 ·obtain rfl : k = h.sets.length := by omega
  have hown := own_prs (prsK h.sets h.sets.length)
  generalize prsK h.sets h.sets.length = L at *
  cases L with
  | nil =>
   repeat' (first|(apply S.move;exact rfl;exact rfl)|(apply S.assign;exact rfl;exact rfl)|(refine T.nilU 4 rfl ?_)|(apply S.cmp;(iterate 4 exact rfl)) | apply S.nil | apply T.regs|(apply T.cF;exact rfl;assumption) | apply T.seq|(apply T.ret;change Done _ _ _ _ _)|(apply T.exit;first | change T _ _ _ _ _ | change Done _ _ _ _ _ | change Next _ _ _ _ _ _ | skip))
   exact ⟨.inr rfl, [.sl [], .i 0], .cons (.tmp rfl) (.cons (.tmp rfl) .nil), .tup (.cons (.one (.lf _)) (.cons (.one (.lf _)) .nil))⟩
  | cons p L =>
   repeat' (first|(apply S.move;exact rfl;exact rfl)|(apply S.assign;exact rfl;exact rfl)|(refine T.freeze 4 rfl rfl hown ?_)|(apply S.cmp;(iterate 4 exact rfl)) | apply S.nil | apply T.regs|(apply T.cF;exact rfl;assumption) | apply T.seq|(apply T.ret;change Done _ _ _ _ _)|(apply T.exit;first | change T _ _ _ _ _ | change Done _ _ _ _ _ | change Next _ _ _ _ _ _ | skip))
   exact ⟨.inr rfl, [.sl ((p :: L).map pairRow), .i 0], .cons (.tmp rfl) (.cons (.tmp rfl) .nil), .tup (.cons (.one (.lf _)) (.cons (.one (.lf _)) .nil))⟩
end Go.Proofs.YtlncmkafjjomgaaGreat
