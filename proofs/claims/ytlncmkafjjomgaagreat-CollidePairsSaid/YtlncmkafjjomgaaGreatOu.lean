/- The law of pairs, but for the reading of its argument. No conditions but those of each statement. -/
import Derived.Test.YtlncmkafjjomgaaGreatOt
import Derived.Test.YtlncmkafjjomgaaGreatOr
set_option linter.unusedSimpArgs false
namespace Go.Proofs.YtlncmkafjjomgaaGreat
set_option linter.unusedVariables false
open Go Go.RowKit
theorem col_pairs_bad (h : HouseR) (hf : h.fits) (hp : ¬ houseP h) : Fn0 Tryz.prog 15 [rowA h.row] (.tup [.sl [], .i 1]) := by
 have hv := house_valid h hf
 rw [decide_eq_false hp] at hv
 refine Fn0.of Tryz.func15 Tryz.ntmps15 rfl rfl rfl ?_
 simp only [entryTm]
 repeat' (first|(apply S.assign;exact rfl;exact rfl)|(apply S.call;exact rfl;exact rfl;exact hv;exact rfl)|(refine T.nilU 2 rfl ?_;apply T.ret;change Done _ _ _ _ _)|(apply S.loadPA;(iterate 4 exact rfl))|(apply S.box;(iterate 6 exact rfl))|(apply S.not;exact rfl;exact rfl;exact rfl) | apply S.nil | apply T.regs|(apply T.cC;exact rfl) | apply T.seq)
 all_goals exact ⟨.inr rfl, [.sl [], .i 1], .cons (.tmp rfl) (.cons (.tmp rfl) .nil), .tup (.cons (.one (.lf _)) (.cons (.one (.lf _)) .nil))⟩
def nmP (l : List SetR) (p : Int × Int) : ByteArray × ByteArray := ((l[p.1.toNat]?.map SetR.name).getD ⟨#[]⟩, (l[p.2.toNat]?.map SetR.name).getD ⟨#[]⟩)
theorem nmP_of {l : List SetR} {i j : Int} {a b : SetR} (ha : l[i.toNat]? = some a) (hb : l[j.toNat]? = some b) : nmP l (i, j) = (a.name, b.name) := by
 unfold nmP
 rw [ha, hb]
 rfl
structure IxOk (l : List SetR) (p : Int × Int) : Prop where
 a : 0 ≤ p.1
 b : 0 ≤ p.2
 s : ∃ s1, l[p.1.toNat]? = some s1
 t : ∃ s2, l[p.2.toNat]? = some s2
theorem ixN_nm {l : List SetR} {k : Nat} {a : SetR} (ha : l[k]? = some a) : ∀ j, (ixN l k a j).map (nmP l) = innN l k a j ∧ ∀ p ∈ ixN l k a j, IxOk l p
 | 0 => ⟨rfl, by simp [ixN]⟩
 | j + 1 => by
  obtain ⟨h1, h2⟩ := ixN_nm ha j
  rw [ixN, innN]
  cases e : l[k + 1 + j]? with
  | none => simp only [List.append_nil];exact ⟨h1, h2⟩
  | some b =>
   by_cases hn : nearP a b
   ·simp only [hn, if_true]
    refine ⟨?_, fun p hp => ?_⟩
    ·rw [List.map_append, h1, List.map_singleton, nmP_of (a := a) (b := b) (by rw [Int.toNat_natCast];exact ha) (by rw [Int.toNat_natCast];exact e)]
    ·rcases List.mem_append.1 hp with hp | hp
     ·exact h2 p hp
     ·obtain rfl : p = _ := List.mem_singleton.1 hp
      exact ⟨by dsimp only;omega, by dsimp only;omega, ⟨a, by rw [Int.toNat_natCast];exact ha⟩, ⟨b, by rw [Int.toNat_natCast];exact e⟩⟩
   ·simp only [hn, if_false, List.append_nil]
    exact ⟨h1, h2⟩
theorem ixK_nm (l : List SetR) : ∀ k, (ixK l k).map (nmP l) = prsK l k ∧ ∀ p ∈ ixK l k, IxOk l p
 | 0 => ⟨rfl, by simp [ixK]⟩
 | k + 1 => by
  obtain ⟨h1, h2⟩ := ixK_nm l k
  rw [ixK, prsK]
  cases e : l[k]? with
  | none => simp only [List.append_nil];exact ⟨h1, h2⟩
  | some a =>
   obtain ⟨h3, h4⟩ := ixN_nm e (l.length - (k + 1))
   refine ⟨by rw [List.map_append, h1, h3], fun p hp => ?_⟩
   rcases List.mem_append.1 hp with hp | hp
   ·exact h2 p hp
   ·exact h4 p hp
theorem mem_innN {l : List SetR} {k : Nat} {a : SetR} {x : ByteArray × ByteArray} : ∀ {m : Nat}, x ∈ innN l k a m ↔ ∃ j, j < m ∧ ∃ b, l[k + 1 + j]? = some b ∧ nearP a b ∧ x = (a.name, b.name)
 | 0 => by simp [innN]
 | m + 1 => by
  rw [innN, List.mem_append, mem_innN]
  constructor
  ·rintro (⟨j, h1, h2⟩ | h)
   ·exact ⟨j, by omega, h2⟩
   ·split at h
    ·rename_i b hb
     split at h
     ·rename_i hn
      exact ⟨m, by omega, b, hb, hn, List.mem_singleton.1 h⟩
     ·cases h
    ·cases h
  ·rintro ⟨j, h1, b, hb, hn, hx⟩
   by_cases e : j = m
   ·subst e
    refine .inr ?_
    rw [hb]
    simp only [hn, if_true]
    exact List.mem_singleton.2 hx
   ·exact .inl ⟨j, by omega, b, hb, hn, hx⟩
theorem mem_prsK {l : List SetR} {x : ByteArray × ByteArray} : ∀ {n : Nat}, x ∈ prsK l n ↔ ∃ k, k < n ∧ ∃ a, l[k]? = some a ∧ x ∈ innN l k a (l.length - (k + 1))
 | 0 => by simp [prsK]
 | n + 1 => by
  rw [prsK, List.mem_append, mem_prsK]
  constructor
  ·rintro (⟨k, h1, h2⟩ | h)
   ·exact ⟨k, by omega, h2⟩
   ·split at h
    ·rename_i a ha
     exact ⟨n, by omega, a, ha, h⟩
    ·cases h
  ·rintro ⟨k, h1, a, ha, hx⟩
   by_cases e : k = n
   ·subst e
    refine .inr ?_
    rw [ha]
    exact hx
   ·exact .inl ⟨k, by omega, a, ha, hx⟩
theorem name_inj {l : List SetR} (hn : (l.map SetR.name).Nodup) {i j : Nat} {x y : SetR} (hx : l[i]? = some x) (hy : l[j]? = some y) (e : x.name = y.name) : i = j := by
 rcases Nat.lt_trichotomy i j with h | h | h
 ·exact absurd e (nodup_ne hn hx hy h)
 ·exact h
 ·exact absurd e.symm (nodup_ne hn hy hx h)
theorem near_mem {l : List SetR} (hn : (l.map SetR.name).Nodup) {k j : Nat} {a b : SetR} (ha : l[k]? = some a) (hb : l[k + 1 + j]? = some b) : (∃ x ∈ prsK l l.length, x = (a.name, b.name)) ↔ nearP a b := by
 have hk := (List.getElem?_eq_some_iff.1 ha).1
 have hj := (List.getElem?_eq_some_iff.1 hb).1
 constructor
 ·rintro ⟨x, hx, rfl⟩
  obtain ⟨k', _, a', ha', hx⟩ := mem_prsK.1 hx
  obtain ⟨j', _, b', hb', hnear, e⟩ := mem_innN.1 hx
  simp only [Prod.mk.injEq] at e
  have e1 := name_inj hn ha ha' e.1
  subst e1
  have e2 := name_inj hn hb hb' e.2
  obtain rfl : j = j' := by omega
  rw [ha] at ha'
  rw [hb] at hb'
  injection ha' with ha'
  injection hb' with hb'
  subst ha' hb'
  exact hnear
 ·intro h
  exact ⟨_, mem_prsK.2 ⟨k, hk, a, ha, mem_innN.2 ⟨j, by omega, b, hb, h, rfl⟩⟩, rfl⟩
set_option maxHeartbeats 64000000 in
theorem law_collidePairs (h : HouseR) (hf : h.fits) : Fn0 Tryz.prog 4 [rowA h.row] (.b true) := by
 have cs := r30_small h 8 (by omega) hf
 have cv := r30_valid h hf
 by_cases hs : smallH h 8
 ·rw [decide_eq_true hs] at cs
  by_cases hp : houseP h
  ·rw [decide_eq_true hp] at cv
   have h60 : h.sets.length ≤ 60 := hp.2.2.2.1
   have hsP : ∀ s ∈ h.sets, setP s := fun s hs => (hp.2.2.2.2.2.1 s hs).1
   have hnd : (h.sets.map SetR.name).Nodup := hp.2.2.2.2.2.2
   have hle : (h.sets.map SetR.row).length = h.sets.length := List.length_map _
   have cp := col_pairs h hf hp
   have cr := r40_pairs h h60 hsP
   obtain ⟨hnm, hix⟩ := ixK_nm h.sets h.sets.length
   have hmem := fun {k j : Nat} {a b : SetR} => near_mem (k := k) (j := j) (a := a) (b := b) hnd
   have hL3600 : (ixK h.sets h.sets.length).length ≤ 3600 := Nat.le_trans (ixK_len h.sets _) (Nat.le_trans (Nat.mul_le_mul h60 h60) (by decide))
   have hlen : (ixK h.sets h.sets.length).length = (prsK h.sets h.sets.length).length := by rw [← hnm, List.length_map]
   have ce := equal_prs (prsK h.sets h.sets.length) (prsK h.sets h.sets.length) (by omega) (by omega)
   rw [decide_eq_true rfl] at ce
   have cc := fun p => contains_prs (prsK h.sets h.sets.length) p (by omega)
   generalize ixK h.sets h.sets.length = X at *
   generalize prsK h.sets h.sets.length = L at *
   have hlx : (X.map rowI).length = X.length := List.length_map _
   skip
   refine Fn0.of Tryz.func4 Tryz.ntmps4 rfl rfl rfl ?_
   simp only [entryTm]
   repeat' (first|(apply S.move;exact rfl;exact rfl)|(apply S.assign;exact rfl;exact rfl)|(apply S.call;exact rfl;exact rfl;exact l40_awake;exact rfl)|(apply S.call;exact rfl;exact rfl;exact cs;exact rfl)|(apply S.call;exact rfl;exact rfl;exact cp;exact rfl)|(apply S.call;exact rfl;exact rfl;exact cv;exact rfl)|(apply S.call;exact rfl;exact rfl;exact cr;exact rfl)|(apply S.loadPA;(iterate 4 exact rfl))|(apply S.box;(iterate 6 exact rfl))|(apply S.not;exact rfl;exact rfl;exact rfl)|(apply S.extract;exact rfl;exact rfl;exact rfl)|(apply S.lenR;exact rfl;exact rfl) | apply S.nil | apply T.regs|(apply T.cCN;exact rfl) | apply T.seq|(apply T.skip;first | change T _ _ _ _ _ | change Done _ _ _ _ _ | change Next _ _ _ _ _ _ | skip) | apply T.block)
   refine T.kill 1 ?_
   refine T.loopS (fun i => i ≤ X.length) (fun i => X.length - i) (fun i => [(37, .i i), (5, rT 1 2 i), (36, .i (X.map rowI).length), (35, .sl (X.map rowI)), (3, .sl (L.map pairRow)), (4, .i 0), (1, .ptr 0 0)]) (fun i => [.live (h.row.map .lf), rB (prC (L.take i)) i]) 0 (Nat.zero_le _) (.cons rfl rfl (.cons rfl rfl (.cons rfl rfl (.cons rfl rfl (.cons rfl rfl (.cons rfl rfl (.cons rfl rfl .nil))))))) (.live rfl (.dead .nil)) ?_
   intro i hi
   by_cases hlt : (i : Int) < ((X.map rowI).length : Nat)
   ·obtain ⟨x, hx⟩ := get_at (l := X) (k := i) (by omega)
    have hb := row_at (R := rowI) hx
    obtain ⟨x1, x2⟩ := x
    obtain ⟨b1, b2, ⟨s1, c1⟩, ⟨s2, c2⟩⟩ := hix _ (List.mem_of_getElem? hx)
    dsimp only at b1 b2 c1 c2
    have hr1 : (h.sets.map SetR.row)[x1.toNat]? = some s1.row := by rw [List.getElem?_map, c1];rfl
    have hr2 : (h.sets.map SetR.row)[x2.toNat]? = some s2.row := by rw [List.getElem?_map, c2];rfl
    have hLx : L[i]? = some (s1.name, s2.name) := by rw [← hnm, List.getElem?_map, hx];simp only [Option.map_some];rw [nmP_of c1 c2]
    have hS : prC (L.take (i + 1)) = prC (L.take i) ++ [.s s1.name, .s s2.name] := by rw [snoc_at hLx, prC_append];rfl
    have hPl : (L.take i).length = i := by rw [List.length_take];omega
    cases i with
    | zero =>
     repeat' (first|(apply S.move;exact rfl;exact rfl)|(apply S.assign;exact rfl;exact rfl)|(apply S.fieldP;exact rfl;exact rfl;exact rfl)|(apply S.loadP;(iterate 4 exact rfl))|(apply S.fieldR;exact rfl;exact rfl)|(apply S.loadR;exact rfl;exact rfl;exact rfl)|(apply S.arith;(iterate 4 exact rfl);omega)|(apply S.indexR;exact rfl;exact rfl;exact rfl;exact hb;omega;exact rfl)|(apply S.indexR;exact rfl;exact rfl;exact rfl;exact hr1;omega;exact rfl)|(apply S.indexR;exact rfl;exact rfl;exact rfl;exact hr2;omega;exact rfl)|(apply S.buildA;exact rfl;exact rfl;exact rfl)|(apply S.buildSlice1;(iterate 7 exact rfl))|(apply S.appendN 1 (rows := []);(iterate 8 exact rfl);exact rows_one rfl;exact rfl;exact Nat.le_of_ble_eq_true rfl;exact Nat.le_of_ble_eq_true rfl)|(apply T.drawR 17 anyOrder (by decide +kernel);simp only [List.take_succ_cons, List.take_zero, List.drop_succ_cons, List.drop_zero])|(apply S.idxAP (o2 := 0);(iterate 4 exact rfl);omega;rfl)|(apply S.idxAP (o2 := 1);(iterate 4 exact rfl);omega;rfl)|(apply S.loadRA;(iterate 4 exact rfl))|(apply S.alloc;(iterate 5 exact rfl))|(apply S.store;(iterate 7 exact rfl))|(apply S.cmp;(iterate 4 exact rfl)) | apply S.nil | apply T.regs | apply T.reg|(apply T.cT;exact rfl;assumption) | apply T.seq|(apply T.skip;first | change T _ _ _ _ _ | change Done _ _ _ _ _ | change Next _ _ _ _ _ _ | skip) | apply T.block)
     change Next _ _ _ _ _ _
     exact Next.go 1 (by omega) (by omega) (.cons rfl rfl (.cons rfl rfl (.cons rfl rfl (.cons rfl rfl (.cons rfl rfl (.cons rfl rfl (.cons rfl rfl .nil))))))) (by rw [show (1 : Nat) = 0 + 1 from rfl, hS];exact .live rfl (.live rfl .nil))
    | succ i =>
     repeat' (first|(apply S.move;exact rfl;exact rfl)|(apply S.assign;exact rfl;exact rfl)|(apply S.fieldP;exact rfl;exact rfl;exact rfl)|(apply S.loadP;(iterate 4 exact rfl))|(apply S.fieldR;exact rfl;exact rfl)|(apply S.loadR;exact rfl;exact rfl;exact rfl)|(apply S.arith;(iterate 4 exact rfl);omega)|(apply S.indexR;exact rfl;exact rfl;exact rfl;exact hb;omega;exact rfl)|(apply S.indexR;exact rfl;exact rfl;exact rfl;exact hr1;omega;exact rfl)|(apply S.indexR;exact rfl;exact rfl;exact rfl;exact hr2;omega;exact rfl)|(apply S.buildA;exact rfl;exact rfl;exact rfl)|(apply S.buildSlice1;(iterate 7 exact rfl))|(apply S.appendO;(iterate 8 exact rfl);(rw [prC_len, hPl]);exact rows_one rfl;exact rfl;exact clear_lf _ _;simp only [List.length_cons, List.length_nil];omega;simp only [List.length_cons, List.length_nil];omega)|(apply T.drawR 17 anyOrder (by decide +kernel);simp only [List.take_succ_cons, List.take_zero, List.drop_succ_cons, List.drop_zero])|(apply S.idxAP (o2 := 0);(iterate 4 exact rfl);omega;rfl)|(apply S.idxAP (o2 := 1);(iterate 4 exact rfl);omega;rfl)|(apply S.loadRA;(iterate 4 exact rfl))|(apply S.alloc;(iterate 5 exact rfl))|(apply S.store;(iterate 7 exact rfl))|(apply S.cmp;(iterate 4 exact rfl)) | apply S.nil | apply T.regs | apply T.reg|(apply T.cT;exact rfl;assumption) | apply T.seq|(apply T.skip;first | change T _ _ _ _ _ | change Done _ _ _ _ _ | change Next _ _ _ _ _ _ | skip) | apply T.block)
     change Next _ _ _ _ _ _
     exact Next.go (i + 1 + 1) (by omega) (by omega) (.cons (by rw [show (((i + 1 + 1 : Nat) : Int)) = ((i + 1 : Nat) : Int) + 1 by omega];rfl) rfl (.cons rfl rfl (.cons rfl rfl (.cons rfl rfl (.cons rfl rfl (.cons rfl rfl (.cons rfl rfl .nil))))))) (by rw [hS];exact .live rfl (.live (by rw [List.all_append, under_lf];rfl) .nil))
   ·obtain rfl : i = X.length := by omega
    rw [hlen, List.take_length]
    rw [hlen] at hlt
    have hown := own_prs L
    cases L with
    | nil =>
     refine T.nilU 5 rfl ?_
     repeat' (first|(apply S.move;exact rfl;exact rfl)|(apply S.gC;exact rfl;exact rfl;exact rfl)|(apply S.fieldP;exact rfl;exact rfl;exact rfl)|(apply S.loadP;(iterate 4 exact rfl))|(apply S.pCN;exact rfl;exact rfl;exact rfl)|(apply S.call;exact rfl;exact rfl;exact ce;exact rfl)|(apply S.cmp;(iterate 4 exact rfl))|(apply S.not;exact rfl;exact rfl;exact rfl)|(apply S.lenR;exact rfl;exact rfl) | apply S.nil | apply T.regs|(apply T.cCN;exact rfl)|(apply T.cF;exact rfl;assumption) | apply T.seq|(apply T.skip;first | change T _ _ _ _ _ | change Done _ _ _ _ _ | change Next _ _ _ _ _ _ | skip)|(apply T.exit;first | change T _ _ _ _ _ | change Done _ _ _ _ _ | change Next _ _ _ _ _ _ | skip) | apply T.block)
     refine T.loopS (fun k => k ≤ h.sets.length) (fun k => h.sets.length - k) (fun k => [(71, .i k), (70, .i (h.sets.map SetR.row).length), (69, .sl (h.sets.map SetR.row)), (3, .sl ((([] : List (ByteArray × ByteArray))).map pairRow)), (1, .ptr 0 0)]) (fun _ => [.live (h.row.map .lf), .dead]) 0 (Nat.zero_le _) (.cons rfl rfl (.cons rfl rfl (.cons rfl rfl (.cons rfl rfl (.cons rfl rfl .nil))))) (.live rfl (.dead .nil)) ?_
     intro k hk
     by_cases hlt2 : (k : Int) < ((h.sets.map SetR.row).length : Nat)
     ·obtain ⟨a, ha⟩ := get_at (l := h.sets) (k := k) (by omega)
      have hb := row_at (R := SetR.row) ha
      have hma := List.mem_of_getElem? ha
      have hdl : ((h.sets.map SetR.row).drop ((k : Int) + 1).toNat).length = h.sets.length - (k + 1) := by rw [List.length_drop];omega
      have hdg : ∀ j : Nat, ((h.sets.map SetR.row).drop ((k : Int) + 1).toNat)[((j : Nat) : Int).toNat]? = (h.sets.map SetR.row)[k + 1 + j]? := fun j => by rw [List.getElem?_drop, show ((k : Int) + 1).toNat + ((j : Nat) : Int).toNat = k + 1 + j by omega]
      repeat' (first|(apply S.move;exact rfl;exact rfl)|(apply S.assign;exact rfl;exact rfl)|(apply S.fieldP;exact rfl;exact rfl;exact rfl)|(apply S.loadP;(iterate 4 exact rfl))|(apply S.arith;(iterate 4 exact rfl);omega)|(apply S.indexR;exact rfl;exact rfl;exact rfl;exact hb;omega;exact rfl)|(apply S.sliceFrom;exact rfl;exact rfl;exact rfl;omega;(intro row hr;obtain ⟨z, _, rfl⟩ := List.mem_map.1 hr;rfl))|(apply S.loadRA;(iterate 4 exact rfl))|(apply S.alloc;(iterate 5 exact rfl))|(apply S.store;(iterate 7 exact rfl))|(apply S.cmp;(iterate 4 exact rfl))|(apply S.lenR;exact rfl;exact rfl) | apply S.nil | apply T.regs|(apply T.cT;exact rfl;assumption) | apply T.seq|(apply T.skip;first | change T _ _ _ _ _ | change Done _ _ _ _ _ | change Next _ _ _ _ _ _ | skip) | apply T.block)
      refine T.loopS (fun j => k + 1 + j ≤ h.sets.length) (fun j => h.sets.length - j) (fun j => [(82, .i j), (81, .i ((h.sets.map SetR.row).drop ((k : Int) + 1).toNat).length), (80, .sl ((h.sets.map SetR.row).drop ((k : Int) + 1).toNat)), (9, .ptr 2 0), (71, .i k), (70, .i (h.sets.map SetR.row).length), (69, .sl (h.sets.map SetR.row)), (3, .sl ((([] : List (ByteArray × ByteArray))).map pairRow)), (1, .ptr 0 0)]) (fun _ => [.live (h.row.map .lf), .dead, .live (a.row.map .lf)]) 0 (by omega) (.cons rfl rfl (.cons rfl rfl (.cons rfl rfl (.cons rfl rfl (.cons rfl rfl (.cons rfl rfl (.cons rfl rfl (.cons rfl rfl (.cons rfl rfl .nil))))))))) (.live rfl (.dead (.live rfl .nil))) ?_
      intro j hj
      by_cases hlt3 : (j : Int) < (((h.sets.map SetR.row).drop ((k : Int) + 1).toNat).length : Nat)
      ·obtain ⟨x, hx⟩ := get_at (l := h.sets) (k := k + 1 + j) (by omega)
       have hbx : ((h.sets.map SetR.row).drop ((k : Int) + 1).toNat)[((j : Nat) : Int).toNat]? = some x.row := by rw [hdg, List.getElem?_map, hx];rfl
       have hmx := List.mem_of_getElem? hx
       have cn := sweep_near a x (hsP a hma) (hsP x hmx) (hf.2.2 a hma) (hf.2.2 x hmx)
       have c3 := cc (a.name, x.name)
       rw [show decide (∃ y ∈ ([] : List (ByteArray × ByteArray)), y = (a.name, x.name)) = decide (nearP a x) from decide_eq_decide.2 (hmem ha hx)] at c3
       by_cases hn : nearP a x
       ·rw [decide_eq_true hn] at cn c3
        repeat' (first|(apply S.move;exact rfl;exact rfl)|(apply S.assign;exact rfl;exact rfl)|(apply S.gC;exact rfl;exact rfl;exact rfl)|(apply S.fieldP;exact rfl;exact rfl;exact rfl)|(apply S.loadP;(iterate 4 exact rfl))|(apply S.pCN;exact rfl;exact rfl;exact rfl)|(apply S.arith;(iterate 4 exact rfl);omega)|(apply S.indexR;exact rfl;exact rfl;exact rfl;exact hbx;omega;exact rfl)|(apply S.call;exact rfl;exact rfl;exact cn;exact rfl)|(apply S.call;exact rfl;exact rfl;exact c3;exact rfl)|(apply S.buildA;exact rfl;exact rfl;exact rfl)|(apply S.boolNeB;(iterate 4 exact rfl))|(apply S.loadPA;(iterate 4 exact rfl))|(apply S.loadRA;(iterate 4 exact rfl))|(apply S.alloc;(iterate 5 exact rfl))|(apply S.store;(iterate 7 exact rfl))|(apply S.cmp;(iterate 4 exact rfl))|(apply S.extract;exact rfl;exact rfl;exact rfl) | apply S.nil | apply T.regs | apply T.reg|(apply T.cCN;exact rfl)|(apply T.cT;exact rfl;assumption) | apply T.seq|(apply T.skip;first | change T _ _ _ _ _ | change Done _ _ _ _ _ | change Next _ _ _ _ _ _ | skip) | apply T.block)
        change Next _ _ _ _ _ _
        exact Next.go (j + 1) (by omega) (by omega) (by rw [show (((j + 1 : Nat) : Int)) = (j : Int) + 1 by omega];exact (.cons rfl rfl (.cons rfl rfl (.cons rfl rfl (.cons rfl rfl (.cons rfl rfl (.cons rfl rfl (.cons rfl rfl (.cons rfl rfl (.cons rfl rfl .nil)))))))))) (.live rfl (.dead (.live rfl .nil)))
       ·rw [decide_eq_false hn] at cn c3
        repeat' (first|(apply S.move;exact rfl;exact rfl)|(apply S.assign;exact rfl;exact rfl)|(apply S.gC;exact rfl;exact rfl;exact rfl)|(apply S.fieldP;exact rfl;exact rfl;exact rfl)|(apply S.loadP;(iterate 4 exact rfl))|(apply S.pCN;exact rfl;exact rfl;exact rfl)|(apply S.arith;(iterate 4 exact rfl);omega)|(apply S.indexR;exact rfl;exact rfl;exact rfl;exact hbx;omega;exact rfl)|(apply S.call;exact rfl;exact rfl;exact cn;exact rfl)|(apply S.call;exact rfl;exact rfl;exact c3;exact rfl)|(apply S.buildA;exact rfl;exact rfl;exact rfl)|(apply S.boolNeB;(iterate 4 exact rfl))|(apply S.loadPA;(iterate 4 exact rfl))|(apply S.loadRA;(iterate 4 exact rfl))|(apply S.alloc;(iterate 5 exact rfl))|(apply S.store;(iterate 7 exact rfl))|(apply S.cmp;(iterate 4 exact rfl))|(apply S.extract;exact rfl;exact rfl;exact rfl) | apply S.nil | apply T.regs | apply T.reg|(apply T.cCN;exact rfl)|(apply T.cT;exact rfl;assumption) | apply T.seq|(apply T.skip;first | change T _ _ _ _ _ | change Done _ _ _ _ _ | change Next _ _ _ _ _ _ | skip) | apply T.block)
        change Next _ _ _ _ _ _
        exact Next.go (j + 1) (by omega) (by omega) (by rw [show (((j + 1 : Nat) : Int)) = (j : Int) + 1 by omega];exact (.cons rfl rfl (.cons rfl rfl (.cons rfl rfl (.cons rfl rfl (.cons rfl rfl (.cons rfl rfl (.cons rfl rfl (.cons rfl rfl (.cons rfl rfl .nil)))))))))) (.live rfl (.dead (.live rfl .nil)))
      ·repeat' (first|(apply S.move;exact rfl;exact rfl)|(apply S.arith;(iterate 4 exact rfl);omega)|(apply S.cmp;(iterate 4 exact rfl)) | apply S.nil | apply T.regs | apply T.reg|(apply T.cF;exact rfl;assumption) | apply T.seq|(apply T.exit;first | change T _ _ _ _ _ | change Done _ _ _ _ _ | change Next _ _ _ _ _ _ | skip))
       change Next _ _ _ _ _ _
       exact Next.go (k + 1) (by omega) (by omega) (by rw [show (((k + 1 : Nat) : Int)) = (k : Int) + 1 by omega];exact (.cons rfl rfl (.cons rfl rfl (.cons rfl rfl (.cons rfl rfl (.cons rfl rfl .nil)))))) (.live rfl (.dead .nil))
     ·repeat' (first|(apply S.assign;exact rfl;exact rfl)|(apply S.cmp;(iterate 4 exact rfl)) | apply S.nil | apply T.regs|(apply T.cF;exact rfl;assumption) | apply T.seq|(apply T.ret;change Done _ _ _ _ _)|(apply T.exit;first | change T _ _ _ _ _ | change Done _ _ _ _ _ | change Next _ _ _ _ _ _ | skip))
      all_goals exact doneV (by simp) Tryz.results4 rfl rfl
    | cons p L =>
     refine T.freeze 5 rfl rfl hown ?_
     repeat' (first|(apply S.move;exact rfl;exact rfl)|(apply S.gC;exact rfl;exact rfl;exact rfl)|(apply S.fieldP;exact rfl;exact rfl;exact rfl)|(apply S.loadP;(iterate 4 exact rfl))|(apply S.pCN;exact rfl;exact rfl;exact rfl)|(apply S.call;exact rfl;exact rfl;exact ce;exact rfl)|(apply S.cmp;(iterate 4 exact rfl))|(apply S.not;exact rfl;exact rfl;exact rfl)|(apply S.lenR;exact rfl;exact rfl) | apply S.nil | apply T.regs|(apply T.cCN;exact rfl)|(apply T.cF;exact rfl;assumption) | apply T.seq|(apply T.skip;first | change T _ _ _ _ _ | change Done _ _ _ _ _ | change Next _ _ _ _ _ _ | skip)|(apply T.exit;first | change T _ _ _ _ _ | change Done _ _ _ _ _ | change Next _ _ _ _ _ _ | skip) | apply T.block)
     refine T.loopS (fun k => k ≤ h.sets.length) (fun k => h.sets.length - k) (fun k => [(71, .i k), (70, .i (h.sets.map SetR.row).length), (69, .sl (h.sets.map SetR.row)), (3, .sl (((p :: L)).map pairRow)), (1, .ptr 0 0)]) (fun _ => [.live (h.row.map .lf), .dead]) 0 (Nat.zero_le _) (.cons rfl rfl (.cons rfl rfl (.cons rfl rfl (.cons rfl rfl (.cons rfl rfl .nil))))) (.live rfl (.dead .nil)) ?_
     intro k hk
     by_cases hlt2 : (k : Int) < ((h.sets.map SetR.row).length : Nat)
     ·obtain ⟨a, ha⟩ := get_at (l := h.sets) (k := k) (by omega)
      have hb := row_at (R := SetR.row) ha
      have hma := List.mem_of_getElem? ha
      have hdl : ((h.sets.map SetR.row).drop ((k : Int) + 1).toNat).length = h.sets.length - (k + 1) := by rw [List.length_drop];omega
      have hdg : ∀ j : Nat, ((h.sets.map SetR.row).drop ((k : Int) + 1).toNat)[((j : Nat) : Int).toNat]? = (h.sets.map SetR.row)[k + 1 + j]? := fun j => by rw [List.getElem?_drop, show ((k : Int) + 1).toNat + ((j : Nat) : Int).toNat = k + 1 + j by omega]
      repeat' (first|(apply S.move;exact rfl;exact rfl)|(apply S.assign;exact rfl;exact rfl)|(apply S.fieldP;exact rfl;exact rfl;exact rfl)|(apply S.loadP;(iterate 4 exact rfl))|(apply S.arith;(iterate 4 exact rfl);omega)|(apply S.indexR;exact rfl;exact rfl;exact rfl;exact hb;omega;exact rfl)|(apply S.sliceFrom;exact rfl;exact rfl;exact rfl;omega;(intro row hr;obtain ⟨z, _, rfl⟩ := List.mem_map.1 hr;rfl))|(apply S.loadRA;(iterate 4 exact rfl))|(apply S.alloc;(iterate 5 exact rfl))|(apply S.store;(iterate 7 exact rfl))|(apply S.cmp;(iterate 4 exact rfl))|(apply S.lenR;exact rfl;exact rfl) | apply S.nil | apply T.regs|(apply T.cT;exact rfl;assumption) | apply T.seq|(apply T.skip;first | change T _ _ _ _ _ | change Done _ _ _ _ _ | change Next _ _ _ _ _ _ | skip) | apply T.block)
      refine T.loopS (fun j => k + 1 + j ≤ h.sets.length) (fun j => h.sets.length - j) (fun j => [(82, .i j), (81, .i ((h.sets.map SetR.row).drop ((k : Int) + 1).toNat).length), (80, .sl ((h.sets.map SetR.row).drop ((k : Int) + 1).toNat)), (9, .ptr 2 0), (71, .i k), (70, .i (h.sets.map SetR.row).length), (69, .sl (h.sets.map SetR.row)), (3, .sl (((p :: L)).map pairRow)), (1, .ptr 0 0)]) (fun _ => [.live (h.row.map .lf), .dead, .live (a.row.map .lf)]) 0 (by omega) (.cons rfl rfl (.cons rfl rfl (.cons rfl rfl (.cons rfl rfl (.cons rfl rfl (.cons rfl rfl (.cons rfl rfl (.cons rfl rfl (.cons rfl rfl .nil))))))))) (.live rfl (.dead (.live rfl .nil))) ?_
      intro j hj
      by_cases hlt3 : (j : Int) < (((h.sets.map SetR.row).drop ((k : Int) + 1).toNat).length : Nat)
      ·obtain ⟨x, hx⟩ := get_at (l := h.sets) (k := k + 1 + j) (by omega)
       have hbx : ((h.sets.map SetR.row).drop ((k : Int) + 1).toNat)[((j : Nat) : Int).toNat]? = some x.row := by rw [hdg, List.getElem?_map, hx];rfl
       have hmx := List.mem_of_getElem? hx
       have cn := sweep_near a x (hsP a hma) (hsP x hmx) (hf.2.2 a hma) (hf.2.2 x hmx)
       have c3 := cc (a.name, x.name)
       rw [show decide (∃ y ∈ (p :: L), y = (a.name, x.name)) = decide (nearP a x) from decide_eq_decide.2 (hmem ha hx)] at c3
       by_cases hn : nearP a x
       ·rw [decide_eq_true hn] at cn c3
        repeat' (first|(apply S.move;exact rfl;exact rfl)|(apply S.assign;exact rfl;exact rfl)|(apply S.gC;exact rfl;exact rfl;exact rfl)|(apply S.fieldP;exact rfl;exact rfl;exact rfl)|(apply S.loadP;(iterate 4 exact rfl))|(apply S.pCN;exact rfl;exact rfl;exact rfl)|(apply S.arith;(iterate 4 exact rfl);omega)|(apply S.indexR;exact rfl;exact rfl;exact rfl;exact hbx;omega;exact rfl)|(apply S.call;exact rfl;exact rfl;exact cn;exact rfl)|(apply S.call;exact rfl;exact rfl;exact c3;exact rfl)|(apply S.buildA;exact rfl;exact rfl;exact rfl)|(apply S.boolNeB;(iterate 4 exact rfl))|(apply S.loadPA;(iterate 4 exact rfl))|(apply S.loadRA;(iterate 4 exact rfl))|(apply S.alloc;(iterate 5 exact rfl))|(apply S.store;(iterate 7 exact rfl))|(apply S.cmp;(iterate 4 exact rfl))|(apply S.extract;exact rfl;exact rfl;exact rfl) | apply S.nil | apply T.regs | apply T.reg|(apply T.cCN;exact rfl)|(apply T.cT;exact rfl;assumption) | apply T.seq|(apply T.skip;first | change T _ _ _ _ _ | change Done _ _ _ _ _ | change Next _ _ _ _ _ _ | skip) | apply T.block)
        change Next _ _ _ _ _ _
        exact Next.go (j + 1) (by omega) (by omega) (by rw [show (((j + 1 : Nat) : Int)) = (j : Int) + 1 by omega];exact (.cons rfl rfl (.cons rfl rfl (.cons rfl rfl (.cons rfl rfl (.cons rfl rfl (.cons rfl rfl (.cons rfl rfl (.cons rfl rfl (.cons rfl rfl .nil)))))))))) (.live rfl (.dead (.live rfl .nil)))
       ·rw [decide_eq_false hn] at cn c3
        repeat' (first|(apply S.move;exact rfl;exact rfl)|(apply S.assign;exact rfl;exact rfl)|(apply S.gC;exact rfl;exact rfl;exact rfl)|(apply S.fieldP;exact rfl;exact rfl;exact rfl)|(apply S.loadP;(iterate 4 exact rfl))|(apply S.pCN;exact rfl;exact rfl;exact rfl)|(apply S.arith;(iterate 4 exact rfl);omega)|(apply S.indexR;exact rfl;exact rfl;exact rfl;exact hbx;omega;exact rfl)|(apply S.call;exact rfl;exact rfl;exact cn;exact rfl)|(apply S.call;exact rfl;exact rfl;exact c3;exact rfl)|(apply S.buildA;exact rfl;exact rfl;exact rfl)|(apply S.boolNeB;(iterate 4 exact rfl))|(apply S.loadPA;(iterate 4 exact rfl))|(apply S.loadRA;(iterate 4 exact rfl))|(apply S.alloc;(iterate 5 exact rfl))|(apply S.store;(iterate 7 exact rfl))|(apply S.cmp;(iterate 4 exact rfl))|(apply S.extract;exact rfl;exact rfl;exact rfl) | apply S.nil | apply T.regs | apply T.reg|(apply T.cCN;exact rfl)|(apply T.cT;exact rfl;assumption) | apply T.seq|(apply T.skip;first | change T _ _ _ _ _ | change Done _ _ _ _ _ | change Next _ _ _ _ _ _ | skip) | apply T.block)
        change Next _ _ _ _ _ _
        exact Next.go (j + 1) (by omega) (by omega) (by rw [show (((j + 1 : Nat) : Int)) = (j : Int) + 1 by omega];exact (.cons rfl rfl (.cons rfl rfl (.cons rfl rfl (.cons rfl rfl (.cons rfl rfl (.cons rfl rfl (.cons rfl rfl (.cons rfl rfl (.cons rfl rfl .nil)))))))))) (.live rfl (.dead (.live rfl .nil)))
      ·repeat' (first|(apply S.move;exact rfl;exact rfl)|(apply S.arith;(iterate 4 exact rfl);omega)|(apply S.cmp;(iterate 4 exact rfl)) | apply S.nil | apply T.regs | apply T.reg|(apply T.cF;exact rfl;assumption) | apply T.seq|(apply T.exit;first | change T _ _ _ _ _ | change Done _ _ _ _ _ | change Next _ _ _ _ _ _ | skip))
       change Next _ _ _ _ _ _
       exact Next.go (k + 1) (by omega) (by omega) (by rw [show (((k + 1 : Nat) : Int)) = (k : Int) + 1 by omega];exact (.cons rfl rfl (.cons rfl rfl (.cons rfl rfl (.cons rfl rfl (.cons rfl rfl .nil)))))) (.live rfl (.dead .nil))
     ·repeat' (first|(apply S.assign;exact rfl;exact rfl)|(apply S.cmp;(iterate 4 exact rfl)) | apply S.nil | apply T.regs|(apply T.cF;exact rfl;assumption) | apply T.seq|(apply T.ret;change Done _ _ _ _ _)|(apply T.exit;first | change T _ _ _ _ _ | change Done _ _ _ _ _ | change Next _ _ _ _ _ _ | skip))
      all_goals exact doneV (by simp) Tryz.results4 rfl rfl
  ·rw [decide_eq_false hp] at cv
   have cp := col_pairs_bad h hf hp
   refine Fn0.of Tryz.func4 Tryz.ntmps4 rfl rfl rfl ?_
   simp only [entryTm]
   repeat' (first|(apply S.move;exact rfl;exact rfl)|(apply S.assign;exact rfl;exact rfl)|(apply S.gC;exact rfl;exact rfl;exact rfl)|(apply S.pC;exact rfl;exact rfl;exact rfl)|(apply S.call;exact rfl;exact rfl;exact l40_awake;exact rfl)|(apply S.call;exact rfl;exact rfl;exact cs;exact rfl)|(apply S.call;exact rfl;exact rfl;exact cp;exact rfl)|(apply S.call;exact rfl;exact rfl;exact cv;exact rfl)|(apply S.loadPA;(iterate 4 exact rfl))|(apply S.box;(iterate 6 exact rfl))|(apply S.cmp;(iterate 4 exact rfl))|(apply S.not;exact rfl;exact rfl;exact rfl)|(apply S.extract;exact rfl;exact rfl;exact rfl)|(apply S.lenR;exact rfl;exact rfl) | apply S.nil | apply T.regs|(apply T.cC;exact rfl)|(apply T.cCN;exact rfl) | apply T.seq|(apply T.skip;first | change T _ _ _ _ _ | change Done _ _ _ _ _ | change Next _ _ _ _ _ _ | skip)|(apply T.ret;change Done _ _ _ _ _))
   all_goals exact doneV (by simp) Tryz.results4 rfl rfl
 ·rw [decide_eq_false hs] at cs
  refine Fn0.of Tryz.func4 Tryz.ntmps4 rfl rfl rfl ?_
  simp only [entryTm]
  repeat' (first|(apply S.assign;exact rfl;exact rfl)|(apply S.call;exact rfl;exact rfl;exact l40_awake;exact rfl)|(apply S.call;exact rfl;exact rfl;exact cs;exact rfl)|(apply S.loadPA;(iterate 4 exact rfl))|(apply S.box;(iterate 6 exact rfl))|(apply S.not;exact rfl;exact rfl;exact rfl) | apply S.nil | apply T.regs|(apply T.cC;exact rfl)|(apply T.cCN;exact rfl) | apply T.seq|(apply T.skip;first | change T _ _ _ _ _ | change Done _ _ _ _ _ | change Next _ _ _ _ _ _ | skip)|(apply T.ret;change Done _ _ _ _ _))
  all_goals exact doneV (by simp) Tryz.results4 rfl rfl
end Go.Proofs.YtlncmkafjjomgaaGreat
