/- Contracts: the pairs of near sets of a house (the program's side, and the reference's). No conditions but those of each statement. -/
import Derived.Test.YtocoehahhohpgaaGreatPa
import Derived.Test.YtocoehahhohpgaaGreatOo
import Derived.Test.YtocoehahhohpgaaGreatOa
import Derived.Test.YtocoehahhohpgaaGreatOl
set_option linter.unusedSimpArgs false
set_option linter.unusedVariables false
namespace Go.Proofs.YtocoehahhohpgaaGreat
open Go Go.RowKit
abbrev Ac1 (l : List SetR) : List AV := (l.map SetR.row).flatten.map .lf
theorem Mr (l : List SetR) : ∀ r ∈ l.map SetR.row, r.length = 13 := by
 intro r hr
 obtain ⟨n, _, rfl⟩ := List.mem_map.1 hr
 rfl
theorem A7n (l : List SetR) : (l.map SetR.row).flatten.all Lf.one = true := by
 rw [List.all_eq_true]
 intro x hx
 obtain ⟨r, hr, hxr⟩ := List.mem_flatten.1 hx
 obtain ⟨s, _, rfl⟩ := List.mem_map.1 hr
 simp only [SetR.row, List.mem_cons, List.not_mem_nil, or_false] at hxr
 rcases hxr with rfl | rfl | rfl | rfl | rfl | rfl | rfl | rfl | rfl | rfl | rfl | rfl | rfl <;> rfl
theorem Wl (l : List SetR) : OwnRows (Ac1 l) 0 (l.map SetR.row).length 13 (l.map SetR.row) := OwnRows.of (l.map SetR.row).flatten (Mr l) rfl
set_option maxHeartbeats 8000000 in
theorem A2i (l : List SetR) (hl : l.length <= 1000) : FnOwn Tryz.prog 41 [.sl (l.map SetR.row)] (l.map SetR.row) 13 := by
 have hle : (l.map SetR.row).length = l.length := List.length_map _
 refine FnOwn.of Tryz.func41 Tryz.ntmps41 rfl rfl rfl ?_
 simp only [A2]
 repeat' (first | refine W ?_|(apply S.eqNil;exact rfl;exact rfl;intro hnil;rotate_left;rotate_right)|(apply S.buildSliceO;(iterate 6 exact rfl))|(apply S.appendO;(iterate 9 exact rfl);exact Mr l;exact A7n l;exact rfl;omega;omega) | refine V ?_|(refine W2 ?_ ?_ <;> intro hc))
 all_goals (apply T.ret;change A25 _ _ _ _ _ _)
 ·exact ⟨.inr rfl, .inl ⟨_, .cons (.tmp rfl) .nil, rfl, hnil⟩⟩
 ·exact ⟨.inr rfl, .inr (.inr ⟨0, .cons (Res.own0 rfl) .nil, rfl⟩)⟩

/-! ### Lists of pairs -/
def Al (l : List SetR) (k : Nat) (a : SetR) : Nat -> List (ByteArray × ByteArray)
 | 0 => []
 | j + 1 => Al l k a j ++ (match l[k + 1 + j]? with | some b => if Cv a b then [(a.name, b.name)] else [] | none => [])
def Ct (l : List SetR) : Nat -> List (ByteArray × ByteArray)
 | 0 => []
 | k + 1 => Ct l k ++ (match l[k]? with | some a => Al l k a (l.length - (k + 1)) | none => [])
abbrev prC (L : List (ByteArray × ByteArray)) : List AV := (L.map Af).flatten.map .lf
theorem Ph (L : List (ByteArray × ByteArray)) : (prC L).length = L.length * 2 := by
 rw [List.length_map]
 induction L with
 | nil => rfl
 | cons p L ih => rw [List.map_cons, List.flatten_cons, List.length_append, ih];simp [Af];omega
theorem Sw (L M : List (ByteArray × ByteArray)) : prC (L ++ M) = prC L ++ prC M := by simp [prC]
theorem Abx (L : List (ByteArray × ByteArray)) : ∀ r ∈ L.map Af, r.length = 2 := by
 intro r hr
 obtain ⟨n, _, rfl⟩ := List.mem_map.1 hr
 rfl
theorem Aa3 (L : List (ByteArray × ByteArray)) : OwnRows (prC L) 0 L.length 2 (L.map Af) := by
 have := OwnRows.of (L.map Af).flatten (Abx L) rfl
 rw [List.length_map] at this
 exact this
theorem Xp {l : List SetR} {k : Nat} {a b : SetR} {j : Nat} (h : l[k + 1 + j]? = some b) (hn : Cv a b) : Al l k a (j + 1) = Al l k a j ++ [(a.name, b.name)] := by rw [Al, h];simp only [hn, if_true]
theorem A0m {l : List SetR} {k : Nat} {a b : SetR} {j : Nat} (h : l[k + 1 + j]? = some b) (hn : ¬ Cv a b) : Al l k a (j + 1) = Al l k a j := by rw [Al, h];simp only [hn, if_false, List.append_nil]
theorem Mg (l : List SetR) (k : Nat) (a : SetR) : ∀ j, (Al l k a j).length <= j
 | 0 => Nat.le_refl _
 | j + 1 => by
  have ih := Mg l k a j
  rw [Al, List.length_append]
  split
  ·split <;> simp <;> omega
  ·simp;omega
theorem Lz (l : List SetR) : ∀ k, (Ct l k).length <= k * l.length
 | 0 => by simp [Ct]
 | k + 1 => by
  have ih := Lz l k
  rw [Ct, List.length_append, Nat.add_mul, Nat.one_mul]
  split
  ·rename_i a _
   have := Mg l k a (l.length - (k + 1))
   omega
  ·simp;omega
theorem A5r (X Y Z : List Lf) : AH.clear 3 0 [.live (X.map .lf), .live (Y.map .lf), .live (Z.map .lf)] = true := by
 simp only [AH.clear, HB.clear, Aw]
 rfl
set_option maxHeartbeats 32000000 in
theorem Nz (h : HouseR) (hf : h.fits) (hp : By h) : Fn0 Tryz.prog 13 [A1 h.row] (.tup [.sl ((Ct h.sets h.sets.length).map Af), .i 0]) := by
 have hv := Gi h hf
 rw [decide_eq_true hp] at hv
 have h60 : h.sets.length <= 60 := hp.2.2.2.1
 have hsP : ∀ s ∈ h.sets, Cz s := fun s hs => (hp.2.2.2.2.2.1 s hs).1
 have hle : (h.sets.map SetR.row).length = h.sets.length := List.length_map _
 skip
 refine Fn0.of Tryz.func13 Tryz.ntmps13 rfl rfl rfl ?_
 simp only [A2]
 repeat' (first | refine W ?_|refine Zc hv ?_ | refine V ?_|(refine W2 ?_ ?_ <;> intro hc))
 refine T.kill 1 ?_
 refine T.loopS (fun k => k <= h.sets.length) (fun k => h.sets.length - k) (fun k => [(17, .i k), (4, rT 1 2 (Ct h.sets k).length), (16, .i (h.sets.map SetR.row).length), (15, .sl (h.sets.map SetR.row)), (1, .ptr 0 0)]) (fun k => [.live (h.row.map .lf), rB (prC (Ct h.sets k)) (Ct h.sets k).length]) 0 (Nat.zero_le _) CW CG ?_
 intro k hk
 by_cases hlt : (k : Int) < ((h.sets.map SetR.row).length : Nat)
 ·obtain ⟨a, ha⟩ := A9 (l := h.sets) (k := k) (by omega)
  have hb := Ab (R := SetR.row) ha
  have hma := List.mem_of_getElem? ha
  have hcl := A2i (h.sets.drop (k + 1)) (by rw [List.length_drop];omega)
  have hdr : (h.sets.map SetR.row).drop ((k : Int) + 1).toNat = (h.sets.drop (k + 1)).map SetR.row := by rw [show ((k : Int) + 1).toNat = k + 1 by omega, List.map_drop]
  replace hcl : FnOwn Tryz.prog 41 [.sl ((h.sets.map SetR.row).drop ((k : Int) + 1).toNat)] ((h.sets.drop (k + 1)).map SetR.row) 13 := by rw [hdr];exact hcl
  clear hdr
  have hsl : (h.sets.drop (k + 1)).length = h.sets.length - (k + 1) := List.length_drop
  have hK : Ct h.sets (k + 1) = Ct h.sets k ++ Al h.sets k a (h.sets.length - (k + 1)) := by rw [Ct, ha]
  have hb60 : (Ct h.sets k).length <= 3600 := Nat.le_trans (Lz h.sets k) (Nat.le_trans (Nat.mul_le_mul (show k <= 60 by omega) h60) (by decide))
  have hmm : ∀ j x, (h.sets.drop (k + 1))[j]? = some x -> h.sets[k + 1 + j]? = some x := fun j x hx => by rwa [List.getElem?_drop] at hx
  have hms : ∀ x ∈ h.sets.drop (k + 1), x ∈ h.sets := fun x hx => List.mem_of_mem_drop hx
  rw [<- hsl] at hK
  generalize Ct h.sets k = L at *
  have hle2 : ((h.sets.drop (k + 1)).map SetR.row).length = (h.sets.drop (k + 1)).length := List.length_map _
  generalize h.sets.drop (k + 1) = m at *
  cases L with
  | nil =>
   repeat' (first | refine W ?_|refine Zi hb ?_|refine Za ?_|(apply S.sliceFrom;exact rfl;exact rfl;exact rfl;omega;(intro row hr;obtain ⟨z, _, rfl⟩ := List.mem_map.1 hr;rfl))|(apply S.callOwn 3 hcl;(iterate 4 exact rfl);(first | exact rfl | exact A5r h.row _ a.row);exact rfl;exact Mr m;intro hnil;rotate_left;rotate_right)|(apply S.lenO;exact rfl;exact rfl;exact rfl) | refine V ?_|(refine W2 ?_ ?_ <;> intro hc))
   ·have hm0 : m = [] := List.map_eq_nil_iff.1 hnil
    subst hm0
    refine T.kill 3 ?_
    refine T.loopS (fun j : Nat => j = 0) (fun _ => 0) (fun j => [(29, .i j), (4, rT 1 2 ([] ++ Al h.sets k a j).length), (28, .i ((([] : List SetR)).map SetR.row).length), (27, .sl ((([] : List SetR)).map SetR.row)), (6, .ptr 2 0), (17, .i k), (16, .i (h.sets.map SetR.row).length), (15, .sl (h.sets.map SetR.row)), (1, .ptr 0 0)]) (fun j => [.live (h.row.map .lf), rB (prC ([] ++ Al h.sets k a j)) ([] ++ Al h.sets k a j).length, .live (a.row.map .lf), .dead]) 0 rfl (by rw [show [] ++ Al h.sets k a 0 = [] from List.append_nil _];exact CW) (by rw [show [] ++ Al h.sets k a 0 = [] from List.append_nil _];exact .live rfl CG) ?_
    intro j hj
    subst hj
    have hltj : ¬ ((0 : Nat) : Int) < ((([] : List SetR).map SetR.row).length : Nat) := by simp
    have hK' : [] ++ Al h.sets k a 0 = Ct h.sets (k + 1) := hK.symm
    obtain ⟨LL, hLL⟩ : ∃ LL, LL = Ct h.sets (k + 1) := ⟨_, rfl⟩
    rw [hK', <- hLL]
    repeat' (first | refine W ?_|refine Za ?_ | refine V ?_|(refine W2 ?_ ?_ <;> intro hc))
    change Next _ _ _ _ _ _
    exact Next.go (k + 1) (by omega) (by omega) (by rw [<- hLL];exact (.cons (by rw [show (((k + 1 : Nat) : Int)) = (k : Int) + 1 by omega];rfl) rfl (.cons rfl (by cases LL <;> rfl) CW))) (by rw [<- hLL];clear hLL;cases LL <;> first | exact .live rfl (.dead .nil) | exact .live rfl (.live (Ai _ _) .nil))
   ·refine T.freeze 27 rfl rfl (Wl m) ?_
    refine T.loopS (fun j => j <= (m).length) (fun j => (m).length - j) (fun j => [(29, .i j), (4, rT 1 2 ([] ++ Al h.sets k a j).length), (28, .i ((m).map SetR.row).length), (27, .sl ((m).map SetR.row)), (6, .ptr 2 0), (17, .i k), (16, .i (h.sets.map SetR.row).length), (15, .sl (h.sets.map SetR.row)), (1, .ptr 0 0)]) (fun j => [.live (h.row.map .lf), rB (prC ([] ++ Al h.sets k a j)) ([] ++ Al h.sets k a j).length, .live (a.row.map .lf), .dead]) 0 (Nat.zero_le _) (by rw [show [] ++ Al h.sets k a 0 = [] from List.append_nil _];exact CW) (by rw [show [] ++ Al h.sets k a 0 = [] from List.append_nil _];exact .live rfl CG) ?_
    intro j hj
    by_cases hltj : (j : Int) < (((m).map SetR.row).length : Nat)
    ·obtain ⟨x, hx⟩ := A9 (l := m) (k := j) (by omega)
     have hbx := Ab (R := SetR.row) hx
     have hmx := hms x (List.mem_of_getElem? hx)
     have cn := J9 a x (hsP a hma) (hsP x hmx) (hf.2.2 a hma) (hf.2.2 x hmx)
     have hj60 := Mg h.sets k a j
     have hll : ([] ++ Al h.sets k a j).length <= 3700 := by rw [List.length_append];omega
     by_cases hn : Cv a x
     ·rw [decide_eq_true hn] at cn
      have hS : [] ++ Al h.sets k a (j + 1) = ([] ++ Al h.sets k a j) ++ [(a.name, x.name)] := by rw [Xp (hmm j x hx) hn, List.append_assoc]
      have hS2 : prC ([] ++ Al h.sets k a (j + 1)) = prC ([] ++ Al h.sets k a j) ++ [.s a.name, .s x.name] := by rw [hS, Sw];rfl
      have hS3 : ([] ++ Al h.sets k a (j + 1)).length = ([] ++ Al h.sets k a j).length + 1 := by rw [hS, List.length_append];rfl
      have hpc := Ph ([] ++ Al h.sets k a j)
      generalize [] ++ Al h.sets k a j = LL at *
      cases LL with
      | nil =>
       repeat' (first | refine W ?_|refine Za ?_|refine Zi hbx ?_|refine Zc cn ?_|(apply S.buildA;exact rfl;exact rfl;exact rfl)|(apply S.buildSlice1;(iterate 7 exact rfl))|(apply S.appendN 1 (rows := []);(iterate 8 exact rfl);exact Ae rfl;exact rfl;exact Nat.le_of_ble_eq_true rfl;exact Nat.le_of_ble_eq_true rfl) | refine V ?_|(refine W2 ?_ ?_ <;> intro hc))
       change Next _ _ _ _ _ _
       exact Next.go (j + 1) (by omega) (by omega) (by rw [hS3, show (((j + 1 : Nat) : Int)) = (j : Int) + 1 by omega];exact CW) (by rw [hS2, hS3];exact .live rfl CG)
      | cons p0 LL =>
       have hll2 : LL.length + 1 <= 3700 := hll
       repeat' (first | refine W ?_|refine Za ?_|refine Zi hbx ?_|refine Zc cn ?_|(apply S.buildA;exact rfl;exact rfl;exact rfl)|(apply S.buildSlice1;(iterate 7 exact rfl))|(apply S.appendO;(iterate 8 exact rfl);(first | exact hpc|(rw [Ph];simp only [List.length_cons];omega));exact Ae rfl;exact rfl;exact Aw _ _;simp only [List.length_cons, List.length_nil];omega;simp only [List.length_cons, List.length_nil];omega) | refine V ?_|(refine W2 ?_ ?_ <;> intro hc))
       change Next _ _ _ _ _ _
       exact Next.go (j + 1) (by omega) (by omega) (by rw [hS3, show (((j + 1 : Nat) : Int)) = (j : Int) + 1 by omega];exact CW) (by rw [hS2, hS3];exact .live rfl (.live (by rw [List.all_append, Ai];rfl) CG))
     ·rw [decide_eq_false hn] at cn
      have hS : [] ++ Al h.sets k a (j + 1) = [] ++ Al h.sets k a j := by rw [A0m (hmm j x hx) hn]
      generalize [] ++ Al h.sets k a j = LL at *
      repeat' (first | refine W ?_|refine Za ?_|refine Zi hbx ?_|refine Zc cn ?_ | refine V ?_|(refine W2 ?_ ?_ <;> intro hc))
      change Next _ _ _ _ _ _
      exact Next.go (j + 1) (by omega) (by omega) (by rw [hS, show (((j + 1 : Nat) : Int)) = (j : Int) + 1 by omega];exact (.cons rfl rfl (.cons rfl (by cases LL <;> rfl) CW))) (by rw [hS];cases LL <;> first | exact .live rfl CG | exact .live rfl (.live (Ai _ _) CG))
    ·obtain rfl : j = (m).length := by omega
     obtain ⟨LL, hLL⟩ : ∃ LL, LL = Ct h.sets (k + 1) := ⟨_, rfl⟩
     rw [<- hK, <- hLL]
     repeat' (first | refine W ?_|refine Za ?_ | refine V ?_|(refine W2 ?_ ?_ <;> intro hc))
     change Next _ _ _ _ _ _
     exact Next.go (k + 1) (by omega) (by omega) (by rw [<- hLL];exact (.cons (by rw [show (((k + 1 : Nat) : Int)) = (k : Int) + 1 by omega];rfl) rfl (.cons rfl (by cases LL <;> rfl) CW))) (by rw [<- hLL];clear hLL;cases LL <;> first | exact .live rfl (.dead .nil) | exact .live rfl (.live (Ai _ _) .nil))
  | cons p L =>
   repeat' (first | refine W ?_|refine Zi hb ?_|refine Za ?_|(apply S.sliceFrom;exact rfl;exact rfl;exact rfl;omega;(intro row hr;obtain ⟨z, _, rfl⟩ := List.mem_map.1 hr;rfl))|(apply S.callOwn 3 hcl;(iterate 4 exact rfl);(first | exact rfl | exact A5r h.row _ a.row);exact rfl;exact Mr m;intro hnil;rotate_left;rotate_right)|(apply S.lenO;exact rfl;exact rfl;exact rfl) | refine V ?_|(refine W2 ?_ ?_ <;> intro hc))
   ·have hm0 : m = [] := List.map_eq_nil_iff.1 hnil
    subst hm0
    refine T.kill 3 ?_
    refine T.loopS (fun j : Nat => j = 0) (fun _ => 0) (fun j => [(29, .i j), (4, rT 1 2 ((p :: L) ++ Al h.sets k a j).length), (28, .i ((([] : List SetR)).map SetR.row).length), (27, .sl ((([] : List SetR)).map SetR.row)), (6, .ptr 2 0), (17, .i k), (16, .i (h.sets.map SetR.row).length), (15, .sl (h.sets.map SetR.row)), (1, .ptr 0 0)]) (fun j => [.live (h.row.map .lf), rB (prC ((p :: L) ++ Al h.sets k a j)) ((p :: L) ++ Al h.sets k a j).length, .live (a.row.map .lf), .dead]) 0 rfl (by rw [show (p :: L) ++ Al h.sets k a 0 = (p :: L) from List.append_nil _];exact CW) (by rw [show (p :: L) ++ Al h.sets k a 0 = (p :: L) from List.append_nil _];exact .live rfl (.live (Ai _ _) CG)) ?_
    intro j hj
    subst hj
    have hltj : ¬ ((0 : Nat) : Int) < ((([] : List SetR).map SetR.row).length : Nat) := by simp
    have hK' : (p :: L) ++ Al h.sets k a 0 = Ct h.sets (k + 1) := hK.symm
    obtain ⟨LL, hLL⟩ : ∃ LL, LL = Ct h.sets (k + 1) := ⟨_, rfl⟩
    rw [hK', <- hLL]
    repeat' (first | refine W ?_|refine Za ?_ | refine V ?_|(refine W2 ?_ ?_ <;> intro hc))
    change Next _ _ _ _ _ _
    exact Next.go (k + 1) (by omega) (by omega) (by rw [<- hLL];exact (.cons (by rw [show (((k + 1 : Nat) : Int)) = (k : Int) + 1 by omega];rfl) rfl (.cons rfl (by cases LL <;> rfl) CW))) (by rw [<- hLL];clear hLL;cases LL <;> first | exact .live rfl (.dead .nil) | exact .live rfl (.live (Ai _ _) .nil))
   ·refine T.freeze 27 rfl rfl (Wl m) ?_
    refine T.loopS (fun j => j <= (m).length) (fun j => (m).length - j) (fun j => [(29, .i j), (4, rT 1 2 ((p :: L) ++ Al h.sets k a j).length), (28, .i ((m).map SetR.row).length), (27, .sl ((m).map SetR.row)), (6, .ptr 2 0), (17, .i k), (16, .i (h.sets.map SetR.row).length), (15, .sl (h.sets.map SetR.row)), (1, .ptr 0 0)]) (fun j => [.live (h.row.map .lf), rB (prC ((p :: L) ++ Al h.sets k a j)) ((p :: L) ++ Al h.sets k a j).length, .live (a.row.map .lf), .dead]) 0 (Nat.zero_le _) (by rw [show (p :: L) ++ Al h.sets k a 0 = (p :: L) from List.append_nil _];exact CW) (by rw [show (p :: L) ++ Al h.sets k a 0 = (p :: L) from List.append_nil _];exact .live rfl (.live (Ai _ _) CG)) ?_
    intro j hj
    by_cases hltj : (j : Int) < (((m).map SetR.row).length : Nat)
    ·obtain ⟨x, hx⟩ := A9 (l := m) (k := j) (by omega)
     have hbx := Ab (R := SetR.row) hx
     have hmx := hms x (List.mem_of_getElem? hx)
     have cn := J9 a x (hsP a hma) (hsP x hmx) (hf.2.2 a hma) (hf.2.2 x hmx)
     have hj60 := Mg h.sets k a j
     have hll : ((p :: L) ++ Al h.sets k a j).length <= 3700 := by rw [List.length_append];omega
     by_cases hn : Cv a x
     ·rw [decide_eq_true hn] at cn
      have hS : (p :: L) ++ Al h.sets k a (j + 1) = ((p :: L) ++ Al h.sets k a j) ++ [(a.name, x.name)] := by rw [Xp (hmm j x hx) hn, List.append_assoc]
      have hS2 : prC ((p :: L) ++ Al h.sets k a (j + 1)) = prC ((p :: L) ++ Al h.sets k a j) ++ [.s a.name, .s x.name] := by rw [hS, Sw];rfl
      have hS3 : ((p :: L) ++ Al h.sets k a (j + 1)).length = ((p :: L) ++ Al h.sets k a j).length + 1 := by rw [hS, List.length_append];rfl
      have hpc := Ph ((p :: L) ++ Al h.sets k a j)
      generalize (p :: L) ++ Al h.sets k a j = LL at *
      cases LL with
      | nil =>
       repeat' (first | refine W ?_|refine Za ?_|refine Zi hbx ?_|refine Zc cn ?_|(apply S.buildA;exact rfl;exact rfl;exact rfl)|(apply S.buildSlice1;(iterate 7 exact rfl))|(apply S.appendN 1 (rows := []);(iterate 8 exact rfl);exact Ae rfl;exact rfl;exact Nat.le_of_ble_eq_true rfl;exact Nat.le_of_ble_eq_true rfl) | refine V ?_|(refine W2 ?_ ?_ <;> intro hc))
       change Next _ _ _ _ _ _
       exact Next.go (j + 1) (by omega) (by omega) (by rw [hS3, show (((j + 1 : Nat) : Int)) = (j : Int) + 1 by omega];exact CW) (by rw [hS2, hS3];exact .live rfl CG)
      | cons p0 LL =>
       have hll2 : LL.length + 1 <= 3700 := hll
       repeat' (first | refine W ?_|refine Za ?_|refine Zi hbx ?_|refine Zc cn ?_|(apply S.buildA;exact rfl;exact rfl;exact rfl)|(apply S.buildSlice1;(iterate 7 exact rfl))|(apply S.appendO;(iterate 8 exact rfl);(first | exact hpc|(rw [Ph];simp only [List.length_cons];omega));exact Ae rfl;exact rfl;exact Aw _ _;simp only [List.length_cons, List.length_nil];omega;simp only [List.length_cons, List.length_nil];omega) | refine V ?_|(refine W2 ?_ ?_ <;> intro hc))
       change Next _ _ _ _ _ _
       exact Next.go (j + 1) (by omega) (by omega) (by rw [hS3, show (((j + 1 : Nat) : Int)) = (j : Int) + 1 by omega];exact CW) (by rw [hS2, hS3];exact .live rfl (.live (by rw [List.all_append, Ai];rfl) CG))
     ·rw [decide_eq_false hn] at cn
      have hS : (p :: L) ++ Al h.sets k a (j + 1) = (p :: L) ++ Al h.sets k a j := by rw [A0m (hmm j x hx) hn]
      generalize (p :: L) ++ Al h.sets k a j = LL at *
      repeat' (first | refine W ?_|refine Za ?_|refine Zi hbx ?_|refine Zc cn ?_ | refine V ?_|(refine W2 ?_ ?_ <;> intro hc))
      change Next _ _ _ _ _ _
      exact Next.go (j + 1) (by omega) (by omega) (by rw [hS, show (((j + 1 : Nat) : Int)) = (j : Int) + 1 by omega];exact (.cons rfl rfl (.cons rfl (by cases LL <;> rfl) CW))) (by rw [hS];cases LL <;> first | exact .live rfl CG | exact .live rfl (.live (Ai _ _) CG))
    ·obtain rfl : j = (m).length := by omega
     obtain ⟨LL, hLL⟩ : ∃ LL, LL = Ct h.sets (k + 1) := ⟨_, rfl⟩
     rw [<- hK, <- hLL]
     repeat' (first | refine W ?_|refine Za ?_ | refine V ?_|(refine W2 ?_ ?_ <;> intro hc))
     change Next _ _ _ _ _ _
     exact Next.go (k + 1) (by omega) (by omega) (by rw [<- hLL];exact (.cons (by rw [show (((k + 1 : Nat) : Int)) = (k : Int) + 1 by omega];rfl) rfl (.cons rfl (by cases LL <;> rfl) CW))) (by rw [<- hLL];clear hLL;cases LL <;> first | exact .live rfl (.dead .nil) | exact .live rfl (.live (Ai _ _) .nil))
 ·obtain rfl : k = h.sets.length := by omega
  have hown := Aa3 (Ct h.sets h.sets.length)
  generalize Ct h.sets h.sets.length = L at *
  cases L with
  | nil =>
   repeat' (first | refine W ?_|(refine T.nilU 4 rfl ?_) | refine V ?_|(refine W2 ?_ ?_ <;> intro hc))
   exact D2 rfl rfl rfl
  | cons p L =>
   repeat' (first | refine W ?_|(refine T.freeze 4 rfl rfl hown ?_) | refine V ?_|(refine W2 ?_ ?_ <;> intro hc))
   exact D2 rfl rfl rfl
theorem Wy {α : Type} {a b : List α} {k : Nat} {x y : α} (h : a.take k = b.take k) (hx : a[k]? = some x) (hy : b[k]? = some y) (e : x = y) : a.take (k + 1) = b.take (k + 1) := by
 rw [List.take_add_one, List.take_add_one, h, hx, hy, e]
end Go.Proofs.YtocoehahhohpgaaGreat
