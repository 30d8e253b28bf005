/- Contracts: the pairs of near sets of a house (the program's side, and the reference's). No conditions but those of each statement. -/
import Derived.Test.YtcbfnkgodiaiiaaGreatPa
import Derived.Test.YtcbfnkgodiaiiaaGreatOo
import Derived.Test.YtcbfnkgodiaiiaaGreatOa
import Derived.Test.YtcbfnkgodiaiiaaGreatOl
set_option linter.unusedSimpArgs false
set_option linter.unusedVariables false
namespace Go.Proofs.YtcbfnkgodiaiiaaGreat
open Go Go.RowKit
abbrev Acn (l : List SetR) : List AV := (l.map SetR.row).flatten.map .lf
theorem Nf (l : List SetR) : ∀ r ∈ l.map SetR.row, r.length = 13 := by
 intro r hr
 obtain ⟨n, _, rfl⟩ := List.mem_map.1 hr
 rfl
theorem A7s (l : List SetR) : (l.map SetR.row).flatten.all Lf.one = true := by
 rw [List.all_eq_true]
 intro x hx
 obtain ⟨r, hr, hxr⟩ := List.mem_flatten.1 hx
 obtain ⟨s, _, rfl⟩ := List.mem_map.1 hr
 simp only [SetR.row, List.mem_cons, List.not_mem_nil, or_false] at hxr
 rcases hxr with rfl | rfl | rfl | rfl | rfl | rfl | rfl | rfl | rfl | rfl | rfl | rfl | rfl <;> rfl
theorem X9 (l : List SetR) : OwnRows (Acn l) 0 (l.map SetR.row).length 13 (l.map SetR.row) := OwnRows.of (l.map SetR.row).flatten (Nf l) rfl
set_option maxHeartbeats 8000000 in
theorem A3v (l : List SetR) (hl : l.length <= 1000) : FnOwn Tryz.prog 88 [.sl (l.map SetR.row)] (l.map SetR.row) 13 := by
 have hle : (l.map SetR.row).length = l.length := List.length_map _
 refine FnOwn.of Tryz.func88 Tryz.ntmps88 rfl rfl rfl ?_
 simp only [A2]
 repeat' (first | refine W ?_|(apply S.eqNil;exact rfl;exact rfl;intro hnil;rotate_left;rotate_right)|(apply S.buildSliceO;(iterate 6 exact rfl))|(apply S.appendO;(iterate 9 exact rfl);exact Nf l;exact A7s l;exact rfl;omega;omega) | refine V ?_|(refine W2 ?_ ?_ <;> intro hc))
 all_goals (apply T.ret;change A3e _ _ _ _ _ _)
 ·exact ⟨.inr rfl, .inl ⟨_, .cons (.tmp rfl) .nil, rfl, hnil⟩⟩
 ·exact ⟨.inr rfl, .inr (.inr ⟨0, .cons (Res.own0 rfl) .nil, rfl⟩)⟩

/-! ### Lists of pairs -/
def Ao (l : List SetR) (k : Nat) (a : SetR) : Nat -> List (ByteArray × ByteArray)
 | 0 => []
 | j + 1 => Ao l k a j ++ (match l[k + 1 + j]? with | some b => if Da a b then [(a.name, b.name)] else [] | none => [])
def Cu (l : List SetR) : Nat -> List (ByteArray × ByteArray)
 | 0 => []
 | k + 1 => Cu l k ++ (match l[k]? with | some a => Ao l k a (l.length - (k + 1)) | none => [])
abbrev prC (L : List (ByteArray × ByteArray)) : List AV := (L.map Ak).flatten.map .lf
theorem Qe (L : List (ByteArray × ByteArray)) : (prC L).length = L.length * 2 := by
 rw [List.length_map]
 induction L with
 | nil => rfl
 | cons p L ih => rw [List.map_cons, List.flatten_cons, List.length_append, ih];simp [Ak];omega
theorem Sa (L M : List (ByteArray × ByteArray)) : prC (L ++ M) = prC L ++ prC M := by simp [prC]
theorem Acw (L : List (ByteArray × ByteArray)) : ∀ r ∈ L.map Ak, r.length = 2 := by
 intro r hr
 obtain ⟨n, _, rfl⟩ := List.mem_map.1 hr
 rfl
theorem Ac1 (L : List (ByteArray × ByteArray)) : OwnRows (prC L) 0 L.length 2 (L.map Ak) := by
 have := OwnRows.of (L.map Ak).flatten (Acw L) rfl
 rw [List.length_map] at this
 exact this
theorem Zl {l : List SetR} {k : Nat} {a b : SetR} {j : Nat} (h : l[k + 1 + j]? = some b) (hn : Da a b) : Ao l k a (j + 1) = Ao l k a j ++ [(a.name, b.name)] := by rw [Ao, h];simp only [hn, if_true]
theorem A1y {l : List SetR} {k : Nat} {a b : SetR} {j : Nat} (h : l[k + 1 + j]? = some b) (hn : ¬ Da a b) : Ao l k a (j + 1) = Ao l k a j := by rw [Ao, h];simp only [hn, if_false, List.append_nil]
theorem Mp (l : List SetR) (k : Nat) (a : SetR) : ∀ j, (Ao l k a j).length <= j
 | 0 => Nat.le_refl _
 | j + 1 => by
  have ih := Mp l k a j
  rw [Ao, List.length_append]
  split
  ·split <;> simp <;> omega
  ·simp;omega
theorem Ml (l : List SetR) : ∀ k, (Cu l k).length <= k * l.length
 | 0 => by simp [Cu]
 | k + 1 => by
  have ih := Ml l k
  rw [Cu, List.length_append, Nat.add_mul, Nat.one_mul]
  split
  ·rename_i a _
   have := Mp l k a (l.length - (k + 1))
   omega
  ·simp;omega
theorem A3z (X Y Z : List Lf) : AH.clear 3 0 [.live (X.map .lf), .live (Y.map .lf), .live (Z.map .lf)] = true := by
 simp only [AH.clear, HB.clear, Az]
 rfl
set_option maxHeartbeats 32000000 in
theorem A5h (h : HouseR) (hf : h.fits) (hp : C8 h) : Fn0 Tryz.prog 49 [A1 h.row] (.tup [.sl ((Cu h.sets h.sets.length).map Ak), .i 0]) := by
 have hv := J2 h hf
 rw [decide_eq_true hp] at hv
 have h60 : h.sets.length <= 60 := hp.2.2.2.1
 have hsP : ∀ s ∈ h.sets, De s := fun s hs => (hp.2.2.2.2.2.1 s hs).1
 have hle : (h.sets.map SetR.row).length = h.sets.length := List.length_map _
 skip
 refine Fn0.of Tryz.func49 Tryz.ntmps49 rfl rfl rfl ?_
 simp only [A2]
 repeat' (first | refine W ?_|refine Zc hv ?_ | refine V ?_|(refine W2 ?_ ?_ <;> intro hc))
 refine T.kill 1 ?_
 refine T.loopS (fun k => k <= h.sets.length) (fun k => h.sets.length - k) (fun k => [(17, .i k), (4, rT 1 2 (Cu h.sets k).length), (16, .i (h.sets.map SetR.row).length), (15, .sl (h.sets.map SetR.row)), (1, .ptr 0 0)]) (fun k => [.live (h.row.map .lf), rB (prC (Cu h.sets k)) (Cu h.sets k).length]) 0 (Nat.zero_le _) CW CG ?_
 intro k hk
 by_cases hlt : (k : Int) < ((h.sets.map SetR.row).length : Nat)
 ·obtain ⟨a, ha⟩ := A9 (l := h.sets) (k := k) (by omega)
  have hb := Ac (R := SetR.row) ha
  have hma := List.mem_of_getElem? ha
  have hcl := A3v (h.sets.drop (k + 1)) (by rw [List.length_drop];omega)
  have hdr : (h.sets.map SetR.row).drop ((k : Int) + 1).toNat = (h.sets.drop (k + 1)).map SetR.row := by rw [show ((k : Int) + 1).toNat = k + 1 by omega, List.map_drop]
  replace hcl : FnOwn Tryz.prog 88 [.sl ((h.sets.map SetR.row).drop ((k : Int) + 1).toNat)] ((h.sets.drop (k + 1)).map SetR.row) 13 := by rw [hdr];exact hcl
  clear hdr
  have hsl : (h.sets.drop (k + 1)).length = h.sets.length - (k + 1) := List.length_drop
  have hK : Cu h.sets (k + 1) = Cu h.sets k ++ Ao h.sets k a (h.sets.length - (k + 1)) := by rw [Cu, ha]
  have hb60 : (Cu h.sets k).length <= 3600 := Nat.le_trans (Ml h.sets k) (Nat.le_trans (Nat.mul_le_mul (show k <= 60 by omega) h60) (by decide))
  have hmm : ∀ j x, (h.sets.drop (k + 1))[j]? = some x -> h.sets[k + 1 + j]? = some x := fun j x hx => by rwa [List.getElem?_drop] at hx
  have hms : ∀ x ∈ h.sets.drop (k + 1), x ∈ h.sets := fun x hx => List.mem_of_mem_drop hx
  rw [<- hsl] at hK
  generalize Cu h.sets k = L at *
  have hle2 : ((h.sets.drop (k + 1)).map SetR.row).length = (h.sets.drop (k + 1)).length := List.length_map _
  generalize h.sets.drop (k + 1) = m at *
  cases L with
  | nil =>
   repeat' (first | refine W ?_|refine Zi hb ?_|refine Za ?_|(apply S.sliceFrom;exact rfl;exact rfl;exact rfl;omega;(intro row hr;obtain ⟨z, _, rfl⟩ := List.mem_map.1 hr;rfl))|(apply S.callOwn 3 hcl;(iterate 4 exact rfl);(first | exact rfl | exact A3z h.row _ a.row);exact rfl;exact Nf m;intro hnil;rotate_left;rotate_right)|(apply S.lenO;exact rfl;exact rfl;exact rfl) | refine V ?_|(refine W2 ?_ ?_ <;> intro hc))
   ·have hm0 : m = [] := List.map_eq_nil_iff.1 hnil
    subst hm0
    refine T.kill 3 ?_
    refine T.loopS (fun j : Nat => j = 0) (fun _ => 0) (fun j => [(29, .i j), (4, rT 1 2 ([] ++ Ao h.sets k a j).length), (28, .i ((([] : List SetR)).map SetR.row).length), (27, .sl ((([] : List SetR)).map SetR.row)), (6, .ptr 2 0), (17, .i k), (16, .i (h.sets.map SetR.row).length), (15, .sl (h.sets.map SetR.row)), (1, .ptr 0 0)]) (fun j => [.live (h.row.map .lf), rB (prC ([] ++ Ao h.sets k a j)) ([] ++ Ao h.sets k a j).length, .live (a.row.map .lf), .dead]) 0 rfl (by rw [show [] ++ Ao h.sets k a 0 = [] from List.append_nil _];exact CW) (by rw [show [] ++ Ao h.sets k a 0 = [] from List.append_nil _];exact .live rfl CG) ?_
    intro j hj
    subst hj
    have hltj : ¬ ((0 : Nat) : Int) < ((([] : List SetR).map SetR.row).length : Nat) := by simp
    have hK' : [] ++ Ao h.sets k a 0 = Cu h.sets (k + 1) := hK.symm
    obtain ⟨LL, hLL⟩ : ∃ LL, LL = Cu h.sets (k + 1) := ⟨_, rfl⟩
    rw [hK', <- hLL]
    repeat' (first | refine W ?_|refine Za ?_ | refine V ?_|(refine W2 ?_ ?_ <;> intro hc))
    change Next _ _ _ _ _ _
    exact Next.go (k + 1) (by omega) (by omega) (by rw [<- hLL];exact (.cons (by rw [show (((k + 1 : Nat) : Int)) = (k : Int) + 1 by omega];rfl) rfl (.cons rfl (by cases LL <;> rfl) CW))) (by rw [<- hLL];clear hLL;cases LL <;> first | exact .live rfl (.dead .nil) | exact .live rfl (.live (Al _ _) .nil))
   ·refine T.freeze 27 rfl rfl (X9 m) ?_
    refine T.loopS (fun j => j <= (m).length) (fun j => (m).length - j) (fun j => [(29, .i j), (4, rT 1 2 ([] ++ Ao h.sets k a j).length), (28, .i ((m).map SetR.row).length), (27, .sl ((m).map SetR.row)), (6, .ptr 2 0), (17, .i k), (16, .i (h.sets.map SetR.row).length), (15, .sl (h.sets.map SetR.row)), (1, .ptr 0 0)]) (fun j => [.live (h.row.map .lf), rB (prC ([] ++ Ao h.sets k a j)) ([] ++ Ao h.sets k a j).length, .live (a.row.map .lf), .dead]) 0 (Nat.zero_le _) (by rw [show [] ++ Ao h.sets k a 0 = [] from List.append_nil _];exact CW) (by rw [show [] ++ Ao h.sets k a 0 = [] from List.append_nil _];exact .live rfl CG) ?_
    intro j hj
    by_cases hltj : (j : Int) < (((m).map SetR.row).length : Nat)
    ·obtain ⟨x, hx⟩ := A9 (l := m) (k := j) (by omega)
     have hbx := Ac (R := SetR.row) hx
     have hmx := hms x (List.mem_of_getElem? hx)
     have cn := N5 a x (hsP a hma) (hsP x hmx) (hf.2.2 a hma) (hf.2.2 x hmx)
     have hj60 := Mp h.sets k a j
     have hll : ([] ++ Ao h.sets k a j).length <= 3700 := by rw [List.length_append];omega
     by_cases hn : Da a x
     ·rw [decide_eq_true hn] at cn
      have hS : [] ++ Ao h.sets k a (j + 1) = ([] ++ Ao h.sets k a j) ++ [(a.name, x.name)] := by rw [Zl (hmm j x hx) hn, List.append_assoc]
      have hS2 : prC ([] ++ Ao h.sets k a (j + 1)) = prC ([] ++ Ao h.sets k a j) ++ [.s a.name, .s x.name] := by rw [hS, Sa];rfl
      have hS3 : ([] ++ Ao h.sets k a (j + 1)).length = ([] ++ Ao h.sets k a j).length + 1 := by rw [hS, List.length_append];rfl
      have hpc := Qe ([] ++ Ao h.sets k a j)
      generalize [] ++ Ao h.sets k a j = LL at *
      cases LL with
      | nil =>
       repeat' (first | refine W ?_|refine Za ?_|refine Zi hbx ?_|refine Zc cn ?_|(apply S.buildA;exact rfl;exact rfl;exact rfl)|(apply S.buildSlice1;(iterate 7 exact rfl))|(apply S.appendN 1 (rows := []);(iterate 8 exact rfl);exact Ai rfl;exact rfl;exact Nat.le_of_ble_eq_true rfl;exact Nat.le_of_ble_eq_true rfl) | refine V ?_|(refine W2 ?_ ?_ <;> intro hc))
       change Next _ _ _ _ _ _
       exact Next.go (j + 1) (by omega) (by omega) (by rw [hS3, show (((j + 1 : Nat) : Int)) = (j : Int) + 1 by omega];exact CW) (by rw [hS2, hS3];exact .live rfl CG)
      | cons p0 LL =>
       have hll2 : LL.length + 1 <= 3700 := hll
       repeat' (first | refine W ?_|refine Za ?_|refine Zi hbx ?_|refine Zc cn ?_|(apply S.buildA;exact rfl;exact rfl;exact rfl)|(apply S.buildSlice1;(iterate 7 exact rfl))|(apply S.appendO;(iterate 8 exact rfl);(first | exact hpc|(rw [Qe];simp only [List.length_cons];omega));exact Ai rfl;exact rfl;exact Az _ _;simp only [List.length_cons, List.length_nil];omega;simp only [List.length_cons, List.length_nil];omega) | refine V ?_|(refine W2 ?_ ?_ <;> intro hc))
       change Next _ _ _ _ _ _
       exact Next.go (j + 1) (by omega) (by omega) (by rw [hS3, show (((j + 1 : Nat) : Int)) = (j : Int) + 1 by omega];exact CW) (by rw [hS2, hS3];exact .live rfl (.live (by rw [List.all_append, Al];rfl) CG))
     ·rw [decide_eq_false hn] at cn
      have hS : [] ++ Ao h.sets k a (j + 1) = [] ++ Ao h.sets k a j := by rw [A1y (hmm j x hx) hn]
      generalize [] ++ Ao h.sets k a j = LL at *
      repeat' (first | refine W ?_|refine Za ?_|refine Zi hbx ?_|refine Zc cn ?_ | refine V ?_|(refine W2 ?_ ?_ <;> intro hc))
      change Next _ _ _ _ _ _
      exact Next.go (j + 1) (by omega) (by omega) (by rw [hS, show (((j + 1 : Nat) : Int)) = (j : Int) + 1 by omega];exact (.cons rfl rfl (.cons rfl (by cases LL <;> rfl) CW))) (by rw [hS];cases LL <;> first | exact .live rfl CG | exact .live rfl (.live (Al _ _) CG))
    ·obtain rfl : j = (m).length := by omega
     obtain ⟨LL, hLL⟩ : ∃ LL, LL = Cu h.sets (k + 1) := ⟨_, rfl⟩
     rw [<- hK, <- hLL]
     repeat' (first | refine W ?_|refine Za ?_ | refine V ?_|(refine W2 ?_ ?_ <;> intro hc))
     change Next _ _ _ _ _ _
     exact Next.go (k + 1) (by omega) (by omega) (by rw [<- hLL];exact (.cons (by rw [show (((k + 1 : Nat) : Int)) = (k : Int) + 1 by omega];rfl) rfl (.cons rfl (by cases LL <;> rfl) CW))) (by rw [<- hLL];clear hLL;cases LL <;> first | exact .live rfl (.dead .nil) | exact .live rfl (.live (Al _ _) .nil))
  | cons p L =>
   repeat' (first | refine W ?_|refine Zi hb ?_|refine Za ?_|(apply S.sliceFrom;exact rfl;exact rfl;exact rfl;omega;(intro row hr;obtain ⟨z, _, rfl⟩ := List.mem_map.1 hr;rfl))|(apply S.callOwn 3 hcl;(iterate 4 exact rfl);(first | exact rfl | exact A3z h.row _ a.row);exact rfl;exact Nf m;intro hnil;rotate_left;rotate_right)|(apply S.lenO;exact rfl;exact rfl;exact rfl) | refine V ?_|(refine W2 ?_ ?_ <;> intro hc))
   ·have hm0 : m = [] := List.map_eq_nil_iff.1 hnil
    subst hm0
    refine T.kill 3 ?_
    refine T.loopS (fun j : Nat => j = 0) (fun _ => 0) (fun j => [(29, .i j), (4, rT 1 2 ((p :: L) ++ Ao h.sets k a j).length), (28, .i ((([] : List SetR)).map SetR.row).length), (27, .sl ((([] : List SetR)).map SetR.row)), (6, .ptr 2 0), (17, .i k), (16, .i (h.sets.map SetR.row).length), (15, .sl (h.sets.map SetR.row)), (1, .ptr 0 0)]) (fun j => [.live (h.row.map .lf), rB (prC ((p :: L) ++ Ao h.sets k a j)) ((p :: L) ++ Ao h.sets k a j).length, .live (a.row.map .lf), .dead]) 0 rfl (by rw [show (p :: L) ++ Ao h.sets k a 0 = (p :: L) from List.append_nil _];exact CW) (by rw [show (p :: L) ++ Ao h.sets k a 0 = (p :: L) from List.append_nil _];exact .live rfl (.live (Al _ _) CG)) ?_
    intro j hj
    subst hj
    have hltj : ¬ ((0 : Nat) : Int) < ((([] : List SetR).map SetR.row).length : Nat) := by simp
    have hK' : (p :: L) ++ Ao h.sets k a 0 = Cu h.sets (k + 1) := hK.symm
    obtain ⟨LL, hLL⟩ : ∃ LL, LL = Cu h.sets (k + 1) := ⟨_, rfl⟩
    rw [hK', <- hLL]
    repeat' (first | refine W ?_|refine Za ?_ | refine V ?_|(refine W2 ?_ ?_ <;> intro hc))
    change Next _ _ _ _ _ _
    exact Next.go (k + 1) (by omega) (by omega) (by rw [<- hLL];exact (.cons (by rw [show (((k + 1 : Nat) : Int)) = (k : Int) + 1 by omega];rfl) rfl (.cons rfl (by cases LL <;> rfl) CW))) (by rw [<- hLL];clear hLL;cases LL <;> first | exact .live rfl (.dead .nil) | exact .live rfl (.live (Al _ _) .nil))
   ·refine T.freeze 27 rfl rfl (X9 m) ?_
    refine T.loopS (fun j => j <= (m).length) (fun j => (m).length - j) (fun j => [(29, .i j), (4, rT 1 2 ((p :: L) ++ Ao h.sets k a j).length), (28, .i ((m).map SetR.row).length), (27, .sl ((m).map SetR.row)), (6, .ptr 2 0), (17, .i k), (16, .i (h.sets.map SetR.row).length), (15, .sl (h.sets.map SetR.row)), (1, .ptr 0 0)]) (fun j => [.live (h.row.map .lf), rB (prC ((p :: L) ++ Ao h.sets k a j)) ((p :: L) ++ Ao h.sets k a j).length, .live (a.row.map .lf), .dead]) 0 (Nat.zero_le _) (by rw [show (p :: L) ++ Ao h.sets k a 0 = (p :: L) from List.append_nil _];exact CW) (by rw [show (p :: L) ++ Ao h.sets k a 0 = (p :: L) from List.append_nil _];exact .live rfl (.live (Al _ _) CG)) ?_
    intro j hj
    by_cases hltj : (j : Int) < (((m).map SetR.row).length : Nat)
    ·obtain ⟨x, hx⟩ := A9 (l := m) (k := j) (by omega)
     have hbx := Ac (R := SetR.row) hx
     have hmx := hms x (List.mem_of_getElem? hx)
     have cn := N5 a x (hsP a hma) (hsP x hmx) (hf.2.2 a hma) (hf.2.2 x hmx)
     have hj60 := Mp h.sets k a j
     have hll : ((p :: L) ++ Ao h.sets k a j).length <= 3700 := by rw [List.length_append];omega
     by_cases hn : Da a x
     ·rw [decide_eq_true hn] at cn
      have hS : (p :: L) ++ Ao h.sets k a (j + 1) = ((p :: L) ++ Ao h.sets k a j) ++ [(a.name, x.name)] := by rw [Zl (hmm j x hx) hn, List.append_assoc]
      have hS2 : prC ((p :: L) ++ Ao h.sets k a (j + 1)) = prC ((p :: L) ++ Ao h.sets k a j) ++ [.s a.name, .s x.name] := by rw [hS, Sa];rfl
      have hS3 : ((p :: L) ++ Ao h.sets k a (j + 1)).length = ((p :: L) ++ Ao h.sets k a j).length + 1 := by rw [hS, List.length_append];rfl
      have hpc := Qe ((p :: L) ++ Ao h.sets k a j)
      generalize (p :: L) ++ Ao h.sets k a j = LL at *
      cases LL with
      | nil =>
       repeat' (first | refine W ?_|refine Za ?_|refine Zi hbx ?_|refine Zc cn ?_|(apply S.buildA;exact rfl;exact rfl;exact rfl)|(apply S.buildSlice1;(iterate 7 exact rfl))|(apply S.appendN 1 (rows := []);(iterate 8 exact rfl);exact Ai rfl;exact rfl;exact Nat.le_of_ble_eq_true rfl;exact Nat.le_of_ble_eq_true rfl) | refine V ?_|(refine W2 ?_ ?_ <;> intro hc))
       change Next _ _ _ _ _ _
       exact Next.go (j + 1) (by omega) (by omega) (by rw [hS3, show (((j + 1 : Nat) : Int)) = (j : Int) + 1 by omega];exact CW) (by rw [hS2, hS3];exact .live rfl CG)
      | cons p0 LL =>
       have hll2 : LL.length + 1 <= 3700 := hll
       repeat' (first | refine W ?_|refine Za ?_|refine Zi hbx ?_|refine Zc cn ?_|(apply S.buildA;exact rfl;exact rfl;exact rfl)|(apply S.buildSlice1;(iterate 7 exact rfl))|(apply S.appendO;(iterate 8 exact rfl);(first | exact hpc|(rw [Qe];simp only [List.length_cons];omega));exact Ai rfl;exact rfl;exact Az _ _;simp only [List.length_cons, List.length_nil];omega;simp only [List.length_cons, List.length_nil];omega) | refine V ?_|(refine W2 ?_ ?_ <;> intro hc))
       change Next _ _ _ _ _ _
       exact Next.go (j + 1) (by omega) (by omega) (by rw [hS3, show (((j + 1 : Nat) : Int)) = (j : Int) + 1 by omega];exact CW) (by rw [hS2, hS3];exact .live rfl (.live (by rw [List.all_append, Al];rfl) CG))
     ·rw [decide_eq_false hn] at cn
      have hS : (p :: L) ++ Ao h.sets k a (j + 1) = (p :: L) ++ Ao h.sets k a j := by rw [A1y (hmm j x hx) hn]
      generalize (p :: L) ++ Ao h.sets k a j = LL at *
      repeat' (first | refine W ?_|refine Za ?_|refine Zi hbx ?_|refine Zc cn ?_ | refine V ?_|(refine W2 ?_ ?_ <;> intro hc))
      change Next _ _ _ _ _ _
      exact Next.go (j + 1) (by omega) (by omega) (by rw [hS, show (((j + 1 : Nat) : Int)) = (j : Int) + 1 by omega];exact (.cons rfl rfl (.cons rfl (by cases LL <;> rfl) CW))) (by rw [hS];cases LL <;> first | exact .live rfl CG | exact .live rfl (.live (Al _ _) CG))
    ·obtain rfl : j = (m).length := by omega
     obtain ⟨LL, hLL⟩ : ∃ LL, LL = Cu h.sets (k + 1) := ⟨_, rfl⟩
     rw [<- hK, <- hLL]
     repeat' (first | refine W ?_|refine Za ?_ | refine V ?_|(refine W2 ?_ ?_ <;> intro hc))
     change Next _ _ _ _ _ _
     exact Next.go (k + 1) (by omega) (by omega) (by rw [<- hLL];exact (.cons (by rw [show (((k + 1 : Nat) : Int)) = (k : Int) + 1 by omega];rfl) rfl (.cons rfl (by cases LL <;> rfl) CW))) (by rw [<- hLL];clear hLL;cases LL <;> first | exact .live rfl (.dead .nil) | exact .live rfl (.live (Al _ _) .nil))
 ·obtain rfl : k = h.sets.length := by omega
  have hown := Ac1 (Cu h.sets h.sets.length)
  generalize Cu h.sets h.sets.length = L at *
  cases L with
  | nil =>
   repeat' (first | refine W ?_|(refine T.nilU 4 rfl ?_) | refine V ?_|(refine W2 ?_ ?_ <;> intro hc))
   exact D2 rfl rfl rfl
  | cons p L =>
   repeat' (first | refine W ?_|(refine T.freeze 4 rfl rfl hown ?_) | refine V ?_|(refine W2 ?_ ?_ <;> intro hc))
   exact D2 rfl rfl rfl
theorem Xa {α : Type} {a b : List α} {k : Nat} {x y : α} (h : a.take k = b.take k) (hx : a[k]? = some x) (hy : b[k]? = some y) (e : x = y) : a.take (k + 1) = b.take (k + 1) := by
 rw [List.take_add_one, List.take_add_one, h, hx, hy, e]
end Go.Proofs.YtcbfnkgodiaiiaaGreat
