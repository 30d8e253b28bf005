/- Contract: what the beams bear (grid.borne). No conditions but those of each statement. -/
import Derived.Test.YtcfjofhapbkmfaaGreatDoorZc
import Derived.Test.YtcfjofhapbkmfaaGreatDoorMp
import Derived.Test.YtcfjofhapbkmfaaGreatDoorNe
import Derived.Test.YtcfjofhapbkmfaaGreatDoorOl
import Derived.Test.YtcfjofhapbkmfaaGreatDoorQb
set_option linter.unusedSimpArgs false
set_option linter.unusedVariables false
namespace Go.Proofs.YtcfjofhapbkmfaaGreatDoor
open Go Go.RowKit
/-! ### Fractions in a row -/
def frC (l : List Rat) : List AV := ((l.map frR).flatten).map .lf
theorem Fv (q : Rat) (l : List Rat) : frC (q :: l) = .i q.num :: .i q.den :: frC l := rfl
theorem Rl (l : List Rat) : (frC l).length = l.length * 2 := by
 unfold frC
 rw [List.length_map, B6 (n := 2) _ (fun r hr => by obtain ⟨q, _, rfl⟩ := List.mem_map.1 hr;rfl), List.length_map]
theorem G6 (n : Nat) (l : List Rat) : (frC l).all (AV.under n) = true := Aw _ _
theorem Pa : ∀ (l : List Rat) (i : Nat) (x : Rat), l[i]? = some x -> ((frC l).drop (i * 2)).take 2 = [.i x.num, .i x.den]
 | [], i, x, h => by simp at h
 | y :: l, 0, x, h => by
  simp only [List.getElem?_cons_zero, Option.some.injEq] at h
  subst h
  rfl
 | y :: l, i + 1, x, h => by
  rw [Fv, show (i + 1) * 2 = i * 2 + 1 + 1 by omega, List.drop_succ_cons, List.drop_succ_cons]
  exact Pa l i x (by simpa using h)
theorem Rm : ∀ (l : List Rat) (i : Nat) (v : Rat), i < l.length -> Bi (i * 2) [.i v.num, .i v.den] (frC l) = frC (l.set i v)
 | [], i, v, h => by simp at h
 | y :: l, 0, v, h => by
  rw [List.set_cons_zero, Fv, Fv]
  simp [Bi, Eu]
 | y :: l, i + 1, v, h => by
  rw [List.set_cons_succ, Fv, Fv, <- Rm l i v (by simpa using h), show (i + 1) * 2 = i * 2 + 1 + 1 by omega]
  simp [Bi]
theorem Z5 (l : List Rat) : OwnRows (frC l) 0 l.length 2 (l.map frR) := by
 have := OwnRows.of (l.map frR).flatten (fun r hr => by obtain ⟨q, _, rfl⟩ := List.mem_map.1 hr;rfl) rfl (n := 2)
 rwa [List.length_map] at this
/-! ### Adding a share at some places -/
def Do (sh : Rat) {m : Nat} (q : List Rat) : List (Sub m) -> List Rat
 | [] => q
 | x :: r => Do sh (q.set x.1 (q.getD x.1 0 + sh)) r
def Hl (sh : Rat) {m : Nat} (q : List Rat) : List (Sub m) -> Prop
 | [] => True
 | x :: r => Fits (q.getD x.1 0 + sh) /\ Hl sh (q.set x.1 (q.getD x.1 0 + sh)) r
section
variable {sh : Rat} {m : Nat}
theorem I4 (x : Sub m) : ∀ (pre : List (Sub m)) (q : List Rat), Do sh q (pre ++ [x]) = (Do sh q pre).set x.1 ((Do sh q pre).getD x.1 0 + sh)
 | [], q => rfl
 | y :: r, q => I4 x r _
theorem Lu (x : Sub m) : ∀ (pre : List (Sub m)) (q : List Rat), Hl sh q (pre ++ [x]) ↔ Hl sh q pre /\ Fits ((Do sh q pre).getD x.1 0 + sh)
 | [], q => by simp [Hl, Do]
 | y :: r, q => by
  show _ /\ Hl sh _ (r ++ [x]) ↔ _
  rw [Lu x r, <- and_assoc]
  rfl
theorem Jr : ∀ (pre : List (Sub m)) (q : List Rat), (Do sh q pre).length = q.length
 | [], q => rfl
 | y :: r, q => by
  show (Do sh _ r).length = _
  rw [Jr r, List.length_set]
end
def C9 (l : List RoofR) (S : List SetR) (k : Nat) : List Rat := l.map fun x => brQ l (S.take k) x
theorem Ck (l : List RoofR) (S : List SetR) (k : Nat) : (C9 l S k).length = l.length := List.length_map _
theorem Mt {l : List RoofR} {S : List SetR} {k i : Nat} {x : RoofR} (h : l[i]? = some x) : (C9 l S k)[i]? = some (brQ l (S.take k) x) := by
 unfold C9
 rw [List.getElem?_map, h];rfl
def Fi (l : List RoofR) (S : List SetR) (k j : Nat) : List Rat := (C9 l S (k + 1)).take j ++ (C9 l S k).drop j
theorem A0l (l : List RoofR) (S : List SetR) (k : Nat) : Fi l S k 0 = C9 l S k := by simp [Fi]
theorem Y0 (l : List RoofR) (S : List SetR) (k : Nat) : Fi l S k l.length = C9 l S (k + 1) := by
 unfold Fi
 rw [List.take_of_length_le (by rw [Ck];exact Nat.le_refl _), List.drop_of_length_le (by rw [Ck];exact Nat.le_refl _), List.append_nil]
theorem Gp {l : List RoofR} {S : List SetR} {k j i : Nat} : (Fi l S k j)[i]? = if i < j then (C9 l S (k + 1))[i]? else (C9 l S k)[i]? := by
 unfold Fi
 by_cases hj : j <= l.length
 ·have ht : ((C9 l S (k + 1)).take j).length = j := by rw [List.length_take, Ck];omega
  split
  ·rename_i h
   rw [List.getElem?_append_left (by omega), List.getElem?_take, if_pos h]
  ·rename_i h
   rw [List.getElem?_append_right (by omega), ht, List.getElem?_drop, show j + (i - j) = i by omega]
 ·rw [List.take_of_length_le (by rw [Ck];omega), List.drop_of_length_le (by rw [Ck];omega), List.append_nil]
  split
  ·rfl
  ·rw [List.getElem?_eq_none (by rw [Ck];omega), List.getElem?_eq_none (by rw [Ck];omega)]
theorem Pu {l : List RoofR} {S : List SetR} {k : Nat} {s : SetR} (hs : S[k]? = some s) (hf : ∀ x ∈ l, Fits (brQ l (S.take (k + 1)) x)) : ∀ j, j <= l.length -> Do (shQ l s) (C9 l S k) (ovK l s.depth j) = Fi l S k j /\ Hl (shQ l s) (C9 l S k) (ovK l s.depth j)
 | 0, _ => ⟨(A0l l S k).symm, trivial⟩
 | j + 1, hj => by
  obtain ⟨h1, h2⟩ := Pu hs hf j (by omega)
  have hjl : j < l.length := by omega
  have ex : l[j]? = some l[j] := List.getElem?_eq_getElem hjl
  have hb := Gy (l := l) l[j] hs
  have hmj : (Fi l S k j).getD j 0 = brQ l (S.take k) l[j] := by
   rw [List.getD_eq_getElem?_getD, Gp, if_neg (by omega), Mt ex];rfl
  have key : ∀ i, i ≠ j -> (Fi l S k (j + 1))[i]? = (Fi l S k j)[i]? := fun i hi => by
   rw [Gp, Gp]
   by_cases h : i < j
   ·rw [if_pos h, if_pos (by omega)]
   ·rw [if_neg h, if_neg (by omega)]
  have hat : (Fi l S k (j + 1))[j]? = some (brQ l (S.take (k + 1)) l[j]) := by rw [Gp, if_pos (by omega), Mt ex]
  show Do _ _ (ovK l s.depth j ++ _) = _ /\ Hl _ _ (ovK l s.depth j ++ _)
  rw [dif_pos hjl]
  by_cases ho : ovR l[j] s.depth
  ·rw [if_pos ho] at hb
   rw [if_pos ho, I4, Lu, h1]
   dsimp only
   rw [hmj, <- hb]
   refine ⟨?_, h2, hf _ (List.getElem_mem hjl)⟩
   apply List.ext_getElem?
   intro i
   rw [List.getElem?_set]
   by_cases e : j = i
   ·subst e
    have hml : j < (Fi l S k j).length := by
     rw [<- h1, Jr, Ck];exact hjl
    rw [if_pos rfl, if_pos hml, hat]
   ·rw [if_neg e]
    exact (key i (fun k => e k.symm)).symm
  ·rw [if_neg ho] at hb
   rw [if_neg ho, List.append_nil]
   refine ⟨h1.trans ?_, h2⟩
   apply List.ext_getElem?
   intro i
   by_cases e : i = j
   ·subst e
    rw [hat, hb, Gp, if_neg (by omega), Mt ex]
   ·exact (key i e).symm
theorem A0n (l : List RoofR) (S : List SetR) : frC (C9 l S 0) = ((List.replicate l.length fz).flatten).map .lf := by
 have : C9 l S 0 = List.replicate l.length 0 := by
  unfold C9
  exact List.map_const' ..
 rw [this]
 unfold frC
 rw [List.map_replicate]
 rfl
theorem Ht {l : List RoofR} {s : SetR} (hl : l.length <= 20) (hw : 0 <= ptW s /\ ptW s <= 67108864) (hc : 0 < Ap l s.depth) : Fits (shQ l s) := by
 have := D6 l s.depth
 exact Ib (by omega) (by omega) (by omega) (by omega)
/-! ### Walks -/
def ldR (s : SetR) : List Lf := [.i s.depth, .i (ptW s)]
theorem O4 : Fn0 Tryz.prog 167 [.sl [fz], .i 0] (.sl []) := by
 have c := Ky 0 (by omega)
 refine Fn0.of Tryz.func167 Tryz.ntmps167 rfl rfl rfl ?_
 simp only [A0]
 repeat' (first
  | refine W ?_
  | refine Y ?_|(refine T.unroll ?_)|(refine TL.round ?_)|(dsimp only [Au, Ae];refine TL.round ?_)|(apply S.conv;(iterate 3 exact rfl))|(apply S.makeOc (n := 0) (cells := List.replicate (0 * 2) (.val (.int .i64 0)));exact rfl;exact rfl;exact Lp 0;omega;exact rfl;exact rfl)|(apply S.copyZ;(iterate 4 exact rfl))
  | refine V ?_
  | (refine W2 ?_ ?_ <;> intro hc))
 all_goals exact So (by simp) Tryz.results167 rfl (.one (.one (.own rfl (OwnRows.of (rows := []) [] (by simp) rfl))))
theorem Mm (n : Int) : Fn0 Tryz.prog 168 [.i n] (A6 [.i n, .i 1]) := by
 refine Fn0.of Tryz.func168 Tryz.ntmps168 rfl rfl rfl ?_
 simp only [A0]
 repeat' (first
  | refine W ?_
  | refine Y ?_|(apply S.buildN;(iterate 3 exact rfl))
  | refine V ?_
  | (refine W2 ?_ ?_ <;> intro hc))
 all_goals exact ⟨.inr rfl, [A6 [.i n, .i 1]], .cons (Res.row [.i n, .i 1] rfl rfl rfl rfl rfl) .nil, .one (.agg (B7 [.i n, .i 1]))⟩
set_option maxHeartbeats 16000000 in
theorem Lc (l : List RoofR) (hl : l.length <= 20) (Z : List SetR) (hZ : Z.length <= 1000) (hn : ∃ s ∈ Z, Ap l s.depth = 0) : Fn0 Tryz.prog 111 [.sl (l.map RoofR.row), .sl (Z.map ldR)] (.tup [.sl [], .i 12]) := by
 have hle : (l.map RoofR.row).length = l.length := List.length_map _
 have hle2 : (Z.map ldR).length = Z.length := List.length_map _
 have co := Mm 0
 refine Fn0.of Tryz.func111 Tryz.ntmps111 rfl rfl rfl ?_
 simp only [A0]
 rcases Nat.eq_zero_or_pos l.length with h0 | h0
 case' inl =>
  have hlen : (((l.map RoofR.row).length : Nat) : Int) = 0 := by omega
  have cr := O4
  rw [<- hlen] at cr
  repeat' (first
   | refine W ?_
   | refine Y ?_|(apply S.buildSlice1;(iterate 7 exact rfl))
   | refine V ?_
   | (refine W2 ?_ ?_ <;> intro hc))
  refine T.cov (tm' := [(0, .sl (l.map RoofR.row)), (19, .sl (Z.map ldR)), (20, .i (Z.map ldR).length), (21, .i ((0 : Nat) : Int)), (4, .ptr 0 0), (5, .ptr 1 0)]) (H' := [.live [.val (.slice none 0 0)], .live [.i 0]]) CW CH ?_
 case' inr =>
  have cr := O0 l.length (by omega) h0
  rw [<- hle] at cr
  have hrl : (List.replicate (l.map RoofR.row).length fz).length = l.length := by rw [List.length_replicate, hle]
  repeat' (first
   | refine W ?_
   | refine Y ?_|(apply S.buildSlice1;(iterate 7 exact rfl))|(apply S.callOwn 2;exact cr;(iterate 6 exact rfl);(intro r hr;rw [List.eq_of_mem_replicate hr];rfl);(intro h;exfalso;have h2 := congrArg List.length h;rw [hrl, List.length_nil] at h2;omega))
   | refine V ?_
   | (refine W2 ?_ ?_ <;> intro hc))
  refine T.cov (tm' := [(0, .sl (l.map RoofR.row)), (19, .sl (Z.map ldR)), (20, .i (Z.map ldR).length), (21, .i ((0 : Nat) : Int)), (4, .ptr 0 0), (5, .ptr 1 0)]) (H' := [.live [.val (.slice none 0 0)], .live [.i 0]]) CW CH ?_
 all_goals
  refine T.loopS (fun k => k <= Z.length /\ ∀ s ∈ Z.take k, 0 < Ap l s.depth) (fun k => Z.length - k) (fun k => [(0, .sl (l.map RoofR.row)), (19, .sl (Z.map ldR)), (20, .i (Z.map ldR).length), (21, .i (k : Nat)), (4, .ptr 0 0), (5, .ptr 1 0)]) (fun _ => [.live [.val (.slice none 0 0)], .live [.i 0]]) 0 ⟨Nat.zero_le _, by simp⟩ CW CH ?_
  rintro k ⟨hk, hpos⟩
  by_cases hlt : k < Z.length
  ·have h1 : ((k : Nat) : Int) < ((Z.map ldR).length : Nat) := by omega
   obtain ⟨s, hs⟩ := Aa hlt
   have hb := Ab (R := ldR) hs
   have cc := Hg l s.depth hl
   have hcl := D6 l s.depth
   by_cases hz : Ap l s.depth = 0
   ·have e0 : ((Ap l s.depth : Nat) : Int) = 0 := by omega
    repeat' (first
     | refine W ?_
     | (apply S.indexR;(iterate 3 exact rfl);exact hb;omega;exact rfl) | refine Y ?_|refine Za ?_|(refine T.nilH 0 0 rfl rfl ?_;apply T.ret;change Cb _ _ _ _ _)
     | refine V ?_
     | (refine W2 ?_ ?_ <;> intro hc))
    all_goals exact ⟨.inr rfl, [.sl [], .i 12], .cons (.cell rfl rfl rfl Tryz.underlying59 rfl) (.cons (.cell rfl rfl rfl Tryz.underlying28 rfl) .nil), .tup (.cons (.one (.lf _)) (.cons (.one (.lf _)) .nil))⟩
   ·have e0 : ¬ ((Ap l s.depth : Nat) : Int) = 0 := by omega
    have hnew : ∀ x ∈ Z.take (k + 1), 0 < Ap l x.depth := by
     rw [Ai hs];intro x hx
     rcases List.mem_append.1 hx with hx | hx
     ·exact hpos x hx
     ·obtain rfl := List.mem_singleton.1 hx;omega
    repeat' (first
     | refine W ?_
     | (apply S.indexR;(iterate 3 exact rfl);exact hb;omega;exact rfl) | refine Y ?_|refine Za ?_
     | refine V ?_
     | (refine W2 ?_ ?_ <;> intro hc))
    all_goals (change Next _ _ _ _ _ _)
    all_goals exact Next.go (k + 1) ⟨by omega, hnew⟩ (by omega) CW CH
  ·exfalso
   rw [List.take_of_length_le (by omega)] at hpos
   obtain ⟨s, h1, h2⟩ := hn
   have := hpos s h1
   omega
theorem Kt {l : List Rat} {i : Nat} (h : i < l.length) : l[i]? = some (l.getD i 0) := by
 rw [List.getD_eq_getElem?_getD, List.getElem?_eq_getElem h];rfl
theorem A0i {n : Nat} {cs cs' : List AV} {H H' : AH} (h : cs = cs') (hb : cs'.all (AV.under n) = true) (c : CovH n H H') : CovH n (.live cs :: H) (.live cs' :: H') := by subst h;exact .live hb c
theorem I3 {sh : Rat} {m : Nat} : ∀ (pre : List (Sub m)) (q : List Rat) (i : Nat) (y : Rat), q[i]? = some y -> ∃ j, j <= pre.length /\ (Do sh q pre)[i]? = some (y + (j : Nat) * sh)
 | [], q, i, y, h => ⟨0, Nat.le_refl _, by show q[i]? = _;rw [h];congr 1;show y = y + ((0 : Nat) : Rat) * sh;grind⟩
 | x :: r, q, i, y, h => by
  have hlt := (List.getElem?_eq_some_iff.1 h).1
  by_cases e : x.1 = i
  ·have h2 : (q.set x.1 (q.getD x.1 0 + sh))[i]? = some (y + sh) := by
    rw [e, List.getElem?_set_self hlt, List.getD_eq_getElem?_getD, h];rfl
   obtain ⟨j, hj, h3⟩ := I3 r _ i _ h2
   refine ⟨j + 1, by rw [List.length_cons];omega, h3.trans ?_⟩
   congr 1
   show y + sh + ((j : Nat) : Rat) * sh = y + ((j + 1 : Nat) : Rat) * sh
   rw [show ((j + 1 : Nat) : Rat) = (j : Rat) + 1 by push_cast;rfl]
   grind
  ·have h2 : (q.set x.1 (q.getD x.1 0 + sh))[i]? = some y := by rw [List.getElem?_set_ne e];exact h
   obtain ⟨j, hj, h3⟩ := I3 r _ i _ h2
   exact ⟨j, by rw [List.length_cons];omega, h3⟩
theorem Uo {l : List RoofR} {x : RoofR} (hx : x ∈ l) (hl : l.length <= 20) {S : List SetR} (h : ∀ s ∈ S, 0 <= ptW s /\ ptW s <= 67108864) {k : Nat} (h5 : k <= 4) (hk : k <= S.length) {s : SetR} (hw : 0 <= ptW s /\ ptW s <= 67108864) (hc : 0 < Ap l s.depth) {j : Nat} (hj : j <= 20) : Fits (brQ l (S.take k) x + (j : Nat) * shQ l s) := by
 obtain ⟨n, d, e, h1, h2, h3, h4⟩ := Re hx hl h k hk
 rw [e]
 have hc2 := D6 l s.depth
 have hp : (20 : Int) ^ k <= 160000 := by
  have : k = 0 \/ k = 1 \/ k = 2 \/ k = 3 \/ k = 4 := by omega
  rcases this with e | e | e | e | e <;> rw [e] <;> decide
 have hp0 : (1 : Int) <= 20 ^ k := Int.pow_pos (by decide)
 have hn := De (a := (k : Int)) (b := 67108864 * 20 ^ k) (A := 4) (B := 67108864 * 160000) (by omega) (by omega)
 have hsh : ((j : Nat) : Rat) * shQ l s = Aq (j * ptW s) (Ap l s.depth : Nat) := by
  unfold shQ Aq
  rw [show ((j : Nat) : Rat) = Rat.divInt (j : Nat) 1 by first | exact (Rat.intCast_eq_divInt _) | exact (Rat.natCast_eq_divInt _)|(rw [<- Rat.num_divInt_den ((j:Nat):Rat)];simp;done), Rat.divInt_mul_divInt, Int.one_mul]
 rw [hsh, Nv (by omega) (by omega)]
 generalize Ap l s.depth = c at *
 have a0 := De (a := (j : Int)) (b := ptW s) (A := 20) (B := 67108864) (by omega) hw
 have a1 := De (a := n) (b := (c : Int)) (A := 4 * (67108864 * 160000)) (B := 20) (by omega) (by omega)
 have a2 := De (a := (j : Int) * ptW s) (b := d) (A := 20 * 67108864) (B := 160000) (by omega) (by omega)
 have a3 := De (a := d) (b := (c : Int)) (A := 160000) (B := 20) (by omega) (by omega)
 have a4 := A0m (a := d) (b := (c : Int)) (by omega) (by omega)
 exact Ib (by omega) (by omega) (by omega) (by omega)
set_option maxRecDepth 20000 in
set_option maxHeartbeats 64000000 in
theorem Sr (l : List RoofR) (hl : l.length <= 20) (hl0 : 0 < l.length) (Z : List SetR) (hZ : Z.length <= 5) (hw : ∀ s ∈ Z, 0 <= ptW s /\ ptW s <= 67108864) (hc : ∀ s ∈ Z, 0 < Ap l s.depth) : Fn0 Tryz.prog 111 [.sl (l.map RoofR.row), .sl (Z.map ldR)] (.tup [.sl (l.map fun x => frR (brQ l Z x)), .i 0]) := by
 have hle : (l.map RoofR.row).length = l.length := List.length_map _
 have hle2 : (Z.map ldR).length = Z.length := List.length_map _
 have co := Mm 0
 have cr := O0 l.length hl hl0
 rw [show ((l.length : Nat) : Int) = ((l.map RoofR.row).length : Nat) by omega] at cr
 have hrl : (List.replicate l.length fz).length = l.length := List.length_replicate
 have hfits : ∀ k, k <= Z.length -> ∀ x ∈ l, Fits (brQ l (Z.take k) x) := fun k hk x hx => Mf hx hl hw hZ hk
 have hofits : ∀ k, k <= Z.length -> ∀ y ∈ C9 l Z k, Fits y := fun k hk y hy => by
  obtain ⟨x, hx, rfl⟩ := List.mem_map.1 hy
  exact hfits k hk x hx
 refine Fn0.of2 Tryz.func111 Tryz.ntmps111 rfl rfl rfl ?_
 simp only [A0]
 repeat' (first
  | refine W ?_
  | (apply T2.regs;(first | exact .inl rfl | exact .inr ⟨_, rfl⟩);rfl;rfl)|(apply T2.region;(first | exact .inl rfl | exact .inr ⟨_, rfl⟩);rfl;rfl)|(apply T2.cT;exact rfl;assumption)|(apply T2.cFn;exact rfl;assumption)|(apply T2.cTn;exact rfl;assumption)|(apply T2.cF;exact rfl;assumption) | apply T2.seq | apply T2.block|(apply T2.skip;first | change T2 _ _ _ _ _ _ _ | change Next _ _ _ _ _ _ | skip)|(apply T2.exit;first | change T2 _ _ _ _ _ _ _ | change Next _ _ _ _ _ _ | skip) | apply T2.ret | refine Y ?_|(apply S.buildSlice1;(iterate 7 exact rfl))
  | refine V ?_
  | (refine W2 ?_ ?_ <;> intro hc))
 repeat' (first
  | refine W ?_
  | (apply T2.regs;(first | exact .inl rfl | exact .inr ⟨_, rfl⟩);rfl;rfl)|(apply T2.region;(first | exact .inl rfl | exact .inr ⟨_, rfl⟩);rfl;rfl)|(apply T2.cT;exact rfl;assumption)|(apply T2.cFn;exact rfl;assumption)|(apply T2.cTn;exact rfl;assumption)|(apply T2.cF;exact rfl;assumption) | apply T2.seq | apply T2.block|(apply T2.skip;first | change T2 _ _ _ _ _ _ _ | change Next _ _ _ _ _ _ | skip)|(apply T2.exit;first | change T2 _ _ _ _ _ _ _ | change Next _ _ _ _ _ _ | skip) | apply T2.ret | refine Y ?_|(apply S.buildSlice1;(iterate 7 exact rfl))|(apply S.callOwn 3;exact cr;(iterate 6 exact rfl);(intro r hr;rw [List.eq_of_mem_replicate hr];rfl);(intro h;exfalso;have h2 := congrArg List.length h;rw [hrl, List.length_nil] at h2;omega))|(apply S.allocR 2;exact rfl;exact rfl;(show (List.all (List.map AV.lf (List.replicate l.length fz).flatten) (AV.clear 2) && true) = true;rw [B8];rfl);exact rfl;exact rfl)
  | refine V ?_
  | (refine W2 ?_ ?_ <;> intro hc))
 rw [hrl]
 refine T2.loopS (fun k => k <= Z.length) (fun k => Z.length - k) (fun k => [(0, .sl (l.map RoofR.row)), (1, .sl (Z.map ldR)), (19, .sl (Z.map ldR)), (20, .i (Z.map ldR).length), (21, .i (k : Nat)), (4, .ptr 0 0), (5, .ptr 1 0), (6, .ptr 2 0)]) (fun k => [.live [.val (.slice none 0 0)], .live [.i 0], .live [.own 3 0 l.length 2], .live (frC (C9 l Z 0))]) 0 (Nat.zero_le _) CW (by rw [A0n];exact .live rfl (.live rfl (.live rfl (.live (Aw _ _) .nil)))) ?_
 ·intro k hk
  by_cases hlt : k < Z.length
  ·have h1 : ((k : Nat) : Int) < ((Z.map ldR).length : Nat) := by omega
   obtain ⟨s, hs⟩ := Aa hlt
   have hb := Ab (R := ldR) hs
   have cc := Hg l s.depth hl
   have e0 : ¬ ((Ap l s.depth : Nat) : Int) = 0 := by have := hc s (List.mem_of_getElem? hs);omega
   repeat' (first
    | refine W ?_
    | (apply T2.regs;(first | exact .inl rfl | exact .inr ⟨_, rfl⟩);rfl;rfl)|(apply T2.region;(first | exact .inl rfl | exact .inr ⟨_, rfl⟩);rfl;rfl)|(apply T2.cT;exact rfl;assumption)|(apply T2.cFn;exact rfl;assumption)|(apply T2.cTn;exact rfl;assumption)|(apply T2.cF;exact rfl;assumption) | apply T2.seq | apply T2.block|(apply T2.skip;first | change T2 _ _ _ _ _ _ _ | change Next _ _ _ _ _ _ | skip)|(apply T2.exit;first | change T2 _ _ _ _ _ _ _ | change Next _ _ _ _ _ _ | skip) | apply T2.ret|(apply S.indexR;(iterate 3 exact rfl);exact hb;omega;exact rfl) | refine Y ?_|refine Za ?_
    | refine V ?_
    | (refine W2 ?_ ?_ <;> intro hc))
   all_goals (change Next _ _ _ _ _ _)
   all_goals exact Next.go (k + 1) (by omega) (by omega) CW (.live rfl (.live rfl (.live rfl (.live (G6 _ _) .nil))))
  ·have h1 : ¬ ((k : Nat) : Int) < ((Z.map ldR).length : Nat) := by omega
   repeat' (first
    | refine W ?_
    | (apply T2.regs;(first | exact .inl rfl | exact .inr ⟨_, rfl⟩);rfl;rfl)|(apply T2.region;(first | exact .inl rfl | exact .inr ⟨_, rfl⟩);rfl;rfl)|(apply T2.cT;exact rfl;assumption)|(apply T2.cFn;exact rfl;assumption)|(apply T2.cTn;exact rfl;assumption)|(apply T2.cF;exact rfl;assumption) | apply T2.seq | apply T2.block|(apply T2.skip;first | change T2 _ _ _ _ _ _ _ | change Next _ _ _ _ _ _ | skip)|(apply T2.exit;first | change T2 _ _ _ _ _ _ _ | change Next _ _ _ _ _ _ | skip) | apply T2.ret | refine Y ?_|refine Za ?_
    | refine V ?_
    | (refine W2 ?_ ?_ <;> intro hc))
   refine T2.loopS (fun j => j <= Z.length) (fun j => Z.length - j) (fun j => [(0, .sl (l.map RoofR.row)), (31, .sl (Z.map ldR)), (32, .i (Z.map ldR).length), (33, .i (j : Nat)), (4, .ptr 0 0), (5, .ptr 1 0), (6, .ptr 2 0)]) (fun j => [.live [.val (.slice none 0 0)], .live [.i 0], .live [.own 3 0 l.length 2], .live (frC (C9 l Z j))]) 0 (Nat.zero_le _) CW (.live rfl (.live rfl (.live rfl (.live (G6 _ _) .nil)))) ?_
   clear h1 hlt hk k
   intro k hk
   by_cases hlt : k < Z.length
   ·have h1 : ((k : Nat) : Int) < ((Z.map ldR).length : Nat) := by omega
    obtain ⟨s, hs⟩ := Aa hlt
    have hb := Ab (R := ldR) hs
    have hsm := List.mem_of_getElem? hs
    have cc := Hg l s.depth hl
    have cv := Nk l s.depth
    have hpos := hc s hsm
    have hcl := D6 l s.depth
    have hwt := hw s hsm
    have hsh := Ht hl hwt hpos
    have cm := M5 (ptW s) (Ap l s.depth : Nat) (by omega) (by omega) (by omega) (by omega) (by omega) hsh
    have hshq : Aq (ptW s) (Ap l s.depth : Nat) = shQ l s := rfl
    rw [hshq] at cm
    have hq := hofits k (by omega)
    have hql := Ck l Z k
    obtain ⟨hfin, hokf⟩ := Pu hs (fun x hx => hfits (k + 1) (by omega) x hx) l.length (Nat.le_refl _)
    rw [Y0] at hfin
    have hmore : ∀ (i : Nat) (y : Rat), (C9 l Z k)[i]? = some y -> ∀ j : Nat, j <= 20 -> Fits (y + (j : Nat) * shQ l s) := fun i y hy j hj => by
     obtain ⟨x, hx, rfl⟩ := List.mem_map.1 (List.mem_of_getElem? hy)
     exact Uo hx hl hw (by omega) (by omega) hwt hpos hj
    have hxl20 : (ovK l s.depth l.length).length <= 20 := by rw [Mu l _ _ (Nat.le_refl _), List.take_length];omega
    clear hokf
    generalize shQ l s = sh at *
    generalize C9 l Z k = q at *
    have h00 : (0 : Int) = 0 := rfl
    repeat' (first
     | refine W ?_
     | (apply T2.regs;(first | exact .inl rfl | exact .inr ⟨_, rfl⟩);rfl;rfl)|(apply T2.region;(first | exact .inl rfl | exact .inr ⟨_, rfl⟩);rfl;rfl)|(apply T2.cT;exact rfl;assumption)|(apply T2.cFn;exact rfl;assumption)|(apply T2.cTn;exact rfl;assumption)|(apply T2.cF;exact rfl;assumption) | apply T2.seq | apply T2.block|(apply T2.skip;first | change T2 _ _ _ _ _ _ _ | change Next _ _ _ _ _ _ | skip)|(apply T2.exit;first | change T2 _ _ _ _ _ _ _ | change Next _ _ _ _ _ _ | skip) | apply T2.ret|(apply S.indexR;(iterate 3 exact rfl);exact hb;omega;exact rfl)|(apply T2.regsD;(first | exact .inl rfl | exact .inr ⟨_, rfl⟩);exact A3;rfl;rfl)|(apply T2.regionD;(first | exact .inl rfl | exact .inr ⟨_, rfl⟩);exact A3;rfl;rfl)|(apply RegOut.drawN 5 14 (by decide +kernel);simp only [td]) | refine Y ?_|refine Za ?_
     | refine V ?_
     | (refine W2 ?_ ?_ <;> intro hc))
    refine T2.rangeFunc (m := l.length) (xs := ovK l s.depth l.length) 7 [(0, .sl (l.map RoofR.row)), (31, .sl (Z.map ldR)), (32, .i (Z.map ldR).length), (33, .i (k : Nat)), (4, .ptr 0 0), (5, .ptr 1 0), (6, .ptr 2 0), (11, .ptr 5 0), (12, .ptr 6 0)] (Nq l s.depth (by omega)) rfl CW (.inl rfl) rfl (Z0 _ _ _ _ _ _) rfl rfl (fun _ => True) (fun vs pre => [.live [.val (.slice none 0 0)], .live [.i 0], .live [.own 3 0 l.length 2], .live (frC (Do sh q pre)), .live [.i s.depth, .i (ptW s)], .live [.i sh.num, .i sh.den], .live [.i 0], .gho [.sl (l.map RoofR.row), .sl (Z.map ldR), .i (Z.map ldR).length, .i (k : Nat), .ptr 0 0, .ptr 1 0, .ptr 2 0, .ptr 5 0, .ptr 6 0] vs]) (fun _ => rfl) (fun _ _ => rfl) (fun _ _ => rfl) trivial ?_ (fun _ _ => trivial) ?_
    ·intro vs lx pre x hok hpre
     have hx := x.2
     have hxl : (Do sh q pre).length = l.length := by rw [Jr, hql]
     have hyat := Kt (l := Do sh q pre) (i := x.1) (by omega)
     obtain ⟨j, hj, hform⟩ := I3 (sh := sh) pre q x.1 _ (Kt (l := q) (i := x.1) (by omega))
     rw [hform] at hyat
     injection hyat with hyat
     have hm := hmore x.1 _ (Kt (l := q) (i := x.1) (by omega))
     have hy := hm j (by omega)
     have hF := hm (j + 1) (by omega)
     rw [show q.getD x.1 0 + ((j + 1 : Nat) : Rat) * sh = (q.getD x.1 0 + ((j : Nat) : Rat) * sh) + sh by rw [show ((j + 1 : Nat) : Rat) = (j : Rat) + 1 by push_cast;rfl];grind] at hF
     have hld := Pa _ _ _ hform
     have hst := Rm (Do sh q pre) x.1 ((Do sh q pre).getD x.1 0 + sh) (by omega)
     rw [<- I4, <- hyat] at hst
     generalize q.getD x.1 0 + ((j : Nat) : Rat) * sh = y at *
     have ca := W7 y sh hy hsh hF
     repeat' (first
      | refine W ?_
      | (apply T2.regs;(first | exact .inl rfl | exact .inr ⟨_, rfl⟩);rfl;rfl)|(apply T2.region;(first | exact .inl rfl | exact .inr ⟨_, rfl⟩);rfl;rfl)|(apply T2.cT;exact rfl;assumption)|(apply T2.cFn;exact rfl;assumption)|(apply T2.cTn;exact rfl;assumption)|(apply T2.cF;exact rfl;assumption) | apply T2.seq | apply T2.block|(apply T2.skip;first | change T2 _ _ _ _ _ _ _ | change Next _ _ _ _ _ _ | skip)|(apply T2.exit;first | change T2 _ _ _ _ _ _ _ | change Next _ _ _ _ _ _ | skip) | apply T2.ret|(apply T2.regsD;(first | exact .inl rfl | exact .inr ⟨_, rfl⟩);exact A3;rfl;rfl)|(apply T2.regionD;(first | exact .inl rfl | exact .inr ⟨_, rfl⟩);exact A3;rfl;rfl)|(apply RegOut.drawN 3 14 (by decide +kernel);simp only [td])|(apply S.indexL (o2 := x.1 * 2);(iterate 3 exact rfl);decide +kernel;exact rfl;omega;omega)|(apply S.loadL;(iterate 3 exact rfl);decide +kernel;exact rfl)|(apply S.fieldL;exact rfl;exact rfl;decide +kernel;exact rfl)|(apply S.loadLO;(iterate 3 exact rfl);decide +kernel;exact rfl;exact hld;(rw [Rl, hxl];omega))|(apply S.loadLO;(iterate 3 exact rfl);decide +kernel;exact rfl;exact rfl;exact Nat.le_refl _)|(apply S.storeLW;(iterate 6 exact rfl);(rw [Rl, hxl];omega);exact rfl) | refine Y ?_|refine Za ?_
      | refine V ?_
      | (refine W2 ?_ ?_ <;> intro hc))
     all_goals exact .inl ⟨rfl, trivial, .live rfl (.live rfl (.live rfl (A0i hst (G6 _ _) (.live rfl (.live rfl (.live rfl (.gho rfl .nil)))))))⟩
    ·intro vs
     rw [hfin]
     repeat' (first
      | refine W ?_
      | (apply T2.regs;(first | exact .inl rfl | exact .inr ⟨_, rfl⟩);rfl;rfl)|(apply T2.region;(first | exact .inl rfl | exact .inr ⟨_, rfl⟩);rfl;rfl)|(apply T2.cT;exact rfl;assumption)|(apply T2.cFn;exact rfl;assumption)|(apply T2.cTn;exact rfl;assumption)|(apply T2.cF;exact rfl;assumption) | apply T2.seq | apply T2.block|(apply T2.skip;first | change T2 _ _ _ _ _ _ _ | change Next _ _ _ _ _ _ | skip)|(apply T2.exit;first | change T2 _ _ _ _ _ _ _ | change Next _ _ _ _ _ _ | skip) | apply T2.ret | refine Y ?_|refine Za ?_
      | refine V ?_
      | (refine W2 ?_ ?_ <;> intro hc))
     all_goals (change Next _ _ _ _ _ _)
     all_goals exact Next.go (k + 1) (by omega) (by omega) CW (.live rfl (.live rfl (.live rfl (.live (G6 _ _) .nil))))
   ·have h1 : ¬ ((k : Nat) : Int) < ((Z.map ldR).length : Nat) := by omega
    obtain rfl : k = Z.length := by omega
    have hown := Z5 (C9 l Z Z.length)
    have hres : (C9 l Z Z.length).map frR = l.map fun x => frR (brQ l Z x) := by
     unfold C9
     rw [List.take_length, List.map_map];rfl
    rw [Ck, hres] at hown
    repeat' (first
     | refine W ?_
     | (apply T2.regs;(first | exact .inl rfl | exact .inr ⟨_, rfl⟩);rfl;rfl)|(apply T2.region;(first | exact .inl rfl | exact .inr ⟨_, rfl⟩);rfl;rfl)|(apply T2.cT;exact rfl;assumption)|(apply T2.cFn;exact rfl;assumption)|(apply T2.cTn;exact rfl;assumption)|(apply T2.cF;exact rfl;assumption) | apply T2.seq | apply T2.block|(apply T2.skip;first | change T2 _ _ _ _ _ _ _ | change Next _ _ _ _ _ _ | skip)|(apply T2.exit;first | change T2 _ _ _ _ _ _ _ | change Next _ _ _ _ _ _ | skip) | apply T2.ret | refine Y ?_|refine Za ?_
     | refine V ?_
     | (refine W2 ?_ ?_ <;> intro hc))
    all_goals exact ⟨⟨.inr rfl, [.own 3 0 l.length 2, .i 0], .cons (.cell rfl rfl rfl Tryz.underlying59 rfl) (.cons (.cell rfl rfl rfl Tryz.underlying28 rfl) .nil), .tup (.cons (.one (.own rfl hown)) (.cons (.one (.lf _)) .nil))⟩, rfl⟩
end Go.Proofs.YtcfjofhapbkmfaaGreatDoor
