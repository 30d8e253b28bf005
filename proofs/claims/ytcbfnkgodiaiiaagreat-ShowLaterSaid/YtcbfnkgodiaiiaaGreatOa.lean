/- Contracts: slices.Grow, Concat, Clone of pieces. No conditions but those of each statement. -/
import Derived.Test.YtcbfnkgodiaiiaaGreatNz
import Derived.Test.YtcbfnkgodiaiiaaGreatNi
set_option linter.unusedSimpArgs false
set_option linter.unusedVariables false
namespace Go.Proofs.YtcbfnkgodiaiiaaGreat
open Go Go.RowKit
theorem A07 : FnGrow Tryz.prog 298 8 1000000 := by
 refine ⟨⟨_, Tryz.func298, by kernel_rfl, rfl⟩, fun m w h0 hm => ?_⟩
 have hS : HasS Tryz.prog 195 8 := inferInstance
 have hB : HasB Tryz.prog 195 64 := inferInstance
 have hZ : HasZ Tryz.prog 195 (.agg #[.int .i64 0, .int .i64 0, .int .i64 0, .int .i64 0, .int .i64 0, .int .i64 0, .int .i64 0, .int .i64 0]) := inferInstance
 obtain ⟨i, hi1, hi2⟩ : ∃ i, Tryz.prog.info? 195 = some i /\ i.size = 8 := by
  have := hS.out
  cases hh : Tryz.prog.info? 195 with
  | none => rw [hh] at this;cases this
  | some i => rw [hh] at this;exact ⟨i, rfl, by simpa using this⟩
 have hi3 : i.bytes = 64 := by have := hB.out;rw [hi1] at this;simpa using this
 have hi4 := hZ.out
 rw [hi1] at hi4
 have h := Go.Proofs.Any8.slices_Grow_grow Tryz.grow i _ hi1 hi4 (by omega) none 0 0 m [] w (Nat.le_refl _) (by omega) (by rw [hi3];omega) (by omega) (by simp) (fun _ => rfl) (fun a h => by cases h)
 refine h.mono ?_
 rintro e w' ⟨rfl, rfl⟩
 have hge := Ij w (0 + m) 0 195
 refine ⟨w.heap.size, 0, _, _, _, 0, 0, rfl, ⟨rfl, rfl, rfl, by simp, fun k hk => As w.drew _ hk⟩, Nat.le_refl _, Bz w.drew _, Nat.le_refl _, ?_⟩
 have hz8 : ∀ n, (Builtin.zeroCells (Value.agg #[.int .i64 0, .int .i64 0, .int .i64 0, .int .i64 0, .int .i64 0, .int .i64 0, .int .i64 0, .int .i64 0]).cells n).size = n * 8 := fun n => by simp [Builtin.zeroCells, Value.cells]
 rw [Array.size_append, Array.size_append, hz8, hz8]
 show 0 + grownCap w (0 + m) 0 195 * 8 <= (#[] : Array Value).size + (0 + m - 0) * 8 + (grownCap w (0 + m) 0 195 - (0 + m)) * 8
 generalize grownCap w (0 + m) 0 195 = G at hge ⊢
 simp
 omega
abbrev Bk (l : List PcQ) : List AV := (l.map PcQ.row).flatten.map .lf
theorem M2 (l : List PcQ) : ∀ r ∈ l.map PcQ.row, r.length = 8 := by
 intro r hr
 obtain ⟨n, _, rfl⟩ := List.mem_map.1 hr
 rfl
theorem Ac3 (l : List PcQ) : (l.map PcQ.row).flatten.all Lf.one = true := by
 rw [List.all_eq_true]
 intro x hx
 obtain ⟨r, hr, hxr⟩ := List.mem_flatten.1 hx
 obtain ⟨n, _, rfl⟩ := List.mem_map.1 hr
 simp only [PcQ.row, List.mem_cons, List.not_mem_nil, or_false] at hxr
 rcases hxr with rfl | rfl | rfl | rfl | rfl | rfl | rfl | rfl <;> rfl
theorem Ci (l : List PcQ) : (Bk l).length = l.length * 8 := by
 rw [List.length_map, Bf _ (M2 l), List.length_map]
theorem Cf (x : PcQ) (l : List PcQ) : Bk (x :: l) = (x.row.map .lf) ++ Bk l := by simp [Bk]
theorem Fa (l m : List PcQ) : Bk (l ++ m) = Bk l ++ Bk m := by simp [Bk]
theorem D0 (n : Nat) (l : List PcQ) : (Bk l).all (AV.under n) = true := Al n _
theorem Pu (l : List PcQ) : OwnRows (Bk l) 0 l.length 8 (l.map PcQ.row) := by
 have := OwnRows.of (l.map PcQ.row).flatten (M2 l) rfl
 rw [List.length_map] at this
 exact this
abbrev Io (c : List PcQ) : List Lf := [.sl (c.map PcQ.row)]
theorem Ux {α : Type} (cs : List (List α)) (i : Nat) (c : List α) (h : cs[i]? = some c) : (cs.take (i + 1)).flatten = (cs.take i).flatten ++ c := by
 rw [List.take_add_one, h, List.flatten_append]
 simp
theorem Va {α : Type} (cs : List (List α)) (i : Nat) : (cs.take i).flatten.length <= cs.flatten.length := by
 have h : cs.flatten = (cs.take i).flatten ++ (cs.drop i).flatten := by rw [<- List.flatten_append, List.take_append_drop]
 rw [h, List.length_append]
 omega
set_option maxHeartbeats 16000000 in
theorem Nu (cs : List (List PcQ)) (h0 : 0 < cs.flatten.length) (hn : cs.flatten.length <= 1000) (hm : cs.length <= 1000) : Fn0 Tryz.prog 284 [.sl (cs.map Io)] (.sl (cs.flatten.map PcQ.row)) := by
 have hle : (cs.map Io).length = cs.length := List.length_map _
 have hg := A07
 refine Fn0.of Tryz.func284 Tryz.ntmps284 rfl rfl rfl ?_
 simp only [A2]
 repeat' (first | refine W ?_ | refine V ?_|(refine W2 ?_ ?_ <;> intro hc))
 refine T.loopS (fun i => i <= cs.length) (fun i => cs.length - i) (fun i => [(11, .i i), (3, .i (cs.take i).flatten.length), (10, .i (cs.map Io).length), (9, .sl (cs.map Io)), (0, .sl (cs.map Io))]) (fun i => []) 0 (Nat.zero_le _) CV .nil ?_
 intro i hi
 by_cases hlt : (i : Int) < ((cs.map Io).length : Nat)
 ·obtain ⟨c, hc⟩ : ∃ c, cs[i]? = some c := ⟨cs[i], List.getElem?_eq_getElem (by omega)⟩
  have hb : (cs.map Io)[((i : Nat) : Int).toNat]? = some (Io c) := by rw [Int.toNat_natCast, List.getElem?_map, hc];rfl
  have hfs := Ux cs i c hc
  have hfp := Va cs (i + 1)
  have hfl : (cs.take (i + 1)).flatten.length = (cs.take i).flatten.length + c.length := by rw [hfs, List.length_append]
  have hcl : (c.map PcQ.row).length = c.length := List.length_map _
  have hneg : ¬ ((((cs.take i).flatten.length : Nat) : Int) + ((c.map PcQ.row).length : Nat) < 0) := by omega
  repeat' (first | refine W ?_|refine Za ?_|refine Zi hb ?_ | refine V ?_|(refine W2 ?_ ?_ <;> intro hc))
  change Next _ _ _ _ _ _
  exact Next.go (i + 1) (by omega) (by omega) (.cons (by rw [show (((i + 1 : Nat) : Int)) = (i : Int) + 1 by omega];rfl) rfl (.cons (by rw [hfl, <- hcl, show ((((cs.take i).flatten.length + (c.map PcQ.row).length : Nat) : Int)) = ((cs.take i).flatten.length : Int) + ((c.map PcQ.row).length : Nat) by omega];rfl) rfl CV)) .nil
 ·obtain rfl : i = cs.length := by omega
  rw [List.take_length]
  repeat' (first | refine W ?_|(apply S.callGrow 0 (mm := cs.flatten.length) hg;(iterate 7 exact rfl);omega) | refine V ?_|(refine W2 ?_ ?_ <;> intro hc))
  refine T.loopS (fun i => i <= cs.length) (fun i => cs.length - i) (fun i => [(27, .i i), (6, .own 0 0 (cs.take i).flatten.length 8), (26, .i (cs.map Io).length), (25, .sl (cs.map Io))]) (fun i => [.live (Bk (cs.take i).flatten)]) 0 (Nat.zero_le _) CV (.live rfl .nil) ?_
  intro i hi
  by_cases hlt : (i : Int) < ((cs.map Io).length : Nat)
  ·obtain ⟨c, hc⟩ : ∃ c, cs[i]? = some c := ⟨cs[i], List.getElem?_eq_getElem (by omega)⟩
   have hb : (cs.map Io)[((i : Nat) : Int).toNat]? = some (Io c) := by rw [Int.toNat_natCast, List.getElem?_map, hc];rfl
   have hfs := Ux cs i c hc
   have hfp := Va cs (i + 1)
   have hfl : (cs.take (i + 1)).flatten.length = (cs.take i).flatten.length + c.length := by rw [hfs, List.length_append]
   have hcl : (c.map PcQ.row).length = c.length := List.length_map _
   repeat' (first | refine W ?_|refine Za ?_|refine Zi hb ?_|(apply S.appendO;(iterate 8 exact rfl);exact Ci _;exact M2 c;exact Ac3 c;exact Az _ _;omega;omega) | refine V ?_|(refine W2 ?_ ?_ <;> intro hc))
   change Next _ _ _ _ _ _
   exact Next.go (i + 1) (by omega) (by omega) (.cons (by rw [show (((i + 1 : Nat) : Int)) = (i : Int) + 1 by omega];rfl) rfl (.cons (by rw [hfl, <- hcl];rfl) rfl CV)) (by rw [hfs, Fa];exact .live (by rw [<- Fa];exact D0 _ _) .nil)
  ·obtain rfl : i = cs.length := by omega
   rw [List.take_length]
   repeat' (first | refine W ?_|(refine T.freeze 6 rfl rfl (Pu _) ?_) | refine V ?_|(refine W2 ?_ ?_ <;> intro hc))
   exact Hx (by simp) Tryz.results284 rfl (.one (.one (.lf _)))
theorem Res.own0 {P : Program} {st : St} {t b k n : Nat} (h : st.tm.get t = some (.own b 0 (0 + k) n)) : Res P st (.tmp t) (.own b 0 k n) := by
 rw [Nat.zero_add] at h
 exact .tmp h
def H1 : List Rat -> Rat -> List Rat
 | [], t => [t]
 | x :: l, t => if x < t then x :: H1 l t else if x = t then x :: l else t :: x :: l
theorem Wu (l : List Rat) (t x : Rat) : x ∈ H1 l t ↔ x = t \/ x ∈ l := by
 induction l with
 | nil => simp [H1]
 | cons y l ih =>
  unfold H1
  split
  ·rw [List.mem_cons, ih, List.mem_cons];grind
  ·split
   ·rename_i h;subst h;simp
   ·simp
theorem A8m (l : List Rat) (t : Rat) (h : l.Pairwise (· < ·)) : (H1 l t).Pairwise (· < ·) := by
 induction l with
 | nil => simp [H1]
 | cons y l ih =>
  obtain ⟨h1, h2⟩ := List.pairwise_cons.1 h
  unfold H1
  split
  ·rename_i hlt
   refine List.pairwise_cons.2 ⟨fun z hz => ?_, ih h2⟩
   rcases (Wu l t z).1 hz with rfl | hz
   ·exact hlt
   ·exact h1 z hz
  ·split
   ·exact h
   ·refine List.pairwise_cons.2 ⟨fun z hz => ?_, h⟩
    rcases List.mem_cons.1 hz with rfl | hz
    ·grind
    ·have := h1 z hz
     grind
def J5 (l : List Rat) : List Rat := l.foldl H1 []
theorem A5y (l m : List Rat) (x : Rat) : x ∈ l.foldl H1 m ↔ x ∈ m \/ x ∈ l := by
 induction l generalizing m with
 | nil => simp
 | cons y l ih => rw [List.foldl_cons, ih, Wu, List.mem_cons];grind
theorem A5p (l m : List Rat) (h : m.Pairwise (· < ·)) : (l.foldl H1 m).Pairwise (· < ·) := by
 induction l generalizing m with
 | nil => exact h
 | cons y l ih => exact ih _ (A8m _ _ h)
theorem E6 (l : List Rat) (x : Rat) : x ∈ J5 l ↔ x ∈ l := by unfold J5;rw [A5y];simp
theorem Ji (l : List Rat) : (J5 l).Pairwise (· < ·) := A5p l [] (by simp)
theorem K8 : ∀ (l m : List Rat), l.Pairwise (· < ·) -> m.Pairwise (· < ·) -> (∀ x, x ∈ l ↔ x ∈ m) -> l = m
 | [], [], _, _, _ => rfl
 | [], y :: m, _, _, h => absurd ((h y).2 (by simp)) (by simp)
 | x :: l, [], _, _, h => absurd ((h x).1 (by simp)) (by simp)
 | x :: l, y :: m, hl, hm, h => by
  obtain ⟨l1, l2⟩ := List.pairwise_cons.1 hl
  obtain ⟨m1, m2⟩ := List.pairwise_cons.1 hm
  have hxy : x = y := by
   rcases List.mem_cons.1 ((h x).1 (by simp)) with e | e
   ·exact e
   ·rcases List.mem_cons.1 ((h y).2 (by simp)) with e2 | e2
    ·exact e2.symm
    ·have := l1 y e2
     have := m1 x e
     grind
  subst hxy
  refine congrArg (x :: ·) (K8 l m l2 m2 fun z => ⟨fun hz => ?_, fun hz => ?_⟩)
  ·rcases List.mem_cons.1 ((h z).1 (List.mem_cons_of_mem _ hz)) with e | e
   ·subst e;exact absurd (l1 z hz) (by grind)
   ·exact e
  ·rcases List.mem_cons.1 ((h z).2 (List.mem_cons_of_mem _ hz)) with e | e
   ·subst e;exact absurd (m1 z hz) (by grind)
   ·exact e
theorem A4s (l : List Rat) (hs : l.Pairwise (· <= ·)) : ∀ (n : Nat), n <= l.length -> (cN l n).Pairwise (· < ·) /\ ∀ x, x ∈ cN l n ↔ x ∈ l.take n
 | 0, _ => by simp [cN]
 | n + 1, h => by
  obtain ⟨h1, h2⟩ := A4s l hs n (by omega)
  have hx : l[n]? = some l[n] := List.getElem?_eq_getElem (by omega)
  have htk : l.take (n + 1) = l.take n ++ [l[n]] := by rw [List.take_add_one, hx];rfl
  by_cases hd : n ≠ 0 /\ l[n - 1]? = some l[n]
  ·rw [Qd hx hd.1 hd.2]
   refine ⟨h1, fun x => ?_⟩
   rw [h2, htk, List.mem_append, List.mem_singleton]
   refine ⟨.inl, fun hh => hh.elim id fun e => ?_⟩
   rw [List.mem_iff_getElem?]
   exact ⟨n - 1, by rw [List.getElem?_take, if_pos (by omega), hd.2, e]⟩
  ·rw [Ph hx fun h0 e => hd ⟨h0, e⟩]
   refine ⟨List.pairwise_append.2 ⟨h1, by simp, fun y hy z hz => ?_⟩, fun x => ?_⟩
   ·rw [List.mem_singleton] at hz
    subst hz
    have hy' := (h2 y).1 hy
    obtain ⟨j, hj, hjy⟩ := List.getElem_of_mem hy'
    rw [List.length_take] at hj
    rw [List.getElem_take] at hjy
    subst hjy
    have hpw := List.pairwise_iff_getElem.1 hs
    have g1 : l[j] <= l[n - 1]'(by omega) := by
     by_cases e : j = n - 1
     ·subst e;exact Rat.le_refl
     ·exact hpw j (n - 1) _ _ (by omega)
    have g2 : l[n - 1]'(by omega) <= l[n] := hpw (n - 1) n _ _ (by omega)
    have g3 : l[n - 1]'(by omega) ≠ l[n] := fun e => hd ⟨by omega, by rw [List.getElem?_eq_getElem (by omega), e]⟩
    grind
   ·rw [List.mem_append, h2, htk, List.mem_append]
theorem Acx (L l : List Rat) (hp : l.Perm L) (hs : l.Pairwise (· <= ·)) : cN l l.length = J5 L := by
 obtain ⟨h1, h2⟩ := A4s l hs l.length (Nat.le_refl _)
 refine K8 _ _ h1 (Ji L) fun x => ?_
 rw [h2, List.take_length, E6, hp.mem_iff]
theorem Ln (L l : List Rat) (hp : l.Perm L) (hs : l.Pairwise (· <= ·)) (hn : L.length <= 1000000) : FnMut Tryz.prog 286 2 L.length (Cc l) (J5 L).length (Cc (J5 L)) := by
 have h := Wi l (by rw [hp.length_eq];exact hn)
 rw [Acx L l hp hs, hp.length_eq] at h
 exact h
def rT (b st : Nat) : Nat -> AV
 | 0 => .val (.slice none 0 0)
 | n + 1 => .own b 0 (n + 1) st
def rB (cells : List AV) : Nat -> HB
 | 0 => .dead
 | _ + 1 => .live cells
theorem Kn {b st n : Nat} (h : 0 < n) : rT b st n = .own b 0 n st := by cases n <;> first | omega | rfl
theorem Kq {cells : List AV} {n : Nat} (h : 0 < n) : rB cells n = .live cells := by cases n <;> first | omega | rfl
def Af (a b : List PcQ) : List Rat := J5 ((a ++ b).map (·.f))
def jP (op : Rat -> Rat -> Rat) (a b : List PcQ) (t : Rat) : PcQ := ⟨t, kQ (op (atP a t).a (atP b t).a), kQ (op (atP a t).b (atP b t).b), kQ (op (atP a t).c (atP b t).c)⟩
def jE (op : Rat -> Rat -> Rat) (a b : List PcQ) (t : Rat) (e : Int) : Int := kE (op (atP a t).c (atP b t).c) (kE (op (atP a t).b (atP b t).b) (kE (op (atP a t).a (atP b t).a) (Fj b t (Fj a t e))))
def jEs (op : Rat -> Rat -> Rat) (a b : List PcQ) (l : List Rat) : Int := l.foldl (fun e t => jE op a b t e) 0
def Wo (op : Rat -> Rat -> Rat) (a b : List PcQ) : AV :=
 if 200 < (Af a b).length then .tup [.sl [], .i 4] else if jEs op a b (Af a b) = 0 then .tup [.sl (((Af a b).map (jP op a b)).map PcQ.row), .i 0] else .tup [.sl [], .i (jEs op a b (Af a b))]
theorem Aa6 (l : List PcQ) (k : Nat) (hl : okC l) : (A6 l k).ok := by
 unfold A6
 rw [List.getD_eq_getElem?_getD]
 cases h : l[k]? with
 | none => exact ⟨Fits.zero, Fits.zero, Fits.zero, Fits.zero⟩
 | some x => exact hl x (List.mem_of_getElem? h)
theorem Q2 (l : List PcQ) (t : Rat) (hl : okC l) (h0 : l ≠ []) (ht : Fits t) : (atP l t).ok := by
 have hp : ∀ k, (A6 l k).ok := fun k => Aa6 l k hl
 unfold atP
 split
 ·exact ⟨ht, (hp _).a, Fits.zero, Fits.zero⟩
 ·refine ⟨ht, ?_, ?_, (hp _).c⟩
  ·unfold atQ;split <;> first | exact (hp _).a | exact Cp _
  ·unfold atS;split <;> first | exact Fits.zero | exact Cp _
theorem Lh (a b : List PcQ) (ha : okC a) (hb : okC b) : ∀ t ∈ Af a b, Fits t := fun t ht => by
 rw [Af, E6] at ht
 obtain ⟨p, hp, rfl⟩ := List.mem_map.1 ht
 rcases List.mem_append.1 hp with h | h
 ·exact (ha p h).f
 ·exact (hb p h).f
theorem A4z (l : List Rat) : OwnRows (fa l) 0 l.length 2 (l.map frR) := by
 have := OwnRows.of (l.map frR).flatten (Us l) rfl
 rw [List.length_map] at this
 exact this
end Go.Proofs.YtcbfnkgodiaiiaaGreat
