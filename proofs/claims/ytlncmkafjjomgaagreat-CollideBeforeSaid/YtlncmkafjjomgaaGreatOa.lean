/- Contracts: slices.Grow, Concat, Clone of pieces. No conditions but those of each statement. | Plain laws: ascending times, each once. Contract: quadratic's joined. No conditions but those of each statement. -/
import Derived.Test.YtlncmkafjjomgaaGreatNz
import Derived.Test.YtlncmkafjjomgaaGreatNi
set_option linter.unusedSimpArgs false
namespace Go.Proofs.YtlncmkafjjomgaaGreat
set_option linter.unusedVariables false
open Go Go.RowKit
theorem grow_pieces : FnGrow Tryz.prog 155 8 1000000 := by
 refine ⟨⟨_, Tryz.func155, by kernel_rfl, rfl⟩, fun m w h0 hm => ?_⟩
 have hS : HasS Tryz.prog 94 8 := inferInstance
 have hB : HasB Tryz.prog 94 64 := inferInstance
 have hZ : HasZ Tryz.prog 94 (.agg #[.int .i64 0, .int .i64 0, .int .i64 0, .int .i64 0, .int .i64 0, .int .i64 0, .int .i64 0, .int .i64 0]) := inferInstance
 obtain ⟨i, hi1, hi2⟩ : ∃ i, Tryz.prog.info? 94 = some i ∧ i.size = 8 := by
  have := hS.out
  cases hh : Tryz.prog.info? 94 with
  | none => rw [hh] at this;cases this
  | some i => rw [hh] at this;exact ⟨i, rfl, by simpa using this⟩
 have hi3 : i.bytes = 64 := by have := hB.out;rw [hi1] at this;simpa using this
 have hi4 := hZ.out
 rw [hi1] at hi4
 have h := Go.Proofs.Any8.slices_Grow_grow Tryz.grow i _ hi1 hi4 (by omega) none 0 0 m [] w (Nat.le_refl _) (by omega) (by rw [hi3];omega) (by omega) (by simp) (fun _ => rfl) (fun a h => by cases h)
 refine h.mono ?_
 rintro e w' ⟨rfl, rfl⟩
 have hge := grownCap_le_of w (0 + m) 0 94
 refine ⟨w.heap.size, 0, _, _, _, 0, 0, rfl, ⟨rfl, rfl, rfl, by simp, fun k hk => heap_alloc_lt w.drew _ hk⟩, Nat.le_refl _, heap_alloc_eq w.drew _, Nat.le_refl _, ?_⟩
 have hz8 : ∀ n, (Builtin.zeroCells (Value.agg #[.int .i64 0, .int .i64 0, .int .i64 0, .int .i64 0, .int .i64 0, .int .i64 0, .int .i64 0, .int .i64 0]).cells n).size = n * 8 := fun n => by simp [Builtin.zeroCells, Value.cells]
 rw [Array.size_append, Array.size_append, hz8, hz8]
 show 0 + grownCap w (0 + m) 0 94 * 8 ≤ (#[] : Array Value).size + (0 + m - 0) * 8 + (grownCap w (0 + m) 0 94 - (0 + m)) * 8
 generalize grownCap w (0 + m) 0 94 = G at hge ⊢
 simp
 omega
abbrev cellsP (l : List PcQ) : List AV := (l.map PcQ.row).flatten.map .lf
theorem pcs_row (l : List PcQ) : ∀ r ∈ l.map PcQ.row, r.length = 8 := by
 intro r hr
 obtain ⟨n, _, rfl⟩ := List.mem_map.1 hr
 rfl
theorem pcs_one (l : List PcQ) : (l.map PcQ.row).flatten.all Lf.one = true := by
 rw [List.all_eq_true]
 intro x hx
 obtain ⟨r, hr, hxr⟩ := List.mem_flatten.1 hx
 obtain ⟨n, _, rfl⟩ := List.mem_map.1 hr
 simp only [PcQ.row, List.mem_cons, List.not_mem_nil, or_false] at hxr
 rcases hxr with rfl | rfl | rfl | rfl | rfl | rfl | rfl | rfl <;> rfl
theorem cellsP_len (l : List PcQ) : (cellsP l).length = l.length * 8 := by
 rw [List.length_map, flatten_len _ (pcs_row l), List.length_map]
theorem cellsP_cons (x : PcQ) (l : List PcQ) : cellsP (x :: l) = (x.row.map .lf) ++ cellsP l := by simp [cellsP]
theorem cellsP_append (l m : List PcQ) : cellsP (l ++ m) = cellsP l ++ cellsP m := by simp [cellsP]
theorem under_pcs (n : Nat) (l : List PcQ) : (cellsP l).all (AV.under n) = true := under_lf n _
theorem own_pcs (l : List PcQ) : OwnRows (cellsP l) 0 l.length 8 (l.map PcQ.row) := by
 have := OwnRows.of (l.map PcQ.row).flatten (pcs_row l) rfl
 rw [List.length_map] at this
 exact this
abbrev crow (c : List PcQ) : List Lf := [.sl (c.map PcQ.row)]
theorem flat_snoc {α : Type} (cs : List (List α)) (i : Nat) (c : List α) (h : cs[i]? = some c) : (cs.take (i + 1)).flatten = (cs.take i).flatten ++ c := by
 rw [List.take_add_one, h, List.flatten_append]
 simp
theorem flat_part {α : Type} (cs : List (List α)) (i : Nat) : (cs.take i).flatten.length ≤ cs.flatten.length := by
 have h : cs.flatten = (cs.take i).flatten ++ (cs.drop i).flatten := by rw [← List.flatten_append, List.take_append_drop]
 rw [h, List.length_append]
 omega
set_option maxHeartbeats 16000000 in
theorem concat_pieces (cs : List (List PcQ)) (h0 : 0 < cs.flatten.length) (hn : cs.flatten.length ≤ 1000) (hm : cs.length ≤ 1000) : Fn0 Tryz.prog 146 [.sl (cs.map crow)] (.sl (cs.flatten.map PcQ.row)) := by
 have hle : (cs.map crow).length = cs.length := List.length_map _
 have hg := grow_pieces
 refine Fn0.of Tryz.func146 Tryz.ntmps146 rfl rfl rfl ?_
 simp only [entryTm]
 repeat' (first|(apply S.move;exact rfl;exact rfl)|(apply S.assign;exact rfl;exact rfl)|(apply S.lenR;exact rfl;exact rfl) | apply S.nil | apply T.regs | apply T.seq | apply T.block)
 refine T.loopS (fun i => i ≤ cs.length) (fun i => cs.length - i) (fun i => [(11, .i i), (3, .i (cs.take i).flatten.length), (10, .i (cs.map crow).length), (9, .sl (cs.map crow)), (0, .sl (cs.map crow))]) (fun i => []) 0 (Nat.zero_le _) (.cons rfl rfl (.cons rfl rfl (.cons rfl rfl (.cons rfl rfl (.cons rfl rfl .nil))))) .nil ?_
 intro i hi
 by_cases hlt : (i : Int) < ((cs.map crow).length : Nat)
 ·obtain ⟨c, hc⟩ : ∃ c, cs[i]? = some c := ⟨cs[i], List.getElem?_eq_getElem (by omega)⟩
  have hb : (cs.map crow)[((i : Nat) : Int).toNat]? = some (crow c) := by rw [Int.toNat_natCast, List.getElem?_map, hc];rfl
  have hfs := flat_snoc cs i c hc
  have hfp := flat_part cs (i + 1)
  have hfl : (cs.take (i + 1)).flatten.length = (cs.take i).flatten.length + c.length := by rw [hfs, List.length_append]
  have hcl : (c.map PcQ.row).length = c.length := List.length_map _
  have hneg : ¬ ((((cs.take i).flatten.length : Nat) : Int) + ((c.map PcQ.row).length : Nat) < 0) := by omega
  repeat' (first|(apply S.move;exact rfl;exact rfl)|(apply S.assign;exact rfl;exact rfl)|(apply S.loadR;exact rfl;exact rfl;exact rfl)|(apply S.arith;(iterate 4 exact rfl);omega)|(apply S.indexR;exact rfl;exact rfl;exact rfl;exact hb;omega;exact rfl)|(apply S.cmp;(iterate 4 exact rfl))|(apply S.lenR;exact rfl;exact rfl) | apply S.nil | apply T.regs | apply T.reg|(apply T.cCN;exact rfl)|(apply T.cT;exact rfl;assumption) | apply T.seq|(apply T.skip;first | change T _ _ _ _ _ | change Done _ _ _ _ _ | change Next _ _ _ _ _ _ | skip) | apply T.block)
  change Next _ _ _ _ _ _
  exact Next.go (i + 1) (by omega) (by omega) (.cons (by rw [show (((i + 1 : Nat) : Int)) = (i : Int) + 1 by omega];rfl) rfl (.cons (by rw [hfl, ← hcl, show ((((cs.take i).flatten.length + (c.map PcQ.row).length : Nat) : Int)) = ((cs.take i).flatten.length : Int) + ((c.map PcQ.row).length : Nat) by omega];rfl) rfl (.cons rfl rfl (.cons rfl rfl (.cons rfl rfl .nil))))) .nil
 ·obtain rfl : i = cs.length := by omega
  rw [List.take_length]
  repeat' (first|(apply S.move;exact rfl;exact rfl)|(apply S.assign;exact rfl;exact rfl)|(apply S.callGrow 0 (mm := cs.flatten.length) hg;(iterate 7 exact rfl);omega)|(apply S.cmp;(iterate 4 exact rfl))|(apply S.lenR;exact rfl;exact rfl) | apply S.nil | apply T.regs|(apply T.cF;exact rfl;assumption) | apply T.seq|(apply T.exit;first | change T _ _ _ _ _ | change Done _ _ _ _ _ | change Next _ _ _ _ _ _ | skip) | apply T.block)
  refine T.loopS (fun i => i ≤ cs.length) (fun i => cs.length - i) (fun i => [(27, .i i), (6, .own 0 0 (cs.take i).flatten.length 8), (26, .i (cs.map crow).length), (25, .sl (cs.map crow))]) (fun i => [.live (cellsP (cs.take i).flatten)]) 0 (Nat.zero_le _) (.cons rfl rfl (.cons rfl rfl (.cons rfl rfl (.cons rfl rfl .nil)))) (.live rfl .nil) ?_
  intro i hi
  by_cases hlt : (i : Int) < ((cs.map crow).length : Nat)
  ·obtain ⟨c, hc⟩ : ∃ c, cs[i]? = some c := ⟨cs[i], List.getElem?_eq_getElem (by omega)⟩
   have hb : (cs.map crow)[((i : Nat) : Int).toNat]? = some (crow c) := by rw [Int.toNat_natCast, List.getElem?_map, hc];rfl
   have hfs := flat_snoc cs i c hc
   have hfp := flat_part cs (i + 1)
   have hfl : (cs.take (i + 1)).flatten.length = (cs.take i).flatten.length + c.length := by rw [hfs, List.length_append]
   have hcl : (c.map PcQ.row).length = c.length := List.length_map _
   repeat' (first|(apply S.move;exact rfl;exact rfl)|(apply S.assign;exact rfl;exact rfl)|(apply S.loadR;exact rfl;exact rfl;exact rfl)|(apply S.arith;(iterate 4 exact rfl);omega)|(apply S.indexR;exact rfl;exact rfl;exact rfl;exact hb;omega;exact rfl)|(apply S.appendO;(iterate 8 exact rfl);exact cellsP_len _;exact pcs_row c;exact pcs_one c;exact clear_lf _ _;omega;omega)|(apply S.cmp;(iterate 4 exact rfl)) | apply S.nil | apply T.regs | apply T.reg|(apply T.cT;exact rfl;assumption) | apply T.seq|(apply T.skip;first | change T _ _ _ _ _ | change Done _ _ _ _ _ | change Next _ _ _ _ _ _ | skip) | apply T.block)
   change Next _ _ _ _ _ _
   exact Next.go (i + 1) (by omega) (by omega) (.cons (by rw [show (((i + 1 : Nat) : Int)) = (i : Int) + 1 by omega];rfl) rfl (.cons (by rw [hfl, ← hcl];rfl) rfl (.cons rfl rfl (.cons rfl rfl .nil)))) (by rw [hfs, cellsP_append];exact .live (by rw [← cellsP_append];exact under_pcs _ _) .nil)
  ·obtain rfl : i = cs.length := by omega
   rw [List.take_length]
   repeat' (first|(apply S.move;exact rfl;exact rfl)|(apply S.assign;exact rfl;exact rfl)|(refine T.freeze 6 rfl rfl (own_pcs _) ?_)|(apply S.cmp;(iterate 4 exact rfl)) | apply S.nil | apply T.regs|(apply T.cF;exact rfl;assumption) | apply T.seq|(apply T.ret;change Done _ _ _ _ _)|(apply T.exit;first | change T _ _ _ _ _ | change Done _ _ _ _ _ | change Next _ _ _ _ _ _ | skip))
   exact done1 (by simp) Tryz.results146 rfl (.one (.one (.lf _)))
end Go.Proofs.YtlncmkafjjomgaaGreat
set_option linter.unusedSimpArgs false
namespace Go.Proofs.YtlncmkafjjomgaaGreat
set_option linter.unusedVariables false
open Go Go.RowKit
def putQ : List Rat → Rat → List Rat
 | [], t => [t]
 | x :: l, t => if x < t then x :: putQ l t else if x = t then x :: l else t :: x :: l
theorem mem_putQ (l : List Rat) (t x : Rat) : x ∈ putQ l t ↔ x = t ∨ x ∈ l := by
 induction l with
 | nil => simp [putQ]
 | cons y l ih =>
  unfold putQ
  split
  ·rw [List.mem_cons, ih, List.mem_cons];grind
  ·split
   ·rename_i h;subst h;simp
   ·simp
theorem asc_putQ (l : List Rat) (t : Rat) (h : l.Pairwise (· < ·)) : (putQ l t).Pairwise (· < ·) := by
 induction l with
 | nil => simp [putQ]
 | cons y l ih =>
  obtain ⟨h1, h2⟩ := List.pairwise_cons.1 h
  unfold putQ
  split
  ·rename_i hlt
   refine List.pairwise_cons.2 ⟨fun z hz => ?_, ih h2⟩
   rcases (mem_putQ l t z).1 hz with rfl | hz
   ·exact hlt
   ·exact h1 z hz
  ·split
   ·exact h
   ·refine List.pairwise_cons.2 ⟨fun z hz => ?_, h⟩
    rcases List.mem_cons.1 hz with rfl | hz
    ·grind
    ·have := h1 z hz
     grind
def putAll (l : List Rat) : List Rat := l.foldl putQ []
theorem mem_foldQ (l m : List Rat) (x : Rat) : x ∈ l.foldl putQ m ↔ x ∈ m ∨ x ∈ l := by
 induction l generalizing m with
 | nil => simp
 | cons y l ih => rw [List.foldl_cons, ih, mem_putQ, List.mem_cons];grind
theorem asc_foldQ (l m : List Rat) (h : m.Pairwise (· < ·)) : (l.foldl putQ m).Pairwise (· < ·) := by
 induction l generalizing m with
 | nil => exact h
 | cons y l ih => exact ih _ (asc_putQ _ _ h)
theorem mem_putAll (l : List Rat) (x : Rat) : x ∈ putAll l ↔ x ∈ l := by unfold putAll;rw [mem_foldQ];simp
theorem asc_putAll (l : List Rat) : (putAll l).Pairwise (· < ·) := asc_foldQ l [] (by simp)
theorem asc_uniq : ∀ (l m : List Rat), l.Pairwise (· < ·) → m.Pairwise (· < ·) → (∀ x, x ∈ l ↔ x ∈ m) → l = m
 | [], [], _, _, _ => rfl
 | [], y :: m, _, _, h => absurd ((h y).2 (by simp)) (by simp)
 | x :: l, [], _, _, h => absurd ((h x).1 (by simp)) (by simp)
 | x :: l, y :: m, hl, hm, h => by
  obtain ⟨l1, l2⟩ := List.pairwise_cons.1 hl
  obtain ⟨m1, m2⟩ := List.pairwise_cons.1 hm
  have hxy : x = y := by
   rcases List.mem_cons.1 ((h x).1 (by simp)) with e | e
   ·exact e
   ·rcases List.mem_cons.1 ((h y).2 (by simp)) with e2 | e2
    ·exact e2.symm
    ·have := l1 y e2
     have := m1 x e
     grind
  subst hxy
  refine congrArg (x :: ·) (asc_uniq l m l2 m2 fun z => ⟨fun hz => ?_, fun hz => ?_⟩)
  ·rcases List.mem_cons.1 ((h z).1 (List.mem_cons_of_mem _ hz)) with e | e
   ·subst e;exact absurd (l1 z hz) (by grind)
   ·exact e
  ·rcases List.mem_cons.1 ((h z).2 (List.mem_cons_of_mem _ hz)) with e | e
   ·subst e;exact absurd (m1 z hz) (by grind)
   ·exact e
theorem cN_asc (l : List Rat) (hs : l.Pairwise (· ≤ ·)) : ∀ (n : Nat), n ≤ l.length → (cN l n).Pairwise (· < ·) ∧ ∀ x, x ∈ cN l n ↔ x ∈ l.take n
 | 0, _ => by simp [cN]
 | n + 1, h => by
  obtain ⟨h1, h2⟩ := cN_asc l hs n (by omega)
  have hx : l[n]? = some l[n] := List.getElem?_eq_getElem (by omega)
  have htk : l.take (n + 1) = l.take n ++ [l[n]] := by rw [List.take_add_one, hx];rfl
  by_cases hd : n ≠ 0 ∧ l[n - 1]? = some l[n]
  ·rw [cN_same hx hd.1 hd.2]
   refine ⟨h1, fun x => ?_⟩
   rw [h2, htk, List.mem_append, List.mem_singleton]
   refine ⟨.inl, fun hh => hh.elim id fun e => ?_⟩
   rw [List.mem_iff_getElem?]
   exact ⟨n - 1, by rw [List.getElem?_take, if_pos (by omega), hd.2, e]⟩
  ·rw [cN_diff hx fun h0 e => hd ⟨h0, e⟩]
   refine ⟨List.pairwise_append.2 ⟨h1, by simp, fun y hy z hz => ?_⟩, fun x => ?_⟩
   ·rw [List.mem_singleton] at hz
    subst hz
    have hy' := (h2 y).1 hy
    obtain ⟨j, hj, hjy⟩ := List.getElem_of_mem hy'
    rw [List.length_take] at hj
    rw [List.getElem_take] at hjy
    subst hjy
    have hpw := List.pairwise_iff_getElem.1 hs
    have g1 : l[j] ≤ l[n - 1]'(by omega) := by
     by_cases e : j = n - 1
     ·subst e;exact Rat.le_refl
     ·exact hpw j (n - 1) _ _ (by omega)
    have g2 : l[n - 1]'(by omega) ≤ l[n] := hpw (n - 1) n _ _ (by omega)
    have g3 : l[n - 1]'(by omega) ≠ l[n] := fun e => hd ⟨by omega, by rw [List.getElem?_eq_getElem (by omega), e]⟩
    grind
   ·rw [List.mem_append, h2, htk, List.mem_append]
theorem cN_all (L l : List Rat) (hp : l.Perm L) (hs : l.Pairwise (· ≤ ·)) : cN l l.length = putAll L := by
 obtain ⟨h1, h2⟩ := cN_asc l hs l.length (Nat.le_refl _)
 refine asc_uniq _ _ h1 (asc_putAll L) fun x => ?_
 rw [h2, List.take_length, mem_putAll, hp.mem_iff]
theorem compact_sorted (L l : List Rat) (hp : l.Perm L) (hs : l.Pairwise (· ≤ ·)) (hn : L.length ≤ 1000000) : FnMut Tryz.prog 148 2 L.length (cellsF l) (putAll L).length (cellsF (putAll L)) := by
 have h := compact_fracs l (by rw [hp.length_eq];exact hn)
 rw [cN_all L l hp hs, hp.length_eq] at h
 exact h
def rT (b st : Nat) : Nat → AV
 | 0 => .val (.slice none 0 0)
 | n + 1 => .own b 0 (n + 1) st
def rB (cells : List AV) : Nat → HB
 | 0 => .dead
 | _ + 1 => .live cells
theorem rT_pos {b st n : Nat} (h : 0 < n) : rT b st n = .own b 0 n st := by cases n <;> first | omega | rfl
theorem rB_pos {cells : List AV} {n : Nat} (h : 0 < n) : rB cells n = .live cells := by cases n <;> first | omega | rfl
def timesQ (a b : List PcQ) : List Rat := putAll ((a ++ b).map (·.f))
def jP (op : Rat → Rat → Rat) (a b : List PcQ) (t : Rat) : PcQ := ⟨t, kQ (op (atP a t).a (atP b t).a), kQ (op (atP a t).b (atP b t).b), kQ (op (atP a t).c (atP b t).c)⟩
def jE (op : Rat → Rat → Rat) (a b : List PcQ) (t : Rat) (e : Int) : Int := kE (op (atP a t).c (atP b t).c) (kE (op (atP a t).b (atP b t).b) (kE (op (atP a t).a (atP b t).a) (atPE b t (atPE a t e))))
def jEs (op : Rat → Rat → Rat) (a b : List PcQ) (l : List Rat) : Int := l.foldl (fun e t => jE op a b t e) 0
def joinA (op : Rat → Rat → Rat) (a b : List PcQ) : AV :=
 if 200 < (timesQ a b).length then .tup [.sl [], .i 4] else if jEs op a b (timesQ a b) = 0 then .tup [.sl (((timesQ a b).map (jP op a b)).map PcQ.row), .i 0] else .tup [.sl [], .i (jEs op a b (timesQ a b))]
theorem pcAt_okD (l : List PcQ) (k : Nat) (hl : okC l) : (pcAt l k).ok := by
 unfold pcAt
 rw [List.getD_eq_getElem?_getD]
 cases h : l[k]? with
 | none => exact ⟨Fits.zero, Fits.zero, Fits.zero, Fits.zero⟩
 | some x => exact hl x (List.mem_of_getElem? h)
theorem atP_okD (l : List PcQ) (t : Rat) (hl : okC l) (h0 : l ≠ []) (ht : Fits t) : (atP l t).ok := by
 have hp : ∀ k, (pcAt l k).ok := fun k => pcAt_okD l k hl
 unfold atP
 split
 ·exact ⟨ht, (hp _).a, Fits.zero, Fits.zero⟩
 ·refine ⟨ht, ?_, ?_, (hp _).c⟩
  ·unfold atQ;split <;> first | exact (hp _).a | exact kQ_fits _
  ·unfold atS;split <;> first | exact Fits.zero | exact kQ_fits _
theorem timesQ_fits (a b : List PcQ) (ha : okC a) (hb : okC b) : ∀ t ∈ timesQ a b, Fits t := fun t ht => by
 rw [timesQ, mem_putAll] at ht
 obtain ⟨p, hp, rfl⟩ := List.mem_map.1 ht
 rcases List.mem_append.1 hp with h | h
 ·exact (ha p h).f
 ·exact (hb p h).f
theorem own_fa (l : List Rat) : OwnRows (fa l) 0 l.length 2 (l.map frR) := by
 have := OwnRows.of (l.map frR).flatten (frR_row l) rfl
 rw [List.length_map] at this
 exact this
end Go.Proofs.YtlncmkafjjomgaaGreat
