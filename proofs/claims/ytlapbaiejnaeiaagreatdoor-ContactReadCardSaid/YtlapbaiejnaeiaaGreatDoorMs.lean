/- The example of the chapter on cues is a right one. No conditions but those of each statement. -/
import Derived.Test.YtlapbaiejnaeiaaGreatDoorMr
set_option linter.unusedSimpArgs false
set_option linter.unusedVariables false
namespace Go.Proofs.YtlapbaiejnaeiaaGreatDoor
open Go.RowKit
def Do (h : HouseR) : List Int := h.sets.map SetR.high
def C7 (h : HouseR) (c : SheetR) (k : Nat) : List Int := (c.cues.take k).foldl (fun l q => B5 h l q.moves) (Do h)
theorem N0 {h : HouseR} {c : SheetR} {k : Nat} {q : CueR} (hq : c.cues[k]? = some q) : C7 h c (k + 1) = B5 h (C7 h c k) q.moves := by
 unfold C7
 rw [List.take_add_one, hq]
 simp
def Dj (h : HouseR) (c : SheetR) (n : Nat) : List (List Int) := (List.range n).map (C7 h c)
def Iw (l : List Int) : List Lf := [.sl (l.map A1)]
theorem Qs {h : HouseR} {l : List Int} {i : Nat} {n : Int} (ht : Bv h l) (hn : ∀ s, h.sets[i]? = some s -> s.low <= n /\ n <= s.high) : Bv h (l.set i n) := fun j x s hj hs => by
 rw [List.getElem?_set] at hj
 by_cases e : i = j
 ·rw [if_pos e] at hj
  subst e
  split at hj
  ·injection hj with hj
   subst hj
   exact hn s hs
  ·cases hj
 ·rw [if_neg e] at hj
  exact ht j x s hj hs
theorem I3 {h : HouseR} {q : CueR} (hr : C0 h q) : ∀ (ms : List MoveR) (l : List Int), (∀ m ∈ ms, m ∈ q.moves) -> Bv h l -> Bv h (B5 h l ms)
 | [], l, _, ht => ht
 | m :: ms, l, hm, ht => by
  have ih := I3 hr ms (l.set (As h m.set).toNat m.to) (fun x hx => hm x (by simp [hx])) (Qs ht fun s hs => by
   obtain ⟨_, t, _, h3, h4, h5⟩ := hr.2.2.2.2.2.1 m (hm m (by simp))
   rw [hs] at h3
   injection h3 with h3
   subst h3
   exact ⟨h4, h5⟩)
  exact ih
theorem validP.cue {h : HouseR} {c : SheetR} (v : validP h c) {q : CueR} {k : Nat} (hq : c.cues[k]? = some q) : C0 h q := (v.2.2.1 k q hq).2.1
theorem Wd {h : HouseR} (hh : Bx h) : Bv h (Do h) := fun i n s h1 h2 => by
 unfold Do at h1
 rw [List.getElem?_map, h2] at h1
 simp only [Option.map_some, Option.some.injEq] at h1
 subst h1
 obtain ⟨_, _, _, _, _, hs, _⟩ := hh
 obtain ⟨⟨_, _, _, s2, _⟩, _⟩ := hs s (List.mem_of_getElem? h2)
 exact ⟨s2, Int.le_refl _⟩
theorem Rb {h : HouseR} {c : SheetR} (v : validP h c) : ∀ k, k <= c.cues.length -> (C7 h c k).length = h.sets.length /\ Bv h (C7 h c k)
 | 0, _ => ⟨by simp [C7, Do], by show Bv h (Do h);exact Wd v.1⟩
 | k + 1, hk => by
  obtain ⟨i1, i2⟩ := Rb v k (by omega)
  obtain ⟨q, hq⟩ := Ac (l := c.cues) (k := k) (by omega)
  rw [N0 hq]
  exact ⟨by rw [F2];exact i1, I3 (v.cue hq) q.moves _ (fun m hm => hm) i2⟩
theorem N1 {h : HouseR} {c : SheetR} (v : validP h c) {k : Nat} {q : CueR} (hq : c.cues[k]? = some q) : GivenOk h (C7 h c k) q := by
 have hk : k < c.cues.length := (List.getElem?_eq_some_iff.1 hq).1
 obtain ⟨i1, i2⟩ := Rb v k (by omega)
 exact ⟨v.1, v.cue hq, i1, i2⟩
theorem S.nilT {P : Program} {N : Nat} {c : Code} {Q : Exit -> St -> Prop} {tm : Tm} {H : AH} (q : Nat) (ht : tm.get q = some (.val (.slice none 0 0))) (h : T P N c ⟨(q, .sl []) :: tm, H⟩ Q) : T P N c ⟨tm, H⟩ Q :=
 ⟨fun E a w ρ hE hR => h.out E a w ρ hE ⟨hR.size, hR.defers, fun t x hx => by
  rw [Tm.get_cons] at hx
  obtain ⟨h1, h2⟩ := hR.tm q _ ht
  by_cases e : q = t
  ·rw [if_pos e] at hx
   injection hx with hx
   subst hx e
   refine ⟨h1, ?_⟩
   have := h2.val_eq
   rw [this]
   exact .lf _ _ .slnil
  ·rw [if_neg e] at hx
   exact hR.tm t x hx, hR.H, hR.fr, hR.mine, hR.lim⟩⟩
def Xj : Nat -> AV
 | 0 => .val (.slice none 0 0)
 | k + 1 => .own 2 0 (k + 1) 1
def Xi (l : List SetR) : Nat -> HB
 | 0 => .dead
 | k + 1 => .live (A6 ((l.take (k + 1)).map SetR.high))
theorem J9 {l : List SetR} {k : Nat} {x : SetR} (h : l.take (k + 1) = l.take k ++ [x]) : A6 ((l.take (k + 1)).map SetR.high) = A6 ((l.take k).map SetR.high) ++ ([A1 x.high].flatten).map AV.lf := by
 rw [h];simp [A6]
theorem Uj {h : HouseR} {k : Nat} (hk : k = h.sets.length) : OwnRows (A6 ((h.sets.take k).map SetR.high)) 0 k 1 ((Do h).map A1) := by
 have ht : h.sets.take k = h.sets := List.take_of_length_le (by omega)
 rw [ht]
 have := OwnRows.of ((Do h).map A1).flatten (Bn (Do h)) rfl
 rw [List.length_map, Do, List.length_map, <- hk] at this
 exact this
theorem Sx {P : Program} {N : Nat} {c : Code} {Q : Exit -> St -> Prop} {tm : Tm} {H : AH} {h : HouseR} {k : Nat} (hk : k = h.sets.length) (ht : tm.get 6 = some (Xj k)) (hb : H.at 2 = Xi h.sets k) (hT : T P N c ⟨(6, .sl ((Do h).map A1)) :: tm, H.put 2 .dead⟩ Q) : T P N c ⟨tm, H⟩ Q := by
 cases k with
 | zero =>
  have h0 : (Do h).map A1 = [] := by rw [Do, List.eq_nil_of_length_eq_zero hk.symm];rfl
  rw [h0] at hT
  exact S.nilT 6 ht (T.kill 2 hT (by rw [hb];rfl))
 | succ k => exact T.freeze 6 ht hb (Uj hk) hT
theorem Pr (l : List (List Int)) : ∀ r ∈ l.map Iw, r.length = 1 := by
 intro r hr
 obtain ⟨n, _, rfl⟩ := List.mem_map.1 hr
 rfl
abbrev Ff (h : HouseR) (c : SheetR) (n : Nat) : List AV := ((Dj h c n).map Iw).flatten.map .lf
theorem Rw (h : HouseR) (c : SheetR) (n : Nat) : (Ff h c n).length = n * 1 := by
 rw [List.length_map, Av _ (Pr _), List.length_map];simp [Dj]
theorem Q8 (h : HouseR) (c : SheetR) (n : Nat) : Ff h c (n + 1) = Ff h c n ++ ([Iw (C7 h c n)].flatten).map AV.lf := by
 simp [Ff, Dj, List.range_succ]
set_option maxHeartbeats 16000000 in
theorem O4 (h : HouseR) (c : SheetR) (hf : h.fits) (hc : c.fits) (v : validP h c) : Fn0 Tryz.prog 113 [A4 h.row, A4 c.row] (.tup [.sl ((Dj h c (c.cues.length + 1)).map Iw), .i 0]) := by
 have cv := Mm h c hf hc
 rw [decide_eq_true v] at cv
 obtain ⟨_, _, _, hs60, _⟩ := v.1
 have hc60 := v.2.1
 have hle : (h.sets.map SetR.row).length = h.sets.length := List.length_map _
 have hle2 : (c.cues.map CueR.row).length = c.cues.length := List.length_map _
 refine Fn0.of Tryz.func113 Tryz.ntmps113 rfl rfl rfl ?_
 simp only [A0]
 repeat' (first | refine W ?_|refine Zc cv ?_ | refine V ?_|(refine W2 ?_ ?_ <;> intro hc))
 refine T.kill 2 ?_
 refine T.loopS (fun k => k <= h.sets.length) (fun k => h.sets.length - k) (fun k => [(19, .i k), (18, .i (h.sets.map SetR.row).length), (17, .sl (h.sets.map SetR.row)), (6, Xj k), (2, .ptr 0 0), (3, .ptr 1 0)]) (fun k => [.live (h.row.map .lf), .live (c.row.map .lf), Xi h.sets k]) 0 (Nat.zero_le _) CV CH ?_
 intro k hk
 by_cases hlt : k < h.sets.length
 ·have h1 : (k : Int) < ((h.sets.map SetR.row).length : Nat) := by omega
  obtain ⟨x, hx⟩ := Ac hlt
  have hb := Ae (R := SetR.row) hx
  have hsn := Bd hx
  cases k with
  | zero =>
   repeat' (first | refine W ?_|refine Zi hb ?_|(apply S.buildSlice1;(iterate 7 exact rfl))|(apply S.appendN 2 (rows := []);(iterate 8 exact rfl);exact A7 rfl;exact rfl;exact Nat.le_of_ble_eq_true rfl;exact Nat.le_of_ble_eq_true rfl)|refine Za ?_ | refine V ?_|(refine W2 ?_ ?_ <;> intro hc))
   change Next _ _ _ _ _ _
   exact Next.go 1 (by omega) (by omega) CV (by
    show CovH _ _ [_, _, .live (A6 ((h.sets.take (0 + 1)).map SetR.high))]
    rw [J9 hsn]
    exact .live rfl CH)
  | succ k =>
   have hcl : (A6 ((h.sets.take (k + 1)).map SetR.high)).length = (k + 1) * 1 := by rw [Bw, List.length_map, List.length_take];omega
   repeat' (first | refine W ?_|refine Zi hb ?_|(apply S.buildSlice1;(iterate 7 exact rfl))|(apply S.appendO;(iterate 8 exact rfl);exact hcl;exact A7 rfl;exact rfl;exact Ag _ _;simp only [List.length_cons, List.length_nil];omega;simp only [List.length_cons, List.length_nil];omega)|refine Za ?_ | refine V ?_|(refine W2 ?_ ?_ <;> intro hc))
   change Next _ _ _ _ _ _
   exact Next.go (k + 2) (by omega) (by omega) CV (by
    show CovH _ _ [_, _, .live (A6 ((h.sets.take (k + 1 + 1)).map SetR.high))]
    rw [J9 hsn]
    exact .live rfl (.live rfl (.live (by rw [<- List.map_append];exact Ao _ _) .nil)))
 ·have h1 : ¬ (k : Int) < ((h.sets.map SetR.row).length : Nat) := by omega
  refine Sx (h := h) (k := k) (by omega) rfl rfl ?_
  repeat' (first | refine W ?_|(apply S.buildSliceO;(iterate 6 exact rfl)) | refine V ?_|(refine W2 ?_ ?_ <;> intro hc))
  refine T.loopS (fun k => k <= c.cues.length) (fun k => c.cues.length - k) (fun k => [(34, .i k), (33, .i (c.cues.map CueR.row).length), (32, .sl (c.cues.map CueR.row)), (6, .sl ((C7 h c k).map A1)), (9, .own 3 0 (k + 1) 1), (2, .ptr 0 0), (3, .ptr 1 0)]) (fun k => [.live (h.row.map .lf), .live (c.row.map .lf), .dead, .live (Ff h c (k + 1))]) 0 (Nat.zero_le _) CV CH ?_
  intro j hj
  by_cases hlt2 : j < c.cues.length
  ·have h2 : (j : Int) < ((c.cues.map CueR.row).length : Nat) := by omega
   obtain ⟨y, hy⟩ := Ac hlt2
   have hb2 := Ae (R := CueR.row) hy
   have cm := Tv h (C7 h c j) y hf (by have := hc.2.2 y (List.mem_of_getElem? hy);omega) (N1 v hy)
   rw [<- N0 hy] at cm
   have hct := Rw h c (j + 1)
   repeat' (first | refine W ?_|refine Zi hb2 ?_|(apply S.buildSlice1;(iterate 7 exact rfl))|(apply S.appendO;(iterate 8 exact rfl);exact hct;exact A7 rfl;exact rfl;exact Ag _ _;simp only [List.length_cons, List.length_nil];omega;simp only [List.length_cons, List.length_nil];omega)|refine Zc cm ?_|refine Za ?_ | refine V ?_|(refine W2 ?_ ?_ <;> intro hc))
   change Next _ _ _ _ _ _
   exact Next.go (j + 1) (by omega) (by omega) CV (by
    show CovH _ _ [_, _, _, .live (Ff h c (j + 1 + 1))]
    rw [Q8]
    exact .live rfl (.live rfl (.dead (.live (by rw [<- List.map_append];exact Ao _ _) .nil))))
  ·have h2 : ¬ (j : Int) < ((c.cues.map CueR.row).length : Nat) := by omega
   have hj2 : j = c.cues.length := by omega
   repeat' (first | refine W ?_ | refine V ?_|(refine W2 ?_ ?_ <;> intro hc))
   refine ⟨.inr rfl, [_, _], .cons (.tmp rfl) (.cons (.tmp rfl) .nil), .tup (.cons (.one (.own (cells := Ff h c (j + 1)) (rows := (Dj h c (c.cues.length + 1)).map Iw) rfl ?_)) (.cons (.one (.lf _)) .nil))⟩
   have := OwnRows.of ((Dj h c (j + 1)).map Iw).flatten (Pr _) rfl
   rw [List.length_map, Dj, List.length_map, List.length_range] at this
   rw [<- hj2]
   exact this
end Go.Proofs.YtlapbaiejnaeiaaGreatDoor
