/- The example of the chapter on cues is a right one. No conditions but those of each statement. -/
import Derived.Test.YtbceahipbdmocaaGreatMr
set_option linter.unusedSimpArgs false
set_option linter.unusedVariables false
namespace Go.Proofs.YtbceahipbdmocaaGreat
open Go.RowKit
def G1 (h : HouseR) : List Int := h.sets.map SetR.high
def Cv (h : HouseR) (c : SheetR) (k : Nat) : List Int := (c.cues.take k).foldl (fun l q => Bs h l q.moves) (G1 h)
theorem Vj {h : HouseR} {c : SheetR} {k : Nat} {q : CueR} (hq : c.cues[k]? = some q) : Cv h c (k + 1) = Bs h (Cv h c k) q.moves := by
 unfold Cv
 rw [List.take_add_one, hq]
 simp
def F9 (h : HouseR) (c : SheetR) (n : Nat) : List (List Int) := (List.range n).map (Cv h c)
def O6 (l : List Int) : List Lf := [.sl (l.map A3)]
theorem Zl {h : HouseR} {l : List Int} {i : Nat} {n : Int} (ht : Dg h l) (hn : ∀ s, h.sets[i]? = some s -> s.low <= n /\ n <= s.high) : Dg h (l.set i n) := fun j x s hj hs => by
 rw [List.getElem?_set] at hj
 by_cases e : i = j
 ·rw [if_pos e] at hj
  subst e
  split at hj
  ·injection hj with hj
   subst hj
   exact hn s hs
  ·cases hj
 ·rw [if_neg e] at hj
  exact ht j x s hj hs
theorem Nj {h : HouseR} {q : CueR} (hr : Dq h q) : ∀ (ms : List MoveR) (l : List Int), (∀ m ∈ ms, m ∈ q.moves) -> Dg h l -> Dg h (Bs h l ms)
 | [], l, _, ht => ht
 | m :: ms, l, hm, ht => by
  have ih := Nj hr ms (l.set (Aj h m.set).toNat m.to) (fun x hx => hm x (by simp [hx])) (Zl ht fun s hs => by
   obtain ⟨_, t, _, h3, h4, h5⟩ := hr.2.2.2.2.2.1 m (hm m (by simp))
   rw [hs] at h3
   injection h3 with h3
   subst h3
   exact ⟨h4, h5⟩)
  exact ih
theorem validP.cue {h : HouseR} {c : SheetR} (v : validP h c) {q : CueR} {k : Nat} (hq : c.cues[k]? = some q) : Dq h q := (v.2.2.1 k q hq).2.1
theorem A7m {h : HouseR} (hh : C0 h) : Dg h (G1 h) := fun i n s h1 h2 => by
 unfold G1 at h1
 rw [List.getElem?_map, h2] at h1
 simp only [Option.map_some, Option.some.injEq] at h1
 subst h1
 obtain ⟨_, _, _, _, _, hs, _⟩ := hh
 obtain ⟨⟨_, _, _, s2, _⟩, _⟩ := hs s (List.mem_of_getElem? h2)
 exact ⟨s2, Int.le_refl _⟩
theorem A0p {h : HouseR} {c : SheetR} (v : validP h c) : ∀ k, k <= c.cues.length -> (Cv h c k).length = h.sets.length /\ Dg h (Cv h c k)
 | 0, _ => ⟨by simp [Cv, G1], by show Dg h (G1 h);exact A7m v.1⟩
 | k + 1, hk => by
  obtain ⟨i1, i2⟩ := A0p v k (by omega)
  obtain ⟨q, hq⟩ := Ab (l := c.cues) (k := k) (by omega)
  rw [Vj hq]
  exact ⟨by rw [Ir];exact i1, Nj (v.cue hq) q.moves _ (fun m hm => hm) i2⟩
theorem P3 {h : HouseR} {c : SheetR} (v : validP h c) {k : Nat} {q : CueR} (hq : c.cues[k]? = some q) : GivenOk h (Cv h c k) q := by
 have hk : k < c.cues.length := (List.getElem?_eq_some_iff.1 hq).1
 obtain ⟨i1, i2⟩ := A0p v k (by omega)
 exact ⟨v.1, v.cue hq, i1, i2⟩
theorem S.nilT {P : Program} {N : Nat} {c : Code} {Q : Exit -> St -> Prop} {tm : Tm} {H : AH} (q : Nat) (ht : tm.get q = some (.val (.slice none 0 0))) (h : T P N c ⟨(q, .sl []) :: tm, H⟩ Q) : T P N c ⟨tm, H⟩ Q :=
 ⟨fun E a w ρ hE hR => h.out E a w ρ hE ⟨hR.size, hR.defers, fun t x hx => by
  rw [Tm.get_cons] at hx
  obtain ⟨h1, h2⟩ := hR.tm q _ ht
  by_cases e : q = t
  ·rw [if_pos e] at hx
   injection hx with hx
   subst hx e
   refine ⟨h1, ?_⟩
   have := h2.val_eq
   rw [this]
   exact .lf _ _ .slnil
  ·rw [if_neg e] at hx
   exact hR.tm t x hx, hR.H, hR.fr, hR.mine, hR.lim⟩⟩
def A9c : Nat -> AV
 | 0 => .val (.slice none 0 0)
 | k + 1 => .own 2 0 (k + 1) 1
def A9g (l : List SetR) : Nat -> HB
 | 0 => .dead
 | k + 1 => .live (Ae ((l.take (k + 1)).map SetR.high))
theorem Qj {l : List SetR} {k : Nat} {x : SetR} (h : l.take (k + 1) = l.take k ++ [x]) : Ae ((l.take (k + 1)).map SetR.high) = Ae ((l.take k).map SetR.high) ++ ([A3 x.high].flatten).map AV.lf := by
 rw [h];simp [Ae]
theorem A5h {h : HouseR} {k : Nat} (hk : k = h.sets.length) : OwnRows (Ae ((h.sets.take k).map SetR.high)) 0 k 1 ((G1 h).map A3) := by
 have ht : h.sets.take k = h.sets := List.take_of_length_le (by omega)
 rw [ht]
 have := OwnRows.of ((G1 h).map A3).flatten (Ck (G1 h)) rfl
 rw [List.length_map, G1, List.length_map, <- hk] at this
 exact this
theorem A1m {P : Program} {N : Nat} {c : Code} {Q : Exit -> St -> Prop} {tm : Tm} {H : AH} {h : HouseR} {k : Nat} (hk : k = h.sets.length) (ht : tm.get 6 = some (A9c k)) (hb : H.at 2 = A9g h.sets k) (hT : T P N c ⟨(6, .sl ((G1 h).map A3)) :: tm, H.put 2 .dead⟩ Q) : T P N c ⟨tm, H⟩ Q := by
 cases k with
 | zero =>
  have h0 : (G1 h).map A3 = [] := by rw [G1, List.eq_nil_of_length_eq_zero hk.symm];rfl
  rw [h0] at hT
  exact S.nilT 6 ht (T.kill 2 hT (by rw [hb];rfl))
 | succ k => exact T.freeze 6 ht hb (A5h hk) hT
theorem Z3 (l : List (List Int)) : ∀ r ∈ l.map O6, r.length = 1 := by
 intro r hr
 obtain ⟨n, _, rfl⟩ := List.mem_map.1 hr
 rfl
abbrev Jf (h : HouseR) (c : SheetR) (n : Nat) : List AV := ((F9 h c n).map O6).flatten.map .lf
theorem A22 (h : HouseR) (c : SheetR) (n : Nat) : (Jf h c n).length = n * 1 := by
 rw [List.length_map, B5 _ (Z3 _), List.length_map];simp [F9]
theorem Zy (h : HouseR) (c : SheetR) (n : Nat) : Jf h c (n + 1) = Jf h c n ++ ([O6 (Cv h c n)].flatten).map AV.lf := by
 simp [Jf, F9, List.range_succ]
set_option maxHeartbeats 16000000 in
theorem Zf (h : HouseR) (c : SheetR) (hf : h.fits) (hc : c.fits) (v : validP h c) : Fn0 Tryz.prog 87 [A2 h.row, A2 c.row] (.tup [.sl ((F9 h c (c.cues.length + 1)).map O6), .i 0]) := by
 have cv := V7 h c hf hc
 rw [decide_eq_true v] at cv
 obtain ⟨_, _, _, hs60, _⟩ := v.1
 have hc60 := v.2.1
 have hle : (h.sets.map SetR.row).length = h.sets.length := List.length_map _
 have hle2 : (c.cues.map CueR.row).length = c.cues.length := List.length_map _
 refine Fn0.of Tryz.func87 Tryz.ntmps87 rfl rfl rfl ?_
 simp only [A1]
 repeat' (first | refine W ?_|refine Zc cv ?_ | refine V ?_|(refine W2 ?_ ?_ <;> intro hc))
 refine T.kill 2 ?_
 refine T.loopS (fun k => k <= h.sets.length) (fun k => h.sets.length - k) (fun k => [(19, .i k), (18, .i (h.sets.map SetR.row).length), (17, .sl (h.sets.map SetR.row)), (6, A9c k), (2, .ptr 0 0), (3, .ptr 1 0)]) (fun k => [.live (h.row.map .lf), .live (c.row.map .lf), A9g h.sets k]) 0 (Nat.zero_le _) CV CH ?_
 intro k hk
 by_cases hlt : k < h.sets.length
 ·have h1 : (k : Int) < ((h.sets.map SetR.row).length : Nat) := by omega
  obtain ⟨x, hx⟩ := Ab hlt
  have hb := Ac (R := SetR.row) hx
  have hsn := B9 hx
  cases k with
  | zero =>
   repeat' (first | refine W ?_|refine Zi hb ?_|(apply S.buildSlice1;(iterate 7 exact rfl))|(apply S.appendN 2 (rows := []);(iterate 8 exact rfl);exact Ai rfl;exact rfl;exact Nat.le_of_ble_eq_true rfl;exact Nat.le_of_ble_eq_true rfl)|refine Za ?_ | refine V ?_|(refine W2 ?_ ?_ <;> intro hc))
   change Next _ _ _ _ _ _
   exact Next.go 1 (by omega) (by omega) CV (by
    show CovH _ _ [_, _, .live (Ae ((h.sets.take (0 + 1)).map SetR.high))]
    rw [Qj hsn]
    exact .live rfl CH)
  | succ k =>
   have hcl : (Ae ((h.sets.take (k + 1)).map SetR.high)).length = (k + 1) * 1 := by rw [Cu, List.length_map, List.length_take];omega
   repeat' (first | refine W ?_|refine Zi hb ?_|(apply S.buildSlice1;(iterate 7 exact rfl))|(apply S.appendO;(iterate 8 exact rfl);exact hcl;exact Ai rfl;exact rfl;exact Aw _ _;simp only [List.length_cons, List.length_nil];omega;simp only [List.length_cons, List.length_nil];omega)|refine Za ?_ | refine V ?_|(refine W2 ?_ ?_ <;> intro hc))
   change Next _ _ _ _ _ _
   exact Next.go (k + 2) (by omega) (by omega) CV (by
    show CovH _ _ [_, _, .live (Ae ((h.sets.take (k + 1 + 1)).map SetR.high))]
    rw [Qj hsn]
    exact .live rfl (.live rfl (.live (by rw [<- List.map_append];exact Ak _ _) .nil)))
 ·have h1 : ¬ (k : Int) < ((h.sets.map SetR.row).length : Nat) := by omega
  refine A1m (h := h) (k := k) (by omega) rfl rfl ?_
  repeat' (first | refine W ?_|(apply S.buildSliceO;(iterate 6 exact rfl)) | refine V ?_|(refine W2 ?_ ?_ <;> intro hc))
  refine T.loopS (fun k => k <= c.cues.length) (fun k => c.cues.length - k) (fun k => [(34, .i k), (33, .i (c.cues.map CueR.row).length), (32, .sl (c.cues.map CueR.row)), (6, .sl ((Cv h c k).map A3)), (9, .own 3 0 (k + 1) 1), (2, .ptr 0 0), (3, .ptr 1 0)]) (fun k => [.live (h.row.map .lf), .live (c.row.map .lf), .dead, .live (Jf h c (k + 1))]) 0 (Nat.zero_le _) CV CH ?_
  intro j hj
  by_cases hlt2 : j < c.cues.length
  ·have h2 : (j : Int) < ((c.cues.map CueR.row).length : Nat) := by omega
   obtain ⟨y, hy⟩ := Ab hlt2
   have hb2 := Ac (R := CueR.row) hy
   have cm := A3v h (Cv h c j) y hf (by have := hc.2.2 y (List.mem_of_getElem? hy);omega) (P3 v hy)
   rw [<- Vj hy] at cm
   have hct := A22 h c (j + 1)
   repeat' (first | refine W ?_|refine Zi hb2 ?_|(apply S.buildSlice1;(iterate 7 exact rfl))|(apply S.appendO;(iterate 8 exact rfl);exact hct;exact Ai rfl;exact rfl;exact Aw _ _;simp only [List.length_cons, List.length_nil];omega;simp only [List.length_cons, List.length_nil];omega)|refine Zc cm ?_|refine Za ?_ | refine V ?_|(refine W2 ?_ ?_ <;> intro hc))
   change Next _ _ _ _ _ _
   exact Next.go (j + 1) (by omega) (by omega) CV (by
    show CovH _ _ [_, _, _, .live (Jf h c (j + 1 + 1))]
    rw [Zy]
    exact .live rfl (.live rfl (.dead (.live (by rw [<- List.map_append];exact Ak _ _) .nil))))
  ·have h2 : ¬ (j : Int) < ((c.cues.map CueR.row).length : Nat) := by omega
   have hj2 : j = c.cues.length := by omega
   repeat' (first | refine W ?_ | refine V ?_|(refine W2 ?_ ?_ <;> intro hc))
   refine ⟨.inr rfl, [_, _], .cons (.tmp rfl) (.cons (.tmp rfl) .nil), .tup (.cons (.one (.own (cells := Jf h c (j + 1)) (rows := (F9 h c (c.cues.length + 1)).map O6) rfl ?_)) (.cons (.one (.lf _)) .nil))⟩
   have := OwnRows.of ((F9 h c (j + 1)).map O6).flatten (Z3 _) rfl
   rw [List.length_map, F9, List.length_map, List.length_range] at this
   rw [<- hj2]
   exact this
end Go.Proofs.YtbceahipbdmocaaGreat
