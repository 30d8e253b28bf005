/- The example of the chapter on cues is a right one. No conditions but those of each statement. -/
import Derived.Test.YtcbfnkgodiaiiaaGreatMr
set_option linter.unusedSimpArgs false
set_option linter.unusedVariables false
namespace Go.Proofs.YtcbfnkgodiaiiaaGreat
open Go.RowKit
def Fl (h : HouseR) : List Int := h.sets.map SetR.high
def Ax (h : HouseR) (c : SheetR) (k : Nat) : List Int := (c.cues.take k).foldl (fun l q => Bd h l q.moves) (Fl h)
theorem Ou {h : HouseR} {c : SheetR} {k : Nat} {q : CueR} (hq : c.cues[k]? = some q) : Ax h c (k + 1) = Bd h (Ax h c k) q.moves := by
 unfold Ax
 rw [List.take_add_one, hq]
 simp
def G2 (h : HouseR) (c : SheetR) (n : Nat) : List (List Int) := (List.range n).map (Ax h c)
def P4 (l : List Int) : List Lf := [.sl (l.map A3)]
theorem A06 {h : HouseR} {l : List Int} {i : Nat} {n : Int} (ht : Dw h l) (hn : ∀ s, h.sets[i]? = some s -> s.low <= n /\ n <= s.high) : Dw h (l.set i n) := fun j x s hj hs => by
 rw [List.getElem?_set] at hj
 by_cases e : i = j
 ·rw [if_pos e] at hj
  subst e
  split at hj
  ·injection hj with hj
   subst hj
   exact hn s hs
  ·cases hj
 ·rw [if_neg e] at hj
  exact ht j x s hj hs
theorem Nt {h : HouseR} {q : CueR} (hr : E8 h q) : ∀ (ms : List MoveR) (l : List Int), (∀ m ∈ ms, m ∈ q.moves) -> Dw h l -> Dw h (Bd h l ms)
 | [], l, _, ht => ht
 | m :: ms, l, hm, ht => by
  have ih := Nt hr ms (l.set (Ad h m.set).toNat m.to) (fun x hx => hm x (by simp [hx])) (A06 ht fun s hs => by
   obtain ⟨_, t, _, h3, h4, h5⟩ := hr.2.2.2.2.2.1 m (hm m (by simp))
   rw [hs] at h3
   injection h3 with h3
   subst h3
   exact ⟨h4, h5⟩)
  exact ih
theorem validP.cue {h : HouseR} {c : SheetR} (v : validP h c) {q : CueR} {k : Nat} (hq : c.cues[k]? = some q) : E8 h q := (v.2.2.1 k q hq).2.1
theorem A8n {h : HouseR} (hh : C8 h) : Dw h (Fl h) := fun i n s h1 h2 => by
 unfold Fl at h1
 rw [List.getElem?_map, h2] at h1
 simp only [Option.map_some, Option.some.injEq] at h1
 subst h1
 obtain ⟨_, _, _, _, _, hs, _⟩ := hh
 obtain ⟨⟨_, _, _, s2, _⟩, _⟩ := hs s (List.mem_of_getElem? h2)
 exact ⟨s2, Int.le_refl _⟩
theorem A0l {h : HouseR} {c : SheetR} (v : validP h c) : ∀ k, k <= c.cues.length -> (Ax h c k).length = h.sets.length /\ Dw h (Ax h c k)
 | 0, _ => ⟨by simp [Ax, Fl], by show Dw h (Fl h);exact A8n v.1⟩
 | k + 1, hk => by
  obtain ⟨i1, i2⟩ := A0l v k (by omega)
  obtain ⟨q, hq⟩ := A9 (l := c.cues) (k := k) (by omega)
  rw [Ou hq]
  exact ⟨by rw [Hz];exact i1, Nt (v.cue hq) q.moves _ (fun m hm => hm) i2⟩
theorem Er {h : HouseR} {c : SheetR} (v : validP h c) {k : Nat} {q : CueR} (hq : c.cues[k]? = some q) : GivenOk h (Ax h c k) q := by
 have hk : k < c.cues.length := (List.getElem?_eq_some_iff.1 hq).1
 obtain ⟨i1, i2⟩ := A0l v k (by omega)
 exact ⟨v.1, v.cue hq, i1, i2⟩
theorem S.nilT {P : Program} {N : Nat} {c : Code} {Q : Exit -> St -> Prop} {tm : Tm} {H : AH} (q : Nat) (ht : tm.get q = some (.val (.slice none 0 0))) (h : T P N c ⟨(q, .sl []) :: tm, H⟩ Q) : T P N c ⟨tm, H⟩ Q :=
 ⟨fun E a w ρ hE hR => h.out E a w ρ hE ⟨hR.size, hR.defers, fun t x hx => by
  rw [Tm.get_cons] at hx
  obtain ⟨h1, h2⟩ := hR.tm q _ ht
  by_cases e : q = t
  ·rw [if_pos e] at hx
   injection hx with hx
   subst hx e
   refine ⟨h1, ?_⟩
   have := h2.val_eq
   rw [this]
   exact .lf _ _ .slnil
  ·rw [if_neg e] at hx
   exact hR.tm t x hx, hR.H, hR.fr, hR.mine, hR.lim⟩⟩
def Aak : Nat -> AV
 | 0 => .val (.slice none 0 0)
 | k + 1 => .own 2 0 (k + 1) 1
def Aai (l : List SetR) : Nat -> HB
 | 0 => .dead
 | k + 1 => .live (Aa ((l.take (k + 1)).map SetR.high))
theorem Qy {l : List SetR} {k : Nat} {x : SetR} (h : l.take (k + 1) = l.take k ++ [x]) : Aa ((l.take (k + 1)).map SetR.high) = Aa ((l.take k).map SetR.high) ++ ([A3 x.high].flatten).map AV.lf := by
 rw [h];simp [Aa]
theorem A66 {h : HouseR} {k : Nat} (hk : k = h.sets.length) : OwnRows (Aa ((h.sets.take k).map SetR.high)) 0 k 1 ((Fl h).map A3) := by
 have ht : h.sets.take k = h.sets := List.take_of_length_le (by omega)
 rw [ht]
 have := OwnRows.of ((Fl h).map A3).flatten (C9 (Fl h)) rfl
 rw [List.length_map, Fl, List.length_map, <- hk] at this
 exact this
theorem A3u {P : Program} {N : Nat} {c : Code} {Q : Exit -> St -> Prop} {tm : Tm} {H : AH} {h : HouseR} {k : Nat} (hk : k = h.sets.length) (ht : tm.get 6 = some (Aak k)) (hb : H.at 2 = Aai h.sets k) (hT : T P N c ⟨(6, .sl ((Fl h).map A3)) :: tm, H.put 2 .dead⟩ Q) : T P N c ⟨tm, H⟩ Q := by
 cases k with
 | zero =>
  have h0 : (Fl h).map A3 = [] := by rw [Fl, List.eq_nil_of_length_eq_zero hk.symm];rfl
  rw [h0] at hT
  exact S.nilT 6 ht (T.kill 2 hT (by rw [hb];rfl))
 | succ k => exact T.freeze 6 ht hb (A66 hk) hT
theorem Yi (l : List (List Int)) : ∀ r ∈ l.map P4, r.length = 1 := by
 intro r hr
 obtain ⟨n, _, rfl⟩ := List.mem_map.1 hr
 rfl
abbrev K1 (h : HouseR) (c : SheetR) (n : Nat) : List AV := ((G2 h c n).map P4).flatten.map .lf
theorem A2i (h : HouseR) (c : SheetR) (n : Nat) : (K1 h c n).length = n * 1 := by
 rw [List.length_map, Bf _ (Yi _), List.length_map];simp [G2]
theorem A0d (h : HouseR) (c : SheetR) (n : Nat) : K1 h c (n + 1) = K1 h c n ++ ([P4 (Ax h c n)].flatten).map AV.lf := by
 simp [K1, G2, List.range_succ]
set_option maxHeartbeats 16000000 in
theorem Xm (h : HouseR) (c : SheetR) (hf : h.fits) (hc : c.fits) (v : validP h c) : Fn0 Tryz.prog 110 [A1 h.row, A1 c.row] (.tup [.sl ((G2 h c (c.cues.length + 1)).map P4), .i 0]) := by
 have cv := V5 h c hf hc
 rw [decide_eq_true v] at cv
 obtain ⟨_, _, _, hs60, _⟩ := v.1
 have hc60 := v.2.1
 have hle : (h.sets.map SetR.row).length = h.sets.length := List.length_map _
 have hle2 : (c.cues.map CueR.row).length = c.cues.length := List.length_map _
 refine Fn0.of Tryz.func110 Tryz.ntmps110 rfl rfl rfl ?_
 simp only [A2]
 repeat' (first | refine W ?_|refine Zc cv ?_ | refine V ?_|(refine W2 ?_ ?_ <;> intro hc))
 refine T.kill 2 ?_
 refine T.loopS (fun k => k <= h.sets.length) (fun k => h.sets.length - k) (fun k => [(19, .i k), (18, .i (h.sets.map SetR.row).length), (17, .sl (h.sets.map SetR.row)), (6, Aak k), (2, .ptr 0 0), (3, .ptr 1 0)]) (fun k => [.live (h.row.map .lf), .live (c.row.map .lf), Aai h.sets k]) 0 (Nat.zero_le _) CV CH ?_
 intro k hk
 by_cases hlt : k < h.sets.length
 ·have h1 : (k : Int) < ((h.sets.map SetR.row).length : Nat) := by omega
  obtain ⟨x, hx⟩ := A9 hlt
  have hb := Ac (R := SetR.row) hx
  have hsn := Bn hx
  cases k with
  | zero =>
   repeat' (first | refine W ?_|refine Zi hb ?_|(apply S.buildSlice1;(iterate 7 exact rfl))|(apply S.appendN 2 (rows := []);(iterate 8 exact rfl);exact Ai rfl;exact rfl;exact Nat.le_of_ble_eq_true rfl;exact Nat.le_of_ble_eq_true rfl)|refine Za ?_ | refine V ?_|(refine W2 ?_ ?_ <;> intro hc))
   change Next _ _ _ _ _ _
   exact Next.go 1 (by omega) (by omega) CV (by
    show CovH _ _ [_, _, .live (Aa ((h.sets.take (0 + 1)).map SetR.high))]
    rw [Qy hsn]
    exact .live rfl CH)
  | succ k =>
   have hcl : (Aa ((h.sets.take (k + 1)).map SetR.high)).length = (k + 1) * 1 := by rw [Cy, List.length_map, List.length_take];omega
   repeat' (first | refine W ?_|refine Zi hb ?_|(apply S.buildSlice1;(iterate 7 exact rfl))|(apply S.appendO;(iterate 8 exact rfl);exact hcl;exact Ai rfl;exact rfl;exact Az _ _;simp only [List.length_cons, List.length_nil];omega;simp only [List.length_cons, List.length_nil];omega)|refine Za ?_ | refine V ?_|(refine W2 ?_ ?_ <;> intro hc))
   change Next _ _ _ _ _ _
   exact Next.go (k + 2) (by omega) (by omega) CV (by
    show CovH _ _ [_, _, .live (Aa ((h.sets.take (k + 1 + 1)).map SetR.high))]
    rw [Qy hsn]
    exact .live rfl (.live rfl (.live (by rw [<- List.map_append];exact Al _ _) .nil)))
 ·have h1 : ¬ (k : Int) < ((h.sets.map SetR.row).length : Nat) := by omega
  refine A3u (h := h) (k := k) (by omega) rfl rfl ?_
  repeat' (first | refine W ?_|(apply S.buildSliceO;(iterate 6 exact rfl)) | refine V ?_|(refine W2 ?_ ?_ <;> intro hc))
  refine T.loopS (fun k => k <= c.cues.length) (fun k => c.cues.length - k) (fun k => [(34, .i k), (33, .i (c.cues.map CueR.row).length), (32, .sl (c.cues.map CueR.row)), (6, .sl ((Ax h c k).map A3)), (9, .own 3 0 (k + 1) 1), (2, .ptr 0 0), (3, .ptr 1 0)]) (fun k => [.live (h.row.map .lf), .live (c.row.map .lf), .dead, .live (K1 h c (k + 1))]) 0 (Nat.zero_le _) CV CH ?_
  intro j hj
  by_cases hlt2 : j < c.cues.length
  ·have h2 : (j : Int) < ((c.cues.map CueR.row).length : Nat) := by omega
   obtain ⟨y, hy⟩ := A9 hlt2
   have hb2 := Ac (R := CueR.row) hy
   have cm := A6a h (Ax h c j) y hf (by have := hc.2.2 y (List.mem_of_getElem? hy);omega) (Er v hy)
   rw [<- Ou hy] at cm
   have hct := A2i h c (j + 1)
   repeat' (first | refine W ?_|refine Zi hb2 ?_|(apply S.buildSlice1;(iterate 7 exact rfl))|(apply S.appendO;(iterate 8 exact rfl);exact hct;exact Ai rfl;exact rfl;exact Az _ _;simp only [List.length_cons, List.length_nil];omega;simp only [List.length_cons, List.length_nil];omega)|refine Zc cm ?_|refine Za ?_ | refine V ?_|(refine W2 ?_ ?_ <;> intro hc))
   change Next _ _ _ _ _ _
   exact Next.go (j + 1) (by omega) (by omega) CV (by
    show CovH _ _ [_, _, _, .live (K1 h c (j + 1 + 1))]
    rw [A0d]
    exact .live rfl (.live rfl (.dead (.live (by rw [<- List.map_append];exact Al _ _) .nil))))
  ·have h2 : ¬ (j : Int) < ((c.cues.map CueR.row).length : Nat) := by omega
   have hj2 : j = c.cues.length := by omega
   repeat' (first | refine W ?_ | refine V ?_|(refine W2 ?_ ?_ <;> intro hc))
   refine ⟨.inr rfl, [_, _], .cons (.tmp rfl) (.cons (.tmp rfl) .nil), .tup (.cons (.one (.own (cells := K1 h c (j + 1)) (rows := (G2 h c (c.cues.length + 1)).map P4) rfl ?_)) (.cons (.one (.lf _)) .nil))⟩
   have := OwnRows.of ((G2 h c (j + 1)).map P4).flatten (Yi _) rfl
   rw [List.length_map, G2, List.length_map, List.length_range] at this
   rw [<- hj2]
   exact this
end Go.Proofs.YtcbfnkgodiaiiaaGreat
