/- Contracts: profile.Time and the reference's Time: the same fraction. No conditions but those of each statement. -/
import Derived.Test.YtcbfnkgodiaiiaaGreatMp
import Derived.Test.YtcbfnkgodiaiiaaGreatMn
set_option linter.unusedSimpArgs false
set_option linter.unusedVariables false
namespace Go.Proofs.YtcbfnkgodiaiiaaGreat
open Go.RowKit
set_option maxHeartbeats 8000000 in
theorem N2 (d : Int) (m : MoveR) (l : List PieceR) (x : PieceR) (hl : l.length <= 4) (hx : l[l.length - 1]? = some x) (hc : Fn0 Tryz.prog 172 [.i d, A1 m.row] (.tup [.sl (l.map PieceR.row), .i 0])) : Fn0 Tryz.prog 193 [.i d, A1 m.row] (.tup [A1 x.at, .i 0]) := by
 have h0 : l ≠ [] := by rintro rfl;simp at hx
 have hpos : 1 <= l.length := by
  cases l with
  | nil => exact absurd rfl h0
  | cons _ _ => simp
 have hk := A3s d m l hl h0 hc
 have hle : (l.map PieceR.at).length = l.length := List.length_map _
 have hb : (l.map PieceR.at)[(((l.map PieceR.at).length : Int) - 1).toNat]? = some x.at := by
  rw [hle, show ((l.length : Int) - 1).toNat = l.length - 1 by omega, List.getElem?_map, hx];rfl
 refine Fn0.of Tryz.func193 Tryz.ntmps193 rfl rfl rfl ?_
 simp only [A2]
 repeat' (first | refine W ?_|refine Zc hk ?_|refine Zi hb ?_|refine Za ?_ | refine V ?_|(refine W2 ?_ ?_ <;> intro hc))
 all_goals exact ⟨.inr rfl, [A1 x.at, .i 0], by rw [Tryz.results193];exact .cons (Res.row x.at rfl rfl rfl rfl rfl) (.cons (.tmp rfl) .nil), .tup (.cons (.agg (A7 x.at)) (.cons (.one (.lf _)) .nil))⟩
def G4 (f a b c : Rat) : PieceR := ⟨f.num, f.den, a.num, a.den, b.num, b.den, c.num, c.den⟩
def Mz (d : Int) (m : MoveR) : Rat := if d = 0 then 0 else Dv d m
theorem A5l (d : Int) (m : MoveR) (hm : D8 m) (hd : 0 <= d /\ d <= 1048576) : Fn0 Tryz.prog 193 [.i d, A1 m.row] (frE (Mz d m) 0) := by
 unfold Mz
 by_cases h : d = 0
 ·subst h
  rw [if_pos rfl]
  exact N2 0 m [G4 0 0 0 0] (G4 0 0 0 0) (by decide) rfl (Zx m hm)
 ·rw [if_neg h]
  have hc := Th d m hm (by omega)
  by_cases hr : (Gy d m).num = 0
  ·rw [show Ki d m = Nq d m from if_pos hr] at hc
   exact N2 d m [G4 0 0 0 (A8 m.rise 2), G4 (Cw d m) (Je d m) ((An d m : Int) : Rat) (A8 (-m.fall) 2), G4 (Dv d m) (d : Rat) 0 0] (G4 (Dv d m) (d : Rat) 0 0) (by simp) rfl hc
  ·rw [show Ki d m = Mh d m from if_neg hr] at hc
   exact N2 d m [G4 0 0 0 (A8 m.rise 2), G4 (Dm d m) (Fo d m) ((An d m : Int) : Rat) 0, G4 (Cw d m) (Je d m) ((An d m : Int) : Rat) (A8 (-m.fall) 2), G4 (Dv d m) (d : Rat) 0 0] (G4 (Dv d m) (d : Rat) 0 0) (by simp) rfl hc
structure GivenOk (h : HouseR) (l : List Int) (q : CueR) : Prop where
 house : C8 h
 right : E8 h q
 len : l.length = h.sets.length
 trims : Dw h l
theorem A3g {h : HouseR} {l : List Int} {q : CueR} (g : F8 h l q = 0) : GivenOk h l q := by
 by_cases h1 : C8 h /\ E8 h q
 ·by_cases h2 : l.length = h.sets.length
  ·by_cases h3 : Dw h l
   ·exact ⟨h1.1, h1.2, h2, h3⟩
   ·rw [Y0 h1 h2 h3] at g;cases g
  ·rw [Yq h1 h2] at g;cases g
 ·rw [R7 h1] at g;cases g
theorem GivenOk.move {h : HouseR} {l : List Int} {q : CueR} (g : GivenOk h l q) {m : MoveR} (hm : m ∈ q.moves) : D8 m /\ 0 <= Ad h m.set /\ (Ad h m.set).toNat < l.length /\ ∃ n, l[(Ad h m.set).toNat]? = some n /\ (0 <= n /\ n <= 1048576) /\ 0 <= m.to /\ m.to <= 1048576 := by
 obtain ⟨_, _, _, _, _, hmv, _⟩ := g.right
 obtain ⟨h1, s, h2, h3, h4, h5⟩ := hmv m hm
 obtain ⟨_, _, _, _, _, hs, _⟩ := g.house
 obtain ⟨⟨_, _, s1, s2, s3, _⟩, _⟩ := hs s (List.mem_of_getElem? h3)
 have hlt : (Ad h m.set).toNat < l.length := by
  rw [g.len];exact (List.getElem?_eq_some_iff.1 h3).1
 have hn := List.getElem?_eq_getElem hlt
 have ht := g.trims _ _ s hn h3
 exact ⟨h1, h2, hlt, _, hn, ⟨by omega, by omega⟩, by omega, by omega⟩
def Pv (h : HouseR) (l : List Int) (m : MoveR) : Int := max (m.to - l.getD (Ad h m.set).toNat 0) (-(m.to - l.getD (Ad h m.set).toNat 0))
theorem Np {h : HouseR} {l : List Int} {m : MoveR} {n : Int} (hn : l[(Ad h m.set).toNat]? = some n) : Pv h l m = max (m.to - n) (-(m.to - n)) := by
 unfold Pv
 rw [List.getD_eq_getElem?_getD, hn];rfl
theorem Qz {h : HouseR} {l : List Int} {q : CueR} (g : GivenOk h l q) {m : MoveR} (hm : m ∈ q.moves) : 0 <= Pv h l m /\ Pv h l m <= 1048576 := by
 obtain ⟨_, _, _, n, hn, _, _, _⟩ := g.move hm
 rw [Np hn]
 omega
def Gw (h : HouseR) (l : List Int) (m : MoveR) : Rat := Mz (Pv h l m) m
theorem A6r {d : Int} {m : MoveR} (hm : D8 m) (hd : 0 <= d /\ d <= 1048576) : Fits (Mz d m) := by
 unfold Mz
 by_cases h : d = 0
 ·rw [if_pos h];exact Ct (n := 0) (by omega) (by omega)
 ·rw [if_neg h];exact (Kk hm (by omega)).fin
theorem W6 {h : HouseR} {l : List Int} {q : CueR} (g : GivenOk h l q) {m : MoveR} (hm : m ∈ q.moves) : Fits (Gw h l m) := A6r (g.move hm).1 (Qz g hm)
def F3 (h : HouseR) (l : List Int) (most : Rat) (m : MoveR) : Rat := if 0 < C2 (Gw h l m) most then Gw h l m else most
def D9 (h : HouseR) (l : List Int) (ms : List MoveR) : Rat := ms.foldl (F3 h l) 0
theorem A6t (h : HouseR) (l : List Int) (ms : List MoveR) (m : MoveR) : D9 h l (ms ++ [m]) = F3 h l (D9 h l ms) m := by simp [D9]
theorem A0u (h : HouseR) (l : List Int) : ∀ (ms : List MoveR) (a : Rat), ms.foldl (F3 h l) a = a \/ ∃ m ∈ ms, ms.foldl (F3 h l) a = Gw h l m
 | [], a => .inl rfl
 | m :: ms, a => by
  rw [List.foldl_cons]
  rcases A0u h l ms (F3 h l a m) with e | ⟨x, hx, e⟩
  ·rw [e]
   unfold F3
   split
   ·exact .inr ⟨m, by simp, rfl⟩
   ·exact .inl rfl
  ·exact .inr ⟨x, by simp [hx], e⟩
theorem Xf {h : HouseR} {l : List Int} {q : CueR} (g : GivenOk h l q) {ms : List MoveR} (hms : ∀ m ∈ ms, m ∈ q.moves) : Fits (D9 h l ms) := by
 unfold D9
 rcases A0u h l ms 0 with e | ⟨m, hm, e⟩
 ·rw [e];exact Ct (n := 0) (by omega) (by omega)
 ·rw [e];exact W6 g (hms m hm)
set_option maxHeartbeats 16000000 in
theorem Wa (h : HouseR) (l : List Int) (q : CueR) (hf : h.fits) (hq : q.moves.length <= 9223372036854775807) (hl : l.length <= 9223372036854775807) (g0 : F8 h l q = 0) : Fn0 Tryz.prog 111 [A1 h.row, .sl (l.map A3), A1 q.row] (frE (D9 h l q.moves) 0) := by
 have g := A3g g0
 have cg := A51 h l q hf hq hl
 rw [g0] at cg
 have hf1 := hf.1
 have hle : (q.moves.map MoveR.row).length = q.moves.length := List.length_map _
 refine Fn0.of Tryz.func111 Tryz.ntmps111 rfl rfl rfl ?_
 simp only [A2]
 repeat' (first | refine W ?_|refine Zc cg ?_ | refine V ?_|(refine W2 ?_ ?_ <;> intro hc))
 refine T.loopS (fun k => k <= q.moves.length) (fun k => q.moves.length - k) (fun k => [(29, .i k), (28, .i (q.moves.map MoveR.row).length), (27, .sl (q.moves.map MoveR.row)), (1, .sl (l.map A3)), (3, .ptr 0 0), (5, .ptr 1 0), (6, .ptr 2 0), (9, .ptr 3 0)]) (fun k => [.live (h.row.map .lf), .live (q.row.map .lf), .live [.i 0, .i 0], .live ((frR (D9 h l (q.moves.take k))).map .lf)]) 0 (Nat.zero_le _) CV CH ?_
 intro k hk
 by_cases hlt : k < q.moves.length
 ·have h1 : (k : Int) < ((q.moves.map MoveR.row).length : Nat) := by omega
  obtain ⟨x, hx⟩ := A9 hlt
  have hb := Ac (R := MoveR.row) hx
  have hsn := Bn hx
  have hmem : x ∈ q.moves := List.mem_of_getElem? hx
  have hst : D9 h l (q.moves.take (k + 1)) = F3 h l (D9 h l (q.moves.take k)) x := by rw [hsn, A6t]
  obtain ⟨m1, m2, m3, n, hn, m4, m5, m6⟩ := g.move hmem
  have hb2 : (l.map A3)[(Ad h x.set).toNat]? = some (A3 n) := Lq hn
  have hd := Qz g hmem
  have ct := A5l (max (x.to - n) (-(x.to - n))) x m1 (by rw [<- Np hn];exact hd)
  rw [show Mz (max (x.to - n) (-(x.to - n))) x = Gw h l x by unfold Gw;rw [Np hn]] at ct
  have cc := P3 (Gw h l x) (D9 h l (q.moves.take k)) (W6 g hmem) (Xf g fun m hm => List.mem_of_mem_take hm)
  repeat' (first | refine W ?_|(apply T.drawAll A0 (by decide +kernel))|refine Zi hb ?_|refine Zi hb2 ?_|refine Zc (Py h x.set hf1) ?_|refine Zc ct ?_|refine Zc cc ?_|(apply S.neg;exact rfl;exact rfl;omega)|(apply S.max2;exact rfl;exact rfl;exact rfl)|refine Za ?_ | refine V ?_|(refine W2 ?_ ?_ <;> intro hc))
  all_goals (try change Next _ _ _ _ _ _)
  all_goals first
   | exact Next.go (k + 1) (by omega) (by omega) CV (by
     show CovH _ _ [_, _, _, .live ((frR (D9 h l (q.moves.take (k + 1)))).map .lf)]
     rw [hst, F3, if_pos (by assumption)]
     exact .live rfl CH)
   | exact Next.go (k + 1) (by omega) (by omega) CV (by
     show CovH _ _ [_, _, _, .live ((frR (D9 h l (q.moves.take (k + 1)))).map .lf)]
     rw [hst, F3, if_neg (by assumption)]
     exact .live rfl CH)
 ·have h1 : ¬ (k : Int) < ((q.moves.map MoveR.row).length : Nat) := by omega
  have hkt : q.moves.take k = q.moves := List.take_of_length_le (by omega)
  rw [show D9 h l q.moves = D9 h l (q.moves.take k) by rw [hkt]]
  repeat' (first | refine W ?_ | refine V ?_|(refine W2 ?_ ?_ <;> intro hc))
  exact ⟨.inr rfl, [A1 (frR (D9 h l (q.moves.take k))), .i 0], by rw [Tryz.results111];exact .cons (Res.row (frR (D9 h l (q.moves.take k))) rfl rfl rfl rfl rfl) (.cons (.tmp rfl) .nil), .tup (.cons (.agg (A7 (frR (D9 h l (q.moves.take k))))) (.cons (.one (.lf _)) .nil))⟩
/-! ### The reference -/
end Go.Proofs.YtcbfnkgodiaiiaaGreat
