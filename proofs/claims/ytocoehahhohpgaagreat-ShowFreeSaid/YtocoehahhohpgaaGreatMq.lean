/- Contracts: profile.Time and the reference's Time: the same fraction. No conditions but those of each statement. -/
import Derived.Test.YtocoehahhohpgaaGreatMp
import Derived.Test.YtocoehahhohpgaaGreatMn
set_option linter.unusedSimpArgs false
set_option linter.unusedVariables false
namespace Go.Proofs.YtocoehahhohpgaaGreat
open Go.RowKit
set_option maxHeartbeats 8000000 in
theorem Ma (d : Int) (m : MoveR) (l : List PieceR) (x : PieceR) (hl : l.length <= 4) (hx : l[l.length - 1]? = some x) (hc : Fn0 Tryz.prog 93 [.i d, A1 m.row] (.tup [.sl (l.map PieceR.row), .i 0])) : Fn0 Tryz.prog 155 [.i d, A1 m.row] (.tup [A1 x.at, .i 0]) := by
 have h0 : l ≠ [] := by rintro rfl;simp at hx
 have hpos : 1 <= l.length := by
  cases l with
  | nil => exact absurd rfl h0
  | cons _ _ => simp
 have hk := A1j d m l hl h0 hc
 have hle : (l.map PieceR.at).length = l.length := List.length_map _
 have hb : (l.map PieceR.at)[(((l.map PieceR.at).length : Int) - 1).toNat]? = some x.at := by
  rw [hle, show ((l.length : Int) - 1).toNat = l.length - 1 by omega, List.getElem?_map, hx];rfl
 refine Fn0.of Tryz.func155 Tryz.ntmps155 rfl rfl rfl ?_
 simp only [A2]
 repeat' (first | refine W ?_|refine Zc hk ?_|refine Zi hb ?_|refine Za ?_ | refine V ?_|(refine W2 ?_ ?_ <;> intro hc))
 all_goals exact ⟨.inr rfl, [A1 x.at, .i 0], by rw [Tryz.results155];exact .cons (Res.row x.at rfl rfl rfl rfl rfl) (.cons (.tmp rfl) .nil), .tup (.cons (.agg (A6 x.at)) (.cons (.one (.lf _)) .nil))⟩
def G0 (f a b c : Rat) : PieceR := ⟨f.num, f.den, a.num, a.den, b.num, b.den, c.num, c.den⟩
def Mp (d : Int) (m : MoveR) : Rat := if d = 0 then 0 else Do d m
theorem A3c (d : Int) (m : MoveR) (hm : D8 m) (hd : 0 <= d /\ d <= 1048576) : Fn0 Tryz.prog 155 [.i d, A1 m.row] (frE (Mp d m) 0) := by
 unfold Mp
 by_cases h : d = 0
 ·subst h
  rw [if_pos rfl]
  exact Ma 0 m [G0 0 0 0 0] (G0 0 0 0 0) (by decide) rfl (Z6 m hm)
 ·rw [if_neg h]
  have hc := S0 d m hm (by omega)
  by_cases hr : (Gs d m).num = 0
  ·rw [show K1 d m = N5 d m from if_pos hr] at hc
   exact Ma d m [G0 0 0 0 (A7 m.rise 2), G0 (Cu d m) (J3 d m) ((Ak d m : Int) : Rat) (A7 (-m.fall) 2), G0 (Do d m) (d : Rat) 0 0] (G0 (Do d m) (d : Rat) 0 0) (by simp) rfl hc
  ·rw [show K1 d m = Me d m from if_neg hr] at hc
   exact Ma d m [G0 0 0 0 (A7 m.rise 2), G0 (Dj d m) (Fe d m) ((Ak d m : Int) : Rat) 0, G0 (Cu d m) (J3 d m) ((Ak d m : Int) : Rat) (A7 (-m.fall) 2), G0 (Do d m) (d : Rat) 0 0] (G0 (Do d m) (d : Rat) 0 0) (by simp) rfl hc
structure GivenOk (h : HouseR) (l : List Int) (q : CueR) : Prop where
 house : By h
 right : Du h q
 len : l.length = h.sets.length
 trims : Dr h l
theorem A29 {h : HouseR} {l : List Int} {q : CueR} (g : F1 h l q = 0) : GivenOk h l q := by
 by_cases h1 : By h /\ Du h q
 ·by_cases h2 : l.length = h.sets.length
  ·by_cases h3 : Dr h l
   ·exact ⟨h1.1, h1.2, h2, h3⟩
   ·rw [Wv h1 h2 h3] at g;cases g
  ·rw [Xn h1 h2] at g;cases g
 ·rw [Rc h1] at g;cases g
theorem GivenOk.move {h : HouseR} {l : List Int} {q : CueR} (g : GivenOk h l q) {m : MoveR} (hm : m ∈ q.moves) : D8 m /\ 0 <= Aa h m.set /\ (Aa h m.set).toNat < l.length /\ ∃ n, l[(Aa h m.set).toNat]? = some n /\ (0 <= n /\ n <= 1048576) /\ 0 <= m.to /\ m.to <= 1048576 := by
 obtain ⟨_, _, _, _, _, hmv, _⟩ := g.right
 obtain ⟨h1, s, h2, h3, h4, h5⟩ := hmv m hm
 obtain ⟨_, _, _, _, _, hs, _⟩ := g.house
 obtain ⟨⟨_, _, s1, s2, s3, _⟩, _⟩ := hs s (List.mem_of_getElem? h3)
 have hlt : (Aa h m.set).toNat < l.length := by
  rw [g.len];exact (List.getElem?_eq_some_iff.1 h3).1
 have hn := List.getElem?_eq_getElem hlt
 have ht := g.trims _ _ s hn h3
 exact ⟨h1, h2, hlt, _, hn, ⟨by omega, by omega⟩, by omega, by omega⟩
def Ou (h : HouseR) (l : List Int) (m : MoveR) : Int := max (m.to - l.getD (Aa h m.set).toNat 0) (-(m.to - l.getD (Aa h m.set).toNat 0))
theorem Ms {h : HouseR} {l : List Int} {m : MoveR} {n : Int} (hn : l[(Aa h m.set).toNat]? = some n) : Ou h l m = max (m.to - n) (-(m.to - n)) := by
 unfold Ou
 rw [List.getD_eq_getElem?_getD, hn];rfl
theorem Qc {h : HouseR} {l : List Int} {q : CueR} (g : GivenOk h l q) {m : MoveR} (hm : m ∈ q.moves) : 0 <= Ou h l m /\ Ou h l m <= 1048576 := by
 obtain ⟨_, _, _, n, hn, _, _, _⟩ := g.move hm
 rw [Ms hn]
 omega
def Gl (h : HouseR) (l : List Int) (m : MoveR) : Rat := Mp (Ou h l m) m
theorem A5v {d : Int} {m : MoveR} (hm : D8 m) (hd : 0 <= d /\ d <= 1048576) : Fits (Mp d m) := by
 unfold Mp
 by_cases h : d = 0
 ·rw [if_pos h];exact Cj (n := 0) (by omega) (by omega)
 ·rw [if_neg h];exact (K8 hm (by omega)).fin
theorem Ux {h : HouseR} {l : List Int} {q : CueR} (g : GivenOk h l q) {m : MoveR} (hm : m ∈ q.moves) : Fits (Gl h l m) := A5v (g.move hm).1 (Qc g hm)
def Em (h : HouseR) (l : List Int) (most : Rat) (m : MoveR) : Rat := if 0 < Bm (Gl h l m) most then Gl h l m else most
def De (h : HouseR) (l : List Int) (ms : List MoveR) : Rat := ms.foldl (Em h l) 0
theorem A35 (h : HouseR) (l : List Int) (ms : List MoveR) (m : MoveR) : De h l (ms ++ [m]) = Em h l (De h l ms) m := by simp [De]
theorem A05 (h : HouseR) (l : List Int) : ∀ (ms : List MoveR) (a : Rat), ms.foldl (Em h l) a = a \/ ∃ m ∈ ms, ms.foldl (Em h l) a = Gl h l m
 | [], a => .inl rfl
 | m :: ms, a => by
  rw [List.foldl_cons]
  rcases A05 h l ms (Em h l a m) with e | ⟨x, hx, e⟩
  ·rw [e]
   unfold Em
   split
   ·exact .inr ⟨m, by simp, rfl⟩
   ·exact .inl rfl
  ·exact .inr ⟨x, by simp [hx], e⟩
theorem X9 {h : HouseR} {l : List Int} {q : CueR} (g : GivenOk h l q) {ms : List MoveR} (hms : ∀ m ∈ ms, m ∈ q.moves) : Fits (De h l ms) := by
 unfold De
 rcases A05 h l ms 0 with e | ⟨m, hm, e⟩
 ·rw [e];exact Cj (n := 0) (by omega) (by omega)
 ·rw [e];exact Ux g (hms m hm)
set_option maxHeartbeats 16000000 in
theorem Vs (h : HouseR) (l : List Int) (q : CueR) (hf : h.fits) (hq : q.moves.length <= 9223372036854775807) (hl : l.length <= 9223372036854775807) (g0 : F1 h l q = 0) : Fn0 Tryz.prog 84 [A1 h.row, .sl (l.map A3), A1 q.row] (frE (De h l q.moves) 0) := by
 have g := A29 g0
 have cg := A4a h l q hf hq hl
 rw [g0] at cg
 have hf1 := hf.1
 have hle : (q.moves.map MoveR.row).length = q.moves.length := List.length_map _
 refine Fn0.of Tryz.func84 Tryz.ntmps84 rfl rfl rfl ?_
 simp only [A2]
 repeat' (first | refine W ?_|refine Zc cg ?_ | refine V ?_|(refine W2 ?_ ?_ <;> intro hc))
 refine T.loopS (fun k => k <= q.moves.length) (fun k => q.moves.length - k) (fun k => [(29, .i k), (28, .i (q.moves.map MoveR.row).length), (27, .sl (q.moves.map MoveR.row)), (1, .sl (l.map A3)), (3, .ptr 0 0), (5, .ptr 1 0), (6, .ptr 2 0), (9, .ptr 3 0)]) (fun k => [.live (h.row.map .lf), .live (q.row.map .lf), .live [.i 0, .i 0], .live ((frR (De h l (q.moves.take k))).map .lf)]) 0 (Nat.zero_le _) CV CH ?_
 intro k hk
 by_cases hlt : k < q.moves.length
 ·have h1 : (k : Int) < ((q.moves.map MoveR.row).length : Nat) := by omega
  obtain ⟨x, hx⟩ := A9 hlt
  have hb := Ab (R := MoveR.row) hx
  have hsn := Br hx
  have hmem : x ∈ q.moves := List.mem_of_getElem? hx
  have hst : De h l (q.moves.take (k + 1)) = Em h l (De h l (q.moves.take k)) x := by rw [hsn, A35]
  obtain ⟨m1, m2, m3, n, hn, m4, m5, m6⟩ := g.move hmem
  have hb2 : (l.map A3)[(Aa h x.set).toNat]? = some (A3 n) := La hn
  have hd := Qc g hmem
  have ct := A3c (max (x.to - n) (-(x.to - n))) x m1 (by rw [<- Ms hn];exact hd)
  rw [show Mp (max (x.to - n) (-(x.to - n))) x = Gl h l x by unfold Gl;rw [Ms hn]] at ct
  have cc := Is (Gl h l x) (De h l (q.moves.take k)) (Ux g hmem) (X9 g fun m hm => List.mem_of_mem_take hm)
  repeat' (first | refine W ?_|(apply T.drawAll A0 (by decide +kernel))|refine Zi hb ?_|refine Zi hb2 ?_|refine Zc (Pq h x.set hf1) ?_|refine Zc ct ?_|refine Zc cc ?_|(apply S.neg;exact rfl;exact rfl;omega)|(apply S.max2;exact rfl;exact rfl;exact rfl)|refine Za ?_ | refine V ?_|(refine W2 ?_ ?_ <;> intro hc))
  all_goals (try change Next _ _ _ _ _ _)
  all_goals first
   | exact Next.go (k + 1) (by omega) (by omega) CV (by
     show CovH _ _ [_, _, _, .live ((frR (De h l (q.moves.take (k + 1)))).map .lf)]
     rw [hst, Em, if_pos (by assumption)]
     exact .live rfl CH)
   | exact Next.go (k + 1) (by omega) (by omega) CV (by
     show CovH _ _ [_, _, _, .live ((frR (De h l (q.moves.take (k + 1)))).map .lf)]
     rw [hst, Em, if_neg (by assumption)]
     exact .live rfl CH)
 ·have h1 : ¬ (k : Int) < ((q.moves.map MoveR.row).length : Nat) := by omega
  have hkt : q.moves.take k = q.moves := List.take_of_length_le (by omega)
  rw [show De h l q.moves = De h l (q.moves.take k) by rw [hkt]]
  repeat' (first | refine W ?_ | refine V ?_|(refine W2 ?_ ?_ <;> intro hc))
  exact ⟨.inr rfl, [A1 (frR (De h l (q.moves.take k))), .i 0], by rw [Tryz.results84];exact .cons (Res.row (frR (De h l (q.moves.take k))) rfl rfl rfl rfl rfl) (.cons (.tmp rfl) .nil), .tup (.cons (.agg (A6 (frR (De h l (q.moves.take k))))) (.cons (.one (.lf _)) .nil))⟩
/-! ### The reference -/
end Go.Proofs.YtocoehahhohpgaaGreat
