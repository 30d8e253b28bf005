/- Contracts: profile.Time and the reference's Time: the same fraction. No conditions but those of each statement. -/
import Derived.Test.YtocoehahhohpgaaGreatMp
import Derived.Test.YtocoehahhohpgaaGreatMn
set_option linter.unusedSimpArgs false
set_option linter.unusedVariables false
namespace Go.Proofs.YtocoehahhohpgaaGreat
open Go.RowKit
set_option maxHeartbeats 8000000 in
theorem Mm (d : Int) (m : MoveR) (l : List PieceR) (x : PieceR) (hl : l.length <= 4) (hx : l[l.length - 1]? = some x) (hc : Fn0 Tryz.prog 93 [.i d, A1 m.row] (.tup [.sl (l.map PieceR.row), .i 0])) : Fn0 Tryz.prog 155 [.i d, A1 m.row] (.tup [A1 x.at, .i 0]) := by
 have h0 : l ≠ [] := by rintro rfl;simp at hx
 have hpos : 1 <= l.length := by
  cases l with
  | nil => exact absurd rfl h0
  | cons _ _ => simp
 have hk := A1h d m l hl h0 hc
 have hle : (l.map PieceR.at).length = l.length := List.length_map _
 have hb : (l.map PieceR.at)[(((l.map PieceR.at).length : Int) - 1).toNat]? = some x.at := by
  rw [hle, show ((l.length : Int) - 1).toNat = l.length - 1 by omega, List.getElem?_map, hx];rfl
 refine Fn0.of Tryz.func155 Tryz.ntmps155 rfl rfl rfl ?_
 simp only [A2]
 repeat' (first | refine W ?_|refine Zc hk ?_|refine Zi hb ?_|refine Za ?_ | refine V ?_|(refine W2 ?_ ?_ <;> intro hc))
 all_goals exact ⟨.inr rfl, [A1 x.at, .i 0], by rw [Tryz.results155];exact .cons (Res.row x.at rfl rfl rfl rfl rfl) (.cons (.tmp rfl) .nil), .tup (.cons (.agg (A7 x.at)) (.cons (.one (.lf _)) .nil))⟩
def Fh (f a b c : Rat) : PieceR := ⟨f.num, f.den, a.num, a.den, b.num, b.den, c.num, c.den⟩
def Pi (d : Int) (m : MoveR) : Rat := if d = 0 then 0 else K2 d m
theorem A3k (d : Int) (m : MoveR) (hm : E5 m) (hd : 0 <= d /\ d <= 1048576) : Fn0 Tryz.prog 155 [.i d, A1 m.row] (frE (Pi d m) 0) := by
 unfold Pi
 by_cases h : d = 0
 ·subst h
  rw [if_pos rfl]
  exact Mm 0 m [Fh 0 0 0 0] (Fh 0 0 0 0) (by decide) rfl (Z9 m hm)
 ·rw [if_neg h]
  have hc := Ro d m hm (by omega)
  by_cases hr : (Tt d m).num = 0
  ·rw [show Jo d m = M9 d m from if_pos hr] at hc
   exact Mm d m [Fh 0 0 0 (Aa m.rise 2), Fh (J3 d m) (Qv d m) ((B9 d m : Int) : Rat) (Aa (-m.fall) 2), Fh (K2 d m) (d : Rat) 0 0] (Fh (K2 d m) (d : Rat) 0 0) (by simp) rfl hc
  ·rw [show Jo d m = Mu d m from if_neg hr] at hc
   exact Mm d m [Fh 0 0 0 (Aa m.rise 2), Fh (L8 d m) (Pr d m) ((B9 d m : Int) : Rat) 0, Fh (J3 d m) (Qv d m) ((B9 d m : Int) : Rat) (Aa (-m.fall) 2), Fh (K2 d m) (d : Rat) 0 0] (Fh (K2 d m) (d : Rat) 0 0) (by simp) rfl hc
structure GivenOk (h : HouseR) (l : List Int) (q : CueR) : Prop where
 house : Bu h
 right : E0 h q
 len : l.length = h.sets.length
 trims : Dr h l
theorem A2n {h : HouseR} {l : List Int} {q : CueR} (g : Eu h l q = 0) : GivenOk h l q := by
 by_cases h1 : Bu h /\ E0 h q
 ·by_cases h2 : l.length = h.sets.length
  ·by_cases h3 : Dr h l
   ·exact ⟨h1.1, h1.2, h2, h3⟩
   ·rw [Xw h1 h2 h3] at g;cases g
  ·rw [Ya h1 h2] at g;cases g
 ·rw [R9 h1] at g;cases g
theorem GivenOk.move {h : HouseR} {l : List Int} {q : CueR} (g : GivenOk h l q) {m : MoveR} (hm : m ∈ q.moves) : E5 m /\ 0 <= Af h m.set /\ (Af h m.set).toNat < l.length /\ ∃ n, l[(Af h m.set).toNat]? = some n /\ (0 <= n /\ n <= 1048576) /\ 0 <= m.to /\ m.to <= 1048576 := by
 obtain ⟨_, _, _, _, _, hmv, _⟩ := g.right
 obtain ⟨h1, s, h2, h3, h4, h5⟩ := hmv m hm
 obtain ⟨_, _, _, _, _, hs, _⟩ := g.house
 obtain ⟨⟨_, _, s1, s2, s3, _⟩, _⟩ := hs s (List.mem_of_getElem? h3)
 have hlt : (Af h m.set).toNat < l.length := by
  rw [g.len];exact (List.getElem?_eq_some_iff.1 h3).1
 have hn := List.getElem?_eq_getElem hlt
 have ht := g.trims _ _ s hn h3
 exact ⟨h1, h2, hlt, _, hn, ⟨by omega, by omega⟩, by omega, by omega⟩
def Se (h : HouseR) (l : List Int) (m : MoveR) : Int := max (m.to - l.getD (Af h m.set).toNat 0) (-(m.to - l.getD (Af h m.set).toNat 0))
theorem Rd {h : HouseR} {l : List Int} {m : MoveR} {n : Int} (hn : l[(Af h m.set).toNat]? = some n) : Se h l m = max (m.to - n) (-(m.to - n)) := by
 unfold Se
 rw [List.getD_eq_getElem?_getD, hn];rfl
theorem Qd {h : HouseR} {l : List Int} {q : CueR} (g : GivenOk h l q) {m : MoveR} (hm : m ∈ q.moves) : 0 <= Se h l m /\ Se h l m <= 1048576 := by
 obtain ⟨_, _, _, n, hn, _, _, _⟩ := g.move hm
 rw [Rd hn]
 omega
def M1 (h : HouseR) (l : List Int) (m : MoveR) : Rat := Pi (Se h l m) m
theorem A51 {d : Int} {m : MoveR} (hm : E5 m) (hd : 0 <= d /\ d <= 1048576) : Fits (Pi d m) := by
 unfold Pi
 by_cases h : d = 0
 ·rw [if_pos h];exact Cu (n := 0) (by omega) (by omega)
 ·rw [if_neg h];exact (Qs hm (by omega)).fin
theorem Ui {h : HouseR} {l : List Int} {q : CueR} (g : GivenOk h l q) {m : MoveR} (hm : m ∈ q.moves) : Fits (M1 h l m) := A51 (g.move hm).1 (Qd g hm)
def J0 (h : HouseR) (l : List Int) (most : Rat) (m : MoveR) : Rat := if 0 < Ao (M1 h l m) most then M1 h l m else most
def Dm (h : HouseR) (l : List Int) (ms : List MoveR) : Rat := ms.foldl (J0 h l) 0
theorem A5u (h : HouseR) (l : List Int) (ms : List MoveR) (m : MoveR) : Dm h l (ms ++ [m]) = J0 h l (Dm h l ms) m := by simp [Dm]
theorem A0n (h : HouseR) (l : List Int) : ∀ (ms : List MoveR) (a : Rat), ms.foldl (J0 h l) a = a \/ ∃ m ∈ ms, ms.foldl (J0 h l) a = M1 h l m
 | [], a => .inl rfl
 | m :: ms, a => by
  rw [List.foldl_cons]
  rcases A0n h l ms (J0 h l a m) with e | ⟨x, hx, e⟩
  ·rw [e]
   unfold J0
   split
   ·exact .inr ⟨m, by simp, rfl⟩
   ·exact .inl rfl
  ·exact .inr ⟨x, by simp [hx], e⟩
theorem Xn {h : HouseR} {l : List Int} {q : CueR} (g : GivenOk h l q) {ms : List MoveR} (hms : ∀ m ∈ ms, m ∈ q.moves) : Fits (Dm h l ms) := by
 unfold Dm
 rcases A0n h l ms 0 with e | ⟨m, hm, e⟩
 ·rw [e];exact Cu (n := 0) (by omega) (by omega)
 ·rw [e];exact Ui g (hms m hm)
set_option maxHeartbeats 16000000 in
theorem W6 (h : HouseR) (l : List Int) (q : CueR) (hf : h.fits) (hq : q.moves.length <= 9223372036854775807) (hl : l.length <= 9223372036854775807) (g0 : Eu h l q = 0) : Fn0 Tryz.prog 84 [A1 h.row, .sl (l.map A3), A1 q.row] (frE (Dm h l q.moves) 0) := by
 have g := A2n g0
 have cg := A5y h l q hf hq hl
 rw [g0] at cg
 have hf1 := hf.1
 have hle : (q.moves.map MoveR.row).length = q.moves.length := List.length_map _
 refine Fn0.of Tryz.func84 Tryz.ntmps84 rfl rfl rfl ?_
 simp only [A2]
 repeat' (first | refine W ?_|refine Zc cg ?_ | refine V ?_|(refine W2 ?_ ?_ <;> intro hc))
 refine T.loopS (fun k => k <= q.moves.length) (fun k => q.moves.length - k) (fun k => [(29, .i k), (28, .i (q.moves.map MoveR.row).length), (27, .sl (q.moves.map MoveR.row)), (1, .sl (l.map A3)), (3, .ptr 0 0), (5, .ptr 1 0), (6, .ptr 2 0), (9, .ptr 3 0)]) (fun k => [.live (h.row.map .lf), .live (q.row.map .lf), .live [.i 0, .i 0], .live ((frR (Dm h l (q.moves.take k))).map .lf)]) 0 (Nat.zero_le _) CV CH ?_
 intro k hk
 by_cases hlt : k < q.moves.length
 ·have h1 : (k : Int) < ((q.moves.map MoveR.row).length : Nat) := by omega
  obtain ⟨x, hx⟩ := A9 hlt
  have hb := Ac (R := MoveR.row) hx
  have hsn := B7 hx
  have hmem : x ∈ q.moves := List.mem_of_getElem? hx
  have hst : Dm h l (q.moves.take (k + 1)) = J0 h l (Dm h l (q.moves.take k)) x := by rw [hsn, A5u]
  obtain ⟨m1, m2, m3, n, hn, m4, m5, m6⟩ := g.move hmem
  have hb2 : (l.map A3)[(Af h x.set).toNat]? = some (A3 n) := I6 hn
  have hd := Qd g hmem
  have ct := A3k (max (x.to - n) (-(x.to - n))) x m1 (by rw [<- Rd hn];exact hd)
  rw [show Pi (max (x.to - n) (-(x.to - n))) x = M1 h l x by unfold M1;rw [Rd hn]] at ct
  have cc := Ki (M1 h l x) (Dm h l (q.moves.take k)) (Ui g hmem) (Xn g fun m hm => List.mem_of_mem_take hm)
  repeat' (first | refine W ?_|(apply T.drawAll A0 (by decide +kernel))|refine Zi hb ?_|refine Zi hb2 ?_|refine Zc (Ph h x.set hf1) ?_|refine Zc ct ?_|refine Zc cc ?_|(apply S.neg;exact rfl;exact rfl;omega)|(apply S.max2;exact rfl;exact rfl;exact rfl)|refine Za ?_ | refine V ?_|(refine W2 ?_ ?_ <;> intro hc))
  all_goals (try change Next _ _ _ _ _ _)
  all_goals first
   | exact Next.go (k + 1) (by omega) (by omega) CV (by
     show CovH _ _ [_, _, _, .live ((frR (Dm h l (q.moves.take (k + 1)))).map .lf)]
     rw [hst, J0, if_pos (by assumption)]
     exact .live rfl CH)
   | exact Next.go (k + 1) (by omega) (by omega) CV (by
     show CovH _ _ [_, _, _, .live ((frR (Dm h l (q.moves.take (k + 1)))).map .lf)]
     rw [hst, J0, if_neg (by assumption)]
     exact .live rfl CH)
 ·have h1 : ¬ (k : Int) < ((q.moves.map MoveR.row).length : Nat) := by omega
  have hkt : q.moves.take k = q.moves := List.take_of_length_le (by omega)
  rw [show Dm h l q.moves = Dm h l (q.moves.take k) by rw [hkt]]
  repeat' (first | refine W ?_ | refine V ?_|(refine W2 ?_ ?_ <;> intro hc))
  exact ⟨.inr rfl, [A1 (frR (Dm h l (q.moves.take k))), .i 0], by rw [Tryz.results84];exact .cons (Res.row (frR (Dm h l (q.moves.take k))) rfl rfl rfl rfl rfl) (.cons (.tmp rfl) .nil), .tup (.cons (.agg (A7 (frR (Dm h l (q.moves.take k))))) (.cons (.one (.lf _)) .nil))⟩
/-! ### The reference -/
end Go.Proofs.YtocoehahhohpgaaGreat
