/- Contracts: profile.Time and the reference's Time: the same fraction. No conditions but those of each statement. -/
import Derived.Test.YtbceahipbdmocaaGreatMp
import Derived.Test.YtbceahipbdmocaaGreatMn
set_option linter.unusedSimpArgs false
set_option linter.unusedVariables false
namespace Go.Proofs.YtbceahipbdmocaaGreat
open Go.RowKit
set_option maxHeartbeats 8000000 in
theorem Mz (d : Int) (m : MoveR) (l : List PieceR) (x : PieceR) (hl : l.length <= 4) (hx : l[l.length - 1]? = some x) (hc : Fn0 Tryz.prog 97 [.i d, A2 m.row] (.tup [.sl (l.map PieceR.row), .i 0])) : Fn0 Tryz.prog 159 [.i d, A2 m.row] (.tup [A2 x.at, .i 0]) := by
 have h0 : l ≠ [] := by rintro rfl;simp at hx
 have hpos : 1 <= l.length := by
  cases l with
  | nil => exact absurd rfl h0
  | cons _ _ => simp
 have hk := A2l d m l hl h0 hc
 have hle : (l.map PieceR.at).length = l.length := List.length_map _
 have hb : (l.map PieceR.at)[(((l.map PieceR.at).length : Int) - 1).toNat]? = some x.at := by
  rw [hle, show ((l.length : Int) - 1).toNat = l.length - 1 by omega, List.getElem?_map, hx];rfl
 refine Fn0.of Tryz.func159 Tryz.ntmps159 rfl rfl rfl ?_
 simp only [A1]
 repeat' (first | refine W ?_|refine Zc hk ?_|refine Zi hb ?_|refine Za ?_ | refine V ?_|(refine W2 ?_ ?_ <;> intro hc))
 all_goals exact ⟨.inr rfl, [A2 x.at, .i 0], by rw [Tryz.results159];exact .cons (Res.row x.at rfl rfl rfl rfl rfl) (.cons (.tmp rfl) .nil), .tup (.cons (.agg (A9 x.at)) (.cons (.one (.lf _)) .nil))⟩
def Fg (f a b c : Rat) : PieceR := ⟨f.num, f.den, a.num, a.den, b.num, b.den, c.num, c.den⟩
def Px (d : Int) (m : MoveR) : Rat := if d = 0 then 0 else Jy d m
theorem A4q (d : Int) (m : MoveR) (hm : Dw m) (hd : 0 <= d /\ d <= 1048576) : Fn0 Tryz.prog 159 [.i d, A2 m.row] (frE (Px d m) 0) := by
 unfold Px
 by_cases h : d = 0
 ·subst h
  rw [if_pos rfl]
  exact Mz 0 m [Fg 0 0 0 0] (Fg 0 0 0 0) (by decide) rfl (A0a m hm)
 ·rw [if_neg h]
  have hc := Sq d m hm (by omega)
  by_cases hr : (Tx d m).num = 0
  ·rw [show Jr d m = Mk d m from if_pos hr] at hc
   exact Mz d m [Fg 0 0 0 (Aa m.rise 2), Fg (J2 d m) (Qy d m) ((B7 d m : Int) : Rat) (Aa (-m.fall) 2), Fg (Jy d m) (d : Rat) 0 0] (Fg (Jy d m) (d : Rat) 0 0) (by simp) rfl hc
  ·rw [show Jr d m = Mc d m from if_neg hr] at hc
   exact Mz d m [Fg 0 0 0 (Aa m.rise 2), Fg (Lx d m) (Pm d m) ((B7 d m : Int) : Rat) 0, Fg (J2 d m) (Qy d m) ((B7 d m : Int) : Rat) (Aa (-m.fall) 2), Fg (Jy d m) (d : Rat) 0 0] (Fg (Jy d m) (d : Rat) 0 0) (by simp) rfl hc
structure GivenOk (h : HouseR) (l : List Int) (q : CueR) : Prop where
 house : C0 h
 right : Dq h q
 len : l.length = h.sets.length
 trims : Dg h l
theorem A2u {h : HouseR} {l : List Int} {q : CueR} (g : Em h l q = 0) : GivenOk h l q := by
 by_cases h1 : C0 h /\ Dq h q
 ·by_cases h2 : l.length = h.sets.length
  ·by_cases h3 : Dg h l
   ·exact ⟨h1.1, h1.2, h2, h3⟩
   ·rw [Yb h1 h2 h3] at g;cases g
  ·rw [Xx h1 h2] at g;cases g
 ·rw [R2 h1] at g;cases g
theorem GivenOk.move {h : HouseR} {l : List Int} {q : CueR} (g : GivenOk h l q) {m : MoveR} (hm : m ∈ q.moves) : Dw m /\ 0 <= Aj h m.set /\ (Aj h m.set).toNat < l.length /\ ∃ n, l[(Aj h m.set).toNat]? = some n /\ (0 <= n /\ n <= 1048576) /\ 0 <= m.to /\ m.to <= 1048576 := by
 obtain ⟨_, _, _, _, _, hmv, _⟩ := g.right
 obtain ⟨h1, s, h2, h3, h4, h5⟩ := hmv m hm
 obtain ⟨_, _, _, _, _, hs, _⟩ := g.house
 obtain ⟨⟨_, _, s1, s2, s3, _⟩, _⟩ := hs s (List.mem_of_getElem? h3)
 have hlt : (Aj h m.set).toNat < l.length := by
  rw [g.len];exact (List.getElem?_eq_some_iff.1 h3).1
 have hn := List.getElem?_eq_getElem hlt
 have ht := g.trims _ _ s hn h3
 exact ⟨h1, h2, hlt, _, hn, ⟨by omega, by omega⟩, by omega, by omega⟩
def Sb (h : HouseR) (l : List Int) (m : MoveR) : Int := max (m.to - l.getD (Aj h m.set).toNat 0) (-(m.to - l.getD (Aj h m.set).toNat 0))
theorem Rb {h : HouseR} {l : List Int} {m : MoveR} {n : Int} (hn : l[(Aj h m.set).toNat]? = some n) : Sb h l m = max (m.to - n) (-(m.to - n)) := by
 unfold Sb
 rw [List.getD_eq_getElem?_getD, hn];rfl
theorem Qi {h : HouseR} {l : List Int} {q : CueR} (g : GivenOk h l q) {m : MoveR} (hm : m ∈ q.moves) : 0 <= Sb h l m /\ Sb h l m <= 1048576 := by
 obtain ⟨_, _, _, n, hn, _, _, _⟩ := g.move hm
 rw [Rb hn]
 omega
def M4 (h : HouseR) (l : List Int) (m : MoveR) : Rat := Px (Sb h l m) m
theorem A3z {d : Int} {m : MoveR} (hm : Dw m) (hd : 0 <= d /\ d <= 1048576) : Fits (Px d m) := by
 unfold Px
 by_cases h : d = 0
 ·rw [if_pos h];exact Ch (n := 0) (by omega) (by omega)
 ·rw [if_neg h];exact (Rf hm (by omega)).fin
theorem Vb {h : HouseR} {l : List Int} {q : CueR} (g : GivenOk h l q) {m : MoveR} (hm : m ∈ q.moves) : Fits (M4 h l m) := A3z (g.move hm).1 (Qi g hm)
def J3 (h : HouseR) (l : List Int) (most : Rat) (m : MoveR) : Rat := if 0 < Bv (M4 h l m) most then M4 h l m else most
def D8 (h : HouseR) (l : List Int) (ms : List MoveR) : Rat := ms.foldl (J3 h l) 0
theorem A4l (h : HouseR) (l : List Int) (ms : List MoveR) (m : MoveR) : D8 h l (ms ++ [m]) = J3 h l (D8 h l ms) m := by simp [D8]
theorem A1g (h : HouseR) (l : List Int) : ∀ (ms : List MoveR) (a : Rat), ms.foldl (J3 h l) a = a \/ ∃ m ∈ ms, ms.foldl (J3 h l) a = M4 h l m
 | [], a => .inl rfl
 | m :: ms, a => by
  rw [List.foldl_cons]
  rcases A1g h l ms (J3 h l a m) with e | ⟨x, hx, e⟩
  ·rw [e]
   unfold J3
   split
   ·exact .inr ⟨m, by simp, rfl⟩
   ·exact .inl rfl
  ·exact .inr ⟨x, by simp [hx], e⟩
theorem Z6 {h : HouseR} {l : List Int} {q : CueR} (g : GivenOk h l q) {ms : List MoveR} (hms : ∀ m ∈ ms, m ∈ q.moves) : Fits (D8 h l ms) := by
 unfold D8
 rcases A1g h l ms 0 with e | ⟨m, hm, e⟩
 ·rw [e];exact Ch (n := 0) (by omega) (by omega)
 ·rw [e];exact Vb g (hms m hm)
set_option maxHeartbeats 16000000 in
theorem W7 (h : HouseR) (l : List Int) (q : CueR) (hf : h.fits) (hq : q.moves.length <= 9223372036854775807) (hl : l.length <= 9223372036854775807) (g0 : Em h l q = 0) : Fn0 Tryz.prog 88 [A2 h.row, .sl (l.map A3), A2 q.row] (frE (D8 h l q.moves) 0) := by
 have g := A2u g0
 have cg := A41 h l q hf hq hl
 rw [g0] at cg
 have hf1 := hf.1
 have hle : (q.moves.map MoveR.row).length = q.moves.length := List.length_map _
 refine Fn0.of Tryz.func88 Tryz.ntmps88 rfl rfl rfl ?_
 simp only [A1]
 repeat' (first | refine W ?_|refine Zc cg ?_ | refine V ?_|(refine W2 ?_ ?_ <;> intro hc))
 refine T.loopS (fun k => k <= q.moves.length) (fun k => q.moves.length - k) (fun k => [(29, .i k), (28, .i (q.moves.map MoveR.row).length), (27, .sl (q.moves.map MoveR.row)), (1, .sl (l.map A3)), (3, .ptr 0 0), (5, .ptr 1 0), (6, .ptr 2 0), (9, .ptr 3 0)]) (fun k => [.live (h.row.map .lf), .live (q.row.map .lf), .live [.i 0, .i 0], .live ((frR (D8 h l (q.moves.take k))).map .lf)]) 0 (Nat.zero_le _) CV CH ?_
 intro k hk
 by_cases hlt : k < q.moves.length
 ·have h1 : (k : Int) < ((q.moves.map MoveR.row).length : Nat) := by omega
  obtain ⟨x, hx⟩ := Ab hlt
  have hb := Ac (R := MoveR.row) hx
  have hsn := B9 hx
  have hmem : x ∈ q.moves := List.mem_of_getElem? hx
  have hst : D8 h l (q.moves.take (k + 1)) = J3 h l (D8 h l (q.moves.take k)) x := by rw [hsn, A4l]
  obtain ⟨m1, m2, m3, n, hn, m4, m5, m6⟩ := g.move hmem
  have hb2 : (l.map A3)[(Aj h x.set).toNat]? = some (A3 n) := Ld hn
  have hd := Qi g hmem
  have ct := A4q (max (x.to - n) (-(x.to - n))) x m1 (by rw [<- Rb hn];exact hd)
  rw [show Px (max (x.to - n) (-(x.to - n))) x = M4 h l x by unfold M4;rw [Rb hn]] at ct
  have cc := Ns (M4 h l x) (D8 h l (q.moves.take k)) (Vb g hmem) (Z6 g fun m hm => List.mem_of_mem_take hm)
  repeat' (first | refine W ?_|(apply T.drawAll A0 (by decide +kernel))|refine Zi hb ?_|refine Zi hb2 ?_|refine Zc (Po h x.set hf1) ?_|refine Zc ct ?_|refine Zc cc ?_|(apply S.neg;exact rfl;exact rfl;omega)|(apply S.max2;exact rfl;exact rfl;exact rfl)|refine Za ?_ | refine V ?_|(refine W2 ?_ ?_ <;> intro hc))
  all_goals (try change Next _ _ _ _ _ _)
  all_goals first
   | exact Next.go (k + 1) (by omega) (by omega) CV (by
     show CovH _ _ [_, _, _, .live ((frR (D8 h l (q.moves.take (k + 1)))).map .lf)]
     rw [hst, J3, if_pos (by assumption)]
     exact .live rfl CH)
   | exact Next.go (k + 1) (by omega) (by omega) CV (by
     show CovH _ _ [_, _, _, .live ((frR (D8 h l (q.moves.take (k + 1)))).map .lf)]
     rw [hst, J3, if_neg (by assumption)]
     exact .live rfl CH)
 ·have h1 : ¬ (k : Int) < ((q.moves.map MoveR.row).length : Nat) := by omega
  have hkt : q.moves.take k = q.moves := List.take_of_length_le (by omega)
  rw [show D8 h l q.moves = D8 h l (q.moves.take k) by rw [hkt]]
  repeat' (first | refine W ?_ | refine V ?_|(refine W2 ?_ ?_ <;> intro hc))
  exact ⟨.inr rfl, [A2 (frR (D8 h l (q.moves.take k))), .i 0], by rw [Tryz.results88];exact .cons (Res.row (frR (D8 h l (q.moves.take k))) rfl rfl rfl rfl rfl) (.cons (.tmp rfl) .nil), .tup (.cons (.agg (A9 (frR (D8 h l (q.moves.take k))))) (.cons (.one (.lf _)) .nil))⟩
/-! ### The reference -/
end Go.Proofs.YtbceahipbdmocaaGreat
