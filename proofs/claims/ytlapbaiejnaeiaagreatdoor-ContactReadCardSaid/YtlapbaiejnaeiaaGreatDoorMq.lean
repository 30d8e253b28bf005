/- Contracts: profile.Time and the reference's Time: the same fraction. No conditions but those of each statement. -/
import Derived.Test.YtlapbaiejnaeiaaGreatDoorMp
import Derived.Test.YtlapbaiejnaeiaaGreatDoorMn
set_option linter.unusedSimpArgs false
set_option linter.unusedVariables false
namespace Go.Proofs.YtlapbaiejnaeiaaGreatDoor
open Go.RowKit
set_option maxHeartbeats 8000000 in
theorem Hp (d : Int) (m : MoveR) (l : List PieceR) (x : PieceR) (hl : l.length <= 4) (hx : l[l.length - 1]? = some x) (hc : Fn0 Tryz.prog 122 [.i d, A4 m.row] (.tup [.sl (l.map PieceR.row), .i 0])) : Fn0 Tryz.prog 161 [.i d, A4 m.row] (.tup [A4 x.at, .i 0]) := by
 have h0 : l ≠ [] := by rintro rfl;simp at hx
 have hpos : 1 <= l.length := by
  cases l with
  | nil => exact absurd rfl h0
  | cons _ _ => simp
 have hk := Sk d m l hl h0 hc
 have hle : (l.map PieceR.at).length = l.length := List.length_map _
 have hb : (l.map PieceR.at)[(((l.map PieceR.at).length : Int) - 1).toNat]? = some x.at := by
  rw [hle, show ((l.length : Int) - 1).toNat = l.length - 1 by omega, List.getElem?_map, hx];rfl
 refine Fn0.of Tryz.func161 Tryz.ntmps161 rfl rfl rfl ?_
 simp only [A0]
 repeat' (first | refine W ?_|refine Zc hk ?_|refine Zi hb ?_|refine Za ?_ | refine V ?_|(refine W2 ?_ ?_ <;> intro hc))
 all_goals exact ⟨.inr rfl, [A4 x.at, .i 0], by rw [Tryz.results161];exact .cons (Res.row x.at rfl rfl rfl rfl rfl) (.cons (.tmp rfl) .nil), .tup (.cons (.agg (Bm x.at)) (.cons (.one (.lf _)) .nil))⟩
def Cz (f a b c : Rat) : PieceR := ⟨f.num, f.den, a.num, a.den, b.num, b.den, c.num, c.den⟩
def J4 (d : Int) (m : MoveR) : Rat := if d = 0 then 0 else Hr d m
theorem Um (d : Int) (m : MoveR) (hm : Cf m) (hd : 0 <= d /\ d <= 1048576) : Fn0 Tryz.prog 161 [.i d, A4 m.row] (frE (J4 d m) 0) := by
 unfold J4
 by_cases h : d = 0
 ·subst h
  rw [if_pos rfl]
  exact Hp 0 m [Cz 0 0 0 0] (Cz 0 0 0 0) (by decide) rfl (Qo m hm)
 ·rw [if_neg h]
  have hc := Sj d m hm (by omega)
  by_cases hr : (Pf d m).num = 0
  ·rw [show Ia d m = Hu d m from if_pos hr] at hc
   exact Hp d m [Cz 0 0 0 (Ab m.rise 2), Cz (Hs d m) (Pg d m) ((Ar d m : Int) : Rat) (Ab (-m.fall) 2), Cz (Hr d m) (d : Rat) 0 0] (Cz (Hr d m) (d : Rat) 0 0) (by simp) rfl hc
  ·rw [show Ia d m = Hv d m from if_neg hr] at hc
   exact Hp d m [Cz 0 0 0 (Ab m.rise 2), Cz (Ir d m) (L8 d m) ((Ar d m : Int) : Rat) 0, Cz (Hs d m) (Pg d m) ((Ar d m : Int) : Rat) (Ab (-m.fall) 2), Cz (Hr d m) (d : Rat) 0 0] (Cz (Hr d m) (d : Rat) 0 0) (by simp) rfl hc
structure GivenOk (h : HouseR) (l : List Int) (q : CueR) : Prop where
 house : Bx h
 right : C0 h q
 len : l.length = h.sets.length
 trims : Bv h l
theorem S5 {h : HouseR} {l : List Int} {q : CueR} (g : Cl h l q = 0) : GivenOk h l q := by
 by_cases h1 : Bx h /\ C0 h q
 ·by_cases h2 : l.length = h.sets.length
  ·by_cases h3 : Bv h l
   ·exact ⟨h1.1, h1.2, h2, h3⟩
   ·rw [Og h1 h2 h3] at g;cases g
  ·rw [Oh h1 h2] at g;cases g
 ·rw [K7 h1] at g;cases g
theorem GivenOk.move {h : HouseR} {l : List Int} {q : CueR} (g : GivenOk h l q) {m : MoveR} (hm : m ∈ q.moves) : Cf m /\ 0 <= As h m.set /\ (As h m.set).toNat < l.length /\ ∃ n, l[(As h m.set).toNat]? = some n /\ (0 <= n /\ n <= 1048576) /\ 0 <= m.to /\ m.to <= 1048576 := by
 obtain ⟨_, _, _, _, _, hmv, _⟩ := g.right
 obtain ⟨h1, s, h2, h3, h4, h5⟩ := hmv m hm
 obtain ⟨_, _, _, _, _, hs, _⟩ := g.house
 obtain ⟨⟨_, _, s1, s2, s3, _⟩, _⟩ := hs s (List.mem_of_getElem? h3)
 have hlt : (As h m.set).toNat < l.length := by
  rw [g.len];exact (List.getElem?_eq_some_iff.1 h3).1
 have hn := List.getElem?_eq_getElem hlt
 have ht := g.trims _ _ s hn h3
 exact ⟨h1, h2, hlt, _, hn, ⟨by omega, by omega⟩, by omega, by omega⟩
def Kt (h : HouseR) (l : List Int) (m : MoveR) : Int := max (m.to - l.getD (As h m.set).toNat 0) (-(m.to - l.getD (As h m.set).toNat 0))
theorem K6 {h : HouseR} {l : List Int} {m : MoveR} {n : Int} (hn : l[(As h m.set).toNat]? = some n) : Kt h l m = max (m.to - n) (-(m.to - n)) := by
 unfold Kt
 rw [List.getD_eq_getElem?_getD, hn];rfl
theorem Jf {h : HouseR} {l : List Int} {q : CueR} (g : GivenOk h l q) {m : MoveR} (hm : m ∈ q.moves) : 0 <= Kt h l m /\ Kt h l m <= 1048576 := by
 obtain ⟨_, _, _, n, hn, _, _, _⟩ := g.move hm
 rw [K6 hn]
 omega
def Hh (h : HouseR) (l : List Int) (m : MoveR) : Rat := J4 (Kt h l m) m
theorem U2 {d : Int} {m : MoveR} (hm : Cf m) (hd : 0 <= d /\ d <= 1048576) : Fits (J4 d m) := by
 unfold J4
 by_cases h : d = 0
 ·rw [if_pos h];exact Fi (n := 0) (by omega) (by omega)
 ·rw [if_neg h];exact (O5 hm (by omega)).fin
theorem Mp {h : HouseR} {l : List Int} {q : CueR} (g : GivenOk h l q) {m : MoveR} (hm : m ∈ q.moves) : Fits (Hh h l m) := U2 (g.move hm).1 (Jf g hm)
def F5 (h : HouseR) (l : List Int) (most : Rat) (m : MoveR) : Rat := if 0 < O0 (Hh h l m) most then Hh h l m else most
def Br (h : HouseR) (l : List Int) (ms : List MoveR) : Rat := ms.foldl (F5 h l) 0
theorem Ub (h : HouseR) (l : List Int) (ms : List MoveR) (m : MoveR) : Br h l (ms ++ [m]) = F5 h l (Br h l ms) m := by simp [Br]
theorem R8 (h : HouseR) (l : List Int) : ∀ (ms : List MoveR) (a : Rat), ms.foldl (F5 h l) a = a \/ ∃ m ∈ ms, ms.foldl (F5 h l) a = Hh h l m
 | [], a => .inl rfl
 | m :: ms, a => by
  rw [List.foldl_cons]
  rcases R8 h l ms (F5 h l a m) with e | ⟨x, hx, e⟩
  ·rw [e]
   unfold F5
   split
   ·exact .inr ⟨m, by simp, rfl⟩
   ·exact .inl rfl
  ·exact .inr ⟨x, by simp [hx], e⟩
theorem Od {h : HouseR} {l : List Int} {q : CueR} (g : GivenOk h l q) {ms : List MoveR} (hms : ∀ m ∈ ms, m ∈ q.moves) : Fits (Br h l ms) := by
 unfold Br
 rcases R8 h l ms 0 with e | ⟨m, hm, e⟩
 ·rw [e];exact Fi (n := 0) (by omega) (by omega)
 ·rw [e];exact Mp g (hms m hm)
set_option maxHeartbeats 16000000 in
theorem Ng (h : HouseR) (l : List Int) (q : CueR) (hf : h.fits) (hq : q.moves.length <= 9223372036854775807) (hl : l.length <= 9223372036854775807) (g0 : Cl h l q = 0) : Fn0 Tryz.prog 114 [A4 h.row, .sl (l.map A1), A4 q.row] (frE (Br h l q.moves) 0) := by
 have g := S5 g0
 have cg := Tu h l q hf hq hl
 rw [g0] at cg
 have hf1 := hf.1
 have hle : (q.moves.map MoveR.row).length = q.moves.length := List.length_map _
 refine Fn0.of Tryz.func114 Tryz.ntmps114 rfl rfl rfl ?_
 simp only [A0]
 repeat' (first | refine W ?_|refine Zc cg ?_ | refine V ?_|(refine W2 ?_ ?_ <;> intro hc))
 refine T.loopS (fun k => k <= q.moves.length) (fun k => q.moves.length - k) (fun k => [(29, .i k), (28, .i (q.moves.map MoveR.row).length), (27, .sl (q.moves.map MoveR.row)), (1, .sl (l.map A1)), (3, .ptr 0 0), (5, .ptr 1 0), (6, .ptr 2 0), (9, .ptr 3 0)]) (fun k => [.live (h.row.map .lf), .live (q.row.map .lf), .live [.i 0, .i 0], .live ((frR (Br h l (q.moves.take k))).map .lf)]) 0 (Nat.zero_le _) CV CH ?_
 intro k hk
 by_cases hlt : k < q.moves.length
 ·have h1 : (k : Int) < ((q.moves.map MoveR.row).length : Nat) := by omega
  obtain ⟨x, hx⟩ := Ac hlt
  have hb := Ae (R := MoveR.row) hx
  have hsn := Bd hx
  have hmem : x ∈ q.moves := List.mem_of_getElem? hx
  have hst : Br h l (q.moves.take (k + 1)) = F5 h l (Br h l (q.moves.take k)) x := by rw [hsn, Ub]
  obtain ⟨m1, m2, m3, n, hn, m4, m5, m6⟩ := g.move hmem
  have hb2 : (l.map A1)[(As h x.set).toNat]? = some (A1 n) := Rf hn
  have hd := Jf g hmem
  have ct := Um (max (x.to - n) (-(x.to - n))) x m1 (by rw [<- K6 hn];exact hd)
  rw [show J4 (max (x.to - n) (-(x.to - n))) x = Hh h l x by unfold Hh;rw [K6 hn]] at ct
  have cc := Us (Hh h l x) (Br h l (q.moves.take k)) (Mp g hmem) (Od g fun m hm => List.mem_of_mem_take hm)
  repeat' (first | refine W ?_|(apply T.drawAll A2 (by decide +kernel))|refine Zi hb ?_|refine Zi hb2 ?_|refine Zc (Iz h x.set hf1) ?_|refine Zc ct ?_|refine Zc cc ?_|(apply S.neg;exact rfl;exact rfl;omega)|(apply S.max2;exact rfl;exact rfl;exact rfl)|refine Za ?_ | refine V ?_|(refine W2 ?_ ?_ <;> intro hc))
  all_goals (try change Next _ _ _ _ _ _)
  all_goals first
   | exact Next.go (k + 1) (by omega) (by omega) CV (by
     show CovH _ _ [_, _, _, .live ((frR (Br h l (q.moves.take (k + 1)))).map .lf)]
     rw [hst, F5, if_pos (by assumption)]
     exact .live rfl CH)
   | exact Next.go (k + 1) (by omega) (by omega) CV (by
     show CovH _ _ [_, _, _, .live ((frR (Br h l (q.moves.take (k + 1)))).map .lf)]
     rw [hst, F5, if_neg (by assumption)]
     exact .live rfl CH)
 ·have h1 : ¬ (k : Int) < ((q.moves.map MoveR.row).length : Nat) := by omega
  have hkt : q.moves.take k = q.moves := List.take_of_length_le (by omega)
  rw [show Br h l q.moves = Br h l (q.moves.take k) by rw [hkt]]
  repeat' (first | refine W ?_ | refine V ?_|(refine W2 ?_ ?_ <;> intro hc))
  exact ⟨.inr rfl, [A4 (frR (Br h l (q.moves.take k))), .i 0], by rw [Tryz.results114];exact .cons (Res.row (frR (Br h l (q.moves.take k))) rfl rfl rfl rfl rfl) (.cons (.tmp rfl) .nil), .tup (.cons (.agg (Bm (frR (Br h l (q.moves.take k))))) (.cons (.one (.lf _)) .nil))⟩
/-! ### The reference -/
end Go.Proofs.YtlapbaiejnaeiaaGreatDoor
