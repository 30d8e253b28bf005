/- Contracts: profile.Time and the reference's Time: the same fraction. No conditions but those of each statement. -/
import Derived.Test.YtkboebgkcjcpfaaGreatDoorMp
import Derived.Test.YtkboebgkcjcpfaaGreatDoorMn
set_option linter.unusedSimpArgs false
set_option linter.unusedVariables false
namespace Go.Proofs.YtkboebgkcjcpfaaGreatDoor
open Go.RowKit
set_option maxHeartbeats 8000000 in
theorem Jj (d : Int) (m : MoveR) (l : List PieceR) (x : PieceR) (hl : l.length <= 4) (hx : l[l.length - 1]? = some x) (hc : Fn0 Tryz.prog 192 [.i d, A4 m.row] (.tup [.sl (l.map PieceR.row), .i 0])) : Fn0 Tryz.prog 89 [.i d, A4 m.row] (.tup [A4 x.at, .i 0]) := by
 have h0 : l ≠ [] := by rintro rfl;simp at hx
 have hpos : 1 <= l.length := by
  cases l with
  | nil => exact absurd rfl h0
  | cons _ _ => simp
 have hk := X5 d m l hl h0 hc
 have hle : (l.map PieceR.at).length = l.length := List.length_map _
 have hb : (l.map PieceR.at)[(((l.map PieceR.at).length : Int) - 1).toNat]? = some x.at := by
  rw [hle, show ((l.length : Int) - 1).toNat = l.length - 1 by omega, List.getElem?_map, hx];rfl
 refine Fn0.of Tryz.func89 Tryz.ntmps89 rfl rfl rfl ?_
 simp only [A0]
 repeat' (first | refine W ?_|refine Zc hk ?_|(apply S.indexR;(iterate 3 exact rfl);exact hb;omega;exact rfl)|refine Za ?_ | refine V ?_|(refine W2 ?_ ?_ <;> intro hc))
 all_goals exact ⟨.inr rfl, [A4 x.at, .i 0], by rw [Tryz.results89];exact .cons (Res.row x.at rfl rfl rfl rfl rfl) (.cons (.tmp rfl) .nil), .tup (.cons (.agg (An x.at)) (.cons (.one (.lf _)) .nil))⟩
def Eb (f a b c : Rat) : PieceR := ⟨f.num, f.den, a.num, a.den, b.num, b.den, c.num, c.den⟩
def Ge (d : Int) (m : MoveR) : Rat := if d = 0 then 0 else Jl d m
theorem A04 (d : Int) (m : MoveR) (hm : C4 m) (hd : 0 <= d /\ d <= 1048576) : Fn0 Tryz.prog 89 [.i d, A4 m.row] (frE (Ge d m) 0) := by
 unfold Ge
 by_cases h : d = 0
 ·subst h
  rw [if_pos rfl]
  exact Jj 0 m [Eb 0 0 0 0] (Eb 0 0 0 0) (by decide) rfl (V7 m hm)
 ·rw [if_neg h]
  have hc := X4 d m hm (by omega)
  by_cases hr : (Tl d m).num = 0
  ·rw [show Kp d m = Jw d m from if_pos hr] at hc
   exact Jj d m [Eb 0 0 0 (Ab m.rise 2), Eb (Jm d m) (Tn d m) ((Av d m : Int) : Rat) (Ab (-m.fall) 2), Eb (Jl d m) (d : Rat) 0 0] (Eb (Jl d m) (d : Rat) 0 0) (by simp) rfl hc
  ·rw [show Kp d m = Jx d m from if_neg hr] at hc
   exact Jj d m [Eb 0 0 0 (Ab m.rise 2), Eb (L8 d m) (Oo d m) ((Av d m : Int) : Rat) 0, Eb (Jm d m) (Tn d m) ((Av d m : Int) : Rat) (Ab (-m.fall) 2), Eb (Jl d m) (d : Rat) 0 0] (Eb (Jl d m) (d : Rat) 0 0) (by simp) rfl hc
theorem A3c (n d : Int) (hd : d ≠ 0) (n1 : -9223372036854775808 <= n) (n2 : n <= 9223372036854775807) (d1 : -9223372036854775808 <= d) (d2 : d <= 9223372036854775807) (hf : Fits (Ab n d)) : Fn0 Tryz.prog 181 [.i n, .i d] (A4 (frR (Ab n d))) := by
 refine Fn0.of Tryz.func181 Tryz.ntmps181 rfl rfl rfl ?_
 simp only [A0]
 repeat' (first | refine W ?_|refine Zc (A3b n d hd n1 n2 d1 d2 hf) ?_ | refine V ?_|(refine W2 ?_ ?_ <;> intro hc))
 all_goals exact Jp (frR (Ab n d)) Tryz.results181 (by first | exact .inl rfl | exact .inr rfl) rfl rfl rfl rfl
set_option maxHeartbeats 8000000 in
theorem A3e (d : Int) (m : MoveR) (hm : C4 m) (hd : 0 <= d /\ d <= 1048576) : Fn0 Tryz.prog 128 [.i d, A4 m.row] (A4 (frR (Ge d m))) := by
 unfold Ge
 by_cases h : d = 0
 ·rw [if_pos h]
  refine Fn0.of Tryz.func128 Tryz.ntmps128 rfl rfl rfl ?_
  simp only [A0]
  repeat' (first | refine W ?_|refine Zc (Ot 0) ?_ | refine V ?_|(refine W2 ?_ ?_ <;> intro hc))
  all_goals exact Jp (frR 0) Tryz.results128 (by first | exact .inl rfl | exact .inr rfl) rfl rfl rfl rfl
 ·rw [if_neg h]
  have K := Iw hm (d := d) (by omega)
  have hw := K.w
  have hfin := K.fin
  rw [K.time] at hfin ⊢
  have ct := A4u d m hm (by omega)
  obtain ⟨_, _, h3, h4, h5⟩ := hm
  obtain ⟨w, hwe⟩ : ∃ w : Int, w = (Av d m : Int) := ⟨_, rfl⟩
  rw [<- hwe] at hfin ct ⊢
  have hw' : 1 <= w /\ w <= 8192 := by omega
  have ww := Dw (a := w) (b := w) (A := 8192) (B := 8192) (by omega) (by omega)
  have rf := Dw (a := 2 * m.rise) (b := m.fall) (A := 32768) (B := 16384) (by omega) (by omega)
  have rf1 := Nf (a := 2 * m.rise) (b := m.fall) (by omega) (by omega)
  have rfd := Dw (a := 2 * m.rise * m.fall) (b := d) (A := 536870912) (B := 1048576) (by omega) (by omega)
  have rfw := Dw (a := 2 * m.rise * m.fall) (b := w) (A := 536870912) (B := 8192) (by omega) (by omega)
  have rfw1 := Nf (a := 2 * m.rise * m.fall) (b := w) (by omega) (by omega)
  have wrf := Dw (a := w * w) (b := m.rise + m.fall) (A := 67108864) (B := 32768) (by omega) (by omega)
  have cf := A3c _ _ (by omega) (by omega) (by omega) (by omega) (by omega) hfin
  refine Fn0.of Tryz.func128 Tryz.ntmps128 rfl rfl rfl ?_
  simp only [A0]
  repeat' (first | refine W ?_|refine Zc ct ?_|refine Zc cf ?_|refine Za ?_ | refine V ?_|(refine W2 ?_ ?_ <;> intro hc))
  all_goals exact Jp (frR (Ab (2 * m.rise * m.fall * d + w * w * (m.rise + m.fall)) (2 * m.rise * m.fall * w))) Tryz.results128 (by first | exact .inl rfl | exact .inr rfl) rfl rfl rfl rfl
structure GivenOk (h : HouseR) (l : List Int) (q : CueR) : Prop where
 house : D7 h
 right : Cj h q
 len : l.length = h.sets.length
 trims : Cp h l
theorem O6 {h : HouseR} {l : List Int} {q : CueR} (g : Cq h l q = 0) : GivenOk h l q := by
 by_cases h1 : D7 h /\ Cj h q
 ·by_cases h2 : l.length = h.sets.length
  ·by_cases h3 : Cp h l
   ·exact ⟨h1.1, h1.2, h2, h3⟩
   ·rw [Sn h1 h2 h3] at g;cases g
  ·rw [So h1 h2] at g;cases g
 ·rw [N9 h1] at g;cases g
theorem GivenOk.move {h : HouseR} {l : List Int} {q : CueR} (g : GivenOk h l q) {m : MoveR} (hm : m ∈ q.moves) : C4 m /\ 0 <= Am h m.set /\ (Am h m.set).toNat < l.length /\ ∃ n, l[(Am h m.set).toNat]? = some n /\ (0 <= n /\ n <= 1048576) /\ 0 <= m.to /\ m.to <= 1048576 := by
 obtain ⟨_, _, _, _, _, hmv, _⟩ := g.right
 obtain ⟨h1, s, h2, h3, h4, h5⟩ := hmv m hm
 obtain ⟨_, _, _, _, _, hs, _⟩ := g.house
 obtain ⟨⟨_, _, s1, s2, s3, _⟩, _⟩ := hs s (List.mem_of_getElem? h3)
 have hlt : (Am h m.set).toNat < l.length := by
  rw [g.len];exact (List.getElem?_eq_some_iff.1 h3).1
 have hn := List.getElem?_eq_getElem hlt
 have ht := g.trims _ _ s hn h3
 exact ⟨h1, h2, hlt, _, hn, ⟨by omega, by omega⟩, by omega, by omega⟩
def Ix (h : HouseR) (l : List Int) (m : MoveR) : Int := max (m.to - l.getD (Am h m.set).toNat 0) (-(m.to - l.getD (Am h m.set).toNat 0))
theorem Iy {h : HouseR} {l : List Int} {m : MoveR} {n : Int} (hn : l[(Am h m.set).toNat]? = some n) : Ix h l m = max (m.to - n) (-(m.to - n)) := by
 unfold Ix
 rw [List.getD_eq_getElem?_getD, hn];rfl
theorem G8 {h : HouseR} {l : List Int} {q : CueR} (g : GivenOk h l q) {m : MoveR} (hm : m ∈ q.moves) : 0 <= Ix h l m /\ Ix h l m <= 1048576 := by
 obtain ⟨_, _, _, n, hn, _, _, _⟩ := g.move hm
 rw [Iy hn]
 omega
def Hw (h : HouseR) (l : List Int) (m : MoveR) : Rat := Ge (Ix h l m) m
theorem Z3 {d : Int} {m : MoveR} (hm : C4 m) (hd : 0 <= d /\ d <= 1048576) : Fits (Ge d m) := by
 unfold Ge
 by_cases h : d = 0
 ·rw [if_pos h];exact Dz (n := 0) (by omega) (by omega)
 ·rw [if_neg h];exact (Iw hm (by omega)).fin
theorem Ks {h : HouseR} {l : List Int} {q : CueR} (g : GivenOk h l q) {m : MoveR} (hm : m ∈ q.moves) : Fits (Hw h l m) := Z3 (g.move hm).1 (G8 g hm)
def Ez (h : HouseR) (l : List Int) (most : Rat) (m : MoveR) : Rat := if 0 < Dy (Hw h l m) most then Hw h l m else most
def Bb (h : HouseR) (l : List Int) (ms : List MoveR) : Rat := ms.foldl (Ez h l) 0
theorem Qt (h : HouseR) (l : List Int) (ms : List MoveR) (m : MoveR) : Bb h l (ms ++ [m]) = Ez h l (Bb h l ms) m := by simp [Bb]
theorem Pp (h : HouseR) (l : List Int) : ∀ (ms : List MoveR) (a : Rat), ms.foldl (Ez h l) a = a \/ ∃ m ∈ ms, ms.foldl (Ez h l) a = Hw h l m
 | [], a => .inl rfl
 | m :: ms, a => by
  rw [List.foldl_cons]
  rcases Pp h l ms (Ez h l a m) with e | ⟨x, hx, e⟩
  ·rw [e]
   unfold Ez
   split
   ·exact .inr ⟨m, by simp, rfl⟩
   ·exact .inl rfl
  ·exact .inr ⟨x, by simp [hx], e⟩
theorem J8 {h : HouseR} {l : List Int} {q : CueR} (g : GivenOk h l q) {ms : List MoveR} (hms : ∀ m ∈ ms, m ∈ q.moves) : Fits (Bb h l ms) := by
 unfold Bb
 rcases Pp h l ms 0 with e | ⟨m, hm, e⟩
 ·rw [e];exact Dz (n := 0) (by omega) (by omega)
 ·rw [e];exact Ks g (hms m hm)
set_option maxHeartbeats 16000000 in
theorem Rm (h : HouseR) (l : List Int) (q : CueR) (hf : h.fits) (hq : q.moves.length <= 9223372036854775807) (hl : l.length <= 9223372036854775807) (g0 : Cq h l q = 0) : Fn0 Tryz.prog 49 [A4 h.row, .sl (l.map A1), A4 q.row] (frE (Bb h l q.moves) 0) := by
 have g := O6 g0
 have cg := Yv h l q hf hq hl
 rw [g0] at cg
 have hf1 := hf.1
 have hle : (q.moves.map MoveR.row).length = q.moves.length := List.length_map _
 refine Fn0.of Tryz.func49 Tryz.ntmps49 rfl rfl rfl ?_
 simp only [A0]
 repeat' (first | refine W ?_|refine Zc cg ?_ | refine V ?_|(refine W2 ?_ ?_ <;> intro hc))
 refine T.loopS (fun k => k <= q.moves.length) (fun k => q.moves.length - k) (fun k => [(29, .i k), (28, .i (q.moves.map MoveR.row).length), (27, .sl (q.moves.map MoveR.row)), (1, .sl (l.map A1)), (3, .ptr 0 0), (5, .ptr 1 0), (6, .ptr 2 0), (9, .ptr 3 0)]) (fun k => [.live (h.row.map .lf), .live (q.row.map .lf), .live [.i 0, .i 0], .live ((frR (Bb h l (q.moves.take k))).map .lf)]) 0 (Nat.zero_le _) CV CH ?_
 intro k hk
 by_cases hlt : k < q.moves.length
 ·have h1 : (k : Int) < ((q.moves.map MoveR.row).length : Nat) := by omega
  obtain ⟨x, hx⟩ := Ac hlt
  have hb := Ad (R := MoveR.row) hx
  have hsn := Af hx
  have hmem : x ∈ q.moves := List.mem_of_getElem? hx
  have hst : Bb h l (q.moves.take (k + 1)) = Ez h l (Bb h l (q.moves.take k)) x := by rw [hsn, Qt]
  obtain ⟨m1, m2, m3, n, hn, m4, m5, m6⟩ := g.move hmem
  have hb2 : (l.map A1)[(Am h x.set).toNat]? = some (A1 n) := Ly hn
  have hd := G8 g hmem
  have ct := A04 (max (x.to - n) (-(x.to - n))) x m1 (by rw [<- Iy hn];exact hd)
  rw [show Ge (max (x.to - n) (-(x.to - n))) x = Hw h l x by unfold Hw;rw [Iy hn]] at ct
  have cc := A0o (Hw h l x) (Bb h l (q.moves.take k)) (Ks g hmem) (J8 g fun m hm => List.mem_of_mem_take hm)
  repeat' (first | refine W ?_|(apply T.drawAll A3 (by decide +kernel))|(apply S.indexR;(iterate 3 exact rfl);exact hb;omega;exact rfl)|(apply S.indexR;(iterate 3 exact rfl);exact hb2;omega;exact rfl)|refine Zc (Ln h x.set hf1) ?_|refine Zc ct ?_|refine Zc cc ?_|(apply S.neg;exact rfl;exact rfl;omega)|(apply S.max2;(iterate 3 exact rfl))|refine Za ?_ | refine V ?_|(refine W2 ?_ ?_ <;> intro hc))
  all_goals (try change Next _ _ _ _ _ _)
  all_goals first
   | exact Next.go (k + 1) (by omega) (by omega) CV (by
     show CovH _ _ [_, _, _, .live ((frR (Bb h l (q.moves.take (k + 1)))).map .lf)]
     rw [hst, Ez, if_pos (by assumption)]
     exact .live rfl CH)
   | exact Next.go (k + 1) (by omega) (by omega) CV (by
     show CovH _ _ [_, _, _, .live ((frR (Bb h l (q.moves.take (k + 1)))).map .lf)]
     rw [hst, Ez, if_neg (by assumption)]
     exact .live rfl CH)
 ·have h1 : ¬ (k : Int) < ((q.moves.map MoveR.row).length : Nat) := by omega
  have hkt : q.moves.take k = q.moves := List.take_of_length_le (by omega)
  rw [show Bb h l q.moves = Bb h l (q.moves.take k) by rw [hkt]]
  repeat' (first | refine W ?_ | refine V ?_|(refine W2 ?_ ?_ <;> intro hc))
  exact ⟨.inr rfl, [A4 (frR (Bb h l (q.moves.take k))), .i 0], by rw [Tryz.results49];exact .cons (Res.row (frR (Bb h l (q.moves.take k))) rfl rfl rfl rfl rfl) (.cons (.tmp rfl) .nil), .tup (.cons (.agg (An (frR (Bb h l (q.moves.take k))))) (.cons (.one (.lf _)) .nil))⟩
/-! ### The reference -/
theorem Tq (h : HouseR) (l : List Int) (m : MoveR) (n : Int) (hf1 : h.sets.length <= 9223372036854775807) (h0 : 0 <= Am h m.set) (hn : l[(Am h m.set).toNat]? = some n) (hn' : 0 <= n /\ n <= 1048576) (ht : 0 <= m.to /\ m.to <= 1048576) : Fn0 Tryz.prog 129 [A4 h.row, .sl (l.map A1), A4 m.row] (.i (Ix h l m)) := by
 rw [Iy hn]
 have hb2 : (l.map A1)[(Am h m.set).toNat]? = some (A1 n) := Ly hn
 refine Fn0.of Tryz.func129 Tryz.ntmps129 rfl rfl rfl ?_
 simp only [A0]
 repeat' (first | refine W ?_|(apply T.drawAll A3 (by decide +kernel))|(apply S.indexR;(iterate 3 exact rfl);exact hb2;omega;exact rfl)|refine Zc (Eu h m.set hf1) ?_|refine Za ?_ | refine V ?_|(refine W2 ?_ ?_ <;> intro hc))
 all_goals exact A5 (by simp) Tryz.results129 rfl (by congr 1;omega)
set_option maxHeartbeats 16000000 in
theorem Xc (h : HouseR) (l : List Int) (q : CueR) (hf : h.fits) (hq : q.moves.length <= 9223372036854775807) (g0 : Cq h l q = 0) : Fn0 Tryz.prog 78 [A4 h.row, .sl (l.map A1), A4 q.row] (A4 (frR (Bb h l q.moves))) := by
 have g := O6 g0
 have hf1 := hf.1
 have hle : (q.moves.map MoveR.row).length = q.moves.length := List.length_map _
 refine Fn0.of Tryz.func78 Tryz.ntmps78 rfl rfl rfl ?_
 simp only [A0]
 repeat' (first | refine W ?_|refine Zc (Ot 0) ?_ | refine V ?_|(refine W2 ?_ ?_ <;> intro hc))
 refine T.loopS (fun k => k <= q.moves.length) (fun k => q.moves.length - k) (fun k => [(8, .i k), (1, .sl (l.map A1)), (3, .ptr 0 0), (5, .ptr 1 0), (6, .ptr 2 0), (7, .ptr 3 0)]) (fun k => [.live (h.row.map .lf), .live (q.row.map .lf), .live [.i 0, .i 0], .live ((frR (Bb h l (q.moves.take k))).map .lf)]) 0 (Nat.zero_le _) CV CH ?_
 intro k hk
 by_cases hlt : k < q.moves.length
 ·have h1 : (k : Int) < ((q.moves.map MoveR.row).length : Nat) := by omega
  obtain ⟨x, hx⟩ := Ac hlt
  have hb := Ad (R := MoveR.row) hx
  have hsn := Af hx
  have hmem : x ∈ q.moves := List.mem_of_getElem? hx
  have hst : Bb h l (q.moves.take (k + 1)) = Ez h l (Bb h l (q.moves.take k)) x := by rw [hsn, Qt]
  obtain ⟨m1, m2, m3, n, hn, m4, m5, m6⟩ := g.move hmem
  have cd := Tq h l x n hf1 m2 hn m4 ⟨m5, m6⟩
  have ct := A3e (Ix h l x) x m1 (G8 g hmem)
  have cc := A4t (Hw h l x) (Bb h l (q.moves.take k)) (Ks g hmem) (J8 g fun m hm => List.mem_of_mem_take hm)
  repeat' (first | refine W ?_|(apply T.draw 14 A3 (by decide +kernel);simp only [td])|(apply T.drawAll A3 (by decide +kernel))|(apply S.indexR;(iterate 3 exact rfl);exact hb;omega;exact rfl)|refine Zc cd ?_|refine Zc ct ?_|refine Zc cc ?_|refine Za ?_ | refine V ?_|(refine W2 ?_ ?_ <;> intro hc))
  all_goals (try change Next _ _ _ _ _ _)
  all_goals first
   | exact Next.go (k + 1) (by omega) (by omega) CV (by
     show CovH _ _ [_, _, _, .live ((frR (Bb h l (q.moves.take (k + 1)))).map .lf)]
     rw [hst, Ez, if_pos (by assumption)]
     exact .live rfl CH)
   | exact Next.go (k + 1) (by omega) (by omega) CV (by
     show CovH _ _ [_, _, _, .live ((frR (Bb h l (q.moves.take (k + 1)))).map .lf)]
     rw [hst, Ez, if_neg (by assumption)]
     exact .live rfl CH)
 ·have h1 : ¬ (k : Int) < ((q.moves.map MoveR.row).length : Nat) := by omega
  have hkt : q.moves.take k = q.moves := List.take_of_length_le (by omega)
  rw [show Bb h l q.moves = Bb h l (q.moves.take k) by rw [hkt]]
  repeat' (first | refine W ?_ | refine V ?_|(refine W2 ?_ ?_ <;> intro hc))
  exact Jp (frR (Bb h l (q.moves.take k))) Tryz.results78 (by first | exact .inl rfl | exact .inr rfl) rfl rfl rfl rfl
end Go.Proofs.YtkboebgkcjcpfaaGreatDoor
