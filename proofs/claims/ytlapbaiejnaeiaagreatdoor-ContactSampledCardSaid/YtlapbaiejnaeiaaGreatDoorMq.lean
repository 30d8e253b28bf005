/- Lemmas of the proof. -/
import Derived.Test.YtlapbaiejnaeiaaGreatDoorMp
import Derived.Test.YtlapbaiejnaeiaaGreatDoorMn
import Derived.Test.YtlapbaiejnaeiaaGreatDoorMt
import Derived.Test.YtlapbaiejnaeiaaGreatDoorMc
import Derived.Laws.StructEq
set_option linter.all false
set_option maxHeartbeats 64000000
namespace Go.Proofs.YtlapbaiejnaeiaaGreatDoor
open Go.RowKit
def a0v := @Rat.le_trans
def a3h := @List.nil_append
def a4j := @Rat.le_refl
def a4p := @List.range_succ
def a6c := @List.length_set
def a6y := @List.map_eq_nil_iff
def a8h := @List.mem_flatten
theorem Ms (d : Int) (m : MoveR) (l : List PieceR) (x : PieceR) (hl : l.length <= 4) (hx : l[l.length - 1]? = some x) (hc : Fn0 Tryz.prog 122 [.i d, A2 m.row] (.tup [.sl (l.map PieceR.row), .i 0])) : Fn0 Tryz.prog 161 [.i d, A2 m.row] (.tup [A2 x.at, .i 0]) := by
 have h0 : l ≠ [] := by rintro rfl;simp at hx
 have hpos : 1 <= l.length := by
  cases l with
  | nil => exact absurd rfl h0
  | cons _ _ => simp
 have hk := A3w d m l hl h0 hc
 have hle : (l.map PieceR.at).length = l.length := a0a _
 have hb : (l.map PieceR.at)[(((l.map PieceR.at).length : Int) - 1).toNat]? = some x.at := by
  rw [hle, show ((l.length : Int) - 1).toNat = l.length - 1 by omega, a0e, hx];rfl
 refine Fn0.of Tryz.func161 Tryz.ntmps161 rfl rfl rfl ?_
 simp only [A1]
 repeat' (first|refine W ?_|refine Zc hk ?_|(apply S.indexR;(iterate 3 exact rfl);exact hb;omega;exact rfl)|refine Za ?_|refine V ?_|(refine W2 ?_ ?_<;>intro hc))
 all_goals exact ⟨.inr rfl, [A2 x.at, .i 0], by rw [Tryz.results161];exact .cons (Res.row x.at rfl rfl rfl rfl rfl) (.cons (.tmp rfl) .nil), .tup (.cons (.agg (A6 x.at)) (.cons (.one (.lf _)) .nil))⟩
def Fu (f a b c : Rat) : PieceR := ⟨f.num, f.den, a.num, a.den, b.num, b.den, c.num, c.den⟩
def Nd (d : Int) (m : MoveR) : Rat := if d = 0 then 0 else Fg d m
theorem A7a (d : Int) (m : MoveR) (hm : Dp m) (hd : 0 <= d /\ d <= 1048576) : Fn0 Tryz.prog 161 [.i d, A2 m.row] (frE (Nd d m) 0) := by
 unfold Nd
 by_cases h : d = 0
 ·subst h
  rw [if_pos rfl]
  exact Ms 0 m [Fu 0 0 0 0] (Fu 0 0 0 0) (by decide) rfl (A0i m hm)
 ·rw [if_neg h]
  have hc := T9 d m hm (by omega)
  by_cases hr : (J6 d m).num = 0
  ·rw [show Jx d m = N3 d m from if_pos hr] at hc
   exact Ms d m [Fu 0 0 0 (A9 m.rise 2), Fu (Ev d m) (Rv d m) ((Au d m : Int) : Rat) (A9 (-m.fall) 2), Fu (Fg d m) (d : Rat) 0 0] (Fu (Fg d m) (d : Rat) 0 0) (by simp) rfl hc
  ·rw [show Jx d m = N4 d m from if_neg hr] at hc
   exact Ms d m [Fu 0 0 0 (A9 m.rise 2), Fu (Fw d m) (Jh d m) ((Au d m : Int) : Rat) 0, Fu (Ev d m) (Rv d m) ((Au d m : Int) : Rat) (A9 (-m.fall) 2), Fu (Fg d m) (d : Rat) 0 0] (Fu (Fg d m) (d : Rat) 0 0) (by simp) rfl hc
structure GivenOk (h : HouseR) (l : List Int) (q : CueR) : Prop where
 house : Cm h
 right : E5 h q
 len : l.length = h.sets.length
 trims : Dw h l
theorem A3j {h : HouseR} {l : List Int} {q : CueR} (g : F2 h l q = 0) : GivenOk h l q := by
 by_cases h1 : Cm h /\ E5 h q
 ·by_cases h2 : l.length = h.sets.length
  ·by_cases h3 : Dw h l
   ·exact ⟨h1.1, h1.2, h2, h3⟩
   ·rw [Xs h1 h2 h3] at g;cases g
  ·rw [Xt h1 h2] at g;cases g
 ·rw [Rk h1] at g;cases g
theorem GivenOk.move {h : HouseR} {l : List Int} {q : CueR} (g : GivenOk h l q) {m : MoveR} (hm : m ∈ q.moves) : Dp m /\ 0 <= Ae h m.set /\ (Ae h m.set).toNat < l.length /\ ∃ n, l[(Ae h m.set).toNat]? = some n /\ (0 <= n /\ n <= 1048576) /\ 0 <= m.to /\ m.to <= 1048576 := by
 obtain ⟨_, _, _, _, _, hmv, _⟩ := g.right
 obtain ⟨h1, s, h2, h3, h4, h5⟩ := hmv m hm
 obtain ⟨_, _, _, _, _, hs, _⟩ := g.house
 obtain ⟨⟨_, _, s1, s2, s3, _⟩, _⟩ := hs s (a0b h3)
 have hlt : (Ae h m.set).toNat < l.length := by
  rw [g.len];exact (a0g.1 h3).1
 have hn := a0c hlt
 have ht := g.trims _ _ s hn h3
 exact ⟨h1, h2, hlt, _, hn, ⟨by omega, by omega⟩, by omega, by omega⟩
def Pm (h : HouseR) (l : List Int) (m : MoveR) : Int := max (m.to - l.getD (Ae h m.set).toNat 0) (-(m.to - l.getD (Ae h m.set).toNat 0))
theorem Mf {h : HouseR} {l : List Int} {m : MoveR} {n : Int} (hn : l[(Ae h m.set).toNat]? = some n) : Pm h l m = max (m.to - n) (-(m.to - n)) := by
 unfold Pm
 rw [List.getD_eq_getElem?_getD, hn];rfl
theorem Qn {h : HouseR} {l : List Int} {q : CueR} (g : GivenOk h l q) {m : MoveR} (hm : m ∈ q.moves) : 0 <= Pm h l m /\ Pm h l m <= 1048576 := by
 obtain ⟨_, _, _, n, hn, _, _, _⟩ := g.move hm
 rw [Mf hn]
 omega
def Gt (h : HouseR) (l : List Int) (m : MoveR) : Rat := Nd (Pm h l m) m
theorem A62 {d : Int} {m : MoveR} (hm : Dp m) (hd : 0 <= d /\ d <= 1048576) : Fits (Nd d m) := by
 unfold Nd
 by_cases h : d = 0
 ·rw [if_pos h];exact Cd (n := 0) (by omega) (by omega)
 ·rw [if_neg h];exact (Me hm (by omega)).fin
theorem V7 {h : HouseR} {l : List Int} {q : CueR} (g : GivenOk h l q) {m : MoveR} (hm : m ∈ q.moves) : Fits (Gt h l m) := A62 (g.move hm).1 (Qn g hm)
def Ey (h : HouseR) (l : List Int) (most : Rat) (m : MoveR) : Rat := if 0 < Bq (Gt h l m) most then Gt h l m else most
def Db (h : HouseR) (l : List Int) (ms : List MoveR) : Rat := ms.foldl (Ey h l) 0
theorem A6f (h : HouseR) (l : List Int) (ms : List MoveR) (m : MoveR) : Db h l (ms ++ [m]) = Ey h l (Db h l ms) m := by simp [Db]
theorem A1r (h : HouseR) (l : List Int) : ∀ (ms : List MoveR) (a : Rat), ms.foldl (Ey h l) a = a \/ ∃ m ∈ ms, ms.foldl (Ey h l) a = Gt h l m
 | [], a => .inl rfl
 | m :: ms, a => by
  rw [a3g]
  rcases A1r h l ms (Ey h l a m) with e | ⟨x, hx, e⟩
  ·rw [e]
   unfold Ey
   split
   ·exact .inr ⟨m, by simp, rfl⟩
   ·exact .inl rfl
  ·exact .inr ⟨x, by simp [hx], e⟩
theorem Xn {h : HouseR} {l : List Int} {q : CueR} (g : GivenOk h l q) {ms : List MoveR} (hms : ∀ m ∈ ms, m ∈ q.moves) : Fits (Db h l ms) := by
 unfold Db
 rcases A1r h l ms 0 with e | ⟨m, hm, e⟩
 ·rw [e];exact Cd (n := 0) (by omega) (by omega)
 ·rw [e];exact V7 g (hms m hm)
theorem Wh (h : HouseR) (l : List Int) (q : CueR) (hf : h.fits) (hq : q.moves.length <= 9223372036854775807) (hl : l.length <= 9223372036854775807) (g0 : F2 h l q = 0) : Fn0 Tryz.prog 114 [A2 h.row, .sl (l.map A3), A2 q.row] (frE (Db h l q.moves) 0) := by
 have g := A3j g0
 have cg := A5o h l q hf hq hl
 rw [g0] at cg
 have hf1 := hf.1
 have hle : (q.moves.map MoveR.row).length = q.moves.length := a0a _
 refine Fn0.of Tryz.func114 Tryz.ntmps114 rfl rfl rfl ?_
 simp only [A1]
 repeat' (first|refine W ?_|refine Zc cg ?_|refine V ?_|(refine W2 ?_ ?_<;>intro hc))
 refine p0d (fun k => k <= q.moves.length) (fun k => q.moves.length - k) (fun k => [(29, .i k), (28, .i (q.moves.map MoveR.row).length), (27, .sl (q.moves.map MoveR.row)), (1, .sl (l.map A3)), (3, .ptr 0 0), (5, .ptr 1 0), (6, .ptr 2 0), (9, .ptr 3 0)]) (fun k => [.live (h.row.map .lf), .live (q.row.map .lf), .live [.i 0, .i 0], .live ((frR (Db h l (q.moves.take k))).map .lf)]) 0 (a0n _) CV CH ?_
 intro k hk
 by_cases hlt : k < q.moves.length
 ·have h1 : (k : Int) < ((q.moves.map MoveR.row).length : Nat) := by omega
  obtain ⟨x, hx⟩ := Ac hlt
  have hb := Af (R := MoveR.row) hx
  have hsn := Be hx
  have hmem : x ∈ q.moves := a0b hx
  have hst : Db h l (q.moves.take (k + 1)) = Ey h l (Db h l (q.moves.take k)) x := by rw [hsn, A6f]
  obtain ⟨m1, m2, m3, n, hn, m4, m5, m6⟩ := g.move hmem
  have hb2 : (l.map A3)[(Ae h x.set).toNat]? = some (A3 n) := Hm hn
  have hd := Qn g hmem
  have ct := A7a (max (x.to - n) (-(x.to - n))) x m1 (by rw [<- Mf hn];exact hd)
  rw [show Nd (max (x.to - n) (-(x.to - n))) x = Gt h l x by unfold Gt;rw [Mf hn]] at ct
  have cc := J0 (Gt h l x) (Db h l (q.moves.take k)) (V7 g hmem) (Xn g fun m hm => List.mem_of_mem_take hm)
  repeat' (first|refine W ?_|(apply p0a A0 (by decide +kernel))|(apply S.indexR;(iterate 3 exact rfl);exact hb;omega;exact rfl)|(apply S.indexR;(iterate 3 exact rfl);exact hb2;omega;exact rfl)|refine Zc (Pk h x.set hf1) ?_|refine Zc ct ?_|refine Zc cc ?_|(apply S.neg;exact rfl;exact rfl;omega)|(apply S.max2;(iterate 3 exact rfl))|refine Za ?_|refine V ?_|(refine W2 ?_ ?_<;>intro hc))
  all_goals (try change Next _ _ _ _ _ _)
  all_goals first
   | exact Next.go (k + 1) (by omega) (by omega) CV (by
     show CovH _ _ [_, _, _, .live ((frR (Db h l (q.moves.take (k + 1)))).map .lf)]
     rw [hst, Ey, if_pos (by assumption)]
     exact .live rfl CH)
   | exact Next.go (k + 1) (by omega) (by omega) CV (by
     show CovH _ _ [_, _, _, .live ((frR (Db h l (q.moves.take (k + 1)))).map .lf)]
     rw [hst, Ey, if_neg (by assumption)]
     exact .live rfl CH)
 ·have h1 : ¬ (k : Int) < ((q.moves.map MoveR.row).length : Nat) := by omega
  have hkt : q.moves.take k = q.moves := a0h (by omega)
  rw [show Db h l q.moves = Db h l (q.moves.take k) by rw [hkt]]
  repeat' (first|refine W ?_|refine V ?_|(refine W2 ?_ ?_<;>intro hc))
  exact ⟨.inr rfl, [A2 (frR (Db h l (q.moves.take k))), .i 0], by rw [Tryz.results114];exact .cons (Res.row (frR (Db h l (q.moves.take k))) rfl rfl rfl rfl rfl) (.cons (.tmp rfl) .nil), .tup (.cons (.agg (A6 (frR (Db h l (q.moves.take k))))) (.cons (.one (.lf _)) .nil))⟩
/-! ### The reference -/
abbrev Ab (l : List Int) : List AV := (l.map A3).flatten.map .lf
theorem D6 (l : List Int) : ∀ r ∈ l.map A3, r.length = 1 := by
 intro r hr
 obtain ⟨n, _, rfl⟩ := a1a.1 hr
 rfl
theorem A9z (l : List Int) : (l.map A3).flatten.all Lf.one = true := by
 rw [a0k]
 intro x hx
 obtain ⟨r, hr, hxr⟩ := a8h.1 hx
 obtain ⟨n, _, rfl⟩ := a1a.1 hr
 simp only [A3, a1i, a2r, or_false] at hxr
 subst hxr
 rfl
theorem Cw (l : List Int) : (Ab l).length = l.length := by
 rw [a0a, Bc _ (D6 l), a0a, a4v]
theorem Sf : ∀ (l : List Int) (i : Nat) (n : Int), i < l.length -> Bd i [.i n] (Ab l) = Ab (l.set i n)
 | [], i, n, h => by simp at h
 | x :: l, 0, n, _ => by simp [Ab, A3, Bd, Ew]
 | x :: l, i + 1, n, h => by
  have ih := Sf l i n (by simpa using h)
  simp only [Ab, a1l, A3, a3b, a1p, a3v, a1y, a3h, a5a] at ih ⊢
  rw [Bd]
  exact congrArg _ ih
theorem Gl {l : List Int} {i : Nat} {n : Int} (h : i < l.length) : Ab (l.set i n) = Bd (0 + i * 1) [.i n] (Ab l) := by
 rw [<- Sf l i n h, a4v, a1q]
theorem p3k {P : Program} {st : St} {t b k n : Nat} (h : st.tm.get t = some (.own b 0 (0 + k) n)) : Res P st (.tmp t) (.own b 0 k n) := by
 rw [a1q] at h
 exact .tmp h
theorem A2z (l : List Int) (hl : l.length <= 1000) : FnOwn Tryz.prog 216 [.sl (l.map A3)] (l.map A3) 1 := by
 have hle : (l.map A3).length = l.length := a0a _
 refine FnOwn.of Tryz.func216 Tryz.ntmps216 rfl rfl rfl ?_
 simp only [A1]
 repeat' (first|refine W ?_|(apply p3w;exact rfl;exact rfl;intro hnil;rotate_left;rotate_right)|(apply p1e;(iterate 6 exact rfl))|(apply p0n;(iterate 9 exact rfl);exact D6 l;exact A9z l;exact rfl;omega;omega)|refine V ?_|(refine W2 ?_ ?_<;>intro hc))
 all_goals (apply T.ret;change A2n _ _ _ _ _ _)
 ·exact ⟨.inr rfl, .inl ⟨_, .cons (.tmp rfl) .nil, rfl, hnil⟩⟩
 ·exact ⟨.inr rfl, .inr (.inr ⟨0, .cons (p3k rfl) .nil, rfl⟩)⟩
def C4 (h : HouseR) (l : List Int) (ms : List MoveR) : List Int := ms.foldl (fun l m => l.set (Ae h m.set).toNat m.to) l
theorem Zv (h : HouseR) (l : List Int) (ms : List MoveR) (m : MoveR) : C4 h l (ms ++ [m]) = (C4 h l ms).set (Ae h m.set).toNat m.to := by simp [C4]
theorem J7 (h : HouseR) : ∀ (ms : List MoveR) (l : List Int), (C4 h l ms).length = l.length
 | [], l => rfl
 | m :: ms, l => by
  have := J7 h ms (l.set (Ae h m.set).toNat m.to)
  rw [a6c] at this
  exact this
theorem Bx (n : Nat) (l : List Int) : (Ab l).all (AV.under n) = true := Ah n _
theorem Aat (h : HouseR) (l : List Int) (ms : List MoveR) : OwnRows (Ab (C4 h l ms)) 0 (l.map A3).length 1 ((C4 h l ms).map A3) := by
 have := OwnRows.of ((C4 h l ms).map A3).flatten (D6 (C4 h l ms)) rfl
 rw [a0a, J7] at this
 rw [a0a]
 exact this
theorem A5p (h : HouseR) (l : List Int) (q : CueR) (hf : h.fits) (hq : q.moves.length <= 9223372036854775807) (g : GivenOk h l q) : Fn0 Tryz.prog 158 [A2 h.row, .sl (l.map A3), A2 q.row] (.sl ((C4 h l q.moves).map A3)) := by
 have hf1 := hf.1
 obtain ⟨_, _, _, hs60, _⟩ := g.house
 have hl60 : l.length <= 60 := by rw [g.len];exact hs60
 have hle : (q.moves.map MoveR.row).length = q.moves.length := a0a _
 have hle2 : (l.map A3).length = l.length := a0a _
 refine Fn0.of Tryz.func158 Tryz.ntmps158 rfl rfl rfl ?_
 simp only [A1]
 repeat' (first|refine W ?_|(apply p2r 2;exact A2z l (by omega);(iterate 6 exact rfl);exact D6 l;intro hnil;rotate_left;rotate_right)|refine V ?_|(refine W2 ?_ ?_<;>intro hc))
 ·have hl0 : l = [] := a6y.1 hnil
  have hm0 : q.moves = [] := by
   cases hmv : q.moves with
   | nil => rfl
   | cons m ms =>
    obtain ⟨_, _, m3, _⟩ := g.move (m := m) (by rw [hmv];simp)
    rw [hl0] at m3
    simp at m3
  have h1 : ¬ ((0 : Nat) : Int) < ((q.moves.map MoveR.row).length : Nat) := by rw [hle, hm0];simp
  refine p0d (fun _ : Nat => True) (fun _ => 0) (fun k => [(15, .i ((0 : Nat) : Int)), (14, .i (q.moves.map MoveR.row).length), (7, .sl [])]) (fun _ => []) 0 trivial CV .nil ?_
  intro k _
  repeat' (first|refine W ?_|refine V ?_|(refine W2 ?_ ?_<;>intro hc))
  have hres : (C4 h l q.moves).map A3 = [] := by rw [hl0, hm0];rfl
  rw [hres]
  exact Hq (by first | exact .inl rfl | exact .inr rfl) Tryz.results158 rfl (.one (.one (.lf _)))
 ·refine p0d (fun k => k <= q.moves.length) (fun k => q.moves.length - k) (fun k => [(15, .i k), (14, .i (q.moves.map MoveR.row).length), (13, .sl (q.moves.map MoveR.row)), (7, .own 2 0 (l.map A3).length 1), (3, .ptr 0 0)]) (fun k => [.live (h.row.map .lf), .live (q.row.map .lf), .live (Ab (C4 h l (q.moves.take k)))]) 0 (a0n _) CV (.live rfl (.live rfl (.live (Bx _ _) .nil))) ?_
  intro k hk
  by_cases hlt : k < q.moves.length
  ·have h1 : (k : Int) < ((q.moves.map MoveR.row).length : Nat) := by omega
   obtain ⟨x, hx⟩ := Ac hlt
   have hb := Af (R := MoveR.row) hx
   have hsn := Be hx
   have hmem : x ∈ q.moves := a0b hx
   have hst : C4 h l (q.moves.take (k + 1)) = (C4 h l (q.moves.take k)).set (Ae h x.set).toNat x.to := by rw [hsn, Zv]
   have hal := J7 h (q.moves.take k) l
   have hcl := Cw (C4 h l (q.moves.take k))
   obtain ⟨m1, m2, m3, n, hn, m4, m5, m6⟩ := g.move hmem
   repeat' (first|refine W ?_|(apply p0f 8 A0 (by decide +kernel);simp only [td])|(apply p0e 8 A0 (by decide +kernel);simp only [td])|(apply S.indexR;(iterate 3 exact rfl);exact hb;omega;exact rfl)|refine Zc (Pk h x.set hf1) ?_|(apply S.indexO;(iterate 4 exact rfl);omega;exact rfl)|(apply p1u;(iterate 6 exact rfl);omega)|refine Za ?_|refine V ?_|(refine W2 ?_ ?_<;>intro hc))
   change Next _ _ _ _ _ _
   exact Next.go (k + 1) (by omega) (by omega) CV (by
    show CovH _ _ [_, _, .live (Ab (C4 h l (q.moves.take (k + 1))))]
    have hlt2 : (Ae h x.set).toNat < (C4 h l (q.moves.take k)).length := by omega
    have hu := Bx 3 ((C4 h l (q.moves.take k)).set (Ae h x.set).toNat x.to)
    rw [Gl hlt2] at hu
    rw [hst, Gl hlt2]
    exact .live rfl (.live rfl (.live hu .nil)))
  ·have h1 : ¬ (k : Int) < ((q.moves.map MoveR.row).length : Nat) := by omega
   have hkt : q.moves.take k = q.moves := a0h (by omega)
   rw [show (C4 h l q.moves).map A3 = (C4 h l (q.moves.take k)).map A3 by rw [hkt]]
   repeat' (first|refine W ?_|refine V ?_|(refine W2 ?_ ?_<;>intro hc))
   refine Hq (by first | exact .inl rfl | exact .inr rfl) Tryz.results158 rfl (.one (.one ?_))
   exact .own rfl (Aat h l (q.moves.take k))
/-! ### The reference -/
def Gs (h : HouseR) : List Int := h.sets.map SetR.high
def Bv (h : HouseR) (c : SheetR) (k : Nat) : List Int := (c.cues.take k).foldl (fun l q => C4 h l q.moves) (Gs h)
theorem Vo {h : HouseR} {c : SheetR} {k : Nat} {q : CueR} (hq : c.cues[k]? = some q) : Bv h c (k + 1) = C4 h (Bv h c k) q.moves := by
 unfold Bv
 rw [a0w, hq]
 simp
def G0 (h : HouseR) (c : SheetR) (n : Nat) : List (List Int) := (List.range n).map (Bv h c)
def P3 (l : List Int) : List Lf := [.sl (l.map A3)]
theorem A0u {h : HouseR} {l : List Int} {i : Nat} {n : Int} (ht : Dw h l) (hn : ∀ s, h.sets[i]? = some s -> s.low <= n /\ n <= s.high) : Dw h (l.set i n) := fun j x s hj hs => by
 rw [a7x] at hj
 by_cases e : i = j
 ·rw [if_pos e] at hj
  subst e
  split at hj
  ·injection hj with hj
   subst hj
   exact hn s hs
  ·cases hj
 ·rw [if_neg e] at hj
  exact ht j x s hj hs
theorem No {h : HouseR} {q : CueR} (hr : E5 h q) : ∀ (ms : List MoveR) (l : List Int), (∀ m ∈ ms, m ∈ q.moves) -> Dw h l -> Dw h (C4 h l ms)
 | [], l, _, ht => ht
 | m :: ms, l, hm, ht => by
  have ih := No hr ms (l.set (Ae h m.set).toNat m.to) (fun x hx => hm x (by simp [hx])) (A0u ht fun s hs => by
   obtain ⟨_, t, _, h3, h4, h5⟩ := hr.2.2.2.2.2.1 m (hm m (by simp))
   rw [hs] at h3
   injection h3 with h3
   subst h3
   exact ⟨h4, h5⟩)
  exact ih
theorem validP.cue {h : HouseR} {c : SheetR} (v : validP h c) {q : CueR} {k : Nat} (hq : c.cues[k]? = some q) : E5 h q := (v.2.2.1 k q hq).2.1
theorem A9t {h : HouseR} (hh : Cm h) : Dw h (Gs h) := fun i n s h1 h2 => by
 unfold Gs at h1
 rw [a0e, h2] at h1
 simp only [a1b, a0f] at h1
 subst h1
 obtain ⟨_, _, _, _, _, hs, _⟩ := hh
 obtain ⟨⟨_, _, _, s2, _⟩, _⟩ := hs s (a0b h2)
 exact ⟨s2, a5p _⟩
theorem A20 {h : HouseR} {c : SheetR} (v : validP h c) : ∀ k, k <= c.cues.length -> (Bv h c k).length = h.sets.length /\ Dw h (Bv h c k)
 | 0, _ => ⟨by simp [Bv, Gs], by show Dw h (Gs h);exact A9t v.1⟩
 | k + 1, hk => by
  obtain ⟨i1, i2⟩ := A20 v k (by omega)
  obtain ⟨q, hq⟩ := Ac (l := c.cues) (k := k) (by omega)
  rw [Vo hq]
  exact ⟨by rw [J7];exact i1, No (v.cue hq) q.moves _ (fun m hm => hm) i2⟩
theorem Iv {h : HouseR} {c : SheetR} (v : validP h c) {k : Nat} {q : CueR} (hq : c.cues[k]? = some q) : GivenOk h (Bv h c k) q := by
 have hk : k < c.cues.length := (a0g.1 hq).1
 obtain ⟨i1, i2⟩ := A20 v k (by omega)
 exact ⟨v.1, v.cue hq, i1, i2⟩
theorem p5b {P : Program} {N : Nat} {c : Code} {Q : Exit -> St -> Prop} {tm : Tm} {H : AH} (q : Nat) (ht : tm.get q = some (.val (.slice none 0 0))) (h : T P N c ⟨(q, .sl []) :: tm, H⟩ Q) : T P N c ⟨tm, H⟩ Q :=
 ⟨fun E a w ρ hE hR => h.out E a w ρ hE ⟨hR.size, hR.defers, fun t x hx => by
  rw [p0p] at hx
  obtain ⟨h1, h2⟩ := hR.tm q _ ht
  by_cases e : q = t
  ·rw [if_pos e] at hx
   injection hx with hx
   subst hx e
   refine ⟨h1, ?_⟩
   have := h2.val_eq
   rw [this]
   exact .lf _ _ .slnil
  ·rw [if_neg e] at hx
   exact hR.tm t x hx, hR.H, hR.fr, hR.mine, hR.lim⟩⟩
def Abx : Nat -> AV
 | 0 => .val (.slice none 0 0)
 | k + 1 => .own 2 0 (k + 1) 1
def Abw (l : List SetR) : Nat -> HB
 | 0 => .dead
 | k + 1 => .live (Ab ((l.take (k + 1)).map SetR.high))
theorem Qd {l : List SetR} {k : Nat} {x : SetR} (h : l.take (k + 1) = l.take k ++ [x]) : Ab ((l.take (k + 1)).map SetR.high) = Ab ((l.take k).map SetR.high) ++ ([A3 x.high].flatten).map AV.lf := by
 rw [h];simp [Ab]
theorem A73 {h : HouseR} {k : Nat} (hk : k = h.sets.length) : OwnRows (Ab ((h.sets.take k).map SetR.high)) 0 k 1 ((Gs h).map A3) := by
 have ht : h.sets.take k = h.sets := a0h (by omega)
 rw [ht]
 have := OwnRows.of ((Gs h).map A3).flatten (D6 (Gs h)) rfl
 rw [a0a, Gs, a0a, <- hk] at this
 exact this
theorem A45 {P : Program} {N : Nat} {c : Code} {Q : Exit -> St -> Prop} {tm : Tm} {H : AH} {h : HouseR} {k : Nat} (hk : k = h.sets.length) (ht : tm.get 6 = some (Abx k)) (hb : H.at 2 = Abw h.sets k) (hT : T P N c ⟨(6, .sl ((Gs h).map A3)) :: tm, H.put 2 .dead⟩ Q) : T P N c ⟨tm, H⟩ Q := by
 cases k with
 | zero =>
  have h0 : (Gs h).map A3 = [] := by rw [Gs, a1n hk.symm];rfl
  rw [h0] at hT
  exact p5b 6 ht (T.kill 2 hT (by rw [hb];rfl))
 | succ k => exact T.freeze 6 ht hb (A73 hk) hT
theorem Z8 (l : List (List Int)) : ∀ r ∈ l.map P3, r.length = 1 := by
 intro r hr
 obtain ⟨n, _, rfl⟩ := a1a.1 hr
 rfl
abbrev Jw (h : HouseR) (c : SheetR) (n : Nat) : List AV := ((G0 h c n).map P3).flatten.map .lf
theorem A2w (h : HouseR) (c : SheetR) (n : Nat) : (Jw h c n).length = n * 1 := by
 rw [a0a, Bc _ (Z8 _), a0a];simp [G0]
theorem Zy (h : HouseR) (c : SheetR) (n : Nat) : Jw h c (n + 1) = Jw h c n ++ ([P3 (Bv h c n)].flatten).map AV.lf := by
 simp [Jw, G0, a4p]
theorem Xe (h : HouseR) (c : SheetR) (hf : h.fits) (hc : c.fits) (v : validP h c) : Fn0 Tryz.prog 113 [A2 h.row, A2 c.row] (.tup [.sl ((G0 h c (c.cues.length + 1)).map P3), .i 0]) := by
 have cv := V3 h c hf hc
 rw [decide_eq_true v] at cv
 obtain ⟨_, _, _, hs60, _⟩ := v.1
 have hc60 := v.2.1
 have hle : (h.sets.map SetR.row).length = h.sets.length := a0a _
 have hle2 : (c.cues.map CueR.row).length = c.cues.length := a0a _
 refine Fn0.of Tryz.func113 Tryz.ntmps113 rfl rfl rfl ?_
 simp only [A1]
 repeat' (first|refine W ?_|refine Zc cv ?_|refine V ?_|(refine W2 ?_ ?_<;>intro hc))
 refine T.kill 2 ?_
 refine p0d (fun k => k <= h.sets.length) (fun k => h.sets.length - k) (fun k => [(19, .i k), (18, .i (h.sets.map SetR.row).length), (17, .sl (h.sets.map SetR.row)), (6, Abx k), (2, .ptr 0 0), (3, .ptr 1 0)]) (fun k => [.live (h.row.map .lf), .live (c.row.map .lf), Abw h.sets k]) 0 (a0n _) CV CH ?_
 intro k hk
 by_cases hlt : k < h.sets.length
 ·have h1 : (k : Int) < ((h.sets.map SetR.row).length : Nat) := by omega
  obtain ⟨x, hx⟩ := Ac hlt
  have hb := Af (R := SetR.row) hx
  have hsn := Be hx
  cases k with
  | zero =>
   repeat' (first|refine W ?_|(apply S.indexR;(iterate 3 exact rfl);exact hb;omega;exact rfl)|(apply p0c;(iterate 7 exact rfl))|(apply p0r 2 (rows := []);(iterate 8 exact rfl);exact Ag rfl;exact rfl;exact a0d rfl;exact a0d rfl)|refine Za ?_|refine V ?_|(refine W2 ?_ ?_<;>intro hc))
   change Next _ _ _ _ _ _
   exact Next.go 1 (by omega) (by omega) CV (by
    show CovH _ _ [_, _, .live (Ab ((h.sets.take (0 + 1)).map SetR.high))]
    rw [Qd hsn]
    exact .live rfl CH)
  | succ k =>
   have hcl : (Ab ((h.sets.take (k + 1)).map SetR.high)).length = (k + 1) * 1 := by rw [Cw, a0a, a0z];omega
   repeat' (first|refine W ?_|(apply S.indexR;(iterate 3 exact rfl);exact hb;omega;exact rfl)|(apply p0c;(iterate 7 exact rfl))|(apply p0n;(iterate 8 exact rfl);exact hcl;exact Ag rfl;exact rfl;exact Av _ _;simp only [a0i, a0o];omega;simp only [a0i, a0o];omega)|refine Za ?_|refine V ?_|(refine W2 ?_ ?_<;>intro hc))
   change Next _ _ _ _ _ _
   exact Next.go (k + 2) (by omega) (by omega) CV (by
    show CovH _ _ [_, _, .live (Ab ((h.sets.take (k + 1 + 1)).map SetR.high))]
    rw [Qd hsn]
    exact .live rfl (.live rfl (.live (by rw [<- a1p];exact Ah _ _) .nil)))
 ·have h1 : ¬ (k : Int) < ((h.sets.map SetR.row).length : Nat) := by omega
  refine A45 (h := h) (k := k) (by omega) rfl rfl ?_
  repeat' (first|refine W ?_|(apply p1e;(iterate 6 exact rfl))|refine V ?_|(refine W2 ?_ ?_<;>intro hc))
  refine p0d (fun k => k <= c.cues.length) (fun k => c.cues.length - k) (fun k => [(34, .i k), (33, .i (c.cues.map CueR.row).length), (32, .sl (c.cues.map CueR.row)), (6, .sl ((Bv h c k).map A3)), (9, .own 3 0 (k + 1) 1), (2, .ptr 0 0), (3, .ptr 1 0)]) (fun k => [.live (h.row.map .lf), .live (c.row.map .lf), .dead, .live (Jw h c (k + 1))]) 0 (a0n _) CV CH ?_
  intro j hj
  by_cases hlt2 : j < c.cues.length
  ·have h2 : (j : Int) < ((c.cues.map CueR.row).length : Nat) := by omega
   obtain ⟨y, hy⟩ := Ac hlt2
   have hb2 := Af (R := CueR.row) hy
   have cm := A5p h (Bv h c j) y hf (by have := hc.2.2 y (a0b hy);omega) (Iv v hy)
   rw [<- Vo hy] at cm
   have hct := A2w h c (j + 1)
   repeat' (first|refine W ?_|(apply S.indexR;(iterate 3 exact rfl);exact hb2;omega;exact rfl)|(apply p0c;(iterate 7 exact rfl))|(apply p0n;(iterate 8 exact rfl);exact hct;exact Ag rfl;exact rfl;exact Av _ _;simp only [a0i, a0o];omega;simp only [a0i, a0o];omega)|refine Zc cm ?_|refine Za ?_|refine V ?_|(refine W2 ?_ ?_<;>intro hc))
   change Next _ _ _ _ _ _
   exact Next.go (j + 1) (by omega) (by omega) CV (by
    show CovH _ _ [_, _, _, .live (Jw h c (j + 1 + 1))]
    rw [Zy]
    exact .live rfl (.live rfl (.dead (.live (by rw [<- a1p];exact Ah _ _) .nil))))
  ·have h2 : ¬ (j : Int) < ((c.cues.map CueR.row).length : Nat) := by omega
   have hj2 : j = c.cues.length := by omega
   repeat' (first|refine W ?_|refine V ?_|(refine W2 ?_ ?_<;>intro hc))
   refine ⟨.inr rfl, [_, _], .cons (.tmp rfl) (.cons (.tmp rfl) .nil), .tup (.cons (.one (.own (cells := Jw h c (j + 1)) (rows := (G0 h c (c.cues.length + 1)).map P3) rfl ?_)) (.cons (.one (.lf _)) .nil))⟩
   have := OwnRows.of ((G0 h c (j + 1)).map P3).flatten (Z8 _) rfl
   rw [a0a, G0, a0a, a4o] at this
   rw [<- hj2]
   exact this
end Go.Proofs.YtlapbaiejnaeiaaGreatDoor
namespace Go.Proofs.YtlapbaiejnaeiaaGreatDoor
open Go Go.RowKit
set_option maxRecDepth 100000 in
theorem Mk : Tryz.prog.fieldsOf 107 = #[⟨"Num", 3, 0, false, "", "", 0⟩, ⟨"Den", 3, 1, false, "", "", 8⟩] := by
 unfold Program.fieldsOf
 rw [a2w]
theorem Vc : Tryz.prog.stoodInHeld 107 = false := by kernel_rfl
theorem Vb : Tryz.prog.eqGuardType Tryz.prog.depth 107 = false := by kernel_rfl
theorem A64 : Tryz.prog.underlying 107 = some (.struct (Tryz.prog.fieldsOf 107)) := by
 rw [Mk];exact a2w
set_option maxRecDepth 100000 in
instance : HasEq2 Tryz.prog 107 := ⟨fun o η w x y u a b c d ho hx hy => by
 have h1 := fun d' (k : IntKind) (a b : Int) => run_equalIn_int (P := Tryz.prog) w d' 3 k .i64 a b a2f
 have h2 := run_equalIn_agg (P := Tryz.prog) w 9999 107 #[.int .i64 a, .int .i64 b] #[.int .i64 c, .int .i64 d] A64 Vc
 have h3 := run_eqGuard_agg (P := Tryz.prog) w .eql 107 x y #[.int .i64 a, .int .i64 b] #[.int .i64 c, .int .i64 d] Vb
 have h4 := run_eql_struct (P := Tryz.prog) w 107 #[.int .i64 a, .int .i64 b] #[.int .i64 c, .int .i64 d]
 rw [Mk] at h2
 simp only [execOp, ho, hx, hy, a0p, h3, a0l, h4]
 rw [h2]
 simp [Op.eqFields, go_sem, h1]
 by_cases e1 : a = c <;> by_cases e2 : b = d <;> simp [*]⟩
set_option maxRecDepth 100000 in
theorem Tq : Tryz.prog.fieldsOf 34 = #[⟨"Lo", 3, 0, false, "", "", 0⟩, ⟨"Hi", 3, 1, false, "", "", 8⟩] := by
 unfold Program.fieldsOf
 rw [a6m]
theorem A80 : Tryz.prog.stoodInHeld 34 = false := by kernel_rfl
theorem A7z : Tryz.prog.underlying 34 = some (.struct (Tryz.prog.fieldsOf 34)) := by
 rw [Tq];exact a6m
class HasNe2 (P : Program) (t : TypeId) : Prop where
 out : ∀ (o : Oper) (η : Operand -> Value) (w : World) (x y : Operand) (u : TypeId) (a b c d : Int), o.op = .binOp .neq t x y u -> η x = .agg #[.int .i64 a, .int .i64 b] -> η y = .agg #[.int .i64 c, .int .i64 d] -> (execOp η o).run P w = .ok (.value (.bool (decide (¬ (a = c /\ b = d))))) w
section
variable {P : Program} {N : Nat} {ops : Array Oper} {m : Option Nat} {K : Tm -> AH -> Prop} {tm : Tm} {H : AH} {rest : List Oper} {ty : TypeId} {pos : String} {af : Array Edge} {d : Nat} {t : TypeId} {x y : Operand}
theorem p5a {u : TypeId} {a b c e' : Int} [he : HasNe2 P t] (hx : evT tm x = some (.agg [.val (.int .i64 a), .val (.int .i64 b)])) (hy : evT tm y = some (.agg [.val (.int .i64 c), .val (.int .i64 e')])) (hN : Nat.ble (d + 1) N = true) (h : Reg m P N ops rest ((d, .val (.bool (decide (¬ (a = c /\ b = e'))))) :: tm) H K) : Reg m P N ops (⟨some d, .binOp .neq t x y u, ty, pos, af, none⟩ :: rest) tm H K := by
 refine S.val (OpV.mk fun L w ρ η hη hH => ?_) hN h
 have h1 := (hη x (by simp [Op.operands]) _ hx).flat (u := .agg #[.int .i64 a, .int .i64 b]) rfl
 have h2 := (hη y (by simp [Op.operands]) _ hy).flat (u := .agg #[.int .i64 c, .int .i64 e']) rfl
 exact ⟨_, he.out _ η w x y u a b c e' rfl h1 h2, A7 _⟩
end
set_option maxRecDepth 100000 in
instance : HasNe2 Tryz.prog 107 := ⟨fun o η w x y u a b c d ho hx hy => by
 have h1 := fun d' (k : IntKind) (a b : Int) => run_equalIn_int (P := Tryz.prog) w d' 3 k .i64 a b a2f
 have h2 := run_equalIn_agg (P := Tryz.prog) w 9999 107 #[.int .i64 a, .int .i64 b] #[.int .i64 c, .int .i64 d] A64 Vc
 have h3 := run_eqGuard_agg (P := Tryz.prog) w .neq 107 x y #[.int .i64 a, .int .i64 b] #[.int .i64 c, .int .i64 d] Vb
 have h4 := run_neq_struct (P := Tryz.prog) w 107 #[.int .i64 a, .int .i64 b] #[.int .i64 c, .int .i64 d]
 rw [Mk] at h2
 simp only [execOp, ho, hx, hy, a0p, h3, a0l, h4]
 rw [h2]
 simp [Op.eqFields, go_sem, h1]
 by_cases e1 : a = c <;> by_cases e2 : b = d <;> simp [*]⟩
end Go.Proofs.YtlapbaiejnaeiaaGreatDoor
namespace Go.Proofs.YtlapbaiejnaeiaaGreatDoor
open Go.RowKit
theorem A0m {h : HouseR} {n : ByteArray} (h0 : 0 <= Ae h n) : ∃ s, h.sets[(Ae h n).toNat]? = some s /\ s.name = n := by
 obtain ⟨s, hs⟩ := Ee (p := fun s : SetR => s.name = n) (l := h.sets) (by show ¬ Ae h n < 0;omega)
 refine ⟨s, hs, ?_⟩
 have key : ∀ (l : List SetR) (s : SetR), ¬ idx (fun s : SetR => s.name = n) l < 0 -> l[(idx (fun s : SetR => s.name = n) l).toNat]? = some s -> s.name = n := by
  intro l
  induction l with
  | nil => intro s _ h;simp at h
  | cons x l ih =>
   intro s h0 h1
   rw [idx] at h0 h1
   by_cases hx : x.name = n
   ·rw [if_pos hx] at h1
    simp at h1
    rw [<- h1];exact hx
   ·rw [if_neg hx] at h0 h1
    split at h1
    ·rename_i hneg
     rw [if_pos hneg] at h0
     omega
    ·rename_i hneg
     have e : (idx (fun s : SetR => s.name = n) l + 1).toNat = (idx (fun s : SetR => s.name = n) l).toNat + 1 := by omega
     rw [e, a2g] at h1
     exact ih s (by have := Bw (fun s : SetR => s.name = n) l;omega) h1
 exact key h.sets s (by show ¬ Ae h n < 0;omega) hs
theorem cmpQ_pos {p q : Rat} : 0 < Bq p q ↔ q < p := by
 unfold Bq
 by_cases h1 : p < q
 ·rw [if_pos h1]
  exact ⟨fun h => by omega, fun h => absurd (Rat.le_of_lt h1) (Rat.not_le.2 h)⟩
 ·rw [if_neg h1]
  by_cases h2 : q < p
  ·rw [if_pos h2];exact ⟨fun _ => h2, fun _ => by omega⟩
  ·rw [if_neg h2];exact ⟨fun h => by omega, fun h => absurd h h2⟩
theorem Abg (h : HouseR) (l : List Int) (a : Rat) (m : MoveR) : a <= Ey h l a m /\ Gt h l m <= Ey h l a m := by
 unfold Ey
 by_cases c : 0 < Bq (Gt h l m) a
 ·rw [if_pos c]
  exact ⟨Rat.le_of_lt (cmpQ_pos.1 c), a4j⟩
 ·rw [if_neg c]
  exact ⟨a4j, Rat.not_lt.1 fun hh => c (cmpQ_pos.2 hh)⟩
theorem A1q (h : HouseR) (l : List Int) : ∀ (ms : List MoveR) (a : Rat), a <= ms.foldl (Ey h l) a /\ ∀ m ∈ ms, Gt h l m <= ms.foldl (Ey h l) a
 | [], a => ⟨a4j, fun m hm => by simp at hm⟩
 | m :: ms, a => by
  obtain ⟨s1, s2⟩ := Abg h l a m
  obtain ⟨i1, i2⟩ := A1q h l ms (Ey h l a m)
  rw [a3g]
  refine ⟨a0v s1 i1, fun x hx => ?_⟩
  rcases a1i.1 hx with rfl | hx
  ·exact a0v s2 i1
  ·exact i2 x hx
end Go.Proofs.YtlapbaiejnaeiaaGreatDoor
