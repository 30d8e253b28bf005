/- Lemmas of the proof. -/
import Derived.Test.YtlapbaiejnaeiaaGreatDoorMt
import Derived.Test.YtlapbaiejnaeiaaGreatDoorMc
import Derived.Laws.StructEq
import Derived.Test.YtlapbaiejnaeiaaGreatDoorMp
import Derived.Test.YtlapbaiejnaeiaaGreatDoorMn
import Derived.Test.YtlapbaiejnaeiaaGreatDoorNx
import Derived.Test.YtlapbaiejnaeiaaGreatDoorNe
set_option linter.all false
set_option maxHeartbeats 64000000
namespace Go.Proofs.YtlapbaiejnaeiaaGreatDoor
open Go Go.RowKit
def a3m := @List.nil_append
def a5q := @List.mem_flatten
def a6a := @List.length_set
def a6x := @List.map_eq_nil_iff
def a6y := @List.range_succ
set_option maxRecDepth 100000 in
theorem M1 : Tryz.prog.fieldsOf 107 = #[⟨"Num", 3, 0, false, "", "", 0⟩, ⟨"Den", 3, 1, false, "", "", 8⟩] := by
 unfold Program.fieldsOf
 rw [a2p]
theorem V7 : Tryz.prog.stoodInHeld 107 = false := by kernel_rfl
theorem V6 : Tryz.prog.eqGuardType Tryz.prog.depth 107 = false := by kernel_rfl
theorem A5e : Tryz.prog.underlying 107 = some (.struct (Tryz.prog.fieldsOf 107)) := by
 rw [M1];exact a2p
set_option maxRecDepth 100000 in
instance : HasEq2 Tryz.prog 107 := ⟨fun o η w x y u a b c d ho hx hy => by
 have h1 := fun d' (k : IntKind) (a b : Int) => run_equalIn_int (P := Tryz.prog) w d' 3 k .i64 a b a2k
 have h2 := run_equalIn_agg (P := Tryz.prog) w 9999 107 #[.int .i64 a, .int .i64 b] #[.int .i64 c, .int .i64 d] A5e V7
 have h3 := run_eqGuard_agg (P := Tryz.prog) w .eql 107 x y #[.int .i64 a, .int .i64 b] #[.int .i64 c, .int .i64 d] V6
 have h4 := run_eql_struct (P := Tryz.prog) w 107 #[.int .i64 a, .int .i64 b] #[.int .i64 c, .int .i64 d]
 rw [M1] at h2
 simp only [execOp, ho, hx, hy, a0m, h3, a0j, h4]
 rw [h2]
 simp [Op.eqFields, go_sem, h1]
 by_cases e1 : a = c <;> by_cases e2 : b = d <;> simp [*]⟩
set_option maxRecDepth 100000 in
theorem Mo : Tryz.prog.fieldsOf 34 = #[⟨"Lo", 3, 0, false, "", "", 0⟩, ⟨"Hi", 3, 1, false, "", "", 8⟩] := by
 unfold Program.fieldsOf
 rw [a6l]
theorem Vt : Tryz.prog.stoodInHeld 34 = false := by kernel_rfl
theorem A70 : Tryz.prog.eqGuardType Tryz.prog.depth 34 = false := by kernel_rfl
theorem Yz : Tryz.prog.underlying 34 = some (.struct (Tryz.prog.fieldsOf 34)) := by
 rw [Mo];exact a6l
set_option maxRecDepth 100000 in
instance : HasEq2 Tryz.prog 34 := ⟨fun o η w x y u a b c d ho hx hy => by
 have h1 := fun d' (k : IntKind) (a b : Int) => run_equalIn_int (P := Tryz.prog) w d' 3 k .i64 a b a2k
 have h2 := run_equalIn_agg (P := Tryz.prog) w 9999 34 #[.int .i64 a, .int .i64 b] #[.int .i64 c, .int .i64 d] Yz Vt
 have h3 := run_eqGuard_agg (P := Tryz.prog) w .eql 34 x y #[.int .i64 a, .int .i64 b] #[.int .i64 c, .int .i64 d] A70
 have h4 := run_eql_struct (P := Tryz.prog) w 34 #[.int .i64 a, .int .i64 b] #[.int .i64 c, .int .i64 d]
 rw [Mo] at h2
 simp only [execOp, ho, hx, hy, a0m, h3, a0j, h4]
 rw [h2]
 simp [Op.eqFields, go_sem, h1]
 by_cases e1 : a = c <;> by_cases e2 : b = d <;> simp [*]⟩
class HasNe2 (P : Program) (t : TypeId) : Prop where
 out : ∀ (o : Oper) (η : Operand -> Value) (w : World) (x y : Operand) (u : TypeId) (a b c d : Int), o.op = .binOp .neq t x y u -> η x = .agg #[.int .i64 a, .int .i64 b] -> η y = .agg #[.int .i64 c, .int .i64 d] -> (execOp η o).run P w = .ok (.value (.bool (decide (¬ (a = c /\ b = d))))) w
section
variable {P : Program} {N : Nat} {ops : Array Oper} {m : Option Nat} {K : Tm -> AH -> Prop} {tm : Tm} {H : AH} {rest : List Oper} {ty : TypeId} {pos : String} {af : Array Edge} {d : Nat} {t : TypeId} {x y : Operand}
theorem p5f {u : TypeId} {a b c e' : Int} [he : HasNe2 P t] (hx : evT tm x = some (.agg [.val (.int .i64 a), .val (.int .i64 b)])) (hy : evT tm y = some (.agg [.val (.int .i64 c), .val (.int .i64 e')])) (hN : Nat.ble (d + 1) N = true) (h : Reg m P N ops rest ((d, .val (.bool (decide (¬ (a = c /\ b = e'))))) :: tm) H K) : Reg m P N ops (⟨some d, .binOp .neq t x y u, ty, pos, af, none⟩ :: rest) tm H K := by
 refine S.val (OpV.mk fun L w ρ η hη hH => ?_) hN h
 have h1 := (hη x (by simp [Op.operands]) _ hx).flat (u := .agg #[.int .i64 a, .int .i64 b]) rfl
 have h2 := (hη y (by simp [Op.operands]) _ hy).flat (u := .agg #[.int .i64 c, .int .i64 e']) rfl
 exact ⟨_, he.out _ η w x y u a b c e' rfl h1 h2, A7 _⟩
end
set_option maxRecDepth 100000 in
instance : HasNe2 Tryz.prog 107 := ⟨fun o η w x y u a b c d ho hx hy => by
 have h1 := fun d' (k : IntKind) (a b : Int) => run_equalIn_int (P := Tryz.prog) w d' 3 k .i64 a b a2k
 have h2 := run_equalIn_agg (P := Tryz.prog) w 9999 107 #[.int .i64 a, .int .i64 b] #[.int .i64 c, .int .i64 d] A5e V7
 have h3 := run_eqGuard_agg (P := Tryz.prog) w .neq 107 x y #[.int .i64 a, .int .i64 b] #[.int .i64 c, .int .i64 d] V6
 have h4 := run_neq_struct (P := Tryz.prog) w 107 #[.int .i64 a, .int .i64 b] #[.int .i64 c, .int .i64 d]
 rw [M1] at h2
 simp only [execOp, ho, hx, hy, a0m, h3, a0j, h4]
 rw [h2]
 simp [Op.eqFields, go_sem, h1]
 by_cases e1 : a = c <;> by_cases e2 : b = d <;> simp [*]⟩
end Go.Proofs.YtlapbaiejnaeiaaGreatDoor
namespace Go.Proofs.YtlapbaiejnaeiaaGreatDoor
open Go.RowKit
theorem Mb (d : Int) (m : MoveR) (l : List PieceR) (x : PieceR) (hl : l.length <= 4) (hx : l[l.length - 1]? = some x) (hc : Fn0 Tryz.prog 122 [.i d, A1 m.row] (.tup [.sl (l.map PieceR.row), .i 0])) : Fn0 Tryz.prog 161 [.i d, A1 m.row] (.tup [A1 x.at, .i 0]) := by
 have h0 : l ≠ [] := by rintro rfl;simp at hx
 have hpos : 1 <= l.length := by
  cases l with
  | nil => exact absurd rfl h0
  | cons _ _ => simp
 have hk := A39 d m l hl h0 hc
 have hle : (l.map PieceR.at).length = l.length := a0a _
 have hb : (l.map PieceR.at)[(((l.map PieceR.at).length : Int) - 1).toNat]? = some x.at := by
  rw [hle, show ((l.length : Int) - 1).toNat = l.length - 1 by omega, a0e, hx];rfl
 refine Fn0.of Tryz.func161 Tryz.ntmps161 rfl rfl rfl ?_
 simp only [A2]
 repeat' (first|refine W ?_|refine Zc hk ?_|(apply S.indexR;(iterate 3 exact rfl);exact hb;omega;exact rfl)|refine Za ?_|refine V ?_|(refine W2 ?_ ?_<;>intro hc))
 all_goals exact ⟨.inr rfl, [A1 x.at, .i 0], by rw [Tryz.results161];exact .cons (Res.row x.at rfl rfl rfl rfl rfl) (.cons (.tmp rfl) .nil), .tup (.cons (.agg (A6 x.at)) (.cons (.one (.lf _)) .nil))⟩
def Fe (f a b c : Rat) : PieceR := ⟨f.num, f.den, a.num, a.den, b.num, b.den, c.num, c.den⟩
def Pk (d : Int) (m : MoveR) : Rat := if d = 0 then 0 else Ju d m
theorem A6f (d : Int) (m : MoveR) (hm : E4 m) (hd : 0 <= d /\ d <= 1048576) : Fn0 Tryz.prog 161 [.i d, A1 m.row] (frE (Pk d m) 0) := by
 unfold Pk
 by_cases h : d = 0
 ·subst h
  rw [if_pos rfl]
  exact Mb 0 m [Fe 0 0 0 0] (Fe 0 0 0 0) (by decide) rfl (A0c m hm)
 ·rw [if_neg h]
  have hc := Sv d m hm (by omega)
  by_cases hr : (Ub d m).num = 0
  ·rw [show Jg d m = Mi d m from if_pos hr] at hc
   exact Mb d m [Fe 0 0 0 (A9 m.rise 2), Fe (Iy d m) (Rc d m) ((Bb d m : Int) : Rat) (A9 (-m.fall) 2), Fe (Ju d m) (d : Rat) 0 0] (Fe (Ju d m) (d : Rat) 0 0) (by simp) rfl hc
  ·rw [show Jg d m = Mj d m from if_neg hr] at hc
   exact Mb d m [Fe 0 0 0 (A9 m.rise 2), Fe (La d m) (Pc d m) ((Bb d m : Int) : Rat) 0, Fe (Iy d m) (Rc d m) ((Bb d m : Int) : Rat) (A9 (-m.fall) 2), Fe (Ju d m) (d : Rat) 0 0] (Fe (Ju d m) (d : Rat) 0 0) (by simp) rfl hc
structure GivenOk (h : HouseR) (l : List Int) (q : CueR) : Prop where
 house : Cn h
 right : Dy h q
 len : l.length = h.sets.length
 trims : Dq h l
theorem A2w {h : HouseR} {l : List Int} {q : CueR} (g : Ep h l q = 0) : GivenOk h l q := by
 by_cases h1 : Cn h /\ Dy h q
 ·by_cases h2 : l.length = h.sets.length
  ·by_cases h3 : Dq h l
   ·exact ⟨h1.1, h1.2, h2, h3⟩
   ·rw [Xq h1 h2 h3] at g;cases g
  ·rw [Xr h1 h2] at g;cases g
 ·rw [R2 h1] at g;cases g
theorem GivenOk.move {h : HouseR} {l : List Int} {q : CueR} (g : GivenOk h l q) {m : MoveR} (hm : m ∈ q.moves) : E4 m /\ 0 <= Ae h m.set /\ (Ae h m.set).toNat < l.length /\ ∃ n, l[(Ae h m.set).toNat]? = some n /\ (0 <= n /\ n <= 1048576) /\ 0 <= m.to /\ m.to <= 1048576 := by
 obtain ⟨_, _, _, _, _, hmv, _⟩ := g.right
 obtain ⟨h1, s, h2, h3, h4, h5⟩ := hmv m hm
 obtain ⟨_, _, _, _, _, hs, _⟩ := g.house
 obtain ⟨⟨_, _, s1, s2, s3, _⟩, _⟩ := hs s (a0c h3)
 have hlt : (Ae h m.set).toNat < l.length := by
  rw [g.len];exact (a0g.1 h3).1
 have hn := a0b hlt
 have ht := g.trims _ _ s hn h3
 exact ⟨h1, h2, hlt, _, hn, ⟨by omega, by omega⟩, by omega, by omega⟩
def S8 (h : HouseR) (l : List Int) (m : MoveR) : Int := max (m.to - l.getD (Ae h m.set).toNat 0) (-(m.to - l.getD (Ae h m.set).toNat 0))
theorem Qy {h : HouseR} {l : List Int} {m : MoveR} {n : Int} (hn : l[(Ae h m.set).toNat]? = some n) : S8 h l m = max (m.to - n) (-(m.to - n)) := by
 unfold S8
 rw [List.getD_eq_getElem?_getD, hn];rfl
theorem Q5 {h : HouseR} {l : List Int} {q : CueR} (g : GivenOk h l q) {m : MoveR} (hm : m ∈ q.moves) : 0 <= S8 h l m /\ S8 h l m <= 1048576 := by
 obtain ⟨_, _, _, n, hn, _, _, _⟩ := g.move hm
 rw [Qy hn]
 omega
def M8 (h : HouseR) (l : List Int) (m : MoveR) : Rat := Pk (S8 h l m) m
theorem A5d {d : Int} {m : MoveR} (hm : E4 m) (hd : 0 <= d /\ d <= 1048576) : Fits (Pk d m) := by
 unfold Pk
 by_cases h : d = 0
 ·rw [if_pos h];exact Cq (n := 0) (by omega) (by omega)
 ·rw [if_neg h];exact (Qx hm (by omega)).fin
theorem V2 {h : HouseR} {l : List Int} {q : CueR} (g : GivenOk h l q) {m : MoveR} (hm : m ∈ q.moves) : Fits (M8 h l m) := A5d (g.move hm).1 (Q5 g hm)
def J1 (h : HouseR) (l : List Int) (most : Rat) (m : MoveR) : Rat := if 0 < C4 (M8 h l m) most then M8 h l m else most
def Dh (h : HouseR) (l : List Int) (ms : List MoveR) : Rat := ms.foldl (J1 h l) 0
theorem A5q (h : HouseR) (l : List Int) (ms : List MoveR) (m : MoveR) : Dh h l (ms ++ [m]) = J1 h l (Dh h l ms) m := by simp [Dh]
theorem A1c (h : HouseR) (l : List Int) : ∀ (ms : List MoveR) (a : Rat), ms.foldl (J1 h l) a = a \/ ∃ m ∈ ms, ms.foldl (J1 h l) a = M8 h l m
 | [], a => .inl rfl
 | m :: ms, a => by
  rw [a4t]
  rcases A1c h l ms (J1 h l a m) with e | ⟨x, hx, e⟩
  ·rw [e]
   unfold J1
   split
   ·exact .inr ⟨m, by simp, rfl⟩
   ·exact .inl rfl
  ·exact .inr ⟨x, by simp [hx], e⟩
theorem Xl {h : HouseR} {l : List Int} {q : CueR} (g : GivenOk h l q) {ms : List MoveR} (hms : ∀ m ∈ ms, m ∈ q.moves) : Fits (Dh h l ms) := by
 unfold Dh
 rcases A1c h l ms 0 with e | ⟨m, hm, e⟩
 ·rw [e];exact Cq (n := 0) (by omega) (by omega)
 ·rw [e];exact V2 g (hms m hm)
theorem Wb (h : HouseR) (l : List Int) (q : CueR) (hf : h.fits) (hq : q.moves.length <= 9223372036854775807) (hl : l.length <= 9223372036854775807) (g0 : Ep h l q = 0) : Fn0 Tryz.prog 114 [A1 h.row, .sl (l.map A3), A1 q.row] (frE (Dh h l q.moves) 0) := by
 have g := A2w g0
 have cg := A50 h l q hf hq hl
 rw [g0] at cg
 have hf1 := hf.1
 have hle : (q.moves.map MoveR.row).length = q.moves.length := a0a _
 refine Fn0.of Tryz.func114 Tryz.ntmps114 rfl rfl rfl ?_
 simp only [A2]
 repeat' (first|refine W ?_|refine Zc cg ?_|refine V ?_|(refine W2 ?_ ?_<;>intro hc))
 refine p0d (fun k => k <= q.moves.length) (fun k => q.moves.length - k) (fun k => [(29, .i k), (28, .i (q.moves.map MoveR.row).length), (27, .sl (q.moves.map MoveR.row)), (1, .sl (l.map A3)), (3, .ptr 0 0), (5, .ptr 1 0), (6, .ptr 2 0), (9, .ptr 3 0)]) (fun k => [.live (h.row.map .lf), .live (q.row.map .lf), .live [.i 0, .i 0], .live ((frR (Dh h l (q.moves.take k))).map .lf)]) 0 (a0o _) CV CH ?_
 intro k hk
 by_cases hlt : k < q.moves.length
 ·have h1 : (k : Int) < ((q.moves.map MoveR.row).length : Nat) := by omega
  obtain ⟨x, hx⟩ := Aa hlt
  have hb := Ab (R := MoveR.row) hx
  have hsn := B8 hx
  have hmem : x ∈ q.moves := a0c hx
  have hst : Dh h l (q.moves.take (k + 1)) = J1 h l (Dh h l (q.moves.take k)) x := by rw [hsn, A5q]
  obtain ⟨m1, m2, m3, n, hn, m4, m5, m6⟩ := g.move hmem
  have hb2 : (l.map A3)[(Ae h x.set).toNat]? = some (A3 n) := I3 hn
  have hd := Q5 g hmem
  have ct := A6f (max (x.to - n) (-(x.to - n))) x m1 (by rw [<- Qy hn];exact hd)
  rw [show Pk (max (x.to - n) (-(x.to - n))) x = M8 h l x by unfold M8;rw [Qy hn]] at ct
  have cc := O5 (M8 h l x) (Dh h l (q.moves.take k)) (V2 g hmem) (Xl g fun m hm => List.mem_of_mem_take hm)
  repeat' (first|refine W ?_|(apply p0b A0 (by decide +kernel))|(apply S.indexR;(iterate 3 exact rfl);exact hb;omega;exact rfl)|(apply S.indexR;(iterate 3 exact rfl);exact hb2;omega;exact rfl)|refine Zc (Ox h x.set hf1) ?_|refine Zc ct ?_|refine Zc cc ?_|(apply S.neg;exact rfl;exact rfl;omega)|(apply S.max2;(iterate 3 exact rfl))|refine Za ?_|refine V ?_|(refine W2 ?_ ?_<;>intro hc))
  all_goals (try change Next _ _ _ _ _ _)
  all_goals first
   | exact Next.go (k + 1) (by omega) (by omega) CV (by
     show CovH _ _ [_, _, _, .live ((frR (Dh h l (q.moves.take (k + 1)))).map .lf)]
     rw [hst, J1, if_pos (by assumption)]
     exact .live rfl CH)
   | exact Next.go (k + 1) (by omega) (by omega) CV (by
     show CovH _ _ [_, _, _, .live ((frR (Dh h l (q.moves.take (k + 1)))).map .lf)]
     rw [hst, J1, if_neg (by assumption)]
     exact .live rfl CH)
 ·have h1 : ¬ (k : Int) < ((q.moves.map MoveR.row).length : Nat) := by omega
  have hkt : q.moves.take k = q.moves := a0h (by omega)
  rw [show Dh h l q.moves = Dh h l (q.moves.take k) by rw [hkt]]
  repeat' (first|refine W ?_|refine V ?_|(refine W2 ?_ ?_<;>intro hc))
  exact ⟨.inr rfl, [A1 (frR (Dh h l (q.moves.take k))), .i 0], by rw [Tryz.results114];exact .cons (Res.row (frR (Dh h l (q.moves.take k))) rfl rfl rfl rfl rfl) (.cons (.tmp rfl) .nil), .tup (.cons (.agg (A6 (frR (Dh h l (q.moves.take k))))) (.cons (.one (.lf _)) .nil))⟩
/-! ### The reference -/
abbrev Ad (l : List Int) : List AV := (l.map A3).flatten.map .lf
theorem D0 (l : List Int) : ∀ r ∈ l.map A3, r.length = 1 := by
 intro r hr
 obtain ⟨n, _, rfl⟩ := a1b.1 hr
 rfl
theorem A8y (l : List Int) : (l.map A3).flatten.all Lf.one = true := by
 rw [a0k]
 intro x hx
 obtain ⟨r, hr, hxr⟩ := a5q.1 hx
 obtain ⟨n, _, rfl⟩ := a1b.1 hr
 simp only [A3, a1j, a2e, or_false] at hxr
 subst hxr
 rfl
theorem Ds (l : List Int) : (Ad l).length = l.length := by
 rw [a0a, Bi _ (D0 l), a0a, a5w]
theorem Rw : ∀ (l : List Int) (i : Nat) (n : Int), i < l.length -> As i [.i n] (Ad l) = Ad (l.set i n)
 | [], i, n, h => by simp at h
 | x :: l, 0, n, _ => by simp [Ad, A3, As, E2]
 | x :: l, i + 1, n, h => by
  have ih := Rw l i n (by simpa using h)
  simp only [Ad, a1q, A3, a3d, a1u, a4h, a2j, a3m, a5e] at ih ⊢
  rw [As]
  exact congrArg _ ih
theorem Pq {l : List Int} {i : Nat} {n : Int} (h : i < l.length) : Ad (l.set i n) = As (0 + i * 1) [.i n] (Ad l) := by
 rw [<- Rw l i n h, a5w, a1r]
theorem p2z {P : Program} {st : St} {t b k n : Nat} (h : st.tm.get t = some (.own b 0 (0 + k) n)) : Res P st (.tmp t) (.own b 0 k n) := by
 rw [a1r] at h
 exact .tmp h
theorem A2e (l : List Int) (hl : l.length <= 1000) : FnOwn Tryz.prog 216 [.sl (l.map A3)] (l.map A3) 1 := by
 have hle : (l.map A3).length = l.length := a0a _
 refine FnOwn.of Tryz.func216 Tryz.ntmps216 rfl rfl rfl ?_
 simp only [A2]
 repeat' (first|refine W ?_|(apply p3i;exact rfl;exact rfl;intro hnil;rotate_left;rotate_right)|(apply p1c;(iterate 6 exact rfl))|(apply p0p;(iterate 9 exact rfl);exact D0 l;exact A8y l;exact rfl;omega;omega)|refine V ?_|(refine W2 ?_ ?_<;>intro hc))
 all_goals (apply T.ret;change Wm _ _ _ _ _ _)
 ·exact ⟨.inr rfl, .inl ⟨_, .cons (.tmp rfl) .nil, rfl, hnil⟩⟩
 ·exact ⟨.inr rfl, .inr (.inr ⟨0, .cons (p2z rfl) .nil, rfl⟩)⟩
def By (h : HouseR) (l : List Int) (ms : List MoveR) : List Int := ms.foldl (fun l m => l.set (Ae h m.set).toNat m.to) l
theorem Zp (h : HouseR) (l : List Int) (ms : List MoveR) (m : MoveR) : By h l (ms ++ [m]) = (By h l ms).set (Ae h m.set).toNat m.to := by simp [By]
theorem Iq (h : HouseR) : ∀ (ms : List MoveR) (l : List Int), (By h l ms).length = l.length
 | [], l => rfl
 | m :: ms, l => by
  have := Iq h ms (l.set (Ae h m.set).toNat m.to)
  rw [a6a] at this
  exact this
theorem Te (n : Nat) (l : List Int) : (Ad l).all (AV.under n) = true := Aj n _
theorem A9o (h : HouseR) (l : List Int) (ms : List MoveR) : OwnRows (Ad (By h l ms)) 0 (l.map A3).length 1 ((By h l ms).map A3) := by
 have := OwnRows.of ((By h l ms).map A3).flatten (D0 (By h l ms)) rfl
 rw [a0a, Iq] at this
 rw [a0a]
 exact this
theorem A51 (h : HouseR) (l : List Int) (q : CueR) (hf : h.fits) (hq : q.moves.length <= 9223372036854775807) (g : GivenOk h l q) : Fn0 Tryz.prog 158 [A1 h.row, .sl (l.map A3), A1 q.row] (.sl ((By h l q.moves).map A3)) := by
 have hf1 := hf.1
 obtain ⟨_, _, _, hs60, _⟩ := g.house
 have hl60 : l.length <= 60 := by rw [g.len];exact hs60
 have hle : (q.moves.map MoveR.row).length = q.moves.length := a0a _
 have hle2 : (l.map A3).length = l.length := a0a _
 refine Fn0.of Tryz.func158 Tryz.ntmps158 rfl rfl rfl ?_
 simp only [A2]
 repeat' (first|refine W ?_|(apply p2b 2;exact A2e l (by omega);(iterate 6 exact rfl);exact D0 l;intro hnil;rotate_left;rotate_right)|refine V ?_|(refine W2 ?_ ?_<;>intro hc))
 ·have hl0 : l = [] := a6x.1 hnil
  have hm0 : q.moves = [] := by
   cases hmv : q.moves with
   | nil => rfl
   | cons m ms =>
    obtain ⟨_, _, m3, _⟩ := g.move (m := m) (by rw [hmv];simp)
    rw [hl0] at m3
    simp at m3
  have h1 : ¬ ((0 : Nat) : Int) < ((q.moves.map MoveR.row).length : Nat) := by rw [hle, hm0];simp
  refine p0d (fun _ : Nat => True) (fun _ => 0) (fun k => [(15, .i ((0 : Nat) : Int)), (14, .i (q.moves.map MoveR.row).length), (7, .sl [])]) (fun _ => []) 0 trivial CV .nil ?_
  intro k _
  repeat' (first|refine W ?_|refine V ?_|(refine W2 ?_ ?_<;>intro hc))
  have hres : (By h l q.moves).map A3 = [] := by rw [hl0, hm0];rfl
  rw [hres]
  exact H6 (by first | exact .inl rfl | exact .inr rfl) Tryz.results158 rfl (.one (.one (.lf _)))
 ·refine p0d (fun k => k <= q.moves.length) (fun k => q.moves.length - k) (fun k => [(15, .i k), (14, .i (q.moves.map MoveR.row).length), (13, .sl (q.moves.map MoveR.row)), (7, .own 2 0 (l.map A3).length 1), (3, .ptr 0 0)]) (fun k => [.live (h.row.map .lf), .live (q.row.map .lf), .live (Ad (By h l (q.moves.take k)))]) 0 (a0o _) CV (.live rfl (.live rfl (.live (Te _ _) .nil))) ?_
  intro k hk
  by_cases hlt : k < q.moves.length
  ·have h1 : (k : Int) < ((q.moves.map MoveR.row).length : Nat) := by omega
   obtain ⟨x, hx⟩ := Aa hlt
   have hb := Ab (R := MoveR.row) hx
   have hsn := B8 hx
   have hmem : x ∈ q.moves := a0c hx
   have hst : By h l (q.moves.take (k + 1)) = (By h l (q.moves.take k)).set (Ae h x.set).toNat x.to := by rw [hsn, Zp]
   have hal := Iq h (q.moves.take k) l
   have hcl := Ds (By h l (q.moves.take k))
   obtain ⟨m1, m2, m3, n, hn, m4, m5, m6⟩ := g.move hmem
   repeat' (first|refine W ?_|(apply p0f 8 A0 (by decide +kernel);simp only [td])|(apply p0e 8 A0 (by decide +kernel);simp only [td])|(apply S.indexR;(iterate 3 exact rfl);exact hb;omega;exact rfl)|refine Zc (Ox h x.set hf1) ?_|(apply S.indexO;(iterate 4 exact rfl);omega;exact rfl)|(apply p2a;(iterate 6 exact rfl);omega)|refine Za ?_|refine V ?_|(refine W2 ?_ ?_<;>intro hc))
   change Next _ _ _ _ _ _
   exact Next.go (k + 1) (by omega) (by omega) CV (by
    show CovH _ _ [_, _, .live (Ad (By h l (q.moves.take (k + 1))))]
    have hlt2 : (Ae h x.set).toNat < (By h l (q.moves.take k)).length := by omega
    have hu := Te 3 ((By h l (q.moves.take k)).set (Ae h x.set).toNat x.to)
    rw [Pq hlt2] at hu
    rw [hst, Pq hlt2]
    exact .live rfl (.live rfl (.live hu .nil)))
  ·have h1 : ¬ (k : Int) < ((q.moves.map MoveR.row).length : Nat) := by omega
   have hkt : q.moves.take k = q.moves := a0h (by omega)
   rw [show (By h l q.moves).map A3 = (By h l (q.moves.take k)).map A3 by rw [hkt]]
   repeat' (first|refine W ?_|refine V ?_|(refine W2 ?_ ?_<;>intro hc))
   refine H6 (by first | exact .inl rfl | exact .inr rfl) Tryz.results158 rfl (.one (.one ?_))
   exact .own rfl (A9o h l (q.moves.take k))
/-! ### The reference -/
def Gd (h : HouseR) : List Int := h.sets.map SetR.high
def D9 (h : HouseR) (c : SheetR) (k : Nat) : List Int := (c.cues.take k).foldl (fun l q => By h l q.moves) (Gd h)
theorem Vi {h : HouseR} {c : SheetR} {k : Nat} {q : CueR} (hq : c.cues[k]? = some q) : D9 h c (k + 1) = By h (D9 h c k) q.moves := by
 unfold D9
 rw [a0x, hq]
 simp
def Fi (h : HouseR) (c : SheetR) (n : Nat) : List (List Int) := (List.range n).map (D9 h c)
def Of (l : List Int) : List Lf := [.sl (l.map A3)]
theorem A0l {h : HouseR} {l : List Int} {i : Nat} {n : Int} (ht : Dq h l) (hn : ∀ s, h.sets[i]? = some s -> s.low <= n /\ n <= s.high) : Dq h (l.set i n) := fun j x s hj hs => by
 rw [a9o] at hj
 by_cases e : i = j
 ·rw [if_pos e] at hj
  subst e
  split at hj
  ·injection hj with hj
   subst hj
   exact hn s hs
  ·cases hj
 ·rw [if_neg e] at hj
  exact ht j x s hj hs
theorem N5 {h : HouseR} {q : CueR} (hr : Dy h q) : ∀ (ms : List MoveR) (l : List Int), (∀ m ∈ ms, m ∈ q.moves) -> Dq h l -> Dq h (By h l ms)
 | [], l, _, ht => ht
 | m :: ms, l, hm, ht => by
  have ih := N5 hr ms (l.set (Ae h m.set).toNat m.to) (fun x hx => hm x (by simp [hx])) (A0l ht fun s hs => by
   obtain ⟨_, t, _, h3, h4, h5⟩ := hr.2.2.2.2.2.1 m (hm m (by simp))
   rw [hs] at h3
   injection h3 with h3
   subst h3
   exact ⟨h4, h5⟩)
  exact ih
theorem validP.cue {h : HouseR} {c : SheetR} (v : validP h c) {q : CueR} {k : Nat} (hq : c.cues[k]? = some q) : Dy h q := (v.2.2.1 k q hq).2.1
theorem A8t {h : HouseR} (hh : Cn h) : Dq h (Gd h) := fun i n s h1 h2 => by
 unfold Gd at h1
 rw [a0e, h2] at h1
 simp only [a1c, a0f] at h1
 subst h1
 obtain ⟨_, _, _, _, _, hs, _⟩ := hh
 obtain ⟨⟨_, _, _, s2, _⟩, _⟩ := hs s (a0c h2)
 exact ⟨s2, a4m _⟩
theorem A1j {h : HouseR} {c : SheetR} (v : validP h c) : ∀ k, k <= c.cues.length -> (D9 h c k).length = h.sets.length /\ Dq h (D9 h c k)
 | 0, _ => ⟨by simp [D9, Gd], by show Dq h (Gd h);exact A8t v.1⟩
 | k + 1, hk => by
  obtain ⟨i1, i2⟩ := A1j v k (by omega)
  obtain ⟨q, hq⟩ := Aa (l := c.cues) (k := k) (by omega)
  rw [Vi hq]
  exact ⟨by rw [Iq];exact i1, N5 (v.cue hq) q.moves _ (fun m hm => hm) i2⟩
theorem Nv {h : HouseR} {c : SheetR} (v : validP h c) {k : Nat} {q : CueR} (hq : c.cues[k]? = some q) : GivenOk h (D9 h c k) q := by
 have hk : k < c.cues.length := (a0g.1 hq).1
 obtain ⟨i1, i2⟩ := A1j v k (by omega)
 exact ⟨v.1, v.cue hq, i1, i2⟩
theorem p5g {P : Program} {N : Nat} {c : Code} {Q : Exit -> St -> Prop} {tm : Tm} {H : AH} (q : Nat) (ht : tm.get q = some (.val (.slice none 0 0))) (h : T P N c ⟨(q, .sl []) :: tm, H⟩ Q) : T P N c ⟨tm, H⟩ Q :=
 ⟨fun E a w ρ hE hR => h.out E a w ρ hE ⟨hR.size, hR.defers, fun t x hx => by
  rw [p0q] at hx
  obtain ⟨h1, h2⟩ := hR.tm q _ ht
  by_cases e : q = t
  ·rw [if_pos e] at hx
   injection hx with hx
   subst hx e
   refine ⟨h1, ?_⟩
   have := h2.val_eq
   rw [this]
   exact .lf _ _ .slnil
  ·rw [if_neg e] at hx
   exact hR.tm t x hx, hR.H, hR.fr, hR.mine, hR.lim⟩⟩
def Aap : Nat -> AV
 | 0 => .val (.slice none 0 0)
 | k + 1 => .own 2 0 (k + 1) 1
def Aao (l : List SetR) : Nat -> HB
 | 0 => .dead
 | k + 1 => .live (Ad ((l.take (k + 1)).map SetR.high))
theorem Pr {l : List SetR} {k : Nat} {x : SetR} (h : l.take (k + 1) = l.take k ++ [x]) : Ad ((l.take (k + 1)).map SetR.high) = Ad ((l.take k).map SetR.high) ++ ([A3 x.high].flatten).map AV.lf := by
 rw [h];simp [Ad]
theorem A67 {h : HouseR} {k : Nat} (hk : k = h.sets.length) : OwnRows (Ad ((h.sets.take k).map SetR.high)) 0 k 1 ((Gd h).map A3) := by
 have ht : h.sets.take k = h.sets := a0h (by omega)
 rw [ht]
 have := OwnRows.of ((Gd h).map A3).flatten (D0 (Gd h)) rfl
 rw [a0a, Gd, a0a, <- hk] at this
 exact this
theorem A3m {P : Program} {N : Nat} {c : Code} {Q : Exit -> St -> Prop} {tm : Tm} {H : AH} {h : HouseR} {k : Nat} (hk : k = h.sets.length) (ht : tm.get 6 = some (Aap k)) (hb : H.at 2 = Aao h.sets k) (hT : T P N c ⟨(6, .sl ((Gd h).map A3)) :: tm, H.put 2 .dead⟩ Q) : T P N c ⟨tm, H⟩ Q := by
 cases k with
 | zero =>
  have h0 : (Gd h).map A3 = [] := by rw [Gd, a1p hk.symm];rfl
  rw [h0] at hT
  exact p5g 6 ht (T.kill 2 hT (by rw [hb];rfl))
 | succ k => exact T.freeze 6 ht hb (A67 hk) hT
theorem Z4 (l : List (List Int)) : ∀ r ∈ l.map Of, r.length = 1 := by
 intro r hr
 obtain ⟨n, _, rfl⟩ := a1b.1 hr
 rfl
abbrev Jf (h : HouseR) (c : SheetR) (n : Nat) : List AV := ((Fi h c n).map Of).flatten.map .lf
theorem A2b (h : HouseR) (c : SheetR) (n : Nat) : (Jf h c n).length = n * 1 := by
 rw [a0a, Bi _ (Z4 _), a0a];simp [Fi]
theorem Zs (h : HouseR) (c : SheetR) (n : Nat) : Jf h c (n + 1) = Jf h c n ++ ([Of (D9 h c n)].flatten).map AV.lf := by
 simp [Jf, Fi, a6y]
theorem Xd (h : HouseR) (c : SheetR) (hf : h.fits) (hc : c.fits) (v : validP h c) : Fn0 Tryz.prog 113 [A1 h.row, A1 c.row] (.tup [.sl ((Fi h c (c.cues.length + 1)).map Of), .i 0]) := by
 have cv := Uy h c hf hc
 rw [decide_eq_true v] at cv
 obtain ⟨_, _, _, hs60, _⟩ := v.1
 have hc60 := v.2.1
 have hle : (h.sets.map SetR.row).length = h.sets.length := a0a _
 have hle2 : (c.cues.map CueR.row).length = c.cues.length := a0a _
 refine Fn0.of Tryz.func113 Tryz.ntmps113 rfl rfl rfl ?_
 simp only [A2]
 repeat' (first|refine W ?_|refine Zc cv ?_|refine V ?_|(refine W2 ?_ ?_<;>intro hc))
 refine T.kill 2 ?_
 refine p0d (fun k => k <= h.sets.length) (fun k => h.sets.length - k) (fun k => [(19, .i k), (18, .i (h.sets.map SetR.row).length), (17, .sl (h.sets.map SetR.row)), (6, Aap k), (2, .ptr 0 0), (3, .ptr 1 0)]) (fun k => [.live (h.row.map .lf), .live (c.row.map .lf), Aao h.sets k]) 0 (a0o _) CV CH ?_
 intro k hk
 by_cases hlt : k < h.sets.length
 ·have h1 : (k : Int) < ((h.sets.map SetR.row).length : Nat) := by omega
  obtain ⟨x, hx⟩ := Aa hlt
  have hb := Ab (R := SetR.row) hx
  have hsn := B8 hx
  cases k with
  | zero =>
   repeat' (first|refine W ?_|(apply S.indexR;(iterate 3 exact rfl);exact hb;omega;exact rfl)|(apply p0c;(iterate 7 exact rfl))|(apply p0u 2 (rows := []);(iterate 8 exact rfl);exact Af rfl;exact rfl;exact a0d rfl;exact a0d rfl)|refine Za ?_|refine V ?_|(refine W2 ?_ ?_<;>intro hc))
   change Next _ _ _ _ _ _
   exact Next.go 1 (by omega) (by omega) CV (by
    show CovH _ _ [_, _, .live (Ad ((h.sets.take (0 + 1)).map SetR.high))]
    rw [Pr hsn]
    exact .live rfl CH)
  | succ k =>
   have hcl : (Ad ((h.sets.take (k + 1)).map SetR.high)).length = (k + 1) * 1 := by rw [Ds, a0a, a0t];omega
   repeat' (first|refine W ?_|(apply S.indexR;(iterate 3 exact rfl);exact hb;omega;exact rfl)|(apply p0c;(iterate 7 exact rfl))|(apply p0p;(iterate 8 exact rfl);exact hcl;exact Af rfl;exact rfl;exact B6 _ _;simp only [a0i, a0n];omega;simp only [a0i, a0n];omega)|refine Za ?_|refine V ?_|(refine W2 ?_ ?_<;>intro hc))
   change Next _ _ _ _ _ _
   exact Next.go (k + 2) (by omega) (by omega) CV (by
    show CovH _ _ [_, _, .live (Ad ((h.sets.take (k + 1 + 1)).map SetR.high))]
    rw [Pr hsn]
    exact .live rfl (.live rfl (.live (by rw [<- a1u];exact Aj _ _) .nil)))
 ·have h1 : ¬ (k : Int) < ((h.sets.map SetR.row).length : Nat) := by omega
  refine A3m (h := h) (k := k) (by omega) rfl rfl ?_
  repeat' (first|refine W ?_|(apply p1c;(iterate 6 exact rfl))|refine V ?_|(refine W2 ?_ ?_<;>intro hc))
  refine p0d (fun k => k <= c.cues.length) (fun k => c.cues.length - k) (fun k => [(34, .i k), (33, .i (c.cues.map CueR.row).length), (32, .sl (c.cues.map CueR.row)), (6, .sl ((D9 h c k).map A3)), (9, .own 3 0 (k + 1) 1), (2, .ptr 0 0), (3, .ptr 1 0)]) (fun k => [.live (h.row.map .lf), .live (c.row.map .lf), .dead, .live (Jf h c (k + 1))]) 0 (a0o _) CV CH ?_
  intro j hj
  by_cases hlt2 : j < c.cues.length
  ·have h2 : (j : Int) < ((c.cues.map CueR.row).length : Nat) := by omega
   obtain ⟨y, hy⟩ := Aa hlt2
   have hb2 := Ab (R := CueR.row) hy
   have cm := A51 h (D9 h c j) y hf (by have := hc.2.2 y (a0c hy);omega) (Nv v hy)
   rw [<- Vi hy] at cm
   have hct := A2b h c (j + 1)
   repeat' (first|refine W ?_|(apply S.indexR;(iterate 3 exact rfl);exact hb2;omega;exact rfl)|(apply p0c;(iterate 7 exact rfl))|(apply p0p;(iterate 8 exact rfl);exact hct;exact Af rfl;exact rfl;exact B6 _ _;simp only [a0i, a0n];omega;simp only [a0i, a0n];omega)|refine Zc cm ?_|refine Za ?_|refine V ?_|(refine W2 ?_ ?_<;>intro hc))
   change Next _ _ _ _ _ _
   exact Next.go (j + 1) (by omega) (by omega) CV (by
    show CovH _ _ [_, _, _, .live (Jf h c (j + 1 + 1))]
    rw [Zs]
    exact .live rfl (.live rfl (.dead (.live (by rw [<- a1u];exact Aj _ _) .nil))))
  ·have h2 : ¬ (j : Int) < ((c.cues.map CueR.row).length : Nat) := by omega
   have hj2 : j = c.cues.length := by omega
   repeat' (first|refine W ?_|refine V ?_|(refine W2 ?_ ?_<;>intro hc))
   refine ⟨.inr rfl, [_, _], .cons (.tmp rfl) (.cons (.tmp rfl) .nil), .tup (.cons (.one (.own (cells := Jf h c (j + 1)) (rows := (Fi h c (c.cues.length + 1)).map Of) rfl ?_)) (.cons (.one (.lf _)) .nil))⟩
   have := OwnRows.of ((Fi h c (j + 1)).map Of).flatten (Z4 _) rfl
   rw [a0a, Fi, a0a, a6k] at this
   rw [<- hj2]
   exact this
end Go.Proofs.YtlapbaiejnaeiaaGreatDoor
namespace Go.Proofs.YtlapbaiejnaeiaaGreatDoor
open Go Go.RowKit
structure FnMutP (P : Program) (f : FuncId) (n len : Nat) (xs : List Value) (Pre : World -> Nat -> List Value -> Prop) (len' : Nat) (xs' : List Value) : Prop where
 ent : Enters P f
 run : ∀ (w : World) (k o cap : Nat) (c : Array Value) (el : TypeId) (lo hi : Nat) (us : List Value), Pre w k us -> w.heap[k]? = some (.cells c el (lo, hi)) -> hi <= lo -> len <= cap -> o + cap * n <= c.size -> o + xs.length <= c.size -> (∀ j u, xs[j]? = some u -> c[o + j]? = some u) ->
  Calls P f (.slice (some ⟨k, o, none⟩) len cap :: us).toArray w fun e w' => Fr (fun j => j = k) w w' /\ ∃ k' o' cap' c' el' lo' hi', e = .returned (.slice (some ⟨k', o', none⟩) len' cap') /\ (k' = k \/ w.heap.size <= k') /\ w'.heap[k']? = some (.cells c' el' (lo', hi')) /\ hi' <= lo' /\ len' <= cap' /\ o' + cap' * n <= c'.size /\ o' + xs'.length <= c'.size /\
   ∀ j u, xs'[j]? = some u -> c'[o' + j]? = some u
section
variable {P : Program} {N : Nat} {ops : Array Oper} {K : Tm -> AH -> Prop} {tm tm' : Tm} {H : AH} {rest : List Oper} {ty : TypeId} {pos : String} {af : Array Edge} {d : Nat} {x : Operand}
theorem Yk {E : Env} {a : Act} {w : World} {ρ : Pl} (hR : RelSt E ⟨tm, H⟩ a w ρ) : ∀ {ys : List Operand} {us : List Value}, evs (evT tm) ys = some (us.map AV.val) -> ys.map a.eval = us
 | [], [], _ => rfl
 | [], u :: us, h => by simp [evs] at h
 | y :: ys, us, h => by
  cases e1 : evT tm y with
  | none => simp [evs, e1] at h
  | some v =>
   cases e2 : evs (evT tm) ys with
   | none => simp [evs, e1, e2] at h
   | some vs =>
    cases us with
    | nil => simp [evs, e1, e2] at h
    | cons u us =>
     simp only [evs, e1, e2, a1q] at h
     have hh : v = AV.val u /\ vs = us.map AV.val := by simpa using h
     obtain ⟨rfl, rfl⟩ := hh
     have h1 := (hR.ev (by rw [Ag];exact e1) : RelV w E.L ρ (AV.val u) (a.eval y)).val_eq
     rw [a1q, h1, Yk hR e2]
theorem p2y {b n len len' : Nat} {f : FuncId} {ts : Array TypeId} {ys : List Operand} {xs xs' : List Value} {Pre : World -> Nat -> List Value -> Prop} (hp : FnMutP P f n len xs Pre len' xs') (hx : evT tm x = some (.own b 0 len n)) (hb : H.at b = .live (xs.map AV.val))
  (hpre : ∀ (E : Env) (a : Act) (w : World) (ρ : Pl), RelSt E ⟨tm, H⟩ a w ρ -> ∀ k o, ρ b = some (some (k, o)) -> Pre w k (ys.map a.eval)) (htm : tm.clearO b = some tm') (hH : AH.clear b 0 H = true) (hN : Nat.ble (d + 1) N = true)
  (h : Reg none P N ops rest ((d, .own b 0 len' n) :: tm') (H.put b (.live (xs'.map AV.val))) K) :
  Reg none P N ops (⟨some d, .call ⟨.value (.func f), (x :: ys).toArray, ts⟩, ty, pos, af, none⟩ :: rest) tm H K := by
 refine ⟨fun E a w ρ hE hR => ?_⟩
 replace h := h.out
 refine wpList_plain rfl fun K' hK => ?_
 have hN' := a0d hN
 have hxv : RelV w E.L ρ (.own b 0 len n) (a.eval x) := hR.ev (by rw [Ag];exact hx)
 obtain ⟨k, o, c, el, lo, hi, g1, g2, g3, g4, g5, g6⟩ := hR.H.live b _ hb
 obtain ⟨cap, e2, n2, hxe, hcap, hsh, hfitc⟩ := hxv.own_out k o g1
 rw [a2z] at hxe hfitc
 have hcs : n2 = c.size := by
  rw [Bs g2] at hsh
  simp only [a0f, a1e] at hsh
  exact hsh.2.symm
 have hrun : (execOp a.eval ⟨some d, .call ⟨.value (.func f), (x :: ys).toArray, ts⟩, ty, pos, af, none⟩).run P w = .ok (.enter f (a.eval x :: ys.map a.eval).toArray) w := by
  have : (execOp a.eval ⟨some d, .call ⟨.value (.func f), (x :: ys).toArray, ts⟩, ty, pos, af, none⟩).run P w = (callFunc f (#[] ++ (x :: ys).toArray.map a.eval ++ #[])).run P w := by simp [execOp, resolve, Act.eval, Deferred.ofValue, invoke]
  rw [this, hp.ent.run]
  simp
 unfold Oper.wp
 rw [hrun, hxe]
 refine (hp.run w k o cap c el lo hi (ys.map a.eval) (hpre E a w ρ hR k o g1) g2 g3 hcap (by rw [<- hcs];exact hfitc) (by simpa using g4) fun j u hj => ?_).mono ?_
 ·obtain ⟨v, q1, q2⟩ := g6 j (AV.val u) (by rw [a0e, hj];rfl)
  rw [q1, q2.val_eq]
 ·rintro e w' ⟨hF, k', o', cap', c', el', lo', hi', rfl, hk', p1, p2, p3, p4, p5, p6⟩
  have s2 := hR.regrow2 (tm' := tm') (cells' := xs'.map AV.val) htm hH hb g1 p1 p2 (by rw [a0a];exact p5) hk' hF fun hla j z hj => by
   rw [a0e] at hj
   cases hf : xs'[j]? with
   | none => rw [hf] at hj;cases hj
   | some u =>
    rw [hf] at hj
    simp only [a1c, a0f] at hj
    subst hj
    exact ⟨u, p6 j u hf, A7 _⟩
  exact hK _ _ (h E _ w' _ hE (s2.put (by rw [hE];exact hN') (Gz p3 (Bs p1) p4)))
end
section
variable {P : Program} {N : Nat} {ops : Array Oper} {K : Tm -> AH -> Prop} {tm : Tm} {H : AH} {rest : List Oper}
end
end Go.Proofs.YtlapbaiejnaeiaaGreatDoor
