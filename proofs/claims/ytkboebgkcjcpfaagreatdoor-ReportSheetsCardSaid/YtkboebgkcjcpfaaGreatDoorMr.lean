/- Contracts: the trims after a cue (both sides): the same list. No conditions but those of each statement. -/
import Derived.Test.YtkboebgkcjcpfaaGreatDoorMq
import Derived.Test.YtkboebgkcjcpfaaGreatDoorMn
import Derived.Test.YtkboebgkcjcpfaaGreatDoorMi
import Derived.Test.YtkboebgkcjcpfaaGreatDoorMc
import Derived.Test.YtkboebgkcjcpfaaGreatDoorMt
import Derived.Laws.StructEq
import Derived.Test.YtkboebgkcjcpfaaGreatDoorOl
import Derived.Test.YtkboebgkcjcpfaaGreatDoorPa
import Derived.Test.YtkboebgkcjcpfaaGreatDoorMk
import Derived.Test.YtkboebgkcjcpfaaGreatDoorNe
set_option linter.unusedSimpArgs false
set_option linter.unusedVariables false
namespace Go.Proofs.YtkboebgkcjcpfaaGreatDoor
open Go.RowKit
abbrev Aa (l : List Int) : List AV := (l.map A1).flatten.map .lf
theorem Bx (l : List Int) : ∀ r ∈ l.map A1, r.length = 1 := by
 intro r hr
 obtain ⟨n, _, rfl⟩ := List.mem_map.1 hr
 rfl
theorem T5 (l : List Int) : (l.map A1).flatten.all Lf.one = true := by
 rw [List.all_eq_true]
 intro x hx
 obtain ⟨r, hr, hxr⟩ := List.mem_flatten.1 hx
 obtain ⟨n, _, rfl⟩ := List.mem_map.1 hr
 simp only [A1, List.mem_cons, List.not_mem_nil, or_false] at hxr
 subst hxr
 rfl
theorem Bn (l : List Int) : (Aa l).length = l.length := by
 rw [List.length_map, Bd _ (Bx l), List.length_map, Nat.mul_one]
theorem Nv : ∀ (l : List Int) (i : Nat) (n : Int), i < l.length -> Bm i [.i n] (Aa l) = Aa (l.set i n)
 | [], i, n, h => by simp at h
 | x :: l, 0, n, _ => by simp [Aa, A1, Bm, G1]
 | x :: l, i + 1, n, h => by
  have ih := Nv l i n (by simpa using h)
  simp only [Aa, List.map_cons, A1, List.flatten_cons, List.map_append, List.map_nil, List.cons_append, List.nil_append, List.set_cons_succ] at ih ⊢
  rw [Bm]
  exact congrArg _ ih
theorem G5 {l : List Int} {i : Nat} {n : Int} (h : i < l.length) : Aa (l.set i n) = Bm (0 + i * 1) [.i n] (Aa l) := by
 rw [<- Nv l i n h, Nat.mul_one, Nat.zero_add]
theorem Res.own0 {P : Program} {st : St} {t b k n : Nat} (h : st.tm.get t = some (.own b 0 (0 + k) n)) : Res P st (.tmp t) (.own b 0 k n) := by
 rw [Nat.zero_add] at h
 exact .tmp h
set_option maxHeartbeats 8000000 in
theorem Wl (l : List Int) (hl : l.length <= 1000) : FnOwn Tryz.prog 113 [.sl (l.map A1)] (l.map A1) 1 := by
 have hle : (l.map A1).length = l.length := List.length_map _
 refine FnOwn.of Tryz.func113 Tryz.ntmps113 rfl rfl rfl ?_
 simp only [A0]
 repeat' (first | refine W ?_|(apply S.eqNil;exact rfl;exact rfl;intro hnil;rotate_left;rotate_right)|(apply S.buildSliceO;(iterate 6 exact rfl))|(apply S.appendO;(iterate 9 exact rfl);exact Bx l;exact T5 l;exact rfl;omega;omega) | refine V ?_|(refine W2 ?_ ?_ <;> intro hc))
 all_goals (apply T.ret;change Rw _ _ _ _ _ _)
 ·exact ⟨.inr rfl, .inl ⟨_, .cons (.tmp rfl) .nil, rfl, hnil⟩⟩
 ·exact ⟨.inr rfl, .inr (.inr ⟨0, .cons (Res.own0 rfl) .nil, rfl⟩)⟩
def As (h : HouseR) (l : List Int) (ms : List MoveR) : List Int := ms.foldl (fun l m => l.set (Am h m.set).toNat m.to) l
theorem Ma (h : HouseR) (l : List Int) (ms : List MoveR) (m : MoveR) : As h l (ms ++ [m]) = (As h l ms).set (Am h m.set).toNat m.to := by simp [As]
theorem Ff (h : HouseR) : ∀ (ms : List MoveR) (l : List Int), (As h l ms).length = l.length
 | [], l => rfl
 | m :: ms, l => by
  have := Ff h ms (l.set (Am h m.set).toNat m.to)
  rw [List.length_set] at this
  exact this
theorem Gx (n : Nat) (l : List Int) : (Aa l).all (AV.under n) = true := Ar n _
theorem Tk (h : HouseR) (l : List Int) (ms : List MoveR) : OwnRows (Aa (As h l ms)) 0 (l.map A1).length 1 ((As h l ms).map A1) := by
 have := OwnRows.of ((As h l ms).map A1).flatten (Bx (As h l ms)) rfl
 rw [List.length_map, Ff] at this
 rw [List.length_map]
 exact this
set_option maxHeartbeats 16000000 in
theorem Yw (h : HouseR) (l : List Int) (q : CueR) (hf : h.fits) (hq : q.moves.length <= 9223372036854775807) (g : GivenOk h l q) : Fn0 Tryz.prog 86 [A4 h.row, .sl (l.map A1), A4 q.row] (.sl ((As h l q.moves).map A1)) := by
 have hf1 := hf.1
 obtain ⟨_, _, _, hs60, _⟩ := g.house
 have hl60 : l.length <= 60 := by rw [g.len];exact hs60
 have hle : (q.moves.map MoveR.row).length = q.moves.length := List.length_map _
 have hle2 : (l.map A1).length = l.length := List.length_map _
 refine Fn0.of Tryz.func86 Tryz.ntmps86 rfl rfl rfl ?_
 simp only [A0]
 repeat' (first | refine W ?_|(apply S.callOwn 2;exact Wl l (by omega);(iterate 6 exact rfl);exact Bx l;intro hnil;rotate_left;rotate_right) | refine V ?_|(refine W2 ?_ ?_ <;> intro hc))
 ·have hl0 : l = [] := List.map_eq_nil_iff.1 hnil
  have hm0 : q.moves = [] := by
   cases hmv : q.moves with
   | nil => rfl
   | cons m ms =>
    obtain ⟨_, _, m3, _⟩ := g.move (m := m) (by rw [hmv];simp)
    rw [hl0] at m3
    simp at m3
  have h1 : ¬ ((0 : Nat) : Int) < ((q.moves.map MoveR.row).length : Nat) := by rw [hle, hm0];simp
  refine T.loopS (fun _ : Nat => True) (fun _ => 0) (fun k => [(15, .i ((0 : Nat) : Int)), (14, .i (q.moves.map MoveR.row).length), (7, .sl [])]) (fun _ => []) 0 trivial CV .nil ?_
  intro k _
  repeat' (first | refine W ?_ | refine V ?_|(refine W2 ?_ ?_ <;> intro hc))
  have hres : (As h l q.moves).map A1 = [] := by rw [hl0, hm0];rfl
  rw [hres]
  exact Fh (by first | exact .inl rfl | exact .inr rfl) Tryz.results86 rfl (.one (.one (.lf _)))
 ·refine T.loopS (fun k => k <= q.moves.length) (fun k => q.moves.length - k) (fun k => [(15, .i k), (14, .i (q.moves.map MoveR.row).length), (13, .sl (q.moves.map MoveR.row)), (7, .own 2 0 (l.map A1).length 1), (3, .ptr 0 0)]) (fun k => [.live (h.row.map .lf), .live (q.row.map .lf), .live (Aa (As h l (q.moves.take k)))]) 0 (Nat.zero_le _) CV (.live rfl (.live rfl (.live (Gx _ _) .nil))) ?_
  intro k hk
  by_cases hlt : k < q.moves.length
  ·have h1 : (k : Int) < ((q.moves.map MoveR.row).length : Nat) := by omega
   obtain ⟨x, hx⟩ := Ac hlt
   have hb := Ad (R := MoveR.row) hx
   have hsn := Af hx
   have hmem : x ∈ q.moves := List.mem_of_getElem? hx
   have hst : As h l (q.moves.take (k + 1)) = (As h l (q.moves.take k)).set (Am h x.set).toNat x.to := by rw [hsn, Ma]
   have hal := Ff h (q.moves.take k) l
   have hcl := Bn (As h l (q.moves.take k))
   obtain ⟨m1, m2, m3, n, hn, m4, m5, m6⟩ := g.move hmem
   repeat' (first | refine W ?_|(apply T.drawR 8 A3 (by decide +kernel);simp only [td])|(apply T.draw 8 A3 (by decide +kernel);simp only [td])|(apply S.indexR;(iterate 3 exact rfl);exact hb;omega;exact rfl)|refine Zc (Ln h x.set hf1) ?_|(apply S.indexO;(iterate 4 exact rfl);omega;exact rfl)|(apply S.storeW;(iterate 6 exact rfl);omega)|refine Za ?_ | refine V ?_|(refine W2 ?_ ?_ <;> intro hc))
   change Next _ _ _ _ _ _
   exact Next.go (k + 1) (by omega) (by omega) CV (by
    show CovH _ _ [_, _, .live (Aa (As h l (q.moves.take (k + 1))))]
    have hlt2 : (Am h x.set).toNat < (As h l (q.moves.take k)).length := by omega
    have hu := Gx 3 ((As h l (q.moves.take k)).set (Am h x.set).toNat x.to)
    rw [G5 hlt2] at hu
    rw [hst, G5 hlt2]
    exact .live rfl (.live rfl (.live hu .nil)))
  ·have h1 : ¬ (k : Int) < ((q.moves.map MoveR.row).length : Nat) := by omega
   have hkt : q.moves.take k = q.moves := List.take_of_length_le (by omega)
   rw [show (As h l q.moves).map A1 = (As h l (q.moves.take k)).map A1 by rw [hkt]]
   repeat' (first | refine W ?_ | refine V ?_|(refine W2 ?_ ?_ <;> intro hc))
   refine Fh (by first | exact .inl rfl | exact .inr rfl) Tryz.results86 rfl (.one (.one ?_))
   exact .own rfl (Tk h l (q.moves.take k))
/-! ### The reference -/
set_option maxHeartbeats 16000000 in
theorem A0g (h : HouseR) (l : List Int) (q : CueR) (hf : h.fits) (hq : q.moves.length <= 9223372036854775807) (g : GivenOk h l q) : Fn0 Tryz.prog 127 [A4 h.row, .sl (l.map A1), A4 q.row] (.sl ((As h l q.moves).map A1)) := by
 have hf1 := hf.1
 obtain ⟨_, _, _, hs60, _⟩ := g.house
 have hl60 : l.length <= 60 := by rw [g.len];exact hs60
 have hle : (q.moves.map MoveR.row).length = q.moves.length := List.length_map _
 have hle2 : (l.map A1).length = l.length := List.length_map _
 refine Fn0.of Tryz.func127 Tryz.ntmps127 rfl rfl rfl ?_
 simp only [A0]
 repeat' (first | refine W ?_|(apply S.buildSliceO;(iterate 6 exact rfl))|(apply S.appendO;(iterate 9 exact rfl);exact Bx l;exact T5 l;exact rfl;omega;omega) | refine V ?_|(refine W2 ?_ ?_ <;> intro hc))
 refine T.loopS (fun k => k <= q.moves.length) (fun k => q.moves.length - k) (fun k => [(8, .i k), (7, .own 2 0 (0 + (l.map A1).length) 1), (3, .ptr 0 0), (5, .ptr 1 0)]) (fun k => [.live (h.row.map .lf), .live (q.row.map .lf), .live (Aa (As h l (q.moves.take k)))]) 0 (Nat.zero_le _) CV (.live rfl (.live rfl (.live (Gx _ _) .nil))) ?_
 intro k hk
 by_cases hlt : k < q.moves.length
 ·have h1 : (k : Int) < ((q.moves.map MoveR.row).length : Nat) := by omega
  obtain ⟨x, hx⟩ := Ac hlt
  have hb := Ad (R := MoveR.row) hx
  have hsn := Af hx
  have hmem : x ∈ q.moves := List.mem_of_getElem? hx
  have hst : As h l (q.moves.take (k + 1)) = (As h l (q.moves.take k)).set (Am h x.set).toNat x.to := by rw [hsn, Ma]
  have hal := Ff h (q.moves.take k) l
  have hcl := Bn (As h l (q.moves.take k))
  obtain ⟨m1, m2, m3, n, hn, m4, m5, m6⟩ := g.move hmem
  repeat' (first | refine W ?_|(apply T.drawR 16 A3 (by decide +kernel);simp only [td])|(apply T.draw 16 A3 (by decide +kernel);simp only [td])|(apply S.indexR;(iterate 3 exact rfl);exact hb;omega;exact rfl)|refine Zc (Eu h x.set hf1) ?_|(apply S.indexO;(iterate 4 exact rfl);omega;exact rfl)|(apply S.storeW;(iterate 6 exact rfl);omega)|refine Za ?_ | refine V ?_|(refine W2 ?_ ?_ <;> intro hc))
  change Next _ _ _ _ _ _
  exact Next.go (k + 1) (by omega) (by omega) CV (by
   show CovH _ _ [_, _, .live (Aa (As h l (q.moves.take (k + 1))))]
   have hlt2 : (Am h x.set).toNat < (As h l (q.moves.take k)).length := by omega
   have hu := Gx 3 ((As h l (q.moves.take k)).set (Am h x.set).toNat x.to)
   rw [G5 hlt2] at hu
   rw [hst, G5 hlt2]
   exact .live rfl (.live rfl (.live hu .nil)))
 ·have h1 : ¬ (k : Int) < ((q.moves.map MoveR.row).length : Nat) := by omega
  have hkt : q.moves.take k = q.moves := List.take_of_length_le (by omega)
  rw [show (As h l q.moves).map A1 = (As h l (q.moves.take k)).map A1 by rw [hkt]]
  repeat' (first | refine W ?_ | refine V ?_|(refine W2 ?_ ?_ <;> intro hc))
  refine Fh (by first | exact .inl rfl | exact .inr rfl) Tryz.results127 rfl (.one (.one ?_))
  rw [Nat.zero_add]
  exact .own rfl (Tk h l (q.moves.take k))
end Go.Proofs.YtkboebgkcjcpfaaGreatDoor
namespace Go.Proofs.YtkboebgkcjcpfaaGreatDoor
open Go Go.RowKit
set_option maxRecDepth 100000 in
theorem J9 : Tryz.prog.fieldsOf 97 = #[⟨"Num", 3, 0, false, "", "", 0⟩, ⟨"Den", 3, 1, false, "", "", 8⟩] := by
 unfold Program.fieldsOf
 rw [Tryz.underlying97]
theorem Qk : Tryz.prog.stoodInHeld 97 = false := by kernel_rfl
theorem Qj : Tryz.prog.eqGuardType Tryz.prog.depth 97 = false := by kernel_rfl
theorem Z4 : Tryz.prog.underlying 97 = some (.struct (Tryz.prog.fieldsOf 97)) := by
 rw [J9];exact Tryz.underlying97
set_option maxRecDepth 100000 in
instance : HasEq2 Tryz.prog 97 := ⟨fun o η w x y u a b c d ho hx hy => by
 have h1 := fun d' (k : IntKind) (a b : Int) => run_equalIn_int (P := Tryz.prog) w d' 3 k .i64 a b Tryz.underlying3
 have h2 := run_equalIn_agg (P := Tryz.prog) w 9999 97 #[.int .i64 a, .int .i64 b] #[.int .i64 c, .int .i64 d] Z4 Qk
 have h3 := run_eqGuard_agg (P := Tryz.prog) w .eql 97 x y #[.int .i64 a, .int .i64 b] #[.int .i64 c, .int .i64 d] Qj
 have h4 := run_eql_struct (P := Tryz.prog) w 97 #[.int .i64 a, .int .i64 b] #[.int .i64 c, .int .i64 d]
 rw [J9] at h2
 simp only [execOp, ho, hx, hy, Sem.run_bind, h3, Result.andThen_ok, h4]
 rw [h2]
 simp [Op.eqFields, go_sem, h1]
 by_cases e1 : a = c <;> by_cases e2 : b = d <;> simp [*]⟩
class HasNe2 (P : Program) (t : TypeId) : Prop where
 out : ∀ (o : Oper) (η : Operand -> Value) (w : World) (x y : Operand) (u : TypeId) (a b c d : Int), o.op = .binOp .neq t x y u -> η x = .agg #[.int .i64 a, .int .i64 b] -> η y = .agg #[.int .i64 c, .int .i64 d] -> (execOp η o).run P w = .ok (.value (.bool (decide (¬ (a = c /\ b = d))))) w
section
variable {P : Program} {N : Nat} {ops : Array Oper} {m : Option Nat} {K : Tm -> AH -> Prop} {tm : Tm} {H : AH} {rest : List Oper} {ty : TypeId} {pos : String} {af : Array Edge} {d : Nat} {t : TypeId} {x y : Operand}
theorem S.ne2 {u : TypeId} {a b c e' : Int} [he : HasNe2 P t] (hx : evT tm x = some (.agg [.val (.int .i64 a), .val (.int .i64 b)])) (hy : evT tm y = some (.agg [.val (.int .i64 c), .val (.int .i64 e')])) (hN : Nat.ble (d + 1) N = true) (h : Reg m P N ops rest ((d, .val (.bool (decide (¬ (a = c /\ b = e'))))) :: tm) H K) : Reg m P N ops (⟨some d, .binOp .neq t x y u, ty, pos, af, none⟩ :: rest) tm H K := by
 refine S.val (OpV.mk fun L w ρ η hη hH => ?_) hN h
 have h1 := (hη x (by simp [Op.operands]) _ hx).flat (u := .agg #[.int .i64 a, .int .i64 b]) rfl
 have h2 := (hη y (by simp [Op.operands]) _ hy).flat (u := .agg #[.int .i64 c, .int .i64 e']) rfl
 exact ⟨_, he.out _ η w x y u a b c e' rfl h1 h2, A9 _⟩
end
set_option maxRecDepth 100000 in
instance : HasNe2 Tryz.prog 97 := ⟨fun o η w x y u a b c d ho hx hy => by
 have h1 := fun d' (k : IntKind) (a b : Int) => run_equalIn_int (P := Tryz.prog) w d' 3 k .i64 a b Tryz.underlying3
 have h2 := run_equalIn_agg (P := Tryz.prog) w 9999 97 #[.int .i64 a, .int .i64 b] #[.int .i64 c, .int .i64 d] Z4 Qk
 have h3 := run_eqGuard_agg (P := Tryz.prog) w .neq 97 x y #[.int .i64 a, .int .i64 b] #[.int .i64 c, .int .i64 d] Qj
 have h4 := run_neq_struct (P := Tryz.prog) w 97 #[.int .i64 a, .int .i64 b] #[.int .i64 c, .int .i64 d]
 rw [J9] at h2
 simp only [execOp, ho, hx, hy, Sem.run_bind, h3, Result.andThen_ok, h4]
 rw [h2]
 simp [Op.eqFields, go_sem, h1]
 by_cases e1 : a = c <;> by_cases e2 : b = d <;> simp [*]⟩
section
variable {N : Nat} {ops : Array Oper} {m : Option Nat} {K : Tm -> AH -> Prop} {tm : Tm} {H : AH} {rest : List Oper} {ty : TypeId} {pos : String} {af : Array Edge} {d : Nat} {x y : Operand}
end
section
variable {P : Program} {N : Nat} {ops : Array Oper} {K : Tm -> AH -> Prop} {tm : Tm} {H : AH} {rest : List Oper}
theorem Reg.freeze (q : Nat) {b off len n : Nat} {cells : List AV} {rows : List (List Lf)} (ht : tm.get q = some (.own b off len n)) (hb : H.at b = .live cells) (hr : OwnRows cells off len n rows) (h : Reg none P N ops rest ((q, .sl rows) :: tm) (H.put b .dead) K) : Reg none P N ops rest tm H K :=
 ⟨fun E a w ρ hE hR => h.out E a w _ hE (hR.freeze ht hb hr)⟩
end
end Go.Proofs.YtkboebgkcjcpfaaGreatDoor
