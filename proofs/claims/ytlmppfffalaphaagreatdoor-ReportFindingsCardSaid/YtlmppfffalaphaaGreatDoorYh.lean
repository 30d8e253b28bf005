/- Contracts: the reference's Given and Findings, texts that are too long, findings and positions compared. Conditions: those of each statement (bounds on lengths). -/
import Derived.Test.YtlmppfffalaphaaGreatDoorYg
import Derived.Test.YtlmppfffalaphaaGreatDoorNn
import Derived.Test.YtlmppfffalaphaaGreatDoorOl
import Derived.Test.YtlmppfffalaphaaGreatDoorXe
import Derived.Test.YtlmppfffalaphaaGreatDoorYe
set_option linter.unusedSimpArgs false
set_option linter.unusedVariables false
namespace Go.Proofs.YtlmppfffalaphaaGreatDoor
open Go Go.RowKit
theorem Ib (s : List UInt8) (hs : 262144 < s.length) (hm : s.length <= 1000000) : Fn0 Tryz.prog 9 [.s (ofL s)] (.tup [.sl [], A1 [.i 0, .i 0], .i 4]) := by
 have h0 : ((ofL s).size : Int) > 262144 := by rw [Ae];omega
 refine Fn0.of Tryz.func9 Tryz.ntmps9 rfl rfl rfl ?_
 simp only [A0]
 repeat' (first
  | refine W ?_
  | refine Y ?_|(refine T.nilU 2 rfl ?_;apply T.ret;change Av _ _ _ _ _)
  | refine V ?_
  | (refine W2 ?_ ?_ <;> intro hc))
 all_goals exact ⟨.inr rfl, [.sl [], A1 [.i 0, .i 0], .i 4], .cons (.tmp rfl) (.cons (Res.row [.i 0, .i 0] rfl rfl rfl rfl rfl) (.cons (.tmp rfl) .nil)), .tup (.cons (.one (.lf _)) (.cons (.agg (A5 _)) (.cons (.one (.lf _)) .nil)))⟩
theorem Hn (s : List UInt8) (hs : 262144 < s.length) (hm : s.length <= 1000000) : Fn0 Tryz.prog 10 [.s (ofL s)] (.tup [.sl [], A1 [.i 0, .i 0], .i 4]) := by
 have h0 : ((ofL s).size : Int) > 262144 := by rw [Ae];omega
 refine Fn0.of Tryz.func10 Tryz.ntmps10 rfl rfl rfl ?_
 simp only [A0]
 repeat' (first
  | refine W ?_
  | refine Y ?_|(refine T.nilU 2 rfl ?_;apply T.ret;change Av _ _ _ _ _)
  | refine V ?_
  | (refine W2 ?_ ?_ <;> intro hc))
 all_goals exact ⟨.inr rfl, [.sl [], A1 [.i 0, .i 0], .i 4], .cons (.tmp rfl) (.cons (Res.row [.i 0, .i 0] rfl rfl rfl rfl rfl) (.cons (.tmp rfl) .nil)), .tup (.cons (.one (.lf _)) (.cons (.agg (A5 _)) (.cons (.one (.lf _)) .nil)))⟩
theorem P7 {l : List FinR} {k : Nat} {x : FinR} (h : l[k]? = some x) (hb : ¬ Ao x) : ∃ y ∈ l, ¬ Ao y := ⟨x, List.mem_of_getElem? h, hb⟩
set_option maxHeartbeats 16000000 in
theorem Mo (l : List FinR) (hm : l.length <= 1000000) : Fn0 Tryz.prog 13 [.sl (l.map FinR.row)] (.i (fnE l)) := by
 have hle : (l.map FinR.row).length = l.length := List.length_map _
 by_cases hl : 1000 < l.length
 ·have h0 : ((l.map FinR.row).length : Int) > 1000 := by omega
  rw [show fnE l = 4 by unfold fnE;rw [if_pos hl]]
  refine Fn0.of Tryz.func13 Tryz.ntmps13 rfl rfl rfl ?_
  simp only [A0]
  repeat' (first
   | refine W ?_
   | refine Y ?_
   | refine V ?_
   | (refine W2 ?_ ?_ <;> intro hc))
  all_goals exact A4 (by simp) Tryz.results13 rfl rfl
 have h0 : ¬ ((l.map FinR.row).length : Int) > 1000 := by omega
 refine Fn0.of Tryz.func13 Tryz.ntmps13 rfl rfl rfl ?_
 simp only [A0]
 repeat' (first
  | refine W ?_
  | refine Y ?_
  | refine V ?_
  | (refine W2 ?_ ?_ <;> intro hc))
 refine T.loopS (fun k => k <= l.length /\ ∀ x ∈ l.take k, Ao x) (fun k => l.length - k) (fun k => [(3, .i (k : Nat)), (0, .sl (l.map FinR.row))]) (fun _ => []) 0 ⟨Nat.zero_le _, by simp⟩ CW .nil ?_
 rintro k ⟨hk, hall⟩
 by_cases hlt : k < l.length
 ·have h1 : (k : Int) < ((l.map FinR.row).length : Nat) := by omega
  obtain ⟨x, hx⟩ := Ez hlt
  have hb := F8 (R := FinR.row) hx
  have cn := Ej x.name
  by_cases hr : Ao x
  ·obtain ⟨r1, r2, r3⟩ := hr
   rw [decide_eq_true r3] at cn
   have hr : Ao x := ⟨r1, r2, r3⟩
   repeat' (first
    | refine W ?_
    | (apply S.indexR;(iterate 3 exact rfl);exact hb;omega;exact rfl) | refine Y ?_|refine Za ?_|(apply T.drawAll A2 (by decide +kernel))
    | refine V ?_
    | (refine W2 ?_ ?_ <;> intro hc))
   all_goals (change Next _ _ _ _ _ _)
   all_goals exact Next.go (k + 1) ⟨by omega, by
    rw [D6 hx]
    intro y hy
    rcases List.mem_append.1 hy with h | h
    ·exact hall y h
    ·obtain rfl := List.mem_singleton.1 h;exact hr⟩ (by omega) CW .nil
  ·rw [show fnE l = 1 by unfold fnE;rw [if_neg hl, if_pos (P7 hx hr)]]
   by_cases r3 : At x.name = true
   ·rw [decide_eq_true r3] at cn
    by_cases r1 : x.kind < 0
    ·skip
     repeat' (first
      | refine W ?_
      | (apply S.indexR;(iterate 3 exact rfl);exact hb;omega;exact rfl) | refine Y ?_|refine Za ?_|(apply T.drawAll A2 (by decide +kernel))
      | refine V ?_
      | (refine W2 ?_ ?_ <;> intro hc))
     all_goals exact A4 (by simp) Tryz.results13 rfl rfl
    ·have r2 : x.kind > 1000000 := by
      refine Decidable.byContradiction fun h => hr ⟨r1, h, r3⟩
     repeat' (first
      | refine W ?_
      | (apply S.indexR;(iterate 3 exact rfl);exact hb;omega;exact rfl) | refine Y ?_|refine Za ?_|(apply T.drawAll A2 (by decide +kernel))
      | refine V ?_
      | (refine W2 ?_ ?_ <;> intro hc))
     all_goals exact A4 (by simp) Tryz.results13 rfl rfl
   ·rw [decide_eq_false r3] at cn
    repeat' (first
     | refine W ?_
     | (apply S.indexR;(iterate 3 exact rfl);exact hb;omega;exact rfl) | refine Y ?_|refine Za ?_|(apply T.drawAll A2 (by decide +kernel))
     | refine V ?_
     | (refine W2 ?_ ?_ <;> intro hc))
    all_goals exact A4 (by simp) Tryz.results13 rfl rfl
 ·have h1 : ¬ (k : Int) < ((l.map FinR.row).length : Nat) := by omega
  rw [List.take_of_length_le (by omega)] at hall
  rw [show fnE l = 0 by unfold fnE;rw [if_neg hl, if_neg (fun ⟨x, hx, hn⟩ => hn (hall x hx))]]
  repeat' (first
   | refine W ?_
   | refine Y ?_
   | refine V ?_
   | (refine W2 ?_ ?_ <;> intro hc))
  all_goals exact A4 (by simp) Tryz.results13 rfl rfl
theorem Qe (n : Int) (h0 : -9223372036854775808 <= n) (h1 : n <= 9223372036854775807) : Fn0 Tryz.prog 37 [.i n] (.val (.string (A6 n))) := by
 have c := Dw n h0 h1
 refine Fn0.of Tryz.func37 Tryz.ntmps37 rfl rfl rfl ?_
 simp only [A0]
 repeat' (first
  | refine W ?_
  | refine Y ?_
  | refine V ?_
  | (refine W2 ?_ ?_ <;> intro hc))
 all_goals exact A4 (by simp) Tryz.results37 rfl rfl
theorem Qd (L : List UInt8) (x : FinR) : ofL L ++ A6 x.kind ++ ⟨#[32]⟩ ++ x.name ++ ⟨#[10]⟩ = ofL (L ++ (lnF x ++ [10])) := by
 apply Bx
 simp only [Cq, Ac]
 exact Hy L x
set_option maxHeartbeats 16000000 in
theorem Je (l : List FinR) (hl : ¬ 1000 < l.length) (hr : ∀ x ∈ l, Ao x) : Fn0 Tryz.prog 14 [.sl (l.map FinR.row)] (.s (ofL (Ah l))) := by
 have hle : (l.map FinR.row).length = l.length := List.length_map _
 have s32 : (⟨#[32]⟩ : ByteArray).size = 1 := rfl
 have s10 : (⟨#[10]⟩ : ByteArray).size = 1 := rfl
 refine Fn0.of Tryz.func14 Tryz.ntmps14 rfl rfl rfl ?_
 simp only [A0]
 repeat' (first
  | refine W ?_
  | refine Y ?_
  | refine V ?_
  | (refine W2 ?_ ?_ <;> intro hc))
 refine T.loopS (fun k => k <= l.length) (fun k => l.length - k) (fun k => [(4, .i (k : Nat)), (3, .s (ofL (Ah (l.take k)))), (0, .sl (l.map FinR.row))]) (fun _ => []) 0 (Nat.zero_le _) CW .nil ?_
 intro k hk
 by_cases hlt : k < l.length
 ·have h1 : (k : Int) < ((l.map FinR.row).length : Nat) := by omega
  obtain ⟨x, hx⟩ := Ez hlt
  have hb := F8 (R := FinR.row) hx
  have hxr := hr x (List.mem_of_getElem? hx)
  obtain ⟨b1, b2⟩ := Gu (Em hxr)
  have hts := H3 hx
  have htl := Er (l.take k) fun y hy => hr y (List.mem_of_mem_take hy)
  have htk : (l.take k).length <= 1000 := by rw [List.length_take];omega
  have ci := Qe x.kind b1 b2
  have si := Cy b1 b2
  have sn : x.name.size <= 20 := by
   have := hxr.2.2
   simp only [At, Bool.and_eq_true, decide_eq_true_eq] at this
   have := this.1.1.2
   omega
  have hzs := Ae (Ah (l.take k))
  have hst := Qd (Ah (l.take k)) x
  rw [<- hts] at hst
  repeat' (first
   | refine W ?_
   | (apply S.indexR;(iterate 3 exact rfl);exact hb;omega;exact rfl) | refine Y ?_|(apply S.strAdd;(iterate 3 exact rfl);first | omega|(simp only [ByteArray.size_append];omega))|refine Za ?_|(apply T.drawAll A2 (by decide +kernel))|(apply T.drawR 17 A2 (by decide +kernel);simp only [td])
   | refine V ?_
   | (refine W2 ?_ ?_ <;> intro hc))
  all_goals (change Next _ _ _ _ _ _)
  all_goals exact Next.go (k + 1) (by omega) (by omega) (by rw [<- hst];exact CW) .nil
 ·have h1 : ¬ (k : Int) < ((l.map FinR.row).length : Nat) := by omega
  have hkt : l.take k = l := List.take_of_length_le (by omega)
  rw [hkt]
  repeat' (first
   | refine W ?_
   | refine Y ?_
   | refine V ?_
   | (refine W2 ?_ ?_ <;> intro hc))
  all_goals exact A4 (by simp) Tryz.results14 rfl rfl
set_option maxRecDepth 100000 in
theorem F6 : Tryz.prog.fieldsOf 29 = #[⟨"Line", 3, 0, false, "", "", 0⟩, ⟨"Column", 3, 1, false, "", "", 8⟩] := by
 unfold Program.fieldsOf
 rw [Tryz.underlying29]
theorem Jc : Tryz.prog.stoodInHeld 29 = false := by kernel_rfl
theorem Jb : Tryz.prog.eqGuardType Tryz.prog.depth 29 = false := by kernel_rfl
theorem P0 : Tryz.prog.underlying 29 = some (.struct (Tryz.prog.fieldsOf 29)) := by
 rw [F6];exact Tryz.underlying29
set_option maxRecDepth 100000 in
instance eq2Pos : HasEq2 Tryz.prog 29 := ⟨fun o η w x y u a b c d ho hx hy => by
 have h1 := fun d' (k : IntKind) (a b : Int) => run_equalIn_int (P := Tryz.prog) w d' 3 k .i64 a b Tryz.underlying3
 have h2 := run_equalIn_agg (P := Tryz.prog) w 9999 29 #[.int .i64 a, .int .i64 b] #[.int .i64 c, .int .i64 d] P0 Jc
 have h3 := run_eqGuard_agg (P := Tryz.prog) w .eql 29 x y #[.int .i64 a, .int .i64 b] #[.int .i64 c, .int .i64 d] Jb
 have h4 := run_eql_struct (P := Tryz.prog) w 29 #[.int .i64 a, .int .i64 b] #[.int .i64 c, .int .i64 d]
 rw [F6] at h2
 simp only [execOp, ho, hx, hy, Sem.run_bind, h3, Result.andThen_ok, h4]
 rw [h2]
 simp [Op.eqFields, go_sem, h1]
 by_cases e1 : a = c <;> by_cases e2 : b = d <;> simp [*]⟩
set_option maxRecDepth 100000 in
instance ne2Pos : HasNe2 Tryz.prog 29 := ⟨fun o η w x y u a b c d ho hx hy => by
 have h1 := fun d' (k : IntKind) (a b : Int) => run_equalIn_int (P := Tryz.prog) w d' 3 k .i64 a b Tryz.underlying3
 have h2 := run_equalIn_agg (P := Tryz.prog) w 9999 29 #[.int .i64 a, .int .i64 b] #[.int .i64 c, .int .i64 d] P0 Jc
 have h3 := run_eqGuard_agg (P := Tryz.prog) w .neq 29 x y #[.int .i64 a, .int .i64 b] #[.int .i64 c, .int .i64 d] Jb
 have h4 := run_neq_struct (P := Tryz.prog) w 29 #[.int .i64 a, .int .i64 b] #[.int .i64 c, .int .i64 d]
 rw [F6] at h2
 simp only [execOp, ho, hx, hy, Sem.run_bind, h3, Result.andThen_ok, h4]
 rw [h2]
 simp [Op.eqFields, go_sem, h1]
 by_cases e1 : a = c <;> by_cases e2 : b = d <;> simp [*]⟩
set_option maxRecDepth 100000 in
theorem Lu : ∃ n1 n2 : Nat, Tryz.prog.fieldsOf 26 = #[⟨"Kind", 3, 0, false, "", "", n1⟩, ⟨"Name", 9, 1, false, "", "", n2⟩] := by
 unfold Program.fieldsOf
 rw [Tryz.underlying26]
 exact ⟨_, _, rfl⟩
theorem Nl : Tryz.prog.stoodInHeld 26 = false := by kernel_rfl
theorem Nk : Tryz.prog.eqGuardType Tryz.prog.depth 26 = false := by kernel_rfl
theorem Ql : Tryz.prog.underlying 26 = some (.struct (Tryz.prog.fieldsOf 26)) := by
 unfold Program.fieldsOf
 rw [Tryz.underlying26]
set_option maxRecDepth 100000 in
theorem Lv (w : World) (d : Nat) (u : Int) (a : ByteArray) (u' : Int) (a' : ByteArray) : (Op.equalIn (d + 3) 26 (.agg #[.int .i64 u, .string a]) (.agg #[.int .i64 u', .string a'])).run Tryz.prog w = .ok (decide (u = u' /\ a = a')) w := by
 obtain ⟨n1, n2, hcf⟩ := Lu
 have h1 := fun d' (k : IntKind) (a b : Int) => run_equalIn_int (P := Tryz.prog) w d' 3 k .i64 a b Tryz.underlying3
 have h2 := run_equalIn_struct (P := Tryz.prog) w (d + 2) 26 #[.int .i64 u, .string a] #[.int .i64 u', .string a'] Ql Nl
 have h5 := fun d' (x y : ByteArray) => run_equalIn_string (P := Tryz.prog) w d' 9 x y Tryz.underlying9
 rw [hcf] at h2
 rw [h2]
 simp [Op.eqFields, go_sem, h1, h5, Hq]
 by_cases e1 : u = u' <;> by_cases e2 : a = a' <;> simp [*]
section
variable {N : Nat} {ops : Array Oper} {m : Option Nat} {K : Tm -> AH -> Prop} {tm : Tm} {H : AH} {rest : List Oper} {ty : TypeId} {pos : String} {af : Array Edge} {d : Nat} {x y : Operand}
theorem S.neFin {t u' : TypeId} {a a' : ByteArray} {u w : Int} (ht : t = 26) (hx : evT tm x = some (.agg [.val (.int .i64 u), .val (.string a)])) (hy : evT tm y = some (.agg [.val (.int .i64 w), .val (.string a')])) (hN : Nat.ble (d + 1) N = true) (h : Reg m Tryz.prog N ops rest ((d, .val (.bool (decide (¬ (u = w /\ a = a'))))) :: tm) H K) : Reg m Tryz.prog N ops (⟨some d, .binOp .neq t x y u', ty, pos, af, none⟩ :: rest) tm H K := by
 subst ht
 refine S.val (OpV.mk fun L w' ρ η hη hH => ?_) hN h
 have h1 := (hη x (by simp [Op.operands]) _ hx).flat (u := .agg #[.int .i64 u, .string a]) rfl
 have h2 := (hη y (by simp [Op.operands]) _ hy).flat (u := .agg #[.int .i64 w, .string a']) rfl
 refine ⟨_, ?_, A3 _⟩
 have h3 := run_eqGuard_agg (P := Tryz.prog) w' .neq 26 x y #[.int .i64 u, .string a] #[.int .i64 w, .string a'] Nk
 have h4 := run_neq_struct (P := Tryz.prog) w' 26 #[.int .i64 u, .string a] #[.int .i64 w, .string a']
 have h5 := Lv w' 9997 u a w a'
 simp only [execOp, h1, h2, Sem.run_bind, h3, Result.andThen_ok, h4]
 rw [h5]
 simp [go_sem]
end
theorem He (x y : FinR) : (x.kind = y.kind /\ x.name = y.name) ↔ x = y := by
 obtain ⟨a, b⟩ := x
 obtain ⟨a', b'⟩ := y
 simp
instance decFin : DecidableEq FinR := fun x y => decidable_of_iff _ (He x y)
set_option maxHeartbeats 8000000 in
theorem Gp (a b : List FinR) (ha : a.length <= 1000000) (hb : b.length <= 1000000) : Fn0 Tryz.prog 11 [.sl (a.map FinR.row), .sl (b.map FinR.row)] (.b (decide (a = b))) := by
 have hla : (a.map FinR.row).length = a.length := List.length_map _
 have hlb : (b.map FinR.row).length = b.length := List.length_map _
 by_cases hl : a.length = b.length
 ·have hl1 : ((a.map FinR.row).length : Int) = ((b.map FinR.row).length : Nat) := by omega
  refine Fn0.of Tryz.func11 Tryz.ntmps11 rfl rfl rfl ?_
  simp only [A0]
  repeat' (first
   | refine W ?_

   | refine V ?_
   | (refine W2 ?_ ?_ <;> intro hc))
  refine T.loopS (fun k => k <= a.length /\ a.take k = b.take k) (fun k => a.length - k) (fun k => [(13, .i k), (12, .i (a.map FinR.row).length), (0, .sl (a.map FinR.row)), (1, .sl (b.map FinR.row))]) (fun _ => []) 0 ⟨Nat.zero_le _, rfl⟩ CV .nil ?_
  rintro k ⟨hk, heq⟩
  by_cases hlt : k < a.length
  ·have h1 : (k : Int) < ((a.map FinR.row).length : Nat) := by omega
   obtain ⟨x, hx⟩ := Ez hlt
   obtain ⟨y, hy⟩ := Ez (l := b) (k := k) (by omega)
   have hbx := F8 (R := FinR.row) hx
   have hby := F8 (R := FinR.row) hy
   by_cases e : x.kind = y.kind /\ x.name = y.name
   ·repeat' (first
    | refine W ?_
    | (apply T.drawAll A2 (by decide +kernel)) | refine Y ?_|(apply S.neFin rfl;(iterate 3 exact rfl))
    | refine V ?_
    | (refine W2 ?_ ?_ <;> intro hc))
    all_goals (try change Next _ _ _ _ _ _)
    all_goals exact Next.go (k + 1) ⟨by omega, La heq hx hy ((He x y).1 e)⟩ (by omega) CV .nil
   ·repeat' (first
    | refine W ?_
    | (apply T.drawAll A2 (by decide +kernel)) | refine Y ?_|(apply S.neFin rfl;(iterate 3 exact rfl))
    | refine V ?_
    | (refine W2 ?_ ?_ <;> intro hc))
    all_goals exact A4 (by simp) Tryz.results11 rfl (congrArg Value.bool (decide_eq_false fun k => by subst k;rw [hx] at hy;injection hy with hy;exact e ((He x y).2 hy)).symm)
  ·have h1 : ¬ (k : Int) < ((a.map FinR.row).length : Nat) := by omega
   rw [List.take_of_length_le (by omega), List.take_of_length_le (by omega)] at heq
   repeat' (first
    | refine W ?_

    | refine V ?_
    | (refine W2 ?_ ?_ <;> intro hc))
   exact A4 (by simp) Tryz.results11 rfl (congrArg Value.bool (decide_eq_true heq).symm)
 ·have hl1 : ¬ ((a.map FinR.row).length : Int) = ((b.map FinR.row).length : Nat) := by omega
  refine Fn0.of Tryz.func11 Tryz.ntmps11 rfl rfl rfl ?_
  simp only [A0]
  repeat' (first
   | refine W ?_

   | refine V ?_
   | (refine W2 ?_ ?_ <;> intro hc))
  all_goals exact A4 (by simp) Tryz.results11 rfl (congrArg Value.bool (decide_eq_false fun e => hl (by rw [e])).symm)
theorem Jw : Fn0 Tryz.prog 26 [] (A1 Ba) := by
 have c := Q7 1
 refine Fn0.of Tryz.func26 Tryz.ntmps26 rfl rfl rfl ?_
 simp only [A0]
 repeat' (first
  | refine W ?_
  | refine Y ?_|(apply S.buildSliceF;(iterate 8 exact rfl))
  | refine V ?_
  | (refine W2 ?_ ?_ <;> intro hc))
 all_goals exact ⟨.inr rfl, [A1 Ba], .cons (Res.row Ba rfl rfl rfl rfl rfl) .nil, .one (.agg (A5 _))⟩
def exF : List FinR := [⟨3, ⟨#[97]⟩⟩, ⟨12, ⟨#[98]⟩⟩]
theorem Nj : ofL (Ah exF) = ⟨#[51, 32, 97, 10, 49, 50, 32, 98, 10]⟩ := by decide +kernel
set_option maxHeartbeats 8000000 in
theorem M3 : Fn0 Tryz.prog 6 [] (.b true) := by
 have c1 := Jw
 have c2 := L5
 have c3 := E5 exF (by decide) (by decide)
 rw [Nj] at c3
 have h2 : (⟨#[51, 32, 97, 10, 49, 50, 32, 98, 10]⟩ : ByteArray) = ⟨#[51, 32, 97, 10, 49, 50, 32, 98, 10]⟩ := rfl
 refine Fn0.of Tryz.func6 Tryz.ntmps6 rfl rfl rfl ?_
 simp only [A0]
 repeat' (first
  | refine W ?_
  | refine Y ?_|(apply S.buildSliceF;(iterate 8 exact rfl))
  | refine V ?_
  | (refine W2 ?_ ?_ <;> intro hc))
 all_goals exact A4 (by simp) Tryz.results6 rfl rfl
theorem O1 (x : FinR) : Fn0 Tryz.prog 8 [A1 x.row] (.b (decide ((x.name.size : Int) > 100))) := by
 refine Fn0.of Tryz.func8 Tryz.ntmps8 rfl rfl rfl ?_
 simp only [A0]
 repeat' (first
  | refine W ?_
  | refine Y ?_
  | refine V ?_
  | (refine W2 ?_ ?_ <;> intro hc))
 all_goals exact A4 (by simp) Tryz.results8 rfl rfl
theorem Ky (s : ByteArray) (h : s.size <= 300000) : ∃ (L : List FinR) (p q e : Int), L.length <= 1000000 /\ Fn0 Tryz.prog 9 [.s s] (.tup [.sl (L.map FinR.row), A1 [.i p, .i q], .i e]) /\ Fn0 Tryz.prog 10 [.s s] (.tup [.sl (L.map FinR.row), A1 [.i p, .i q], .i e]) := by
 have hs : s.data.toList.length = s.size := Array.length_toList
 have ho := Ga s
 by_cases hl : 262144 < s.size
 ·have c1 := Ib s.data.toList (by omega) (by omega)
  have c2 := Hn s.data.toList (by omega) (by omega)
  rw [ho] at c1 c2
  exact ⟨[], 0, 0, 4, by simp, c1, c2⟩
 ·have c1 := Ji s.data.toList (by omega)
  have c2 := Mp s.data.toList (by omega)
  rw [ho] at c1 c2
  refine ⟨_, _, _, _, ?_, c1, c2⟩
  unfold Bf
  split
  ·simp
  ·split
   ·simp
   ·split
    ·simp
    ·dsimp only;omega
set_option maxHeartbeats 64000000 in
theorem F3 (l : List FinR) (s : ByteArray) : Fn0 Tryz.prog 3 [.sl (l.map FinR.row), .s s] (.b true) := by
 have ca := M3
 have hle : (l.map FinR.row).length = l.length := List.length_map _
 by_cases a1 : ((l.map FinR.row).length : Int) > 1010
 ·have a2 : ((l.map FinR.row).length : Int) > 60 := by omega
  have a3 : ¬ ((l.map FinR.row).length : Int) <= 1000 := by omega
  refine Fn0.of Tryz.func3 Tryz.ntmps3 rfl rfl rfl ?_
  simp only [A0]
  repeat' (first
   | refine W ?_
   | refine Y ?_
   | refine V ?_
   | (refine W2 ?_ ?_ <;> intro hc))
  all_goals exact A4 (by simp) Tryz.results3 rfl rfl
 by_cases a4 : ((l.map FinR.row).length : Int) > 60 /\ ((l.map FinR.row).length : Int) <= 1000
 ·obtain ⟨a2, a3⟩ := a4
  refine Fn0.of Tryz.func3 Tryz.ntmps3 rfl rfl rfl ?_
  simp only [A0]
  repeat' (first
   | refine W ?_
   | refine Y ?_
   | refine V ?_
   | (refine W2 ?_ ?_ <;> intro hc))
  all_goals exact A4 (by simp) Tryz.results3 rfl rfl
 have cl := Bl l FinR.row (fun x => (x.name.size : Int) > 100) 8 [] (fun _ => rfl) (by omega) rfl (fun x _ => O1 x)
 by_cases b1 : (∃ x ∈ l, (x.name.size : Int) > 100)
 ·rw [decide_eq_true b1] at cl
  by_cases a2 : ((l.map FinR.row).length : Int) > 60
  ·have a3 : ¬ ((l.map FinR.row).length : Int) <= 1000 := by omega
   refine Fn0.of Tryz.func3 Tryz.ntmps3 rfl rfl rfl ?_
   simp only [A0]
   repeat' (first
    | refine W ?_
    | refine Y ?_
    | refine V ?_
    | (refine W2 ?_ ?_ <;> intro hc))
   all_goals exact A4 (by simp) Tryz.results3 rfl rfl
  ·skip
   refine Fn0.of Tryz.func3 Tryz.ntmps3 rfl rfl rfl ?_
   simp only [A0]
   repeat' (first
    | refine W ?_
    | refine Y ?_
    | refine V ?_
    | (refine W2 ?_ ?_ <;> intro hc))
   all_goals exact A4 (by simp) Tryz.results3 rfl rfl
 rw [decide_eq_false b1] at cl
 by_cases d1 : (s.size : Int) > 262244
 ·have d2 : (s.size : Int) > 8000 := by omega
  have d3 : ¬ (s.size : Int) <= 262144 := by omega
  by_cases a2 : ((l.map FinR.row).length : Int) > 60
  ·have a3 : ¬ ((l.map FinR.row).length : Int) <= 1000 := by omega
   refine Fn0.of Tryz.func3 Tryz.ntmps3 rfl rfl rfl ?_
   simp only [A0]
   repeat' (first
    | refine W ?_
    | refine Y ?_
    | refine V ?_
    | (refine W2 ?_ ?_ <;> intro hc))
   all_goals exact A4 (by simp) Tryz.results3 rfl rfl
  ·skip
   refine Fn0.of Tryz.func3 Tryz.ntmps3 rfl rfl rfl ?_
   simp only [A0]
   repeat' (first
    | refine W ?_
    | refine Y ?_
    | refine V ?_
    | (refine W2 ?_ ?_ <;> intro hc))
   all_goals exact A4 (by simp) Tryz.results3 rfl rfl
 obtain ⟨L, p, q, e, hL, cp, cr⟩ := Ky s (by omega)
 have ce := Gp L L hL hL
 rw [decide_eq_true rfl] at ce
 have hpq : ¬ ¬ (p = p /\ q = q) := fun k => k ⟨rfl, rfl⟩
 have hee : ¬ ¬ e = e := fun k => k rfl
 have cg := Mo l (by omega)
 by_cases a2 : ((l.map FinR.row).length : Int) > 60
 ·have a3 : ¬ ((l.map FinR.row).length : Int) <= 1000 := by omega
  have cf := Ge l (by omega) (by omega)
  rw [show fnE l = 4 by unfold fnE;rw [if_pos (by omega)]] at cg
  by_cases d2 : (s.size : Int) > 8000
  ·by_cases d3 : (s.size : Int) <= 262144
   ·skip
    refine Fn0.of Tryz.func3 Tryz.ntmps3 rfl rfl rfl ?_
    simp only [A0]
    repeat' (first
     | refine W ?_
     | refine Y ?_
     | refine V ?_
     | (refine W2 ?_ ?_ <;> intro hc))
    all_goals exact A4 (by simp) Tryz.results3 rfl rfl
   ·skip
    refine Fn0.of Tryz.func3 Tryz.ntmps3 rfl rfl rfl ?_
    simp only [A0]
    repeat' (first
     | refine W ?_
     | refine Y ?_|(apply S.ne2;(iterate 3 exact rfl))
     | refine V ?_
     | (refine W2 ?_ ?_ <;> intro hc))
    all_goals exact A4 (by simp) Tryz.results3 rfl rfl
  ·skip
   refine Fn0.of Tryz.func3 Tryz.ntmps3 rfl rfl rfl ?_
   simp only [A0]
   repeat' (first
    | refine W ?_
    | refine Y ?_|(apply S.ne2;(iterate 3 exact rfl))
    | refine V ?_
    | (refine W2 ?_ ?_ <;> intro hc))
   all_goals exact A4 (by simp) Tryz.results3 rfl rfl
 by_cases hb : ∃ x ∈ l, ¬ Ao x
 ·have cf := Gz l (by omega) hb
  rw [show fnE l = 1 by unfold fnE;rw [if_neg (by omega), if_pos hb]] at cg
  by_cases d2 : (s.size : Int) > 8000
  ·by_cases d3 : (s.size : Int) <= 262144
   ·skip
    refine Fn0.of Tryz.func3 Tryz.ntmps3 rfl rfl rfl ?_
    simp only [A0]
    repeat' (first
     | refine W ?_
     | refine Y ?_
     | refine V ?_
     | (refine W2 ?_ ?_ <;> intro hc))
    all_goals exact A4 (by simp) Tryz.results3 rfl rfl
   ·skip
    refine Fn0.of Tryz.func3 Tryz.ntmps3 rfl rfl rfl ?_
    simp only [A0]
    repeat' (first
     | refine W ?_
     | refine Y ?_|(apply S.ne2;(iterate 3 exact rfl))
     | refine V ?_
     | (refine W2 ?_ ?_ <;> intro hc))
    all_goals exact A4 (by simp) Tryz.results3 rfl rfl
  ·skip
   refine Fn0.of Tryz.func3 Tryz.ntmps3 rfl rfl rfl ?_
   simp only [A0]
   repeat' (first
    | refine W ?_
    | refine Y ?_|(apply S.ne2;(iterate 3 exact rfl))
    | refine V ?_
    | (refine W2 ?_ ?_ <;> intro hc))
   all_goals exact A4 (by simp) Tryz.results3 rfl rfl
 have hr : ∀ x ∈ l, Ao x := fun x hx => Decidable.byContradiction fun h => hb ⟨x, hx, h⟩
 have cf := E5 l (by omega) hr
 have ck := Je l (by omega) hr
 rw [show fnE l = 0 by unfold fnE;rw [if_neg (by omega), if_neg hb]] at cg
 have htl := Er l hr
 have cb := Ji (Ah l) (by omega)
 rw [Oc hr (by omega)] at cb
 have cq := Gp l l (by omega) (by omega)
 rw [decide_eq_true rfl] at cq
 have h00 : (0 : Int) = 0 /\ (0 : Int) = 0 := ⟨rfl, rfl⟩
 have htt : ofL (Ah l) = ofL (Ah l) := rfl
 generalize ofL (Ah l) = tx at *
 by_cases d2 : (s.size : Int) > 8000
 ·by_cases d3 : (s.size : Int) <= 262144
  ·skip
   refine Fn0.of Tryz.func3 Tryz.ntmps3 rfl rfl rfl ?_
   simp only [A0]
   repeat' (first
    | refine W ?_
    | refine Y ?_
    | refine V ?_
    | (refine W2 ?_ ?_ <;> intro hc))
   all_goals exact A4 (by simp) Tryz.results3 rfl rfl
  ·skip
   refine Fn0.of Tryz.func3 Tryz.ntmps3 rfl rfl rfl ?_
   simp only [A0]
   repeat' (first
    | refine W ?_
    | refine Y ?_|(apply S.ne2;(iterate 3 exact rfl))|(apply S.eq2;(iterate 3 exact rfl))
    | refine V ?_
    | (refine W2 ?_ ?_ <;> intro hc))
   all_goals exact A4 (by simp) Tryz.results3 rfl rfl
 ·skip
  refine Fn0.of Tryz.func3 Tryz.ntmps3 rfl rfl rfl ?_
  simp only [A0]
  repeat' (first
   | refine W ?_
   | refine Y ?_|(apply S.ne2;(iterate 3 exact rfl))|(apply S.eq2;(iterate 3 exact rfl))
   | refine V ?_
   | (refine W2 ?_ ?_ <;> intro hc))
  all_goals exact A4 (by simp) Tryz.results3 rfl rfl
end Go.Proofs.YtlmppfffalaphaaGreatDoor
