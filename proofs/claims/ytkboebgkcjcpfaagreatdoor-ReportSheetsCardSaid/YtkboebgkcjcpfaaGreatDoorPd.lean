/- Contracts: package links' find, time, linked, before, order, Starts, of valid sheets. No conditions but those of each statement. -/
import Derived.Test.YtkboebgkcjcpfaaGreatDoorPa
import Derived.Test.YtkboebgkcjcpfaaGreatDoorPc
import Derived.Test.YtkboebgkcjcpfaaGreatDoorMr
set_option linter.unusedSimpArgs false
set_option linter.unusedVariables false
namespace Go.Proofs.YtkboebgkcjcpfaaGreatDoor
open Go Go.RowKit
theorem T.sealR {P : Program} {N : Nat} {c : Code} {Q : Exit -> St -> Prop} {tm : Tm} {H : AH} (q b : Nat) {n st : Nat} {rows : List (List Lf)} (hr : ∀ r ∈ rows, r.length = st) (hn : rows.length = n) (ht : tm.get q = some (rT b st n)) (hb : H.at b = rB (rows.flatten.map .lf) n) (h : T P N c ⟨(q, .sl rows) :: tm, H.put b .dead⟩ Q) : T P N c ⟨tm, H⟩ Q := by
 subst hn
 cases rows with
 | nil => exact T.nilU q ht (T.kill b h (by rw [hb];rfl))
 | cons r rows => exact T.freeze q ht hb (OwnRows.of _ hr rfl) h
set_option maxHeartbeats 4000000 in
theorem Uu {α : Type} (l : List α) (R : α -> List Lf) (p : α -> Prop) [DecidablePred p] (g : FuncId) (caps : List AV) (hR : ∀ x, (R x).length = 2) (hl : l.length <= 9223372036854775807) (hcaps : caps.all AV.cap = true) (hg : ∀ x ∈ l, Fn0 Tryz.prog g (.agg ((R x).map .lf) :: caps) (.b (decide (p x)))) :
  Fn0 Tryz.prog 193 [.sl (l.map R), .fn (.func g) [] caps] (.i (idx p l)) := by
 refine Fn0.of Tryz.func193 Tryz.ntmps193 rfl rfl rfl ?_
 simp only [A0]
 repeat' (first
  | refine W ?_

  | refine V ?_
  | (refine W2 ?_ ?_ <;> intro hc))
 refine T.loopS (fun k => k <= l.length /\ ∀ x ∈ l.take k, ¬ p x) (fun k => l.length - k) (fun k => [(8, .i k), (7, .i (l.map R).length), (0, .sl (l.map R)), (1, .fn (.func g) [] caps)]) (fun _ => []) 0 ⟨Nat.zero_le _, by simp⟩ (.cons rfl rfl (.cons rfl rfl (.cons rfl rfl (.cons rfl (Ak hcaps) .nil)))) .nil ?_
 rintro k ⟨hk, hno⟩
 have hle : (l.map R).length = l.length := List.length_map _
 by_cases hlt : k < l.length
 ·have h1 : (k : Int) < ((l.map R).length : Nat) := by omega
  obtain ⟨x, hx⟩ : ∃ x, l[k]? = some x := ⟨l[k], List.getElem?_eq_getElem hlt⟩
  have hb : (l.map R)[((k : Nat) : Int).toNat]? = some (R x) := by rw [Int.toNat_natCast, List.getElem?_map, hx];rfl
  have hx2 := hg x (List.mem_of_getElem? hx)
  repeat' (first
   | refine W ?_
   | (apply S.indexR;(iterate 3 exact rfl);exact hb;omega;exact hR x)|(apply S.loadRW;(iterate 3 exact rfl);exact hR x)|(apply S.callF;exact rfl;exact rfl;exact hx2;exact Ch hcaps;exact rfl)|refine Za ?_
   | refine V ?_
   | (refine W2 ?_ ?_ <;> intro hc))
  all_goals first
   | exact Next.go (k + 1) ⟨by omega, by rw [List.take_add_one, hx];intro y hy;rcases List.mem_append.1 hy with hy | hy;exact hno y hy;obtain rfl : y = x := (by simpa using hy);assumption⟩ (by omega) (.cons rfl rfl (.cons rfl rfl (.cons rfl rfl (.cons rfl (Ak hcaps) .nil)))) .nil
   | exact A5 (by simp) Tryz.results193 rfl (by rw [Ca hx hno (by assumption)])
 ·have h1 : ¬ (k : Int) < ((l.map R).length : Nat) := by omega
  repeat' (first
   | refine W ?_

   | refine V ?_
   | (refine W2 ?_ ?_ <;> intro hc))
  exact A5 (by simp) Tryz.results193 rfl (by rw [Bw (by rw [List.take_of_length_le (by omega)] at hno;exact hno)])
set_option maxHeartbeats 4000000 in
theorem Ut (l : List Int) (p : Int -> Prop) [DecidablePred p] (g : FuncId) (hl : l.length <= 9223372036854775807) (hg : ∀ x, Fn0 Tryz.prog g [.i x] (.b (decide (p x)))) :
  Fn0 Tryz.prog 148 [.sl (l.map A1), .fn (.func g) [] []] (.i (idx p l)) := by
 refine Fn0.of Tryz.func148 Tryz.ntmps148 rfl rfl rfl ?_
 simp only [A0]
 repeat' (first
  | refine W ?_

  | refine V ?_
  | (refine W2 ?_ ?_ <;> intro hc))
 refine T.loopS (fun k => k <= l.length /\ ∀ x ∈ l.take k, ¬ p x) (fun k => l.length - k) (fun k => [(8, .i k), (7, .i (l.map A1).length), (0, .sl (l.map A1)), (1, .fn (.func g) [] [])]) (fun _ => []) 0 ⟨Nat.zero_le _, by simp⟩ CW .nil ?_
 rintro k ⟨hk, hno⟩
 have hle : (l.map A1).length = l.length := List.length_map _
 by_cases hlt : k < l.length
 ·have h1 : (k : Int) < ((l.map A1).length : Nat) := by omega
  obtain ⟨x, hx⟩ : ∃ x, l[k]? = some x := ⟨l[k], List.getElem?_eq_getElem hlt⟩
  have hb : (l.map A1)[((k : Nat) : Int).toNat]? = some (A1 x) := by rw [Int.toNat_natCast, List.getElem?_map, hx];rfl
  have hx2 := hg x
  repeat' (first
   | refine W ?_
   | (apply S.indexR;(iterate 3 exact rfl);exact hb;omega;exact rfl)|(apply S.callF;exact rfl;exact rfl;exact hx2;exact rfl;exact rfl)|refine Za ?_
   | refine V ?_
   | (refine W2 ?_ ?_ <;> intro hc))
  all_goals first
   | exact Next.go (k + 1) ⟨by omega, by rw [List.take_add_one, hx];intro y hy;rcases List.mem_append.1 hy with hy | hy;exact hno y hy;obtain rfl : y = x := (by simpa using hy);assumption⟩ (by omega) CW .nil
   | exact A5 (by simp) Tryz.results148 rfl (by rw [Ca hx hno (by assumption)])
 ·have h1 : ¬ (k : Int) < ((l.map A1).length : Nat) := by omega
  repeat' (first
   | refine W ?_

   | refine V ?_
   | (refine W2 ?_ ?_ <;> intro hc))
  exact A5 (by simp) Tryz.results148 rfl (by rw [Bw (by rw [List.take_of_length_le (by omega)] at hno;exact hno)])
theorem Ia (l : List Int) (p : Int -> Prop) [DecidablePred p] (g : FuncId) (hl : l.length <= 9223372036854775807) (hg : ∀ x, Fn0 Tryz.prog g [.i x] (.b (decide (p x)))) :
  Fn0 Tryz.prog 98 [.sl (l.map A1), .fn (.func g) [] []] (.b (decide (∃ x ∈ l, p x))) := by
 refine Fn0.of Tryz.func98 Tryz.ntmps98 rfl rfl rfl ?_
 simp only [A0]
 repeat' (first
  | refine W ?_
  | refine Zc (Ut l p g hl hg) ?_
  | refine V ?_
  | (refine W2 ?_ ?_ <;> intro hc))
 all_goals exact A5 (by simp) Tryz.results98 rfl (by rw [Gi p l])
theorem Pd {α : Type} (l : List α) (R : α -> List Lf) (p : α -> Prop) [DecidablePred p] (g : FuncId) (caps : List AV) (hR : ∀ x, (R x).length = 2) (hl : l.length <= 9223372036854775807) (hcaps : caps.all AV.cap = true) (hg : ∀ x ∈ l, Fn0 Tryz.prog g (.agg ((R x).map .lf) :: caps) (.b (decide (p x)))) :
  Fn0 Tryz.prog 146 [.sl (l.map R), .fn (.func g) [] caps] (.b (decide (∃ x ∈ l, p x))) := by
 refine Fn0.of Tryz.func146 Tryz.ntmps146 rfl rfl rfl ?_
 simp only [A0]
 repeat' (first
  | refine W ?_
  | (apply S.call;exact rfl;exact I7 hcaps;exact Uu l R p g caps hR hl hcaps hg;exact rfl)
  | refine V ?_
  | (refine W2 ?_ ?_ <;> intro hc))
 all_goals exact A5 (by simp) Tryz.results146 rfl (by rw [Gi p l])
theorem Ux (n : ByteArray) (q : CueR) : Fn0 Tryz.prog 151 [A4 q.row, .rop [.s n]] (.b (decide (q.name = n))) := by
 refine Fn0.of Tryz.func151 Tryz.ntmps151 rfl rfl rfl ?_
 simp only [A0]
 repeat' (first
  | refine W ?_

  | refine V ?_
  | (refine W2 ?_ ?_ <;> intro hc))
 all_goals exact A5 (by simp) Tryz.results151 rfl (by rfl)
theorem Ej (c : SheetR) (n : ByteArray) (hs : c.cues.length <= 9223372036854775807) : Fn0 Tryz.prog 100 [A4 c.row, .s n] (.i (Az c.cues n)) := by
 have hc : Fn0 Tryz.prog 150 [.sl (c.cues.map CueR.row), .fn (.func 151) [] [.rop [.s n]]] (.i (Az c.cues n)) :=
  Kw c.cues CueR.row (fun q => q.name = n) _ _ (fun _ => rfl) hs rfl fun q _ => Ux n q
 refine Fn0.of Tryz.func100 Tryz.ntmps100 rfl rfl rfl ?_
 simp only [A0]
 repeat' (first
  | refine W ?_
  | (apply S.callV;exact rfl;exact hc;exact .cons (.one (.lf _)) (.cons (.fn (.cons (.ptr0 (cs := [.s n]) rfl) .nil)) .nil);exact rfl;exact rfl)
  | refine V ?_
  | (refine W2 ?_ ?_ <;> intro hc))
 all_goals exact A5 (by simp) Tryz.results100 rfl (by rfl)
theorem Oc (n : Int) : Fn0 Tryz.prog 97 [.i n] (.b (decide (0 <= n /\ n <= 2147483648))) := by
 refine Fn0.of Tryz.func97 Tryz.ntmps97 rfl rfl rfl ?_
 simp only [A0]
 repeat' (first
  | refine W ?_

  | refine V ?_
  | (refine W2 ?_ ?_ <;> intro hc))
 all_goals exact A5 (by simp) Tryz.results97 rfl (by simp [*])
theorem Mk (n : Int) : Fn0 Tryz.prog 96 [.i n] (.b (decide (Ck n))) := by
 have c1 := Oc n
 refine Fn0.of Tryz.func96 Tryz.ntmps96 rfl rfl rfl ?_
 simp only [A0]
 repeat' (first
  | refine W ?_
  | refine Zc c1 ?_
  | refine V ?_
  | (refine W2 ?_ ?_ <;> intro hc))
 all_goals exact A5 (by simp) Tryz.results96 rfl (by simp [Ck])
def Ir (c : SheetR) (p : ByteArray × ByteArray) : Prop := p.1 = p.2 \/ Az c.cues p.1 < 0 \/ Az c.cues p.2 < 0
instance (c : SheetR) (p : ByteArray × ByteArray) : Decidable (Ir c p) := by unfold Ir;exact inferInstance
theorem Tb (c : SheetR) (p : ByteArray × ByteArray) (hs : c.cues.length <= 9223372036854775807) : Fn0 Tryz.prog 147 [.agg ((Be p).map .lf), .rop c.row] (.b (decide (Ir c p))) := by
 have c1 := Ej c p.1 hs
 have c2 := Ej c p.2 hs
 refine Fn0.of Tryz.func147 Tryz.ntmps147 rfl rfl rfl ?_
 simp only [A0]
 repeat' (first
  | refine W ?_
  | refine Zc c1 ?_|refine Zc c2 ?_|(apply S.idxAP;(iterate 4 exact rfl);exact ⟨by decide, by decide⟩;exact rfl)
  | refine V ?_
  | (refine W2 ?_ ?_ <;> intro hc))
 all_goals exact A5 (by simp) Tryz.results147 rfl (congrArg Value.bool (by simp only [Ir];simp [*]))
set_option maxHeartbeats 8000000 in
theorem Td (h : HouseR) (c : SheetR) (v : validP h c) (hc : c.fits) : Fn0 Tryz.prog 95 [A4 c.row] (.b true) := by
 obtain ⟨hc1, hc2, _⟩ := hc
 have lk := v.lk
 have h60 := v.2.1
 obtain ⟨hp1, hp2⟩ := v.2.2.2
 have hle : (c.cues.map CueR.row).length = c.cues.length := List.length_map _
 have hle2 : (c.apart.map Be).length = c.apart.length := List.length_map _
 have hno : ¬ ∃ x ∈ c.apart, Ir c x := by
  rintro ⟨x, hx, hb⟩
  obtain ⟨i, hi⟩ := List.getElem?_of_mem hx
  obtain ⟨⟨g1, g2⟩, g3, _⟩ := hp2 i x hi
  rcases hb with hb | hb | hb
  ·exact g3 hb
  ·omega
  ·omega
 have hcf : Fn0 Tryz.prog 146 [.sl (c.apart.map Be), .fn (.func 147) [] [.rop c.row]] (.b (decide (∃ x ∈ c.apart, Ir c x))) :=
  Pd c.apart Be (Ir c) _ _ (fun _ => rfl) hc2 rfl fun p _ => Tb c p hc1
 rw [decide_eq_false hno] at hcf
 refine Fn0.of Tryz.func95 Tryz.ntmps95 rfl rfl rfl ?_
 simp only [A0]
 repeat' (first
  | refine W ?_

  | refine V ?_
  | (refine W2 ?_ ?_ <;> intro hc))
 all_goals first
  | (exfalso;omega)
  | skip
 refine T.loopS (fun k => k <= c.cues.length) (fun k => c.cues.length - k) (fun k => [(19, .i k), (18, .i (c.cues.map CueR.row).length), (17, .sl (c.cues.map CueR.row)), (1, .ptr 0 0)]) (fun _ => [.live (c.row.map .lf)]) 0 (Nat.zero_le _) CW (.live rfl .nil) ?_
 intro k hk
 by_cases hlt : k < c.cues.length
 ·have h1 : (k : Int) < ((c.cues.map CueR.row).length : Nat) := by omega
  obtain ⟨q, hq⟩ := Ac hlt
  have hb := Ad (R := CueR.row) hq
  obtain ⟨q1, q2, q3, q4, q5, q6⟩ := lk k q hq
  have ci := Bv q.name
  have cf := Ej c q.name hc1
  have ct := Oc q.delay
  have ca := Ej c q.after hc1
  rw [q1] at ci
  rw [q2] at cf
  rw [decide_eq_true q3] at ct
  repeat' (first
   | refine W ?_
   | (apply S.indexR;(iterate 3 exact rfl);exact hb;omega;exact rfl)|refine Zc ci ?_|refine Zc cf ?_|refine Zc ct ?_|refine Zc ca ?_|refine Za ?_
   | refine V ?_
   | (refine W2 ?_ ?_ <;> intro hc))
  all_goals (try change Next _ _ _ _ _ _)
  all_goals first
   | exact Next.go (k + 1) (by omega) (by omega) CW (.live rfl .nil)
   | (exfalso;first | contradiction | omega|(have := q6 (by assumption);omega)|(have := q5 (by assumption);contradiction)|(have := q6 (by omega);omega))
 ·have h1 : ¬ (k : Int) < ((c.cues.map CueR.row).length : Nat) := by omega
  repeat' (first
   | refine W ?_
   | (apply S.callV;exact rfl;exact hcf;exact .cons (.one (.lf _)) (.cons (.fn (.cons (.ptr0 (cs := c.row) rfl) .nil)) .nil);exact rfl;exact rfl)
   | refine V ?_
   | (refine W2 ?_ ?_ <;> intro hc))
  all_goals exact A5 (by simp) Tryz.results95 rfl rfl
theorem Zb {l : List CueR} {k : Nat} {q : CueR} (hq : l[k]? = some q) : (hgL l)[k]? = some (hgI l q) := by
 unfold hgL
 rw [List.getElem?_map, hq];rfl
set_option maxHeartbeats 8000000 in
theorem Tc (c : SheetR) (h60 : c.cues.length <= 60) : Fn0 Tryz.prog 149 [A4 c.row] (.sl ((hgL c.cues).map A1)) := by
 have hle : (c.cues.map CueR.row).length = c.cues.length := List.length_map _
 have hgl : (hgL c.cues).length = c.cues.length := by unfold hgL;rw [List.length_map]
 refine Fn0.of Tryz.func149 Tryz.ntmps149 rfl rfl rfl ?_
 simp only [A0]
 repeat' (first
  | refine W ?_

  | refine V ?_
  | (refine W2 ?_ ?_ <;> intro hc))
 refine T.kill 1 ?_
 refine T.loopS (fun k => k <= c.cues.length) (fun k => c.cues.length - k) (fun k => [(10, .i k), (9, .i (c.cues.map CueR.row).length), (8, .sl (c.cues.map CueR.row)), (3, rT 1 1 k), (1, .ptr 0 0)]) (fun k => [.live (c.row.map .lf), rB (Aa ((hgL c.cues).take k)) k]) 0 (Nat.zero_le _) CW CG ?_
 intro k hk
 by_cases hlt : k < c.cues.length
 ·have h1 : (k : Int) < ((c.cues.map CueR.row).length : Nat) := by omega
  obtain ⟨q, hq⟩ := Ac hlt
  have hb := Ad (R := CueR.row) hq
  have ca := Ej c q.after (by omega)
  have hS : Aa ((hgL c.cues).take (k + 1)) = Aa ((hgL c.cues).take k) ++ ([A1 (hgI c.cues q)].flatten).map AV.lf := by rw [Af (Zb hq)];simp [Aa]
  cases k with
  | zero =>
   repeat' (first
    | refine W ?_
    | (apply S.indexR;(iterate 3 exact rfl);exact hb;omega;exact rfl)|refine Zc ca ?_|(apply S.buildSlice1;(iterate 7 exact rfl))|(apply S.appendN 1 (rows := []);(iterate 8 exact rfl);exact Ae rfl;exact rfl;exact Nat.le_of_ble_eq_true rfl;exact Nat.le_of_ble_eq_true rfl)|refine Za ?_
    | refine V ?_
    | (refine W2 ?_ ?_ <;> intro hc))
   all_goals (try change Next _ _ _ _ _ _)
   all_goals exact Next.go 1 (by omega) (by omega) CW (by
    show CovH _ _ [_, .live (Aa ((hgL c.cues).take (0 + 1)))]
    rw [hS]
    first
     | (rw [show hgI c.cues q = -1 from if_pos (by first | assumption|(apply Classical.not_not.1;assumption) | omega)];exact .live rfl (.live rfl .nil))
     | (rw [show hgI c.cues q = Az c.cues q.after from if_neg (by first | assumption|(apply Classical.not_not.1;assumption) | omega)];exact .live rfl (.live rfl .nil)))
  | succ k =>
   have hcl : (Aa ((hgL c.cues).take (k + 1))).length = (k + 1) * 1 := by rw [Bn, List.length_take];omega
   repeat' (first
    | refine W ?_
    | (apply S.indexR;(iterate 3 exact rfl);exact hb;omega;exact rfl)|refine Zc ca ?_|(apply S.buildSlice1;(iterate 7 exact rfl))|(apply S.appendO;(iterate 8 exact rfl);exact hcl;exact Ae rfl;exact rfl;exact Bf _ _;simp only [List.length_cons, List.length_nil];omega;simp only [List.length_cons, List.length_nil];omega)|refine Za ?_
    | refine V ?_
    | (refine W2 ?_ ?_ <;> intro hc))
   all_goals (try change Next _ _ _ _ _ _)
   all_goals exact Next.go (k + 2) (by omega) (by omega) CW (by
    show CovH _ _ [_, .live (Aa ((hgL c.cues).take (k + 1 + 1)))]
    rw [hS]
    first
     | (rw [show hgI c.cues q = -1 from if_pos (by first | assumption|(apply Classical.not_not.1;assumption) | omega)];exact .live rfl (.live (by rw [<- List.map_append];exact Ar _ _) .nil))
     | (rw [show hgI c.cues q = Az c.cues q.after from if_neg (by first | assumption|(apply Classical.not_not.1;assumption) | omega)];exact .live rfl (.live (by rw [<- List.map_append];exact Ar _ _) .nil)))
 ·have h1 : ¬ (k : Int) < ((c.cues.map CueR.row).length : Nat) := by omega
  have ht : (hgL c.cues).take k = hgL c.cues := List.take_of_length_le (by omega)
  rw [ht]
  refine T.sealR 3 1 (rows := (hgL c.cues).map A1) (Bx _) (by rw [List.length_map];omega) rfl rfl ?_
  repeat' (first
   | refine W ?_

   | refine V ?_
   | (refine W2 ?_ ?_ <;> intro hc))
  exact Fh (by simp) Tryz.results149 rfl (.one (.one (.lf _)))
/-! ### Own slices of Booleans and of integers -/
abbrev bA (l : List Bool) : List AV := l.map fun b => .val (.bool b)
abbrev iA (l : List Int) : List AV := l.map fun x => .val (.int .i64 x)
theorem Ew {l : List Bool} {i : Nat} {b : Bool} (h : l[i]? = some b) : (bA l)[i]? = some (.val (.bool b)) := by rw [List.getElem?_map, h];rfl
theorem Hu {l : List Int} {i : Nat} {x : Int} (h : l[i]? = some x) : (iA l)[i]? = some (.val (.int .i64 x)) := by rw [List.getElem?_map, h];rfl
theorem Na (l : List Int) : iA l = Aa l := by
 induction l with
 | nil => rfl
 | cons x l ih =>
  show _ :: iA l = _
  rw [ih];rfl
theorem A01 (l : List Int) : OwnRows (iA l) 0 l.length 1 (l.map A1) := by
 have := OwnRows.of (l.map A1).flatten (Bx l) rfl
 rw [List.length_map] at this
 rw [Na]
 exact this
theorem Al (n : Nat) (l : List Bool) : (bA l).all (AV.under n) = true := by
 rw [List.all_eq_true]
 intro x hx
 obtain ⟨_, _, rfl⟩ := List.mem_map.1 hx
 rfl
theorem Bl (n : Nat) (l : List Int) : (iA l).all (AV.under n) = true := by
 rw [List.all_eq_true]
 intro x hx
 obtain ⟨_, _, rfl⟩ := List.mem_map.1 hx
 rfl
section
variable {P : Program} {N : Nat} {ops : Array Oper} {m : Option Nat} {K : Tm -> AH -> Prop} {tm tm' : Tm} {H : AH} {rest : List Oper} {ty : TypeId} {pos : String} {af : Array Edge} {d : Nat} {t e : TypeId} {x y : Operand}
theorem S.storeB {b j : Nat} {v : Bool} {l : List Bool} [hi : HasS P t 1] (hx : evT tm x = some (.ptr b j)) (hy : evT tm y = some (.val (.bool v))) (hb : H.at b = .live (bA l)) (hl : j < l.length) (h : Reg none P N ops rest tm (H.put b (.live (bA (l.set j v)))) K) : Reg none P N ops (⟨none, .store t x y, ty, pos, af, none⟩ :: rest) tm H K := by
 refine S.storeW (r := .val (.bool v)) hx hy hb rfl rfl rfl (by rw [List.length_map];exact hl) ?_
 rw [show (AV.val (.bool v)).cells = [.val (.bool v)] from rfl, Nn, show (bA l).set j (.val (.bool v)) = bA (l.set j v) by rw [bA, bA, List.map_set]]
 exact h
theorem S.storeI {b j : Nat} {v : Int} {l : List Int} [hi : HasS P t 1] (hx : evT tm x = some (.ptr b j)) (hy : evT tm y = some (.val (.int .i64 v))) (hb : H.at b = .live (iA l)) (hl : j < l.length) (h : Reg none P N ops rest tm (H.put b (.live (iA (l.set j v)))) K) : Reg none P N ops (⟨none, .store t x y, ty, pos, af, none⟩ :: rest) tm H K := by
 refine S.storeW (r := .val (.int .i64 v)) hx hy hb rfl rfl rfl (by rw [List.length_map];exact hl) ?_
 rw [show (AV.val (.int .i64 v)).cells = [.val (.int .i64 v)] from rfl, Nn, show (iA l).set j (.val (.int .i64 v)) = iA (l.set j v) by rw [iA, iA, List.map_set]]
 exact h
end
def upL (n : Nat) : List Int := List.map (fun i : Nat => (i : Int)) (List.range n)
theorem Kc (n : Nat) : upL (n + 1) = upL n ++ [(n : Int)] := by simp [upL, List.range_succ]
theorem El (n : Nat) : (upL n).length = n := by simp [upL]
theorem A1s {n k : Nat} (h : k < n) : (upL n)[k]? = some (k : Int) := by
 unfold upL
 rw [List.getElem?_map, List.getElem?_range h];rfl
theorem A20 (b : Nat) (l : List Bool) : (bA l).all (AV.clear b) = true := by
 rw [List.all_eq_true]
 intro x hx
 obtain ⟨_, _, rfl⟩ := List.mem_map.1 hx
 rfl
theorem I9 (X : List Lf) (l : List Bool) (Y : HB) (hY : AH.clear 2 2 [Y] = true) : AH.clear 2 0 [.live (X.map .lf), .live (bA l), Y] = true := by
 simp only [AH.clear, HB.clear, Bf, A20, Bool.or_true, Bool.true_and] at hY ⊢
set_option maxHeartbeats 16000000 in
theorem Uy (c : SheetR) (lk : LkP c.cues) (h60 : c.cues.length <= 60) : Fn0 Tryz.prog 99 [A4 c.row] (.sl ((upL c.cues.length).map A1)) := by
 have cb := Tc c h60
 have hlen : ((hgL c.cues).map A1).length = c.cues.length := by rw [List.length_map, hgL, List.length_map]
 have hhg : ∀ i q, c.cues[i]? = some q -> ((hgL c.cues).map A1)[i]? = some (A1 (hgI c.cues q)) := fun i q hq => by rw [List.getElem?_map, Zb hq];rfl
 have hd0 : List.replicate ((hgL c.cues).map A1).length (AV.val (.bool false)) = bA (Cd c.cues.length 0) := by rw [hlen];simp [Cd, bA]
 refine Fn0.of Tryz.func99 Tryz.ntmps99 rfl rfl rfl ?_
 simp only [A0]
 repeat' (first
  | refine W ?_
  | refine Zc cb ?_|(apply S.makeO (n := ((hgL c.cues).map A1).length);(iterate 3 exact rfl);omega;exact rfl;exact rfl)
  | refine V ?_
  | (refine W2 ?_ ?_ <;> intro hc))
 rw [hd0]
 generalize (hgL c.cues).map A1 = hg at *
 refine T.kill 2 ?_
 refine T.loopS (fun k => k <= c.cues.length) (fun k => c.cues.length + 1 - k) (fun k => [(3, .sl hg), (4, .own 1 0 hg.length 1), (5, rT 2 1 k)]) (fun k => [.live (c.row.map .lf), .live (bA (Cd c.cues.length k)), rB (Aa (upL k)) k]) 0 (Nat.zero_le _) CW (.live rfl (.live (Al _ _) (.dead .nil))) ?_
 intro k hk
 repeat' (first
  | refine W ?_

  | refine V ?_
  | (refine W2 ?_ ?_ <;> intro hc))
 refine T.loopS (fun i => i <= k) (fun i => k + 1 - i) (fun i => [(16, .i i), (15, .i hg.length), (14, .sl hg), (3, .sl hg), (4, .own 1 0 hg.length 1), (5, rT 2 1 k), (6, .i (-1))]) (fun _ => [.live (c.row.map .lf), .live (bA (Cd c.cues.length k)), rB (Aa (upL k)) k]) 0 (Nat.zero_le _) (.cons rfl rfl (.cons rfl rfl (.cons rfl rfl (.cons rfl rfl (.cons rfl rfl (.cons rfl (Tt _ _ _ _ (Nat.le_refl 3)) (.cons rfl rfl .nil))))))) (.live rfl (.live (Al _ _) (CovH.rB (Ar _ _) .nil _))) ?_
 intro i hi
 by_cases hik : i < k
 ·have h1 : (i : Int) < (hg.length : Nat) := by omega
  obtain ⟨q, hq⟩ := Ac (l := c.cues) (k := i) (by omega)
  have hb : hg[((i : Nat) : Int).toNat]? = some (A1 (hgI c.cues q)) := by rw [Int.toNat_natCast];exact hhg i q hq
  have hd1 := Ew (F1 (n := c.cues.length) hik)
  repeat' (first
   | refine W ?_
   | (apply S.indexR;(iterate 3 exact rfl);exact hb;omega;exact rfl)|(apply S.indexO (o2 := i);(iterate 4 exact rfl);omega;omega)|(apply S.loadP;exact rfl;exact rfl;exact hd1;exact rfl)|refine Za ?_
   | refine V ?_
   | (refine W2 ?_ ?_ <;> intro hc))
  all_goals (try change Next _ _ _ _ _ _)
  all_goals exact Next.go (i + 1) (by omega) (by omega) (.cons rfl rfl (.cons rfl rfl (.cons rfl rfl (.cons rfl rfl (.cons rfl rfl (.cons rfl (Tt _ _ _ _ (Nat.le_refl 3)) (.cons rfl rfl .nil))))))) (.live rfl (.live (Al _ _) (CovH.rB (Ar _ _) .nil _)))
 ·obtain rfl : i = k := by omega
  by_cases hkn : i < c.cues.length
  ·have h1 : (i : Int) < (hg.length : Nat) := by omega
   obtain ⟨q, hq⟩ := Ac (l := c.cues) (k := i) hkn
   obtain ⟨_, _, _, _, _, q6⟩ := lk i q hq
   have hb : hg[((i : Nat) : Int).toNat]? = some (A1 (hgI c.cues q)) := by rw [Int.toNat_natCast];exact hhg i q hq
   have hd1 := Ew (A48 (n := c.cues.length) hkn)
   have hdl := Sg (n := c.cues.length) (k := i) (by omega)
   by_cases hm : q.link = 1
   ·rw [show hgI c.cues q = -1 from if_pos hm] at hb
    have hni : ¬ (i : Int) < 0 := by omega
    have hneg : (-1 : Int) < 0 := by decide
    rcases Nat.eq_zero_or_pos i with h0 | hpos
    ·try (exfalso;omega)
     all_goals rw [show rT 2 1 i = .val (.slice none 0 0) by rw [h0];rfl, show rB (Aa (upL i)) i = .dead by rw [h0];rfl]
     repeat' (first
      | refine W ?_
      | (apply S.indexR;(iterate 3 exact rfl);exact hb;omega;exact rfl)|(apply S.indexO (o2 := i);(iterate 4 exact rfl);omega;omega)|(apply S.loadP;exact rfl;exact rfl;exact hd1;exact rfl)|(apply S.storeB;(iterate 3 exact rfl);omega)|(apply S.buildSlice1;(iterate 7 exact rfl))|(apply S.appendN 2 (rows := []);(iterate 4 exact rfl);exact I9 c.row _ .dead rfl;(iterate 3 exact rfl);exact Ae rfl;exact rfl;exact Nat.le_of_ble_eq_true rfl;exact Nat.le_of_ble_eq_true rfl)|refine Za ?_
      | refine V ?_
      | (refine W2 ?_ ?_ <;> intro hc))
     all_goals (try change Next _ _ _ _ _ _)
     all_goals exact Next.go (i + 1) (by omega) (by omega) (.cons rfl rfl (.cons rfl rfl (.cons (by rw [h0];rfl) rfl .nil))) (by rw [<- Fq hkn, h0];exact .live rfl (.live (Al _ _) (.live rfl .nil)))
    ·rw [Gn hpos, Gm hpos]
     have hul : (Aa (upL i)).length = i * 1 := by rw [Bn, El, Nat.mul_one]
     have hus : Aa (upL (i + 1)) = Aa (upL i) ++ ([A1 (i : Int)].flatten).map AV.lf := by rw [Kc];simp [Aa]
     repeat' (first
      | refine W ?_
      | (apply S.indexR;(iterate 3 exact rfl);exact hb;omega;exact rfl)|(apply S.indexO (o2 := i);(iterate 4 exact rfl);omega;omega)|(apply S.loadP;exact rfl;exact rfl;exact hd1;exact rfl)|(apply S.storeB;(iterate 3 exact rfl);omega)|(apply S.buildSlice1;(iterate 7 exact rfl))|(apply S.appendO;(iterate 4 exact rfl);exact I9 c.row _ (.live _) rfl;(iterate 3 exact rfl);exact hul;exact Ae rfl;exact rfl;exact Bf _ _;simp only [List.length_cons, List.length_nil];omega;simp only [List.length_cons, List.length_nil];omega)|refine Za ?_
      | refine V ?_
      | (refine W2 ?_ ?_ <;> intro hc))
     all_goals (try change Next _ _ _ _ _ _)
     all_goals exact Next.go (i + 1) (by omega) (by omega) CW (by rw [<- Fq hkn];show CovH _ _ [_, _, .live (Aa (upL (i + 1)))];rw [hus];exact .live rfl (.live (Al _ _) (.live (by rw [<- List.map_append];exact Ar _ _) .nil)))
   ·obtain ⟨a1, a2⟩ := q6 hm
    rw [show hgI c.cues q = _ from (if_neg hm).trans a1] at hb
    have hd2 := Ew (F1 (n := c.cues.length) a2)
    have hnn : ¬ (Bu c.cues q : Int) < 0 := by omega
    generalize Bu c.cues q = z at *
    have hni : ¬ (i : Int) < 0 := by omega
    have hneg : (-1 : Int) < 0 := by decide
    rcases Nat.eq_zero_or_pos i with h0 | hpos
    ·try (exfalso;omega)
     all_goals rw [show rT 2 1 i = .val (.slice none 0 0) by rw [h0];rfl, show rB (Aa (upL i)) i = .dead by rw [h0];rfl]
     repeat' (first
      | refine W ?_
      | (apply S.indexR;(iterate 3 exact rfl);exact hb;omega;exact rfl)|(apply S.indexO (o2 := z);(iterate 4 exact rfl);omega;omega)|(apply S.indexO (o2 := i);(iterate 4 exact rfl);omega;omega)|(apply S.loadP;exact rfl;exact rfl;exact hd1;exact rfl)|(apply S.loadP;exact rfl;exact rfl;exact hd2;exact rfl)|(apply S.storeB;(iterate 3 exact rfl);omega)|(apply S.buildSlice1;(iterate 7 exact rfl))|(apply S.appendN 2 (rows := []);(iterate 4 exact rfl);exact I9 c.row _ .dead rfl;(iterate 3 exact rfl);exact Ae rfl;exact rfl;exact Nat.le_of_ble_eq_true rfl;exact Nat.le_of_ble_eq_true rfl)|refine Za ?_
      | refine V ?_
      | (refine W2 ?_ ?_ <;> intro hc))
     all_goals (try change Next _ _ _ _ _ _)
     all_goals exact Next.go (i + 1) (by omega) (by omega) (.cons rfl rfl (.cons rfl rfl (.cons (by rw [h0];rfl) rfl .nil))) (by rw [<- Fq hkn, h0];exact .live rfl (.live (Al _ _) (.live rfl .nil)))
    ·rw [Gn hpos, Gm hpos]
     have hul : (Aa (upL i)).length = i * 1 := by rw [Bn, El, Nat.mul_one]
     have hus : Aa (upL (i + 1)) = Aa (upL i) ++ ([A1 (i : Int)].flatten).map AV.lf := by rw [Kc];simp [Aa]
     repeat' (first
      | refine W ?_
      | (apply S.indexR;(iterate 3 exact rfl);exact hb;omega;exact rfl)|(apply S.indexO (o2 := z);(iterate 4 exact rfl);omega;omega)|(apply S.indexO (o2 := i);(iterate 4 exact rfl);omega;omega)|(apply S.loadP;exact rfl;exact rfl;exact hd1;exact rfl)|(apply S.loadP;exact rfl;exact rfl;exact hd2;exact rfl)|(apply S.storeB;(iterate 3 exact rfl);omega)|(apply S.buildSlice1;(iterate 7 exact rfl))|(apply S.appendO;(iterate 4 exact rfl);exact I9 c.row _ (.live _) rfl;(iterate 3 exact rfl);exact hul;exact Ae rfl;exact rfl;exact Bf _ _;simp only [List.length_cons, List.length_nil];omega;simp only [List.length_cons, List.length_nil];omega)|refine Za ?_
      | refine V ?_
      | (refine W2 ?_ ?_ <;> intro hc))
     all_goals (try change Next _ _ _ _ _ _)
     all_goals exact Next.go (i + 1) (by omega) (by omega) CW (by rw [<- Fq hkn];show CovH _ _ [_, _, .live (Aa (upL (i + 1)))];rw [hus];exact .live rfl (.live (Al _ _) (.live (by rw [<- List.map_append];exact Ar _ _) .nil)))
  ·have h1 : ¬ (i : Int) < (hg.length : Nat) := by omega
   have hneg : (-1 : Int) < 0 := by decide
   obtain rfl : i = c.cues.length := by omega
   refine T.sealR 5 2 (rows := (upL c.cues.length).map A1) (Bx _) (by rw [List.length_map, El]) rfl rfl ?_
   repeat' (first
    | refine W ?_

    | refine V ?_
    | (refine W2 ?_ ?_ <;> intro hc))
   exact Fh (by simp) Tryz.results99 rfl (.one (.one (.lf _)))
noncomputable def srL (l : List CueR) (L G : List Int) : List Int := if stE l L G = 0 then stK l L G l.length else []
set_option maxHeartbeats 32000000 in
theorem Te (h : HouseR) (c : SheetR) (v : validP h c) (hc : c.fits) (L G : List Int) (hL : L.length <= 1000) (hG : G.length <= 4611686018427387904) : Fn0 Tryz.prog 53 [A4 c.row, .sl (L.map A1), .sl (G.map A1)] (.tup [.sl ((srL c.cues L G).map A1), .i (stE c.cues L G)]) := by
 have cl := Td h c v hc
 have lk := v.lk
 have h60 : c.cues.length <= 60 := by have := v.2.1;omega
 have co := Uy c lk h60
 have hle : (c.cues.map CueR.row).length = c.cues.length := List.length_map _
 have hll : (L.map A1).length = L.length := List.length_map _
 have hlg : (G.map A1).length = G.length := List.length_map _
 have hlu : ((upL c.cues.length).map A1).length = c.cues.length := by rw [List.length_map, El]
 have w1 := Ia L Ck 96 (by omega) Mk
 have w2 := Ia G Ck 96 (by omega) Mk
 rw [show decide (∃ x ∈ L, Ck x) = decide (Cn L) from decide_eq_decide.2 Iff.rfl] at w1
 rw [show decide (∃ x ∈ G, Ck x) = decide (Cn G) from decide_eq_decide.2 Iff.rfl] at w2
 unfold srL stE
 by_cases e1 : L.length ≠ c.cues.length \/ G.length ≠ Aq c.cues
 ·rw [if_pos e1, if_neg (by decide)]
  skip
  refine Fn0.of Tryz.func53 Tryz.ntmps53 rfl rfl rfl ?_
  simp only [A0]
  repeat' (first
   | refine W ?_
   | refine Zc cl ?_
   | refine V ?_
   | (refine W2 ?_ ?_ <;> intro hc))
  refine T.loopS (fun k => k <= c.cues.length) (fun k => c.cues.length - k) (fun k => [(27, .i k), (26, .i (c.cues.map CueR.row).length), (25, .sl (c.cues.map CueR.row)), (8, .i (Aq (c.cues.take k))), (3, .ptr 0 0), (1, .sl (L.map A1)), (2, .sl (G.map A1))]) (fun _ => [.live (c.row.map .lf)]) 0 (Nat.zero_le _) CW (.live rfl .nil) ?_
  intro k hk
  by_cases hlt : k < c.cues.length
  ·have h1 : (k : Int) < ((c.cues.map CueR.row).length : Nat) := by omega
   obtain ⟨q, hq⟩ := Ac hlt
   have hb := Ad (R := CueR.row) hq
   have hm60 : Aq (c.cues.take k) <= 60 := Nat.le_trans (F9 _) (by rw [List.length_take];omega)
   repeat' (first
    | refine W ?_
    | (apply S.indexR;(iterate 3 exact rfl);exact hb;omega;exact rfl)|refine Za ?_
    | refine V ?_
    | (refine W2 ?_ ?_ <;> intro hc))
   all_goals (try change Next _ _ _ _ _ _)
   all_goals first
    | exact Next.go (k + 1) (by omega) (by omega) (.cons rfl rfl (.cons rfl rfl (.cons rfl rfl (.cons (by rw [E8 hq (by assumption)];rfl) rfl CW)))) (.live rfl .nil)
    | exact Next.go (k + 1) (by omega) (by omega) (.cons rfl rfl (.cons rfl rfl (.cons rfl rfl (.cons (by rw [Fu hq (by assumption)];rfl) rfl CW)))) (.live rfl .nil)
  have h1 : ¬ (k : Int) < ((c.cues.map CueR.row).length : Nat) := by omega
  obtain rfl : k = c.cues.length := by omega
  rw [List.take_length]
  repeat' (first
   | refine W ?_
   | (refine T.nilU 6 rfl ?_;apply T.ret;change Cw _ _ _ _ _)
   | refine V ?_
   | (refine W2 ?_ ?_ <;> intro hc))
  all_goals first
   | exact D2 rfl rfl rfl
   | (exfalso;omega)
   | skip
 ·rw [if_neg e1]
  by_cases e2 : Cn L \/ Cn G
  ·rw [if_pos e2, if_neg (by decide)]
   by_cases e3 : Cn L
   ·rw [decide_eq_true e3] at w1
    skip
    refine Fn0.of Tryz.func53 Tryz.ntmps53 rfl rfl rfl ?_
    simp only [A0]
    repeat' (first
     | refine W ?_
     | refine Zc cl ?_
     | refine V ?_
     | (refine W2 ?_ ?_ <;> intro hc))
    refine T.loopS (fun k => k <= c.cues.length) (fun k => c.cues.length - k) (fun k => [(27, .i k), (26, .i (c.cues.map CueR.row).length), (25, .sl (c.cues.map CueR.row)), (8, .i (Aq (c.cues.take k))), (3, .ptr 0 0), (1, .sl (L.map A1)), (2, .sl (G.map A1))]) (fun _ => [.live (c.row.map .lf)]) 0 (Nat.zero_le _) CW (.live rfl .nil) ?_
    intro k hk
    by_cases hlt : k < c.cues.length
    ·have h1 : (k : Int) < ((c.cues.map CueR.row).length : Nat) := by omega
     obtain ⟨q, hq⟩ := Ac hlt
     have hb := Ad (R := CueR.row) hq
     have hm60 : Aq (c.cues.take k) <= 60 := Nat.le_trans (F9 _) (by rw [List.length_take];omega)
     repeat' (first
      | refine W ?_
      | (apply S.indexR;(iterate 3 exact rfl);exact hb;omega;exact rfl)|refine Za ?_
      | refine V ?_
      | (refine W2 ?_ ?_ <;> intro hc))
     all_goals (try change Next _ _ _ _ _ _)
     all_goals first
      | exact Next.go (k + 1) (by omega) (by omega) (.cons rfl rfl (.cons rfl rfl (.cons rfl rfl (.cons (by rw [E8 hq (by assumption)];rfl) rfl CW)))) (.live rfl .nil)
      | exact Next.go (k + 1) (by omega) (by omega) (.cons rfl rfl (.cons rfl rfl (.cons rfl rfl (.cons (by rw [Fu hq (by assumption)];rfl) rfl CW)))) (.live rfl .nil)
    have h1 : ¬ (k : Int) < ((c.cues.map CueR.row).length : Nat) := by omega
    obtain rfl : k = c.cues.length := by omega
    rw [List.take_length]
    repeat' (first
     | refine W ?_
     | refine Zc w1 ?_|(refine T.nilU 6 rfl ?_;apply T.ret;change Cw _ _ _ _ _)
     | refine V ?_
     | (refine W2 ?_ ?_ <;> intro hc))
    all_goals first
     | exact D2 rfl rfl rfl
     | (exfalso;omega)
   ·rw [decide_eq_false e3] at w1
    rw [decide_eq_true (e2.resolve_left e3)] at w2
    skip
    refine Fn0.of Tryz.func53 Tryz.ntmps53 rfl rfl rfl ?_
    simp only [A0]
    repeat' (first
     | refine W ?_
     | refine Zc cl ?_
     | refine V ?_
     | (refine W2 ?_ ?_ <;> intro hc))
    refine T.loopS (fun k => k <= c.cues.length) (fun k => c.cues.length - k) (fun k => [(27, .i k), (26, .i (c.cues.map CueR.row).length), (25, .sl (c.cues.map CueR.row)), (8, .i (Aq (c.cues.take k))), (3, .ptr 0 0), (1, .sl (L.map A1)), (2, .sl (G.map A1))]) (fun _ => [.live (c.row.map .lf)]) 0 (Nat.zero_le _) CW (.live rfl .nil) ?_
    intro k hk
    by_cases hlt : k < c.cues.length
    ·have h1 : (k : Int) < ((c.cues.map CueR.row).length : Nat) := by omega
     obtain ⟨q, hq⟩ := Ac hlt
     have hb := Ad (R := CueR.row) hq
     have hm60 : Aq (c.cues.take k) <= 60 := Nat.le_trans (F9 _) (by rw [List.length_take];omega)
     repeat' (first
      | refine W ?_
      | (apply S.indexR;(iterate 3 exact rfl);exact hb;omega;exact rfl)|refine Za ?_
      | refine V ?_
      | (refine W2 ?_ ?_ <;> intro hc))
     all_goals (try change Next _ _ _ _ _ _)
     all_goals first
      | exact Next.go (k + 1) (by omega) (by omega) (.cons rfl rfl (.cons rfl rfl (.cons rfl rfl (.cons (by rw [E8 hq (by assumption)];rfl) rfl CW)))) (.live rfl .nil)
      | exact Next.go (k + 1) (by omega) (by omega) (.cons rfl rfl (.cons rfl rfl (.cons rfl rfl (.cons (by rw [Fu hq (by assumption)];rfl) rfl CW)))) (.live rfl .nil)
    have h1 : ¬ (k : Int) < ((c.cues.map CueR.row).length : Nat) := by omega
    obtain rfl : k = c.cues.length := by omega
    rw [List.take_length]
    repeat' (first
     | refine W ?_
     | refine Zc w1 ?_|refine Zc w2 ?_|(refine T.nilU 6 rfl ?_;apply T.ret;change Cw _ _ _ _ _)
     | refine V ?_
     | (refine W2 ?_ ?_ <;> intro hc))
    all_goals first
     | exact D2 rfl rfl rfl
     | (exfalso;omega)
  ·rw [if_neg e2, if_pos rfl]
   have e3 : ¬ Cn L := fun k => e2 (.inl k)
   have e4 : ¬ Cn G := fun k => e2 (.inr k)
   rw [decide_eq_false e3] at w1
   rw [decide_eq_false e4] at w2
   have g1 : ((L.map A1).length : Int) = ((c.cues.map CueR.row).length : Nat) := by omega
   have g2 : ((G.map A1).length : Int) = (Aq c.cues : Nat) := by omega
   have g3 : ¬ (((upL c.cues.length).map A1).length : Int) < ((c.cues.map CueR.row).length : Nat) := by omega
   have n1 : ¬ ¬ ((L.map A1).length : Int) = ((c.cues.map CueR.row).length : Nat) := fun k => k g1
   have n2 : ¬ ¬ ((G.map A1).length : Int) = (Aq c.cues : Nat) := fun k => k g2
   by_cases e5 : c.cues.length = 0
   ·have hs0 : stK c.cues L G c.cues.length = [] := by rw [e5];rfl
    rw [hs0]
    have z0 : (((upL c.cues.length).map A1).length : Int) = 0 := by omega
    skip
    refine Fn0.of Tryz.func53 Tryz.ntmps53 rfl rfl rfl ?_
    simp only [A0]
    repeat' (first
     | refine W ?_
     | refine Zc cl ?_
     | refine V ?_
     | (refine W2 ?_ ?_ <;> intro hc))
    refine T.loopS (fun k => k <= c.cues.length) (fun k => c.cues.length - k) (fun k => [(27, .i k), (26, .i (c.cues.map CueR.row).length), (25, .sl (c.cues.map CueR.row)), (8, .i (Aq (c.cues.take k))), (3, .ptr 0 0), (1, .sl (L.map A1)), (2, .sl (G.map A1))]) (fun _ => [.live (c.row.map .lf)]) 0 (Nat.zero_le _) CW (.live rfl .nil) ?_
    intro k hk
    by_cases hlt : k < c.cues.length
    ·have h1 : (k : Int) < ((c.cues.map CueR.row).length : Nat) := by omega
     obtain ⟨q, hq⟩ := Ac hlt
     have hb := Ad (R := CueR.row) hq
     have hm60 : Aq (c.cues.take k) <= 60 := Nat.le_trans (F9 _) (by rw [List.length_take];omega)
     repeat' (first
      | refine W ?_
      | (apply S.indexR;(iterate 3 exact rfl);exact hb;omega;exact rfl)|refine Za ?_
      | refine V ?_
      | (refine W2 ?_ ?_ <;> intro hc))
     all_goals (try change Next _ _ _ _ _ _)
     all_goals first
      | exact Next.go (k + 1) (by omega) (by omega) (.cons rfl rfl (.cons rfl rfl (.cons rfl rfl (.cons (by rw [E8 hq (by assumption)];rfl) rfl CW)))) (.live rfl .nil)
      | exact Next.go (k + 1) (by omega) (by omega) (.cons rfl rfl (.cons rfl rfl (.cons rfl rfl (.cons (by rw [Fu hq (by assumption)];rfl) rfl CW)))) (.live rfl .nil)
    have h1 : ¬ (k : Int) < ((c.cues.map CueR.row).length : Nat) := by omega
    obtain rfl : k = c.cues.length := by omega
    rw [List.take_length]
    repeat' (first
     | refine W ?_
     | refine Zc w1 ?_|refine Zc w2 ?_|refine Zc co ?_|(refine T.nilU 6 rfl ?_;apply T.ret;change Cw _ _ _ _ _)
     | refine V ?_
     | (refine W2 ?_ ?_ <;> intro hc))
    all_goals exact D2 rfl rfl rfl
   ·have z0 : ¬ (((upL c.cues.length).map A1).length : Int) = 0 := by omega
    have hrep : List.replicate ((upL c.cues.length).map A1).length (AV.val (.int .i64 0)) = iA (F2 c.cues G 0) := by
     rw [hlu];simp [F2, fsK, iA]
    skip
    refine Fn0.of Tryz.func53 Tryz.ntmps53 rfl rfl rfl ?_
    simp only [A0]
    repeat' (first
     | refine W ?_
     | refine Zc cl ?_
     | refine V ?_
     | (refine W2 ?_ ?_ <;> intro hc))
    refine T.loopS (fun k => k <= c.cues.length) (fun k => c.cues.length - k) (fun k => [(27, .i k), (26, .i (c.cues.map CueR.row).length), (25, .sl (c.cues.map CueR.row)), (8, .i (Aq (c.cues.take k))), (3, .ptr 0 0), (1, .sl (L.map A1)), (2, .sl (G.map A1))]) (fun _ => [.live (c.row.map .lf)]) 0 (Nat.zero_le _) CW (.live rfl .nil) ?_
    intro k hk
    by_cases hlt : k < c.cues.length
    ·have h1 : (k : Int) < ((c.cues.map CueR.row).length : Nat) := by omega
     obtain ⟨q, hq⟩ := Ac hlt
     have hb := Ad (R := CueR.row) hq
     have hm60 : Aq (c.cues.take k) <= 60 := Nat.le_trans (F9 _) (by rw [List.length_take];omega)
     repeat' (first
      | refine W ?_
      | (apply S.indexR;(iterate 3 exact rfl);exact hb;omega;exact rfl)|refine Za ?_
      | refine V ?_
      | (refine W2 ?_ ?_ <;> intro hc))
     all_goals (try change Next _ _ _ _ _ _)
     all_goals first
      | exact Next.go (k + 1) (by omega) (by omega) (.cons rfl rfl (.cons rfl rfl (.cons rfl rfl (.cons (by rw [E8 hq (by assumption)];rfl) rfl CW)))) (.live rfl .nil)
      | exact Next.go (k + 1) (by omega) (by omega) (.cons rfl rfl (.cons rfl rfl (.cons rfl rfl (.cons (by rw [Fu hq (by assumption)];rfl) rfl CW)))) (.live rfl .nil)
    have h1 : ¬ (k : Int) < ((c.cues.map CueR.row).length : Nat) := by omega
    obtain rfl : k = c.cues.length := by omega
    rw [List.take_length]
    repeat' (first
     | refine W ?_
     | refine Zc w1 ?_|refine Zc w2 ?_|refine Zc co ?_|(apply S.makeO (n := ((upL c.cues.length).map A1).length);(iterate 3 exact rfl);omega;exact rfl;exact rfl)
     | refine V ?_
     | (refine W2 ?_ ?_ <;> intro hc))
    rw [hrep]
    refine T.loopS (fun k => k <= c.cues.length) (fun k => c.cues.length - k) (fun k => [(76, .i k), (75, .i (c.cues.map CueR.row).length), (74, .sl (c.cues.map CueR.row)), (13, .own 1 0 ((upL c.cues.length).map A1).length 1), (12, .sl ((upL c.cues.length).map A1)), (3, .ptr 0 0), (1, .sl (L.map A1)), (2, .sl (G.map A1)), (14, .i (Aq (c.cues.take k)))]) (fun k => [.live (c.row.map .lf), .live (iA (F2 c.cues G k))]) 0 (Nat.zero_le _) CW (.live rfl (.live (Bl _ _) .nil)) ?_
    intro k hk
    by_cases hlt : k < c.cues.length
    ·have h1 : (k : Int) < ((c.cues.map CueR.row).length : Nat) := by omega
     obtain ⟨q, hq⟩ := Ac hlt
     have hb := Ad (R := CueR.row) hq
     have hfl := A2f c.cues G hk
     obtain ⟨_, _, q3, _, _, _⟩ := lk k q hq
     by_cases hm : q.link = 1
     ·have hml := Vt hq hm
      have hmg : Aq (c.cues.take k) < G.length := by omega
      have hml60 : Aq c.cues <= 60 := Nat.le_trans (F9 _) h60
      obtain ⟨g, hg⟩ := Ac hmg
      have hbg := Ad (R := A1) hg
      have hgD : G.getD (Aq (c.cues.take k)) 0 = g := by rw [List.getD_eq_getElem?_getD, hg];rfl
      have hgr := Dl e4 (Aq (c.cues.take k))
      rw [hgD] at hgr
      have hset := A2g (G := G) hq hm
      rw [hgD] at hset
      have hmy := E8 hq hm
      generalize Aq (c.cues.take k) = mk at *
      repeat' (first
       | refine W ?_
       | (apply S.indexR;(iterate 3 exact rfl);exact hb;omega;exact rfl)|(apply S.indexR;(iterate 3 exact rfl);exact hbg;omega;exact rfl)|(apply T.draw 10 A3 (by decide +kernel);simp only [td])|(apply T.drawR 10 A3 (by decide +kernel);simp only [td])|(apply S.indexO (o2 := k);(iterate 4 exact rfl);omega;omega)|(apply S.storeI;(iterate 3 exact rfl);first | omega|(rw [List.length_set];omega))|refine Za ?_
       | refine V ?_
       | (refine W2 ?_ ?_ <;> intro hc))
      all_goals (try change Next _ _ _ _ _ _)
      all_goals exact Next.go (k + 1) (by omega) (by omega) (.cons rfl rfl (.cons rfl rfl (.cons rfl rfl (.cons rfl rfl (.cons rfl rfl (.cons rfl rfl (.cons rfl rfl (.cons rfl rfl (.cons (by rw [hmy];rfl) rfl .nil))))))))) (by rw [<- hset];exact .live rfl (.live (Bl _ _) .nil))
     ·repeat' (first
      | refine W ?_
      | (apply S.indexR;(iterate 3 exact rfl);exact hb;omega;exact rfl)|refine Za ?_
      | refine V ?_
      | (refine W2 ?_ ?_ <;> intro hc))
      all_goals (try change Next _ _ _ _ _ _)
      all_goals exact Next.go (k + 1) (by omega) (by omega) (.cons rfl rfl (.cons rfl rfl (.cons rfl rfl (.cons rfl rfl (.cons rfl rfl (.cons rfl rfl (.cons rfl rfl (.cons rfl rfl (.cons (by rw [Fu hq hm];rfl) rfl .nil))))))))) (by rw [A4c hq hm];exact .live rfl (.live (Bl _ _) .nil))
    have h1 : ¬ (k : Int) < ((c.cues.map CueR.row).length : Nat) := by omega
    obtain rfl : k = c.cues.length := by omega
    rw [Z5 c.cues L G]
    repeat' (first
     | refine W ?_

     | refine V ?_
     | (refine W2 ?_ ?_ <;> intro hc))
    refine T.loopS (fun k => k <= c.cues.length) (fun k => c.cues.length - k) (fun k => [(99, .i k), (98, .i ((upL c.cues.length).map A1).length), (97, .sl ((upL c.cues.length).map A1)), (13, .own 1 0 ((upL c.cues.length).map A1).length 1), (3, .ptr 0 0), (1, .sl (L.map A1))]) (fun k => [.live (c.row.map .lf), .live (iA (Da c.cues L G k))]) 0 (Nat.zero_le _) CW (.live rfl (.live (Bl _ _) .nil)) ?_
    intro k hk
    by_cases hlt : k < c.cues.length
    ·have h1 : (k : Int) < (((upL c.cues.length).map A1).length : Nat) := by omega
     obtain ⟨q, hq⟩ := Ac hlt
     have hb := Ad (R := CueR.row) hq
     have hbu := Ad (R := A1) (A1s hlt)
     have hfl := A2y c.cues L G hk
     obtain ⟨_, _, q3, _, _, q6⟩ := lk k q hq
     by_cases hm : q.link = 1
     ·repeat' (first
      | refine W ?_
      | (apply S.indexR;(iterate 3 exact rfl);exact hbu;omega;exact rfl)|(apply S.indexR;(iterate 3 exact rfl);exact hb;omega;exact rfl)|refine Za ?_
      | refine V ?_
      | (refine W2 ?_ ?_ <;> intro hc))
      all_goals (try change Next _ _ _ _ _ _)
      all_goals exact Next.go (k + 1) (by omega) (by omega) CW (by rw [A2z hq hm];exact .live rfl (.live (Bl _ _) .nil))
     ·obtain ⟨a1, a2⟩ := q6 hm
      have ca := Ej c q.after (by omega)
      rw [a1] at ca
      have hS := Hu (A4k (l := c.cues) (L := L) (G := G) a2)
      have hbd := I3 lk e3 e4 k _ a2
      have hset := A30 c.cues L G hlt
      have hLr := Dl e3 (Bu c.cues q)
      obtain ⟨lz, hlz⟩ := Ac (l := L) (k := Bu c.cues q) (by omega)
      have hbl := Ad (R := A1) hlz
      have hLD : L.getD (Bu c.cues q) 0 = lz := by rw [List.getD_eq_getElem?_getD, hlz];rfl
      rw [hLD] at hLr
      have hk60 : (k : Int) * 4294967296 <= 60 * 4294967296 := by omega
      by_cases hf : q.link = 2
      ·have hv : stV c.cues L G (stK c.cues L G k) k = (stK c.cues L G k).getD (Bu c.cues q) 0 + q.delay + lz := by unfold stV;rw [hq];simp only [hm, hf, if_false, if_true, hLD];rfl
       rw [hv] at hset
       generalize (stK c.cues L G k).getD (Bu c.cues q) 0 = s0 at *
       generalize Bu c.cues q = z at *
       have hS2 := Hu (List.getElem?_set_self (l := Da c.cues L G k) (i := k) (a := s0 + q.delay) (by omega))
       repeat' (first
        | refine W ?_
        | (apply S.indexR;(iterate 3 exact rfl);exact hbu;omega;exact rfl)|(apply S.indexR;(iterate 3 exact rfl);exact hb;omega;exact rfl)|(apply S.indexR;(iterate 3 exact rfl);exact hbl;omega;exact rfl)|refine Zc ca ?_|(apply T.draw 10 A3 (by decide +kernel);simp only [td])|(apply T.drawR 10 A3 (by decide +kernel);simp only [td])|(apply S.indexO (o2 := z);(iterate 4 exact rfl);omega;omega)|(apply S.indexO (o2 := k);(iterate 4 exact rfl);omega;omega)|(apply S.loadP;exact rfl;exact rfl;exact hS;exact rfl)|(apply S.loadP;exact rfl;exact rfl;exact hS2;exact rfl)|(apply S.storeI;(iterate 3 exact rfl);first | omega|(rw [List.length_set];omega))|refine Za ?_
        | refine V ?_
        | (refine W2 ?_ ?_ <;> intro hc))
       all_goals (try change Next _ _ _ _ _ _)
       all_goals exact Next.go (k + 1) (by omega) (by omega) CW (by rw [show Da c.cues L G (k + 1) = ((Da c.cues L G k).set k (s0 + q.delay)).set k (s0 + q.delay + lz) by rw [List.set_set, hset]];exact .live rfl (.live (Bl _ _) .nil))
      ·have hv : stV c.cues L G (stK c.cues L G k) k = (stK c.cues L G k).getD (Bu c.cues q) 0 + q.delay := by unfold stV;rw [hq];simp only [hm, hf, if_false]
       rw [hv] at hset
       generalize (stK c.cues L G k).getD (Bu c.cues q) 0 = s0 at *
       generalize Bu c.cues q = z at *
       repeat' (first
        | refine W ?_
        | (apply S.indexR;(iterate 3 exact rfl);exact hbu;omega;exact rfl)|(apply S.indexR;(iterate 3 exact rfl);exact hb;omega;exact rfl)|refine Zc ca ?_|(apply T.draw 10 A3 (by decide +kernel);simp only [td])|(apply T.drawR 10 A3 (by decide +kernel);simp only [td])|(apply S.indexO (o2 := z);(iterate 4 exact rfl);omega;omega)|(apply S.indexO (o2 := k);(iterate 4 exact rfl);omega;omega)|(apply S.loadP;exact rfl;exact rfl;exact hS;exact rfl)|(apply S.storeI;(iterate 3 exact rfl);first | omega|(rw [List.length_set];omega))|refine Za ?_
        | refine V ?_
        | (refine W2 ?_ ?_ <;> intro hc))
       all_goals (try change Next _ _ _ _ _ _)
       all_goals exact Next.go (k + 1) (by omega) (by omega) CW (by rw [<- hset];exact .live rfl (.live (Bl _ _) .nil))
    have h1 : ¬ (k : Int) < (((upL c.cues.length).map A1).length : Nat) := by omega
    obtain rfl : k = c.cues.length := by omega
    rw [Zu c.cues L G]
    have hown : OwnRows (iA (stK c.cues L G c.cues.length)) 0 ((upL c.cues.length).map A1).length 1 ((stK c.cues L G c.cues.length).map A1) := by
     have := A01 (stK c.cues L G c.cues.length)
     rw [Bz] at this
     rw [hlu]
     exact this
    refine T.freeze 13 rfl rfl hown ?_
    repeat' (first
     | refine W ?_

     | refine V ?_
     | (refine W2 ?_ ?_ <;> intro hc))
    exact D2 rfl rfl rfl
end Go.Proofs.YtkboebgkcjcpfaaGreatDoor
