/- Contracts: the reference's numbers and texts of claims. Conditions: those of each statement (bounds on lengths). -/
import Derived.Test.YtlapbaiejnaeiaaGreatDoorXc
import Derived.Test.YtlapbaiejnaeiaaGreatDoorPd
set_option linter.unusedSimpArgs false
set_option linter.unusedVariables false
namespace Go.Proofs.YtlapbaiejnaeiaaGreatDoor
open Go Go.RowKit
section
variable {P : Program} {N : Nat} {ops : Array Oper} {m : Option Nat} {K : Tm -> AH -> Prop} {tm tm' : Tm} {H : AH} {rest : List Oper} {ty : TypeId} {pos : String} {af : Array Edge} {d : Nat} {t e u : TypeId} {x y z : Operand}
theorem S.arith8 {bo : BinOp} {a b c : Int} (hx : evT tm x = some (.val (.int .u8 a))) (hy : evT tm y = some (.val (.int .u8 b))) (hc : I5 bo a b = some c) (hN : Nat.ble (d + 1) N = true) (h0 : 0 <= c /\ c <= 255) (h : Reg m P N ops rest ((d, .val (.int .u8 c)) :: tm) H K) : Reg m P N ops (⟨some d, .binOp bo t x y u, ty, pos, af, none⟩ :: rest) tm H K := by
 have hw : IntKind.u8.wrap c = c := by
  simp [IntKind.wrap, IntKind.signed, IntKind.bits]
  omega
 refine S.val (r := .val (.int .u8 c)) ?_ hN h
 cases bo <;> simp only [I5, reduceCtorEq, Option.some.injEq] at hc <;> subst hc <;> exact OpV.bin rfl hx hy (by simp only [Kz];rw [hw])
theorem S.subB {s : ByteArray} {k k' : IntKind} {i j : Int} [hu : HasU P t .string] (hx : evT tm x = some (.val (.string s))) (hy : evT tm y = some (.val (.int k i))) (hz : evT tm z = some (.val (.int k' j))) (hN : Nat.ble (d + 1) N = true) (h0 : 0 <= i /\ i <= j /\ j <= s.size) (h : Reg m P N ops rest ((d, .val (.string (s.extract i.toNat j.toNat))) :: tm) H K) : Reg m P N ops (⟨some d, .slice t x (some y) (some z) none, ty, pos, af, none⟩ :: rest) tm H K := by
 obtain ⟨i, rfl⟩ : ∃ a : Nat, i = a := ⟨i.toNat, by omega⟩
 obtain ⟨j, rfl⟩ : ∃ a : Nat, j = a := ⟨j.toNat, by omega⟩
 refine S.val (OpV.mk fun L w ρ η hη hH => ?_) hN h
 have h1 := (hη x (by simp [Op.operands]) _ hx).val_eq
 have h2 := (hη y (by simp [Op.operands]) _ hy).val_eq
 have h3 := (hη z (by simp [Op.operands]) _ hz).val_eq
 have g1 : j <= s.size := by omega
 have g2 : i <= j := by omega
 refine ⟨_, ?_, A5 _⟩
 simp [execOp, h1, h2, h3, Instr.sliceAt, run_underlying hu.out, Instr.slice, Instr.sliceBounds, Instr.sliceBound, asIntOf, g1, g2]
end
theorem Nb {n : Int} (h : -9223372036854775808 <= n /\ n <= 9223372036854775807) : IntKind.i64.wrap n = n := by
 simp [IntKind.wrap, IntKind.signed, IntKind.bits]
 omega
theorem N2 {l : List UInt8} {k : Nat} {c : UInt8} (h : l[k]? = some c) : Ct (l.take (k + 1)) = 10 * Ct (l.take k) + ((c.toNat : Int) - 48) := by rw [Bd h, Io]
theorem Pe : ∀ {k : Nat}, k <= 15 -> (10 : Int) ^ k <= 1000000000000000 := fun {k} h => by
 have h1 : (10 : Nat) ^ k <= 10 ^ 15 := Nat.pow_le_pow_right (by decide) h
 have h2 : ((10 ^ k : Nat) : Int) <= ((10 ^ 15 : Nat) : Int) := Int.ofNat_le.2 h1
 simpa using h2
theorem Sn (s : ByteArray) (hn : F0 s.data.toList) : Fn0 Tryz.prog 38 [.s s] (.tup [.i (Ct s.data.toList), .b true]) := by
 have hsz : s.data.toList.length = s.size := Array.length_toList
 obtain ⟨hn1, hn2⟩ := hn
 rw [hsz] at hn1
 have h0 : ¬ (s.size : Int) < 1 := by omega
 have h1 : ¬ (s.size : Int) > 16 := by omega
 refine Fn0.of Tryz.func38 Tryz.ntmps38 rfl rfl rfl ?_
 simp only [A0]
 repeat' (first
  | refine W ?_
  | refine Y ?_
  | refine V ?_
  | (refine W2 ?_ ?_ <;> intro hc))
 refine T.loopS (fun k => k <= s.size) (fun k => s.size - k) (fun k => [(5, .i k), (4, .i (Ct (s.data.toList.take k))), (0, .s s)]) (fun k => []) 0 (Nat.zero_le _) CW .nil ?_
 intro k hk
 by_cases hlt : k < s.size
 ·have h2 : (k : Int) < (s.size : Nat) := by omega
  obtain ⟨c, hc, hc2⟩ := F8 hlt
  have hb : s[((k : Int)).toNat]? = some c := hc
  obtain ⟨d1, d2⟩ := hn2 c (List.mem_of_getElem? hc2)
  have hv := N2 hc2
  have hrng := Hm k (s.data.toList.take k) (by rw [List.length_take];omega) (fun x hx => hn2 x (List.mem_of_mem_take hx))
  have hp := Pe (k := k) (by omega)
  repeat' (first
   | refine W ?_
   | refine Y ?_|(apply S.byteAt;exact rfl;exact rfl;exact rfl;omega;exact hb)|(apply S.arith8;(iterate 4 exact rfl);omega)|(apply S.conv;exact rfl;exact Nb (by omega);exact rfl)
   | refine V ?_
   | (refine W2 ?_ ?_ <;> intro hc))
  all_goals (change Next _ _ _ _ _ _)
  all_goals exact Next.go (k + 1) (by omega) (by omega) (by rw [hv];exact CW) .nil
 ·have h2 : ¬ (k : Int) < (s.size : Nat) := by omega
  have hkt : s.data.toList.take k = s.data.toList := List.take_of_length_le (by omega)
  rw [hkt]
  repeat' (first
   | refine W ?_
   | refine Y ?_
   | refine V ?_
   | (refine W2 ?_ ?_ <;> intro hc))
  all_goals exact D2 rfl rfl rfl
theorem Ma (s : ByteArray) (hn : ¬ F0 s.data.toList) : Fn0 Tryz.prog 38 [.s s] (.tup [.i 0, .b false]) := by
 have hsz : s.data.toList.length = s.size := Array.length_toList
 by_cases h0 : (s.size : Int) < 1
 ·skip
  refine Fn0.of Tryz.func38 Tryz.ntmps38 rfl rfl rfl ?_
  simp only [A0]
  repeat' (first
   | refine W ?_
   | refine Y ?_
   | refine V ?_
   | (refine W2 ?_ ?_ <;> intro hc))
  all_goals exact D2 rfl rfl rfl
 by_cases h1 : (s.size : Int) > 16
 ·skip
  refine Fn0.of Tryz.func38 Tryz.ntmps38 rfl rfl rfl ?_
  simp only [A0]
  repeat' (first
   | refine W ?_
   | refine Y ?_
   | refine V ?_
   | (refine W2 ?_ ?_ <;> intro hc))
  all_goals exact D2 rfl rfl rfl
 refine Fn0.of Tryz.func38 Tryz.ntmps38 rfl rfl rfl ?_
 simp only [A0]
 repeat' (first
  | refine W ?_
  | refine Y ?_
  | refine V ?_
  | (refine W2 ?_ ?_ <;> intro hc))
 refine T.loopS (fun k => k <= s.size /\ ∀ c ∈ s.data.toList.take k, M1 c) (fun k => s.size - k) (fun k => [(5, .i k), (4, .i (Ct (s.data.toList.take k))), (0, .s s)]) (fun k => []) 0 ⟨Nat.zero_le _, by simp⟩ CW .nil ?_
 rintro k ⟨hk, hall⟩
 by_cases hlt : k < s.size
 ·have h2 : (k : Int) < (s.size : Nat) := by omega
  obtain ⟨c, hc, hc2⟩ := F8 hlt
  have hb : s[((k : Int)).toNat]? = some c := hc
  by_cases d1 : (c.toNat : Int) < 48
  ·repeat' (first
   | refine W ?_
   | refine Y ?_|(apply S.byteAt;exact rfl;exact rfl;exact rfl;omega;exact hb)
   | refine V ?_
   | (refine W2 ?_ ?_ <;> intro hc))
   all_goals exact D2 rfl rfl rfl
  by_cases d2 : (c.toNat : Int) > 57
  ·repeat' (first
   | refine W ?_
   | refine Y ?_|(apply S.byteAt;exact rfl;exact rfl;exact rfl;omega;exact hb)
   | refine V ?_
   | (refine W2 ?_ ?_ <;> intro hc))
   all_goals exact D2 rfl rfl rfl
  have hv := N2 hc2
  have hrng := Hm k (s.data.toList.take k) (by rw [List.length_take];omega) hall
  have hp := Pe (k := k) (by omega)
  repeat' (first
   | refine W ?_
   | refine Y ?_|(apply S.byteAt;exact rfl;exact rfl;exact rfl;omega;exact hb)|(apply S.arith8;(iterate 4 exact rfl);omega)|(apply S.conv;exact rfl;exact Nb (by omega);exact rfl)
   | refine V ?_
   | (refine W2 ?_ ?_ <;> intro hc))
  all_goals (change Next _ _ _ _ _ _)
  all_goals exact Next.go (k + 1) ⟨by omega, fun y hy => by
   rw [Bd hc2] at hy
   rcases List.mem_append.1 hy with h | h
   ·exact hall y h
   ·obtain rfl := List.mem_singleton.1 h;exact ⟨d1, d2⟩⟩ (by omega) (by rw [hv];exact CW) .nil
 ·have hkt : s.data.toList.take k = s.data.toList := List.take_of_length_le (by omega)
  rw [hkt] at hall
  exact absurd ⟨by omega, hall⟩ hn
theorem Re (s : ByteArray) : ∃ v : Int, (F0 s.data.toList -> v = Ct s.data.toList) /\ Fn0 Tryz.prog 38 [.s s] (.tup [.i v, .b (decide (F0 s.data.toList))]) := by
 by_cases h : F0 s.data.toList
 ·exact ⟨_, fun _ => rfl, by rw [decide_eq_true h];exact Sn s h⟩
 ·exact ⟨0, fun k => absurd k h, by rw [decide_eq_false h];exact Ma s h⟩
theorem Vy (A : List UInt8) (x : ConR) : ofL A ++ x.a ++ ⟨#[32]⟩ ++ x.b ++ ⟨#[32]⟩ ++ Ad x.lo ++ ⟨#[32]⟩ ++ Ad x.hi ++ ⟨#[10]⟩ = ofL (A ++ Aw (A8 x)) := by
 have h := Mh x
 have h2 : ofL A ++ x.a ++ ⟨#[32]⟩ ++ x.b ++ ⟨#[32]⟩ ++ Ad x.lo ++ ⟨#[32]⟩ ++ Ad x.hi ++ ⟨#[10]⟩ = ofL A ++ (x.a ++ ⟨#[32]⟩ ++ x.b ++ ⟨#[32]⟩ ++ Ad x.lo ++ ⟨#[32]⟩ ++ Ad x.hi ++ ⟨#[10]⟩) := by
  apply Bl
  simp only [Cx, List.append_assoc]
 rw [h2, h]
 apply Bl
 simp only [Cx, Aq]
set_option maxHeartbeats 16000000 in
theorem Ph (l : List ConR) (hl : l.length <= 1000) (hr : ∀ x ∈ l, A9 x) : Fn0 Tryz.prog 16 [.sl (l.map ConR.row)] (.s (ofL (Aa l))) := by
 have hle : (l.map ConR.row).length = l.length := List.length_map _
 refine Fn0.of Tryz.func16 Tryz.ntmps16 rfl rfl rfl ?_
 simp only [A0]
 repeat' (first
  | refine W ?_
  | refine Y ?_
  | refine V ?_
  | (refine W2 ?_ ?_ <;> intro hc))
 refine T.loopS (fun k => k <= l.length) (fun k => l.length - k) (fun k => [(4, .i k), (3, .s (ofL (Aa (l.take k)))), (0, .sl (l.map ConR.row))]) (fun k => []) 0 (Nat.zero_le _) CW .nil ?_
 intro k hk
 by_cases hlt : k < l.length
 ·have h1 : (k : Int) < ((l.map ConR.row).length : Nat) := by omega
  obtain ⟨x, hx⟩ := Ac hlt
  have hb := Ae (R := ConR.row) hx
  have hxr := hr x (List.mem_of_getElem? hx)
  obtain ⟨b1, b2⟩ := Ec hxr
  obtain ⟨s1, s2, s3, s4⟩ := Mj hxr
  have i1 := Jo x.lo b1.1 b1.2
  have i2 := Jo x.hi b2.1 b2.2
  have hz := F1 (k := k) hl fun i y _ hy => hr y (List.mem_of_getElem? hy)
  have hzs := Bs (Aa (l.take k))
  have hst := Vy (Aa (l.take k)) x
  rw [<- Hy hx] at hst
  repeat' (first
   | refine W ?_
   | refine Y ?_|refine Zi hb ?_|(apply S.strAdd;exact rfl;exact rfl;exact rfl;omega)|(apply S.strAdd;exact rfl;exact rfl;exact rfl;(simp only [ByteArray.size_append, P4, List.size_toArray, List.length_cons, List.length_nil];omega))|(apply T.drawAll A2 (by decide +kernel))|(apply T.drawR 33 A2 (by decide +kernel);simp only [td])
   | refine V ?_
   | (refine W2 ?_ ?_ <;> intro hc))
  all_goals (change Next _ _ _ _ _ _)
  all_goals exact Next.go (k + 1) (by omega) (by omega) (by rw [<- hst];exact CW) .nil
 ·have h1 : ¬ (k : Int) < ((l.map ConR.row).length : Nat) := by omega
  have hkt : l.take k = l := List.take_of_length_le (by omega)
  rw [hkt]
  repeat' (first
   | refine W ?_
   | refine Y ?_
   | refine V ?_
   | (refine W2 ?_ ?_ <;> intro hc))
  all_goals exact A3 (by simp) Tryz.results16 rfl rfl
structure RefS where
 o : List ConR
 w : List ByteArray
 fr : Nat
 i : Nat
def E8 (w : List ByteArray) : List (List Lf) := w.map fun x => [.s x]
abbrev Gh (w : List ByteArray) : List AV := (E8 w).flatten.map .lf
theorem N7 (w : List ByteArray) : ∀ r ∈ E8 w, r.length = 1 := by
 intro r hr
 obtain ⟨x, _, rfl⟩ := List.mem_map.1 hr
 rfl
theorem Bj (w : List ByteArray) : (Gh w).length = w.length * 1 := by
 rw [List.length_map, Av _ (N7 w)];simp [E8]
theorem Q9 (w : List ByteArray) (x : ByteArray) : Gh (w ++ [x]) = Gh w ++ (([[.s x]] : List (List Lf)).flatten).map AV.lf := by simp [Gh, E8]
theorem X1 (b : Nat) (cs : List Lf) : ∀ k, (rB (cs.map .lf) k).clear b = true
 | 0 => rfl
 | k + 1 => Ag b cs
theorem C4 (cs : List Lf) (k : Nat) (B : HB) : AH.clear 1 0 [rB (cs.map .lf) k, B] = true := by
 simp only [AH.clear, X1]
 rfl
theorem Gn {P : Program} {N : Nat} {l : Array Oper} {dr : Bool} {y : Code} {Q : Exit -> St -> Prop} {tm : Tm} {H : AH} {n : Nat} (w : List ByteArray) (hn : (E8 w).length = n) (ht : tm.get 5 = some (rT 1 1 n)) (hb : H.at 1 = rB (Gh w) n)
  (h : T P N (.seq (.region 15 l dr) y) ⟨(5, .sl (E8 w)) :: tm, H.put 1 .dead⟩ Q) : T P N (.seq (.region 15 l dr) y) ⟨tm, H⟩ Q := T.sealR 5 1 (N7 w) hn ht hb h
theorem Ri {P : Program} {N : Nat} {l : Array Oper} {dr : Bool} {y : Code} {Q : Exit -> St -> Prop} {tm : Tm} {H : AH} {n : Nat} (o : List ConR) (hn : (o.map ConR.row).length = n) (ht : tm.get 4 = some (rT 0 4 n)) (hb : H.at 0 = rB (De o) n)
  (h : T P N (.seq (.region 22 l dr) y) ⟨(4, .sl (o.map ConR.row)) :: tm, H.put 0 .dead⟩ Q) : T P N (.seq (.region 22 l dr) y) ⟨tm, H⟩ Q := T.sealR 4 0 (Lw o) hn ht hb h
def Hn (s : List UInt8) (fr i : Nat) : ByteArray := ofL ((s.drop fr).take (i - fr))
theorem M8 (s : List UInt8) (fr i : Nat) : (ofL s).extract fr i = Hn s fr i := by
 apply Bl
 unfold Hn
 rw [Aq, ByteArray.data_extract, Array.toList_extract]
 simp [ofL, List.extract]
theorem Z1 {α : Type} {l : List α} (h : l.length = 3) : ∃ a b c, l = [a, b, c] := by
 match l, h with
 | [a, b, c], _ => exact ⟨a, b, c, rfl⟩
def Gz (s : List UInt8) (a : RefS) : Prop := (∀ x ∈ a.o, A9 x) /\ a.o.length <= 1000 /\ a.fr <= a.i /\ a.i <= s.length /\ a.w.length <= a.i /\ ∀ l, Ce s l -> AtC s l a.o a.w a.fr a.i
theorem Uu {s : List UInt8} {a : RefS} (h : Gz s a) {c : UInt8} (hc : s[a.i]? = some c) (h1 : c ≠ 32) (h2 : c ≠ 10) : Gz s { a with i := a.i + 1 } := by
 obtain ⟨q1, q2, q3, q4, q5, q6⟩ := h
 have hlt := (List.getElem?_eq_some_iff.1 hc).1
 refine ⟨q1, q2, by dsimp only;omega, by dsimp only;omega, by dsimp only;omega, fun l hg => ?_⟩
 rcases Jw hg.2.1 (q6 l hg) hc with ⟨_, _, k⟩ | ⟨k, _⟩ | ⟨k, _⟩
 ·exact k
 ·exact absurd k h1
 ·exact absurd k h2
theorem Sr {s : List UInt8} {a : RefS} (h : Gz s a) (hc : s[a.i]? = some 32) : Gz s ⟨a.o, a.w ++ [Hn s a.fr a.i], a.i + 1, a.i + 1⟩ := by
 obtain ⟨q1, q2, q3, q4, q5, q6⟩ := h
 have hlt := (List.getElem?_eq_some_iff.1 hc).1
 refine ⟨q1, q2, Nat.le_refl _, by dsimp only;omega, by dsimp only;rw [List.length_append];simp only [List.length_cons, List.length_nil];omega, fun l hg => ?_⟩
 rcases Jw hg.2.1 (q6 l hg) hc with ⟨k, _⟩ | ⟨_, x, r, j, hj, hl, _, hw, hw2, hd⟩ | ⟨k, _⟩
 ·exact absurd rfl k
 ·dsimp only
  rw [hw2, Vc x (by omega) (by unfold Hn;rw [Aq];exact hw)]
  exact Tb hj hl hd
 ·exact absurd k (by decide)
theorem Iu {s : List UInt8} {a : RefS} (h : Gz s a) (hc : s[a.i]? = some 10) {l : List ConR} (hg : Ce s l) : ∃ (x : ConR) (r : List ConR), l = a.o ++ x :: r /\ A9 x /\ a.o.length < 1000 /\ a.w = [x.a, x.b, Ad x.lo] /\ Hn s a.fr a.i = Ad x.hi /\ s.drop (a.i + 1) = Aa r := by
 obtain ⟨q1, q2, q3, q4, q5, q6⟩ := h
 rcases Jw hg.2.1 (q6 l hg) hc with ⟨_, k, _⟩ | ⟨k, _⟩ | ⟨_, x, r, hl, _, hw, hw2, hd⟩
 ·exact absurd rfl k
 ·exact absurd k (by decide)
 ·have hx : A9 x := hg.2.1 x (by rw [hl];simp)
  have h3 := hg.2.2
  rw [hl, List.length_append, List.length_cons] at h3
  refine ⟨x, r, hl, hx, by omega, hw2, ?_, hd⟩
  apply Bl
  unfold Hn
  rw [Aq, hw];rfl
theorem G0 {x : ConR} (h : A9 x) : (F0 (Ad x.lo).data.toList /\ Ct (Ad x.lo).data.toList = x.lo) /\ (F0 (Ad x.hi).data.toList /\ Ct (Ad x.hi).data.toList = x.hi) := by
 obtain ⟨_, _, h1, h2⟩ := h
 have e : ∀ n, (Ad n).data.toList = Lib.itoa n := fun n => by simp [Ad]
 rw [e, e]
 exact ⟨P9 (by omega) (by omega), P9 (by omega) (by omega)⟩
theorem Uv {s : List UInt8} {o : List ConR} {w0 w1 w2 : ByteArray} {fr i : Nat} (h : Gz s ⟨o, [w0, w1, w2], fr, i⟩) (hc : s[i]? = some 10) {lo hi : Int} (h2 : lo = Ct w2.data.toList) (h3 : hi = Ct (Hn s fr i).data.toList) (hr : A9 ⟨w0, w1, lo, hi⟩) (hlen : o.length ≠ 1000) : Gz s ⟨o ++ [⟨w0, w1, lo, hi⟩], [], i + 1, i + 1⟩ := by
 have h' := h
 obtain ⟨q1, q2, q3, q4, q5, q6⟩ := h
 have hlt := (List.getElem?_eq_some_iff.1 hc).1
 dsimp only at q1 q2 q3 q4 q5 q6
 refine ⟨fun x hx => ?_, by dsimp only;rw [List.length_append];simp only [List.length_cons, List.length_nil];omega, Nat.le_refl _, by dsimp only;omega, by simp, fun l hg => ?_⟩
 ·rcases List.mem_append.1 hx with h | h
  ·exact q1 x h
  ·obtain rfl := List.mem_singleton.1 h;exact hr
 ·obtain ⟨x, r, hl, hx, _, hw, hp, hd⟩ := Iu h' hc hg
  dsimp only at hl hw hp hd ⊢
  simp only [List.cons.injEq, and_true] at hw
  obtain ⟨e0, e1, e2⟩ := hw
  obtain ⟨⟨_, n1⟩, ⟨_, n2⟩⟩ := G0 hx
  rw [e2, n1] at h2
  rw [hp, n2] at h3
  have : x = ⟨w0, w1, lo, hi⟩ := by
   cases x
   simp only at e0 e1 h2 h3
   rw [e0, e1, h2, h3]
  rw [this] at hl
  exact Vn hl hd
theorem X2 {s : List UInt8} {a : RefS} (h : Gz s a) (hi : ¬ a.i < s.length) {l : List ConR} (hg : Ce s l) : l = a.o := by
 obtain ⟨q1, q2, q3, q4, q5, q6⟩ := h
 rcases q6 l hg with ⟨x, r, j, hj, hl, hw, hd, h1, h2⟩ | ⟨hl, _⟩
 ·have hlen := congrArg List.length hd
  rw [List.length_drop, F6 x hj, List.length_append, List.length_append, List.length_cons] at hlen
  omega
 ·exact hl
set_option maxHeartbeats 64000000 in
theorem Uq (s : List UInt8) (hsz : s.length <= 262144) : Fn0 Tryz.prog 11 [.s (ofL s)] (.tup [.sl ((Fm s).map ConR.row), .i (El s)]) := by
 have hS : (ofL s).size = s.length := Bs s
 have h0 : ¬ ((ofL s).size : Int) > 262144 := by rw [Bs];omega
 refine Fn0.of Tryz.func11 Tryz.ntmps11 rfl rfl rfl ?_
 simp only [A0]
 repeat' (first
  | refine W ?_
  | refine Y ?_
  | refine V ?_
  | (refine W2 ?_ ?_ <;> intro hc))
 refine T.kill 0 ?_
 refine T.kill 1 ?_
 refine T.loopS (Gz s) (fun a => s.length - a.i) (fun a => [(0, .s (ofL s)), (4, rT 0 4 a.o.length), (5, rT 1 1 a.w.length), (6, .i a.fr), (7, .i a.i)]) (fun a => [rB (De a.o) a.o.length, rB (Gh a.w) a.w.length]) ⟨[], [], 0, 0⟩ ⟨by simp, by simp, Nat.le_refl _, Nat.zero_le _, Nat.zero_le _, fun l hg => Tc hg⟩ CW CH ?_
 rintro ⟨o, w, fr, i⟩ hI
 obtain ⟨q1, q2, q3, q4, q5, q6⟩ := id hI
 dsimp only at q1 q2 q3 q4 q5 q6 ⊢
 by_cases hlt : i < s.length
 ·have h1 : (i : Int) < ((ofL s).size : Nat) := by omega
  obtain ⟨c, hc⟩ := Ac hlt
  have hb : (ofL s)[((i : Int)).toNat]? = some c := by
   show (if hh : i < (ofL s).size then some ((ofL s)[i]) else none) = _
   rw [dif_pos (by omega)]
   have : (ofL s).data.toList[i]? = some c := by rw [Aq];exact hc
   rw [Array.getElem?_toList] at this
   exact (Array.getElem?_eq_getElem (by show i < (ofL s).size;omega)).symm.trans this
  by_cases c32 : c = 32
  ·subst c32
   have hN := Sr hI hc
   dsimp only at hN
   rw [<- M8] at hN
   have hl2 : (w ++ [(ofL s).extract fr i]).length = w.length + 1 := by simp
   have e32 : ¬ ¬ ((32 : UInt8).toNat : Int) = 32 := fun k => k rfl
   have e32' : ((32 : UInt8).toNat : Int) = 32 := rfl
   cases w with
   | nil =>
    rcases o with _ | ⟨z, o⟩
    all_goals repeat' (first
     | refine W ?_
     | refine Y ?_|(apply S.byteAt;exact rfl;exact rfl;exact rfl;omega;exact hb)|(apply S.subB;(iterate 4 exact rfl);omega)|(apply S.buildSlice1;(iterate 7 exact rfl))|(apply S.appendN 1 (rows := []);(iterate 4 exact rfl);exact C4 _ _ _;exact rfl;exact rfl;exact rfl;exact A7 rfl;exact rfl;exact Nat.le_of_ble_eq_true rfl;exact Nat.le_of_ble_eq_true rfl)|(apply S.appendO (b := 1);(iterate 4 exact rfl);exact C4 _ _ _;exact rfl;exact rfl;exact rfl;exact Bj (_ :: _);exact A7 rfl;exact rfl;exact Ag _ _;(simp only [List.length_cons, List.length_nil];omega);(simp only [List.length_cons, List.length_nil];omega))
     | refine V ?_
     | (refine W2 ?_ ?_ <;> intro hc))
    all_goals (change Next _ _ _ _ _ _)
    all_goals exact Next.go _ hN (by dsimp only;omega) CW (CovH.rB (Ao _ _) (.live rfl .nil) _)
   | cons y w =>
    have hz0 : w.length + 1 <= 262144 := by simp only [List.length_cons] at q5;omega
    have hC := Q9 (y :: w) ((ofL s).extract fr i)
    rcases o with _ | ⟨z, o⟩
    all_goals repeat' (first
     | refine W ?_
     | refine Y ?_|(apply S.byteAt;exact rfl;exact rfl;exact rfl;omega;exact hb)|(apply S.subB;(iterate 4 exact rfl);omega)|(apply S.buildSlice1;(iterate 7 exact rfl))|(apply S.appendN 1 (rows := []);(iterate 4 exact rfl);exact C4 _ _ _;exact rfl;exact rfl;exact rfl;exact A7 rfl;exact rfl;exact Nat.le_of_ble_eq_true rfl;exact Nat.le_of_ble_eq_true rfl)|(apply S.appendO (b := 1);(iterate 4 exact rfl);exact C4 _ _ _;exact rfl;exact rfl;exact rfl;exact Bj (_ :: _);exact A7 rfl;exact rfl;exact Ag _ _;(simp only [List.length_cons, List.length_nil];omega);(simp only [List.length_cons, List.length_nil];omega))
     | refine V ?_
     | (refine W2 ?_ ?_ <;> intro hc))
    all_goals (change Next _ _ _ _ _ _)
    all_goals exact Next.go _ hN (by dsimp only;omega) (by dsimp only;rw [hl2];exact CW) (by dsimp only;rw [hl2, hC];exact CovH.rB (Ao _ _) (.live (by rw [<- List.map_append];exact Ao _ _) .nil) _)
  by_cases c10 : c = 10
  ·subst c10
   have e32 : ¬ ((10 : UInt8).toNat : Int) = 32 := by decide
   have e10 : ¬ ¬ ((10 : UInt8).toNat : Int) = 10 := fun k => k rfl
   by_cases h3 : w.length = 3
   ·obtain ⟨w0, w1, w2, rfl⟩ := Z1 h3
    have hbad : (∀ (x : ConR), A9 x -> o.length < 1000 -> [w0, w1, w2] = [x.a, x.b, Ad x.lo] -> (ofL s).extract fr i = Ad x.hi -> False) -> Fm s = [] /\ El s = 7 := fun hx => Fc fun ⟨l, hg⟩ => by
     obtain ⟨x, r, _, g1, g2, g3, g4, _⟩ := Iu hI hc hg
     exact hx x g1 g2 g3 (by rw [M8];exact g4)
    have f1 : ¬ ¬ (((3 + 1 : Nat) : Nat) : Int) = 4 := fun k => k rfl
    have b0 : (E8 [w0, w1, w2, (ofL s).extract fr i])[(0 : Int).toNat]? = some [.s w0] := rfl
    have b1 : (E8 [w0, w1, w2, (ofL s).extract fr i])[(1 : Int).toNat]? = some [.s w1] := rfl
    have b2 : (E8 [w0, w1, w2, (ofL s).extract fr i])[(2 : Int).toNat]? = some [.s w2] := rfl
    have b3 : (E8 [w0, w1, w2, (ofL s).extract fr i])[(3 : Int).toNat]? = some [.s ((ofL s).extract fr i)] := rfl
    have hwl : (E8 [w0, w1, w2, (ofL s).extract fr i]).length = 4 := rfl
    obtain ⟨lo, v2, n2⟩ := Re w2
    obtain ⟨hi, v3, n3⟩ := Re ((ofL s).extract fr i)
    have cr := N4 ⟨w0, w1, lo, hi⟩
    by_cases p2 : F0 w2.data.toList
    ·rw [decide_eq_true p2] at n2
     by_cases p3 : F0 ((ofL s).extract fr i).data.toList
     ·rw [decide_eq_true p3] at n3
      by_cases hr : A9 ⟨w0, w1, lo, hi⟩
      ·rw [decide_eq_true hr] at cr
       by_cases h1000 : o.length = 1000
       ·obtain ⟨P1, P2⟩ := hbad fun x _ g _ _ => by omega
        rw [P1, P2]
        have f2 : ((o.length : Nat) : Int) = 1000 := by omega
        rcases o with _ | ⟨z, o⟩
        ·cases h1000
        all_goals repeat' (first
         | refine W ?_
         | refine Y ?_|(apply S.byteAt;exact rfl;exact rfl;exact rfl;omega;exact hb)|(apply S.subB;(iterate 4 exact rfl);omega)|(apply S.buildSlice1;(iterate 7 exact rfl))|(apply S.appendN 1 (rows := []);(iterate 4 exact rfl);exact C4 _ _ _;exact rfl;exact rfl;exact rfl;exact A7 rfl;exact rfl;exact Nat.le_of_ble_eq_true rfl;exact Nat.le_of_ble_eq_true rfl)|(apply S.appendO (b := 1);(iterate 4 exact rfl);exact C4 _ _ _;exact rfl;exact rfl;exact rfl;exact Bj (_ :: _);exact A7 rfl;exact rfl;exact Ag _ _;(simp only [List.length_cons, List.length_nil];omega);(simp only [List.length_cons, List.length_nil];omega))|(refine Gn [w0, w1, w2, (ofL s).extract fr i] rfl rfl rfl ?_)|refine Zi b0 ?_|refine Zi b1 ?_|refine Zi b2 ?_|refine Zi b3 ?_|(apply T.drawAll A2 (by decide +kernel))|(apply T.draw 12 A2 (by decide +kernel);simp only [td])|(apply T.draw 11 A2 (by decide +kernel);simp only [td])|(apply S.lenRT (cells := []);exact rfl;exact rfl;exact rfl)|(apply S.lenRT;exact rfl;exact rfl;exact rfl)|(refine T.nilU 2 rfl ?_;apply T.ret;change B6 _ _ _ _ _)
         | refine V ?_
         | (refine W2 ?_ ?_ <;> intro hc))
        all_goals exact D2 rfl rfl rfl
       ·have f2 : ¬ ((o.length : Nat) : Int) = 1000 := by omega
        have hN := Uv hI hc (v2 p2) ((v3 p3).trans (by rw [M8])) hr h1000
        have hl : (o ++ [(⟨w0, w1, lo, hi⟩ : ConR)]).length = o.length + 1 := by simp
        rcases o with _ | ⟨z, o⟩
        ·repeat' (first
         | refine W ?_
         | refine Y ?_|(apply S.byteAt;exact rfl;exact rfl;exact rfl;omega;exact hb)|(apply S.subB;(iterate 4 exact rfl);omega)|(apply S.buildSlice1;(iterate 7 exact rfl))|(apply S.appendN 1 (rows := []);(iterate 4 exact rfl);exact C4 _ _ _;exact rfl;exact rfl;exact rfl;exact A7 rfl;exact rfl;exact Nat.le_of_ble_eq_true rfl;exact Nat.le_of_ble_eq_true rfl)|(apply S.appendO (b := 1);(iterate 4 exact rfl);exact C4 _ _ _;exact rfl;exact rfl;exact rfl;exact Bj (_ :: _);exact A7 rfl;exact rfl;exact Ag _ _;(simp only [List.length_cons, List.length_nil];omega);(simp only [List.length_cons, List.length_nil];omega))|(refine Gn [w0, w1, w2, (ofL s).extract fr i] rfl rfl rfl ?_)|refine Zi b0 ?_|refine Zi b1 ?_|refine Zi b2 ?_|refine Zi b3 ?_|(apply T.drawAll A2 (by decide +kernel))|(apply T.draw 12 A2 (by decide +kernel);simp only [td])|(apply T.draw 11 A2 (by decide +kernel);simp only [td])|(apply S.lenRT (cells := []);exact rfl;exact rfl;exact rfl)|(apply S.lenRT;exact rfl;exact rfl;exact rfl)|(apply S.appendN 0 (rows := []);(iterate 8 exact rfl);exact A7 rfl;exact rfl;exact Nat.le_of_ble_eq_true rfl;exact Nat.le_of_ble_eq_true rfl)
         | refine V ?_
         | (refine W2 ?_ ?_ <;> intro hc))
         all_goals (change Next _ _ _ _ _ _)
         all_goals exact Next.go _ hN (by dsimp only;omega) CW CH
        ·have hz0 : o.length + 1 <= 1000 := q2
         have hcl : (De (z :: o)).length = (o.length + 1) * 4 := Kl (z :: o)
         have hC := J7 (z :: o) ⟨w0, w1, lo, hi⟩
         repeat' (first
          | refine W ?_
          | refine Y ?_|(apply S.byteAt;exact rfl;exact rfl;exact rfl;omega;exact hb)|(apply S.subB;(iterate 4 exact rfl);omega)|(apply S.buildSlice1;(iterate 7 exact rfl))|(apply S.appendN 1 (rows := []);(iterate 4 exact rfl);exact C4 _ _ _;exact rfl;exact rfl;exact rfl;exact A7 rfl;exact rfl;exact Nat.le_of_ble_eq_true rfl;exact Nat.le_of_ble_eq_true rfl)|(apply S.appendO (b := 1);(iterate 4 exact rfl);exact C4 _ _ _;exact rfl;exact rfl;exact rfl;exact Bj (_ :: _);exact A7 rfl;exact rfl;exact Ag _ _;(simp only [List.length_cons, List.length_nil];omega);(simp only [List.length_cons, List.length_nil];omega))|(refine Gn [w0, w1, w2, (ofL s).extract fr i] rfl rfl rfl ?_)|refine Zi b0 ?_|refine Zi b1 ?_|refine Zi b2 ?_|refine Zi b3 ?_|(apply T.drawAll A2 (by decide +kernel))|(apply T.draw 12 A2 (by decide +kernel);simp only [td])|(apply T.draw 11 A2 (by decide +kernel);simp only [td])|(apply S.lenRT (cells := []);exact rfl;exact rfl;exact rfl)|(apply S.lenRT;exact rfl;exact rfl;exact rfl)|(apply S.appendO;(iterate 8 exact rfl);exact hcl;exact A7 rfl;exact rfl;exact Ag _ _;simp only [List.length_cons, List.length_nil];omega;simp only [List.length_cons, List.length_nil];omega)
          | refine V ?_
          | (refine W2 ?_ ?_ <;> intro hc))
         all_goals (change Next _ _ _ _ _ _)
         all_goals exact Next.go _ hN (by dsimp only;omega) (by dsimp only;rw [hl];exact CW) (by dsimp only;rw [hl, hC];exact .live (by rw [<- List.map_append];exact Ao _ _) (.dead .nil))
      ·rw [decide_eq_false hr] at cr
       obtain ⟨P1, P2⟩ := hbad fun x g1 _ g2 g3 => by
        simp only [List.cons.injEq, and_true] at g2
        obtain ⟨e0, e1, e2⟩ := g2
        obtain ⟨⟨_, m1⟩, ⟨_, m2⟩⟩ := G0 g1
        have k2 := v2 p2
        have k3 := v3 p3
        rw [e2, m1] at k2
        rw [g3, m2] at k3
        rw [e0, e1, k2, k3] at hr
        exact hr g1
       rw [P1, P2]
       rcases o with _ | ⟨z, o⟩
       all_goals repeat' (first
        | refine W ?_
        | refine Y ?_|(apply S.byteAt;exact rfl;exact rfl;exact rfl;omega;exact hb)|(apply S.subB;(iterate 4 exact rfl);omega)|(apply S.buildSlice1;(iterate 7 exact rfl))|(apply S.appendN 1 (rows := []);(iterate 4 exact rfl);exact C4 _ _ _;exact rfl;exact rfl;exact rfl;exact A7 rfl;exact rfl;exact Nat.le_of_ble_eq_true rfl;exact Nat.le_of_ble_eq_true rfl)|(apply S.appendO (b := 1);(iterate 4 exact rfl);exact C4 _ _ _;exact rfl;exact rfl;exact rfl;exact Bj (_ :: _);exact A7 rfl;exact rfl;exact Ag _ _;(simp only [List.length_cons, List.length_nil];omega);(simp only [List.length_cons, List.length_nil];omega))|(refine Gn [w0, w1, w2, (ofL s).extract fr i] rfl rfl rfl ?_)|refine Zi b0 ?_|refine Zi b1 ?_|refine Zi b2 ?_|refine Zi b3 ?_|(apply T.drawAll A2 (by decide +kernel))|(apply T.draw 12 A2 (by decide +kernel);simp only [td])|(apply T.draw 11 A2 (by decide +kernel);simp only [td])|(apply S.lenRT (cells := []);exact rfl;exact rfl;exact rfl)|(apply S.lenRT;exact rfl;exact rfl;exact rfl)|(refine T.nilU 2 rfl ?_;apply T.ret;change B6 _ _ _ _ _)
        | refine V ?_
        | (refine W2 ?_ ?_ <;> intro hc))
       all_goals exact D2 rfl rfl rfl
     ·rw [decide_eq_false p3] at n3
      obtain ⟨P1, P2⟩ := hbad fun x g1 _ g2 g3 => by
       obtain ⟨_, ⟨m2, _⟩⟩ := G0 g1
       rw [g3] at p3
       exact p3 m2
      rw [P1, P2]
      rcases o with _ | ⟨z, o⟩
      all_goals repeat' (first
       | refine W ?_
       | refine Y ?_|(apply S.byteAt;exact rfl;exact rfl;exact rfl;omega;exact hb)|(apply S.subB;(iterate 4 exact rfl);omega)|(apply S.buildSlice1;(iterate 7 exact rfl))|(apply S.appendN 1 (rows := []);(iterate 4 exact rfl);exact C4 _ _ _;exact rfl;exact rfl;exact rfl;exact A7 rfl;exact rfl;exact Nat.le_of_ble_eq_true rfl;exact Nat.le_of_ble_eq_true rfl)|(apply S.appendO (b := 1);(iterate 4 exact rfl);exact C4 _ _ _;exact rfl;exact rfl;exact rfl;exact Bj (_ :: _);exact A7 rfl;exact rfl;exact Ag _ _;(simp only [List.length_cons, List.length_nil];omega);(simp only [List.length_cons, List.length_nil];omega))|(refine Gn [w0, w1, w2, (ofL s).extract fr i] rfl rfl rfl ?_)|refine Zi b0 ?_|refine Zi b1 ?_|refine Zi b2 ?_|refine Zi b3 ?_|(apply T.drawAll A2 (by decide +kernel))|(apply T.draw 12 A2 (by decide +kernel);simp only [td])|(apply T.draw 11 A2 (by decide +kernel);simp only [td])|(apply S.lenRT (cells := []);exact rfl;exact rfl;exact rfl)|(apply S.lenRT;exact rfl;exact rfl;exact rfl)|(refine T.nilU 2 rfl ?_;apply T.ret;change B6 _ _ _ _ _)
       | refine V ?_
       | (refine W2 ?_ ?_ <;> intro hc))
      all_goals exact D2 rfl rfl rfl
    ·rw [decide_eq_false p2] at n2
     obtain ⟨P1, P2⟩ := hbad fun x g1 _ g2 g3 => by
      obtain ⟨⟨m1, _⟩, _⟩ := G0 g1
      simp only [List.cons.injEq, and_true] at g2
      rw [g2.2.2] at p2
      exact p2 m1
     rw [P1, P2]
     rcases o with _ | ⟨z, o⟩
     all_goals repeat' (first
      | refine W ?_
      | refine Y ?_|(apply S.byteAt;exact rfl;exact rfl;exact rfl;omega;exact hb)|(apply S.subB;(iterate 4 exact rfl);omega)|(apply S.buildSlice1;(iterate 7 exact rfl))|(apply S.appendN 1 (rows := []);(iterate 4 exact rfl);exact C4 _ _ _;exact rfl;exact rfl;exact rfl;exact A7 rfl;exact rfl;exact Nat.le_of_ble_eq_true rfl;exact Nat.le_of_ble_eq_true rfl)|(apply S.appendO (b := 1);(iterate 4 exact rfl);exact C4 _ _ _;exact rfl;exact rfl;exact rfl;exact Bj (_ :: _);exact A7 rfl;exact rfl;exact Ag _ _;(simp only [List.length_cons, List.length_nil];omega);(simp only [List.length_cons, List.length_nil];omega))|(refine Gn [w0, w1, w2, (ofL s).extract fr i] rfl rfl rfl ?_)|refine Zi b0 ?_|refine Zi b1 ?_|refine Zi b2 ?_|refine Zi b3 ?_|(apply T.drawAll A2 (by decide +kernel))|(apply T.draw 12 A2 (by decide +kernel);simp only [td])|(apply T.draw 11 A2 (by decide +kernel);simp only [td])|(apply S.lenRT (cells := []);exact rfl;exact rfl;exact rfl)|(apply S.lenRT;exact rfl;exact rfl;exact rfl)|(refine T.nilU 2 rfl ?_;apply T.ret;change B6 _ _ _ _ _)
      | refine V ?_
      | (refine W2 ?_ ?_ <;> intro hc))
     all_goals exact D2 rfl rfl rfl
   ·obtain ⟨P1, P2⟩ := Fc (s := s) fun ⟨l, hg⟩ => by
     obtain ⟨x, r, _, _, _, g3, _, _⟩ := Iu hI hc hg
     dsimp only at g3
     exact h3 (by rw [g3];rfl)
    rw [P1, P2]
    cases w with
    | nil =>
     have f1 : ¬ (((1 : Nat) : Nat) : Int) = 4 := by decide
     rcases o with _ | ⟨z, o⟩
     all_goals repeat' (first
      | refine W ?_
      | refine Y ?_|(apply S.byteAt;exact rfl;exact rfl;exact rfl;omega;exact hb)|(apply S.subB;(iterate 4 exact rfl);omega)|(apply S.buildSlice1;(iterate 7 exact rfl))|(apply S.appendN 1 (rows := []);(iterate 4 exact rfl);exact C4 _ _ _;exact rfl;exact rfl;exact rfl;exact A7 rfl;exact rfl;exact Nat.le_of_ble_eq_true rfl;exact Nat.le_of_ble_eq_true rfl)|(apply S.appendO (b := 1);(iterate 4 exact rfl);exact C4 _ _ _;exact rfl;exact rfl;exact rfl;exact Bj (_ :: _);exact A7 rfl;exact rfl;exact Ag _ _;(simp only [List.length_cons, List.length_nil];omega);(simp only [List.length_cons, List.length_nil];omega))|(refine T.nilU 2 rfl ?_;apply T.ret;change B6 _ _ _ _ _)
      | refine V ?_
      | (refine W2 ?_ ?_ <;> intro hc))
     all_goals exact D2 rfl rfl rfl
    | cons y w =>
     have hz0 : w.length + 1 <= 262144 := by simp only [List.length_cons] at q5;omega
     have f1 : ¬ ((w.length + 1 + 1 : Nat) : Int) = 4 := by simp only [List.length_cons] at h3;omega
     rcases o with _ | ⟨z, o⟩
     all_goals repeat' (first
      | refine W ?_
      | refine Y ?_|(apply S.byteAt;exact rfl;exact rfl;exact rfl;omega;exact hb)|(apply S.subB;(iterate 4 exact rfl);omega)|(apply S.buildSlice1;(iterate 7 exact rfl))|(apply S.appendN 1 (rows := []);(iterate 4 exact rfl);exact C4 _ _ _;exact rfl;exact rfl;exact rfl;exact A7 rfl;exact rfl;exact Nat.le_of_ble_eq_true rfl;exact Nat.le_of_ble_eq_true rfl)|(apply S.appendO (b := 1);(iterate 4 exact rfl);exact C4 _ _ _;exact rfl;exact rfl;exact rfl;exact Bj (_ :: _);exact A7 rfl;exact rfl;exact Ag _ _;(simp only [List.length_cons, List.length_nil];omega);(simp only [List.length_cons, List.length_nil];omega))|(refine T.nilU 2 rfl ?_;apply T.ret;change B6 _ _ _ _ _)
      | refine V ?_
      | (refine W2 ?_ ?_ <;> intro hc))
     all_goals exact D2 rfl rfl rfl
  have e32 : ¬ (c.toNat : Int) = 32 := fun e => c32 (UInt8.toNat_inj.1 (by simpa using (by omega : c.toNat = 32)))
  have e10 : ¬ (c.toNat : Int) = 10 := fun e => c10 (UInt8.toNat_inj.1 (by simpa using (by omega : c.toNat = 10)))
  have hN := Uu hI hc c32 c10
  repeat' (first
   | refine W ?_
   | refine Y ?_|(apply S.byteAt;exact rfl;exact rfl;exact rfl;omega;exact hb)
   | refine V ?_
   | (refine W2 ?_ ?_ <;> intro hc))
  all_goals (change Next _ _ _ _ _ _)
  all_goals exact Next.go _ hN (by dsimp only;omega) (.cons rfl rfl (.cons rfl (Ht 2 0 4 _ (by decide)) (.cons rfl (Ht 2 1 1 _ (by decide)) CV))) (CovH.rB (Ao _ _) (CovH.rB (Ao _ _) .nil _) _)
 ·have h1 : ¬ (i : Int) < ((ofL s).size : Nat) := by omega
  have ct := Ph o q2 q1
  by_cases he : Aa o = s
  ·obtain ⟨P1, P2⟩ := Gm (s := s) (l := o) ⟨he.symm, q1, q2⟩
   rw [P1, P2]
   have hne : ¬ ¬ ofL (Aa o) = ofL s := fun k => k (by rw [he])
   repeat' (first
    | refine W ?_
    | refine Y ?_|(refine Ri o (List.length_map _) rfl rfl ?_)
    | refine V ?_
    | (refine W2 ?_ ?_ <;> intro hc))
   all_goals exact D2 rfl rfl rfl
  ·obtain ⟨P1, P2⟩ := Fc (s := s) fun ⟨l, hg⟩ => by
    have := X2 hI hlt hg
    dsimp only at this
    rw [<- this] at he
    exact he hg.1.symm
   rw [P1, P2]
   have hne : ¬ ofL (Aa o) = ofL s := fun k => he (Rc k)
   repeat' (first
    | refine W ?_
    | refine Y ?_|(refine Ri o (List.length_map _) rfl rfl ?_)|(refine T.nilU 2 rfl ?_;apply T.ret;change B6 _ _ _ _ _)
    | refine V ?_
    | (refine W2 ?_ ?_ <;> intro hc))
   all_goals exact D2 rfl rfl rfl
end Go.Proofs.YtlapbaiejnaeiaaGreatDoor
