/- Contracts: the reference's words and integers of a string. Conditions: those of each statement (bounds on lengths). -/
import Derived.Test.YtlmppfffalaphaaGreatDoorXd
import Derived.Test.YtlmppfffalaphaaGreatDoorYb
import Derived.Test.YtlmppfffalaphaaGreatDoorYc
import Derived.Test.YtlmppfffalaphaaGreatDoorMk
import Derived.Test.YtlmppfffalaphaaGreatDoorMy
set_option linter.unusedSimpArgs false
set_option linter.unusedVariables false
namespace Go.Proofs.YtlmppfffalaphaaGreatDoor
open Go Go.RowKit
def wdS (l : List UInt8) : List ByteArray := (Lib.split l [32]).map ofL
def Di (x : ByteArray) : List Lf := [.s x]
theorem Kn (l : List ByteArray) : ∀ r ∈ l.map Di, r.length = 1 := by
 intro r hr
 obtain ⟨x, _, rfl⟩ := List.mem_map.1 hr
 rfl
abbrev Ey (l : List ByteArray) : List AV := (l.map Di).flatten.map .lf
theorem Kq (l : List ByteArray) : (Ey l).length = l.length * 1 := by
 rw [List.length_map, Ar _ (Kn l), List.length_map]
theorem Fo (l : List ByteArray) (x : ByteArray) : Ey (l ++ [x]) = Ey l ++ (([Di x] : List (List Lf)).flatten).map AV.lf := by simp [Ey]
structure WrdS where
 i : Nat
 o : List ByteArray
 w : List UInt8
theorem R6 (s : List UInt8) (i : Nat) {c : UInt8} (h : s[i]? = some c) : (ofL s).extract i (i + 1) = ofL [c] := by
 apply Bx
 rw [Ac, ByteArray.data_extract, Array.toList_extract]
 show ((ofL s).data.toList.drop i).take (i + 1 - i) = _
 rw [Ac, show i + 1 - i = 1 by omega]
 rw [List.drop_eq_getElem_cons (List.getElem?_eq_some_iff.1 h).1]
 simp [(List.getElem?_eq_some_iff.1 h).2]
theorem Pc (a b : List UInt8) : ofL a ++ ofL b = ofL (a ++ b) := by
 apply Bx
 rw [Cq, Ac, Ac, Ac]
theorem Fc {a r : List UInt8} (h : (32 : UInt8) ∉ a) : wdS (a ++ 32 :: r) = ofL a :: wdS r := by unfold wdS;rw [N0 h];rfl
theorem Fd {a : List UInt8} (h : (32 : UInt8) ∉ a) : wdS a = [ofL a] := by unfold wdS;rw [N1 h];rfl
set_option maxHeartbeats 32000000 in
theorem Mn (s : List UInt8) (hs : s.length <= 262144) : FnOwn Tryz.prog 53 [.s (ofL s)] ((wdS s).map Di) 1 := by
 refine FnOwn.of Tryz.func53 Tryz.ntmps53 rfl rfl rfl ?_
 simp only [A0]
 have hsz := Ae s
 have hl0 := Ac s
 repeat' (first
  | refine W ?_
  | refine Y ?_|(apply S.buildSliceO (len := 0);(iterate 6 exact rfl))
  | refine V ?_
  | (refine W2 ?_ ?_ <;> intro hc))
 refine T.loopS (fun a : WrdS => a.i <= s.length /\ wdS s = a.o ++ wdS (a.w ++ s.drop a.i) /\ (32 : UInt8) ∉ a.w /\ a.o.length + a.w.length <= a.i) (fun a => s.length - a.i) (fun a => [(0, .s (ofL s)), (3, .own 0 0 a.o.length 1), (4, .s (ofL a.w)), (5, .i a.i)]) (fun a => [.live (Ey a.o)]) ⟨0, [], []⟩ ⟨Nat.zero_le _, rfl, by simp, by simp⟩ CW (.live rfl .nil) ?_
 rintro ⟨i, o, w⟩ ⟨h1, h2, h3, h4⟩
 dsimp only at h1 h2 h3 h4 ⊢
 have hcl := Kq o
 by_cases hlt : i < s.length
 ·have g1 : (i : Int) < ((ofL s).size : Nat) := by omega
  obtain ⟨c, hc, hc2⟩ := Bh (s := ofL s) (k := i) (by omega)
  have hb : (ofL s)[((i : Int)).toNat]? = some c := hc
  rw [hl0] at hc2
  have hd : s.drop i = c :: s.drop (i + 1) := by
   rw [List.drop_eq_getElem_cons hlt]
   rw [(List.getElem?_eq_some_iff.1 hc2).2]
  by_cases hc32 : c = 32
  ·subst hc32
   have e32 : ((32 : UInt8).toNat : Int) = 32 := rfl
   have hC := Fo o (ofL w)
   have hn : wdS s = (o ++ [ofL w]) ++ wdS ([] ++ s.drop (i + 1)) := by rw [h2, hd, Fc h3, List.nil_append, List.append_assoc];rfl
   repeat' (first
    | refine W ?_
    | refine Y ?_|(apply S.byteAt;(iterate 3 exact rfl);omega;exact hb)|(apply S.buildSlice1;(iterate 7 exact rfl))|(apply S.appendO;(iterate 8 exact rfl);exact hcl;exact A9 rfl;exact rfl;exact Cg _ _;simp only [List.length_cons, List.length_nil];omega;simp only [List.length_cons, List.length_nil];omega)
    | refine V ?_
    | (refine W2 ?_ ?_ <;> intro hc))
   all_goals (change Next _ _ _ _ _ _)
   all_goals exact Next.go ⟨i + 1, o ++ [ofL w], []⟩ ⟨by dsimp only;omega, hn, by simp, by simp;omega⟩ (by dsimp only;omega) (by dsimp only;rw [List.length_append];exact CW) (by dsimp only;rw [hC];exact .live (by rw [<- List.map_append];exact C6 _ _) .nil)
  ·have e32 : ¬ (c.toNat : Int) = 32 := fun e => hc32 (UInt8.toNat_inj.1 (by simpa using (by omega : c.toNat = 32)))
   have hsub := R6 s i hc2
   have hn : wdS s = o ++ wdS ((w ++ [c]) ++ s.drop (i + 1)) := by rw [h2, hd, List.append_assoc];rfl
   have hadd := Pc w [c]
   have hws := Ae w
   have hcs := Ae [c]
   have hcs2 : (ofL [c]).size <= 1 := by rw [hcs];simp
   repeat' (first
    | refine W ?_
    | refine Y ?_|(apply S.byteAt;(iterate 3 exact rfl);omega;exact hb)|(apply S.subB;(iterate 4 exact rfl);omega)|(apply S.strAdd;(iterate 3 exact rfl);rw [show ((i : Int)).toNat = i by omega, show ((i : Int) + 1).toNat = i + 1 by omega, hsub];omega)
    | refine V ?_
    | (refine W2 ?_ ?_ <;> intro hc))
   all_goals (change Next _ _ _ _ _ _)
   all_goals exact Next.go ⟨i + 1, o, w ++ [c]⟩ ⟨by dsimp only;omega, hn, by simp [h3, Ne.symm hc32], by simp;omega⟩ (by dsimp only;omega) (by dsimp only;rw [<- hadd, <- hsub];exact CW) (.live (C6 _ _) .nil)
 ·have g1 : ¬ (i : Int) < ((ofL s).size : Nat) := by omega
  obtain rfl : i = s.length := by omega
  rw [List.drop_length, List.append_nil, Fd h3] at h2
  have hC := Fo o (ofL w)
  have hL : (o ++ [ofL w]).length = o.length + 1 := by simp
  rw [h2]
  repeat' (first
   | refine W ?_
   | refine Y ?_|(apply S.buildSlice1;(iterate 7 exact rfl))|(apply S.appendO;(iterate 8 exact rfl);exact hcl;exact A9 rfl;exact rfl;exact Cg _ _;simp only [List.length_cons, List.length_nil];omega;simp only [List.length_cons, List.length_nil];omega)
   | refine V ?_
   | (refine W2 ?_ ?_ <;> intro hc))
  all_goals (apply T.ret;change Ih _ _ _ _ _ _)
  all_goals exact ⟨.inr rfl, .inr (.inr ⟨0, by rw [List.length_map, hL];exact .cons (.tmp rfl) .nil, (congrArg HB.live hC).symm⟩)⟩
set_option maxHeartbeats 4000000 in
theorem Bl {α : Type} (l : List α) (R : α -> List Lf) (p : α -> Prop) [DecidablePred p] (g : FuncId) (caps : List AV) (hR : ∀ x, (R x).length = 2) (hl : l.length <= 9223372036854775807) (hcaps : caps.all AV.cap = true) (hg : ∀ x ∈ l, Fn0 Tryz.prog g (.agg ((R x).map .lf) :: caps) (.b (decide (p x)))) :
  Fn0 Tryz.prog 7 [.sl (l.map R), .fn (.func g) [] caps] (.b (decide (∃ x ∈ l, p x))) := by
 refine Fn0.of Tryz.func7 Tryz.ntmps7 rfl rfl rfl ?_
 simp only [A0]
 repeat' (first
  | refine W ?_
  | (apply S.call;exact rfl;exact P3 hcaps;exact Dc l R p g caps hR hl hcaps hg;exact rfl)
  | refine V ?_
  | (refine W2 ?_ ?_ <;> intro hc))
 all_goals exact A4 (by simp) Tryz.results7 rfl (by rw [Pu p l])
theorem My (x : FinR) : Fn0 Tryz.prog 32 [A1 x.row] (.b (decide (¬ Ao x))) := by
 have cn := Cd x.name
 refine Fn0.of Tryz.func32 Tryz.ntmps32 rfl rfl rfl ?_
 simp only [A0]
 repeat' (first
  | refine W ?_
  | refine Y ?_
  | refine V ?_
  | (refine W2 ?_ ?_ <;> intro hc))
 all_goals exact A4 (by simp) Tryz.results32 rfl (by simp_all [Ao])
def fnE (l : List FinR) : Int := if 1000 < l.length then 4 else if ∃ x ∈ l, ¬ Ao x then 1 else 0
theorem Ge (l : List FinR) (hl : 1000 < l.length) (hm : l.length <= 1000000) : Fn0 Tryz.prog 12 [.sl (l.map FinR.row)] (.tup [.s ⟨#[]⟩, .i 4]) := by
 have hle : (l.map FinR.row).length = l.length := List.length_map _
 have h0 : ((l.map FinR.row).length : Int) > 1000 := by omega
 refine Fn0.of Tryz.func12 Tryz.ntmps12 rfl rfl rfl ?_
 simp only [A0]
 repeat' (first
  | refine W ?_
  | refine Y ?_
  | refine V ?_
  | (refine W2 ?_ ?_ <;> intro hc))
 all_goals exact D2 rfl rfl rfl
theorem Gz (l : List FinR) (hl : ¬ 1000 < l.length) (hb : ∃ x ∈ l, ¬ Ao x) : Fn0 Tryz.prog 12 [.sl (l.map FinR.row)] (.tup [.s ⟨#[]⟩, .i 1]) := by
 have hle : (l.map FinR.row).length = l.length := List.length_map _
 have h0 : ¬ ((l.map FinR.row).length : Int) > 1000 := by omega
 have c := Bl l FinR.row (fun x => ¬ Ao x) 32 [] (fun _ => rfl) (by omega) rfl (fun x _ => My x)
 rw [decide_eq_true hb] at c
 refine Fn0.of Tryz.func12 Tryz.ntmps12 rfl rfl rfl ?_
 simp only [A0]
 repeat' (first
  | refine W ?_
  | refine Y ?_
  | refine V ?_
  | (refine W2 ?_ ?_ <;> intro hc))
 all_goals exact D2 rfl rfl rfl
theorem H3 {l : List FinR} {k : Nat} {x : FinR} (h : l[k]? = some x) : Ah (l.take (k + 1)) = Ah (l.take k) ++ (lnF x ++ [10]) := by rw [D6 h, Jo, N5]
theorem Er : ∀ (l : List FinR), (∀ x ∈ l, Ao x) -> (Ah l).length <= l.length * 29
 | [], _ => by simp [Ah]
 | x :: l, h => by
  have h1 := Q4 (Em (h x (by simp)))
  have h2 := Er l fun y hy => h y (by simp [hy])
  rw [H2, List.length_append, List.length_cons, List.length_cons]
  omega
theorem Hy (L : List UInt8) (x : FinR) : L ++ (A6 x.kind).data.toList ++ (⟨#[32]⟩ : ByteArray).data.toList ++ x.name.data.toList ++ (⟨#[10]⟩ : ByteArray).data.toList = L ++ (lnF x ++ [10]) := by
 unfold lnF
 simp [A6]
theorem Pn (s : ByteArray) : s.data.toList.length = s.size := Array.length_toList
set_option maxHeartbeats 32000000 in
theorem E5 (l : List FinR) (hl : ¬ 1000 < l.length) (hr : ∀ x ∈ l, Ao x) : Fn0 Tryz.prog 12 [.sl (l.map FinR.row)] (.tup [.s (ofL (Ah l)), .i 0]) := by
 have hle : (l.map FinR.row).length = l.length := List.length_map _
 have h0 : ¬ ((l.map FinR.row).length : Int) > 1000 := by omega
 have c := Bl l FinR.row (fun x => ¬ Ao x) 32 [] (fun _ => rfl) (by omega) rfl (fun x _ => My x)
 rw [decide_eq_false (fun ⟨x, hx, hn⟩ => hn (hr x hx))] at c
 have s32 : (⟨#[32]⟩ : ByteArray).size = 1 := rfl
 have s10 : (⟨#[10]⟩ : ByteArray).size = 1 := rfl
 refine Fn0.of Tryz.func12 Tryz.ntmps12 rfl rfl rfl ?_
 simp only [A0]
 repeat' (first
  | refine W ?_
  | refine Y ?_|(apply S.papN;exact rfl;exact rfl)
  | refine V ?_
  | (refine W2 ?_ ?_ <;> intro hc))
 refine T.loopS (fun k => k <= l.length) (fun k => l.length - k) (fun k => [(16, .i k), (15, .i (l.map FinR.row).length), (14, .sl (l.map FinR.row)), (4, .ptr 0 0)]) (fun k => [J9 1 (Ah (l.take k)), .hid]) 0 (Nat.zero_le _) CW (.bld rfl (.hid .nil)) ?_
 intro k hk
 by_cases hlt : k < l.length
 ·have h1 : (k : Int) < ((l.map FinR.row).length : Nat) := by omega
  obtain ⟨x, hx⟩ := Ez hlt
  have hb := F8 (R := FinR.row) hx
  have hxr := hr x (List.mem_of_getElem? hx)
  obtain ⟨b1, b2⟩ := Gu (Em hxr)
  have hts := H3 hx
  have htl := Er (l.take k) fun y hy => hr y (List.mem_of_mem_take hy)
  have htk : (l.take k).length <= 1000 := by rw [List.length_take];omega
  have ci := Df x.kind b1 b2
  have si := Cy b1 b2
  have sn : x.name.size <= 20 := by
   have := hxr.2.2
   simp only [At, Bool.and_eq_true, decide_eq_true_eq] at this
   have := this.1.1.2
   omega
  have hlt2 := Hy (Ah (l.take k)) x
  repeat' (first
   | refine W ?_
   | (apply S.indexR;(iterate 3 exact rfl);exact hb;omega;exact rfl) | refine Y ?_|(apply S.mkIface;(iterate 4 exact rfl))|(refine T.unroll ?_)|(refine TL.round ?_)|(dsimp only [An, Aa];refine TL.round ?_)|(apply S.arith;(iterate 4 exact rfl);decide)|(apply S.indexR;(iterate 4 exact rfl);decide;exact rfl)|(apply S.buildSliceF;(iterate 8 exact rfl))|(refine ⟨by first | exact .inl rfl | exact .inr rfl, [], .nil, rfl, ?_⟩;show Reg none _ _ _ _ _ _ _)|(refine S.inline [(16, .i k), (15, .i (l.map FinR.row).length), (14, .sl (l.map FinR.row)), (4, .ptr 0 0)] Tryz.func34 Tryz.ntmps34 rfl rfl rfl rfl rfl rfl rfl CW rfl ?_;intro vs;simp only [A0, List.cons_append, List.nil_append])|(apply S.papW;(iterate 6 exact rfl);first | omega|(simp only [List.length_append, Pn, List.length_cons, List.length_nil];omega))|(apply S.papW;(iterate 6 exact rfl);exact Nat.le_of_ble_eq_true rfl)|(apply S.fieldB;(iterate 3 exact rfl))|(apply S.nilCheckB;(iterate 3 exact rfl))|(apply S.assertYes;(iterate 3 exact rfl))|(apply S.assertNo;(iterate 4 exact rfl))|(refine T.ordersR (N := Tryz.f34.ntmps) (id := 11) A2 ?_)|(apply Ords.nil;decide +kernel)|(apply Ords.takeMove 0;exact rfl;decide +kernel;decide +kernel;decide +kernel;exact rfl;exact rfl)|(apply Ords.takeMove 3;exact rfl;decide +kernel;decide +kernel;decide +kernel;exact rfl;exact rfl)|(apply Ords.takeNilB 1;exact rfl;decide +kernel;decide +kernel;decide +kernel;(iterate 3 exact rfl))|(apply Ords.takeFieldB 2;exact rfl;decide +kernel;decide +kernel;decide +kernel;exact inferInstance;(iterate 3 exact rfl))|(apply Ords.one (i := 4);decide +kernel;exact rfl)|(apply Ords.one (i := 5);decide +kernel;exact rfl)|refine Za ?_
   | refine V ?_
   | (refine W2 ?_ ?_ <;> intro hc))
  all_goals (change Next _ _ _ _ _ _)
  all_goals exact Next.go (k + 1) (by omega) (by omega) CW (.bldE (hts.trans hlt2.symm) rfl (.hid .nil))
 ·have h1 : ¬ (k : Int) < ((l.map FinR.row).length : Nat) := by omega
  have hkt : l.take k = l := List.take_of_length_le (by omega)
  rw [hkt]
  repeat' (first
   | refine W ?_
   | refine Y ?_|(apply S.papT;(iterate 3 exact rfl))
   | refine V ?_
   | (refine W2 ?_ ?_ <;> intro hc))
  all_goals exact D2 rfl rfl rfl
def As (s : ByteArray) : Nat := if s.data.toList[0]? = some 45 then 1 else 0
def C5 (l : List UInt8) : Prop := ∀ c ∈ l, Hc c
instance (l : List UInt8) : Decidable (C5 l) := by unfold C5;exact inferInstance
def B0 (s : ByteArray) : Int := if As s = s.size \/ s.size > 10 then 0 else if C5 (s.data.toList.drop (As s)) then (if As s = 1 then 0 - Bv (s.data.toList.drop (As s)) else Bv (s.data.toList.drop (As s))) else 0
def Ce (s : ByteArray) : Bool := if As s = s.size \/ s.size > 10 then false else if C5 (s.data.toList.drop (As s)) then decide (A6 (B0 s) = s) else false
theorem Dz {l : List UInt8} {i k : Nat} {c : UInt8} (hik : i <= k) (h : l[k]? = some c) : (l.take (k + 1)).drop i = (l.take k).drop i ++ [c] := by
 rw [D6 h, List.drop_append_of_le_length (by
  have := (List.getElem?_eq_some_iff.1 h).1
  rw [List.length_take];omega)]
set_option maxHeartbeats 32000000 in
theorem Pg (s : ByteArray) (hs : s.size <= 262144) : Fn0 Tryz.prog 54 [.s s] (.tup [.i (B0 s), .b (Ce s)]) := by
 have hsz : s.data.toList.length = s.size := Array.length_toList
 by_cases hbad : As s = s.size \/ s.size > 10
 ·have hv : B0 s = 0 := by unfold B0;rw [if_pos hbad]
  have ho : Ce s = false := by unfold Ce;rw [if_pos hbad]
  rw [hv, ho]
  by_cases hp : 0 < s.size
  ·obtain ⟨c, hc, hc2⟩ := Bh hp
   have hb : s[((0 : Int)).toNat]? = some c := hc
   have hgt : ((s.size : Nat) : Int) > 0 := by omega
   by_cases h45 : c = 45
   ·subst h45
    have hn : As s = 1 := by unfold As;rw [if_pos hc2]
    have e45 : ((45 : UInt8).toNat : Int) = 45 := rfl
    by_cases h1 : (1 : Int) = (s.size : Nat)
    ·skip
     refine Fn0.of Tryz.func54 Tryz.ntmps54 rfl rfl rfl ?_
     simp only [A0]
     repeat' (first
      | refine W ?_
      | refine Y ?_|(apply S.byteAt;(iterate 3 exact rfl);omega;exact hb)
      | refine V ?_
      | (refine W2 ?_ ?_ <;> intro hc))
     all_goals exact D2 rfl rfl rfl
    ·have h10 : ((s.size : Nat) : Int) > 10 := by omega
     refine Fn0.of Tryz.func54 Tryz.ntmps54 rfl rfl rfl ?_
     simp only [A0]
     repeat' (first
      | refine W ?_
      | refine Y ?_|(apply S.byteAt;(iterate 3 exact rfl);omega;exact hb)
      | refine V ?_
      | (refine W2 ?_ ?_ <;> intro hc))
     all_goals exact D2 rfl rfl rfl
   ·have hn : As s = 0 := by unfold As;rw [if_neg (by rw [hc2];intro e;injection e with e;exact h45 e)]
    have e45 : ¬ (c.toNat : Int) = 45 := fun e => h45 (UInt8.toNat_inj.1 (by simpa using (by omega : c.toNat = 45)))
    have h1 : ¬ (0 : Int) = (s.size : Nat) := by omega
    have h10 : ((s.size : Nat) : Int) > 10 := by omega
    refine Fn0.of Tryz.func54 Tryz.ntmps54 rfl rfl rfl ?_
    simp only [A0]
    repeat' (first
     | refine W ?_
     | refine Y ?_|(apply S.byteAt;(iterate 3 exact rfl);omega;exact hb)
     | refine V ?_
     | (refine W2 ?_ ?_ <;> intro hc))
    all_goals exact D2 rfl rfl rfl
  ·have h0 : ¬ ((s.size : Nat) : Int) > 0 := by omega
   have h1 : (0 : Int) = (s.size : Nat) := by omega
   refine Fn0.of Tryz.func54 Tryz.ntmps54 rfl rfl rfl ?_
   simp only [A0]
   repeat' (first
    | refine W ?_
    | refine Y ?_
    | refine V ?_
    | (refine W2 ?_ ?_ <;> intro hc))
   all_goals exact D2 rfl rfl rfl
 have hp : 0 < s.size := by
  rcases Nat.eq_zero_or_pos s.size with h | h
  ·refine absurd (.inl ?_) hbad
   unfold As
   rw [if_neg (by rw [List.getElem?_eq_none (by omega)];intro e;cases e), h]
  ·exact h
 obtain ⟨c, hc, hc2⟩ := Bh hp
 have hb : s[((0 : Int)).toNat]? = some c := hc
 have hgt : ((s.size : Nat) : Int) > 0 := by omega
 have h10 : ¬ ((s.size : Nat) : Int) > 10 := by omega
 have hn1 : As s <= 1 := by unfold As;split <;> omega
 have hns : As s < s.size := by omega
 have h45 : decide ((c.toNat : Int) = 45) = decide (As s = 1) := by
  rw [decide_eq_decide]
  unfold As
  rw [hc2]
  constructor
  ·intro e
   rw [if_pos (congrArg some (UInt8.toNat_inj.1 (by simpa using (by omega : c.toNat = 45))))]
  ·intro e
   split at e
   ·rename_i hh;injection hh with hh;subst hh;rfl
   ·cases e
 have h1 : ¬ ((As s : Nat) : Int) = (s.size : Nat) := by omega
 have hdr := Cz
 rcases (by omega : As s = 0 \/ As s = 1) with hn0 | hn0
 ·have e45 : ¬ (c.toNat : Int) = 45 := by
   have : ¬ As s = 1 := by omega
   exact of_decide_eq_false (h45.trans (decide_eq_false this))
  rw [hn0] at h1
  have hvv : B0 s = if C5 (s.data.toList.drop 0) then Bv (s.data.toList.drop 0) else 0 := by unfold B0;rw [if_neg hbad, hn0, if_neg (by decide : ¬ (0 : Nat) = 1)]
  have hoo : Ce s = if C5 (s.data.toList.drop 0) then decide (A6 (B0 s) = s) else false := by unfold Ce;rw [if_neg hbad, hn0]
  have hone : ¬ (0 : Int) = 1 := by decide
  refine Fn0.of Tryz.func54 Tryz.ntmps54 rfl rfl rfl ?_
  simp only [A0]
  repeat' (first
   | refine W ?_
   | refine Y ?_|(apply S.byteAt;(iterate 3 exact rfl);omega;exact hb)
   | refine V ?_
   | (refine W2 ?_ ?_ <;> intro hc))
  refine T.loopS (fun k => 0 <= k /\ k <= s.size /\ C5 ((s.data.toList.take k).drop 0)) (fun k => s.size - k) (fun k => [(6, .i (k : Nat)), (5, .i 0), (4, .i (Bv ((s.data.toList.take k).drop 0))), (0, .s s)]) (fun _ => []) 0 ⟨Nat.le_refl _, by omega, by rw [List.drop_take];intro c hc;simp at hc⟩ (by rw [show (s.data.toList.take 0).drop 0 = [] by rw [List.drop_take];simp];exact CW) .nil ?_
  rintro k ⟨k0, k1, hall⟩
  have hrng := Cz ((s.data.toList.take k).drop 0).length ((s.data.toList.take k).drop 0) rfl hall
  have hln : ((s.data.toList.take k).drop 0).length <= 10 := by rw [List.length_drop, List.length_take];omega
  have hpw := Jd (k := ((s.data.toList.take k).drop 0).length) (by omega)
  by_cases hlt : k < s.size
  ·have h2 : ((k : Nat) : Int) < (s.size : Nat) := by omega
   obtain ⟨e, he, he2⟩ := Bh hlt
   have hbe : s[((k : Int)).toNat]? = some e := he
   have hmem : e ∈ s.data.toList.drop 0 := by
    refine List.mem_of_getElem? (i := k - 0) ?_
    rw [List.getElem?_drop, show 0 + (k - 0) = k by omega]
    exact he2
   by_cases d1 : (e.toNat : Int) < 48
   ·have hnd : ¬ C5 (s.data.toList.drop 0) := fun h => (h e hmem).1 d1
    rw [if_neg hnd] at hvv hoo
    rw [hvv, hoo]
    repeat' (first
     | refine W ?_
     | refine Y ?_|(apply S.byteAt;(iterate 3 exact rfl);omega;exact hbe)
     | refine V ?_
     | (refine W2 ?_ ?_ <;> intro hc))
    all_goals exact D2 rfl rfl rfl
   by_cases d2 : (e.toNat : Int) > 57
   ·have hnd : ¬ C5 (s.data.toList.drop 0) := fun h => (h e hmem).2 d2
    rw [if_neg hnd] at hvv hoo
    rw [hvv, hoo]
    repeat' (first
     | refine W ?_
     | refine Y ?_|(apply S.byteAt;(iterate 3 exact rfl);omega;exact hbe)
     | refine V ?_
     | (refine W2 ?_ ?_ <;> intro hc))
    all_goals exact D2 rfl rfl rfl
   have hsn := Dz (i := 0) k0 he2
   have hv := Dm ((s.data.toList.take k).drop 0) e
   rw [<- hsn] at hv
   clear hvv hoo
   repeat' (first
    | refine W ?_
    | refine Y ?_|(apply S.byteAt;(iterate 3 exact rfl);omega;exact hbe)|(apply S.arith8;(iterate 4 exact rfl);omega)|(apply S.conv;exact rfl;exact I9 (by omega);exact rfl)|refine Za ?_
    | refine V ?_
    | (refine W2 ?_ ?_ <;> intro hc))
   all_goals (change Next _ _ _ _ _ _)
   all_goals exact Next.go (k + 1) ⟨by omega, by omega, by
    rw [hsn]
    intro y hy
    rcases List.mem_append.1 hy with h | h
    ·exact hall y h
    ·obtain rfl := List.mem_singleton.1 h;exact ⟨d1, d2⟩⟩ (by omega) (by rw [hv];exact CW) .nil
  ·have h2 : ¬ ((k : Nat) : Int) < (s.size : Nat) := by omega
   have hkt : s.data.toList.take k = s.data.toList := List.take_of_length_le (by omega)
   rw [hkt] at hall hrng hpw ⊢
   rw [if_pos hall] at hvv hoo
   rw [hoo, hvv]
   have cd := Dw (Bv (s.data.toList.drop 0)) (by omega) (by omega)
   clear hvv hoo
   repeat' (first
    | refine W ?_
    | refine Y ?_|refine Za ?_
    | refine V ?_
    | (refine W2 ?_ ?_ <;> intro hc))
   all_goals exact D2 rfl rfl rfl
 ·have e45 : (c.toNat : Int) = 45 := of_decide_eq_true (h45.trans (decide_eq_true hn0))
  rw [hn0] at h1
  have hvv : B0 s = if C5 (s.data.toList.drop 1) then 0 - Bv (s.data.toList.drop 1) else 0 := by unfold B0;rw [if_neg hbad, hn0, if_pos rfl]
  have hoo : Ce s = if C5 (s.data.toList.drop 1) then decide (A6 (B0 s) = s) else false := by unfold Ce;rw [if_neg hbad, hn0]
  refine Fn0.of Tryz.func54 Tryz.ntmps54 rfl rfl rfl ?_
  simp only [A0]
  repeat' (first
   | refine W ?_
   | refine Y ?_|(apply S.byteAt;(iterate 3 exact rfl);omega;exact hb)
   | refine V ?_
   | (refine W2 ?_ ?_ <;> intro hc))
  refine T.loopS (fun k => 1 <= k /\ k <= s.size /\ C5 ((s.data.toList.take k).drop 1)) (fun k => s.size - k) (fun k => [(6, .i (k : Nat)), (5, .i 1), (4, .i (Bv ((s.data.toList.take k).drop 1))), (0, .s s)]) (fun _ => []) 1 ⟨Nat.le_refl _, by omega, by rw [List.drop_take];intro c hc;simp at hc⟩ (by rw [show (s.data.toList.take 1).drop 1 = [] by rw [List.drop_take];simp];exact CW) .nil ?_
  rintro k ⟨k0, k1, hall⟩
  have hrng := Cz ((s.data.toList.take k).drop 1).length ((s.data.toList.take k).drop 1) rfl hall
  have hln : ((s.data.toList.take k).drop 1).length <= 10 := by rw [List.length_drop, List.length_take];omega
  have hpw := Jd (k := ((s.data.toList.take k).drop 1).length) (by omega)
  by_cases hlt : k < s.size
  ·have h2 : ((k : Nat) : Int) < (s.size : Nat) := by omega
   obtain ⟨e, he, he2⟩ := Bh hlt
   have hbe : s[((k : Int)).toNat]? = some e := he
   have hmem : e ∈ s.data.toList.drop 1 := by
    refine List.mem_of_getElem? (i := k - 1) ?_
    rw [List.getElem?_drop, show 1 + (k - 1) = k by omega]
    exact he2
   by_cases d1 : (e.toNat : Int) < 48
   ·have hnd : ¬ C5 (s.data.toList.drop 1) := fun h => (h e hmem).1 d1
    rw [if_neg hnd] at hvv hoo
    rw [hvv, hoo]
    repeat' (first
     | refine W ?_
     | refine Y ?_|(apply S.byteAt;(iterate 3 exact rfl);omega;exact hbe)
     | refine V ?_
     | (refine W2 ?_ ?_ <;> intro hc))
    all_goals exact D2 rfl rfl rfl
   by_cases d2 : (e.toNat : Int) > 57
   ·have hnd : ¬ C5 (s.data.toList.drop 1) := fun h => (h e hmem).2 d2
    rw [if_neg hnd] at hvv hoo
    rw [hvv, hoo]
    repeat' (first
     | refine W ?_
     | refine Y ?_|(apply S.byteAt;(iterate 3 exact rfl);omega;exact hbe)
     | refine V ?_
     | (refine W2 ?_ ?_ <;> intro hc))
    all_goals exact D2 rfl rfl rfl
   have hsn := Dz (i := 1) k0 he2
   have hv := Dm ((s.data.toList.take k).drop 1) e
   rw [<- hsn] at hv
   clear hvv hoo
   repeat' (first
    | refine W ?_
    | refine Y ?_|(apply S.byteAt;(iterate 3 exact rfl);omega;exact hbe)|(apply S.arith8;(iterate 4 exact rfl);omega)|(apply S.conv;exact rfl;exact I9 (by omega);exact rfl)|refine Za ?_
    | refine V ?_
    | (refine W2 ?_ ?_ <;> intro hc))
   all_goals (change Next _ _ _ _ _ _)
   all_goals exact Next.go (k + 1) ⟨by omega, by omega, by
    rw [hsn]
    intro y hy
    rcases List.mem_append.1 hy with h | h
    ·exact hall y h
    ·obtain rfl := List.mem_singleton.1 h;exact ⟨d1, d2⟩⟩ (by omega) (by rw [hv];exact CW) .nil
  ·have h2 : ¬ ((k : Nat) : Int) < (s.size : Nat) := by omega
   have hkt : s.data.toList.take k = s.data.toList := List.take_of_length_le (by omega)
   rw [hkt] at hall hrng hpw ⊢
   rw [if_pos hall] at hvv hoo
   rw [hoo, hvv]
   have cd := Dw (0 - Bv (s.data.toList.drop 1)) (by omega) (by omega)
   clear hvv hoo
   repeat' (first
    | refine W ?_
    | refine Y ?_|refine Za ?_
    | refine V ?_
    | (refine W2 ?_ ?_ <;> intro hc))
   all_goals exact D2 rfl rfl rfl
end Go.Proofs.YtlmppfffalaphaaGreatDoor
