/- Contracts of the functions that look at names: letters, digits, words. No conditions but those of each statement. -/
import Derived.Test.YtcfjofhapbkmfaaGreatDoorMt
import Derived.Test.YtcfjofhapbkmfaaGreatDoorMb
set_option linter.unusedSimpArgs false
set_option linter.unusedVariables false
namespace Go.Proofs.YtcfjofhapbkmfaaGreatDoor
open Go.RowKit
abbrev AV.i (n : Int) : AV := .val (.int .i64 n)
abbrev AV.b (b : Bool) : AV := .val (.bool b)
abbrev AV.s (s : ByteArray) : AV := .val (.string s)
abbrev Lf.i (n : Int) : Lf := .val (.int .i64 n)
abbrev Lf.s (s : ByteArray) : Lf := .val (.string s)
def G7 (n : Int) : Prop := 97 <= n /\ n <= 122 \/ 65 <= n /\ n <= 90
instance (n : Int) : Decidable (G7 n) := by unfold G7;exact inferInstance
def Ke (n : Int) : Prop := 48 <= n /\ n <= 57
instance (n : Int) : Decidable (Ke n) := by unfold Ke;exact inferInstance
def F5 (n : Int) : Prop := G7 n \/ Ke n \/ n = 95
instance (n : Int) : Decidable (F5 n) := by unfold F5;exact inferInstance
def Cu (s : ByteArray) : Nat := (s.data.toList.takeWhile fun c => decide (F5 c.toNat)).length
theorem Gv {α : Type} (p : α -> Bool) : ∀ (l : List α) (k : Nat) (c : α), k <= (l.takeWhile p).length -> l[k]? = some c -> if p c = true then k + 1 <= (l.takeWhile p).length else (l.takeWhile p).length = k
 | [], k, c, h, hc => by simp at hc
 | x :: l, 0, c, h, hc => by
  simp at hc
  subst hc
  by_cases hp : p x = true <;> simp [List.takeWhile, hp]
 | x :: l, k + 1, c, h, hc => by
  by_cases hp : p x = true
  ·simp only [List.takeWhile, hp, List.length_cons] at h ⊢
   have := Gv p l k c (by omega) (by simpa using hc)
   split at this <;> rename_i h2
   ·rw [if_pos h2];omega
   ·rw [if_neg h2];omega
  ·simp [List.takeWhile, hp] at h
theorem Mc (s : ByteArray) : Cu s <= s.size := by
 have key : ∀ l : List UInt8, (l.takeWhile fun c => decide (F5 c.toNat)).length <= l.length := fun l => by
  induction l with
  | nil => exact Nat.le_refl _
  | cons c l ih =>
   rw [List.takeWhile]
   split
   ·simp only [List.length_cons];omega
   ·exact Nat.zero_le _
 have := key s.data.toList
 rw [Array.length_toList] at this
 exact this
theorem Iv {s : ByteArray} {k : Nat} (h : k < s.size) : ∃ c, s[k]? = some c /\ s.data.toList[k]? = some c := by
 have h' : k < s.data.size := h
 refine ⟨s.data[k], ?_, by simp [h']⟩
 show (if hh : k < s.size then some s[k] else none) = _
 rw [dif_pos h];rfl
set_option maxHeartbeats 4000000 in
theorem L9 (n : Int) : Fn0 Tryz.prog 114 [.val (.int .u8 n)] (.b (decide (G7 n))) := by
 refine Fn0.of Tryz.func114 Tryz.ntmps114 rfl rfl rfl ?_
 simp only [A0]
 repeat' (first | refine W ?_ | refine V ?_|(refine W2 ?_ ?_ <;> intro hc))
 all_goals exact A7 (by simp) Tryz.results114 rfl (by simp only [G7];simp [*];try omega)
set_option maxHeartbeats 4000000 in
theorem Uj (n : Int) : Fn0 Tryz.prog 176 [.val (.int .u8 n)] (.b (decide (Ke n))) := by
 refine Fn0.of Tryz.func176 Tryz.ntmps176 rfl rfl rfl ?_
 simp only [A0]
 repeat' (first | refine W ?_ | refine V ?_|(refine W2 ?_ ?_ <;> intro hc))
 all_goals exact A7 (by simp) Tryz.results176 rfl (by simp only [Ke];simp [*];try omega)
theorem Iu {s : ByteArray} {k : Nat} {c : UInt8} (hk : k <= Cu s) (hc : s.data.toList[k]? = some c) : if F5 c.toNat then k + 1 <= Cu s else Cu s = k := by
 have := Gv (fun c : UInt8 => decide (F5 c.toNat)) s.data.toList k c hk hc
 simp only [decide_eq_true_eq] at this
 exact this
set_option maxHeartbeats 4000000 in
theorem X9 (s : ByteArray) (hs : s.size <= 9223372036854775807) : Fn0 Tryz.prog 115 [.s s] (.i (Cu s)) := by
 refine Fn0.of Tryz.func115 Tryz.ntmps115 rfl rfl rfl ?_
 simp only [A0]
 repeat' (first | refine W ?_ | refine V ?_|(refine W2 ?_ ?_ <;> intro hc))
 refine T.loopS (fun k => k <= Cu s) (fun k => s.size - k) (fun k => [(3, .i k), (0, .s s)]) (fun _ => []) 0 (by omega) CV .nil ?_
 intro k hk
 have hle := Mc s
 by_cases hlt : k < s.size
 ·have h1 : (k : Int) < s.size := by omega
  obtain ⟨c, hc, hc2⟩ := Iv hlt
  have hn := Iu hk hc2
  have hb : s[((k : Nat) : Int).toNat]? = some c := hc
  repeat' (first | refine W ?_|(apply S.byteAt;(iterate 3 exact rfl);omega;exact hb)|refine Zc (L9 _) ?_|refine Zc (Uj _) ?_|refine Za ?_ | refine V ?_|(refine W2 ?_ ?_ <;> intro hc))
  all_goals first
   | exact Next.go (k + 1) (by rw [if_pos (by simp [F5, *])] at hn;exact hn) (by omega) CV .nil
   | exact A7 (by simp) Tryz.results115 rfl (by rw [if_neg (by simp [F5, *])] at hn;rw [hn])
 ·have h1 : ¬ (k : Int) < s.size := by omega
  repeat' (first | refine W ?_ | refine V ?_|(refine W2 ?_ ?_ <;> intro hc))
  exact A7 (by simp) Tryz.results115 rfl (by rw [show Cu s = k by omega])
def idx {α : Type} (p : α -> Prop) [DecidablePred p] : List α -> Int
 | [] => -1
 | x :: l => if p x then 0 else (if idx p l = -1 then -1 else idx p l + 1)
theorem Fk {α : Type} (p : α -> Prop) [DecidablePred p] : ∀ l : List α, -1 <= idx p l
 | [] => by simp [idx]
 | x :: l => by
  have := Fk p l
  rw [idx];split
  ·omega
  ·split <;> omega
theorem Cj {α : Type} {p : α -> Prop} [DecidablePred p] : ∀ {l : List α}, (∀ x ∈ l, ¬ p x) -> idx p l = -1
 | [], _ => rfl
 | x :: l, h => by
  rw [idx, if_neg (h x (by simp)), if_pos (Cj fun y hy => h y (by simp [hy]))]
theorem Du {α : Type} {p : α -> Prop} [DecidablePred p] : ∀ {l : List α} {k : Nat} {x : α}, l[k]? = some x -> (∀ y ∈ l.take k, ¬ p y) -> p x -> idx p l = k
 | [], k, x, h, _, _ => by simp at h
 | y :: l, 0, x, h, _, hp => by
  simp at h
  subst h
  rw [idx, if_pos hp];rfl
 | y :: l, k + 1, x, h, hn, hp => by
  have ih := Du (l := l) (k := k) (x := x) (by simpa using h) (fun z hz => hn z (by simp [hz])) hp
  rw [idx, if_neg (hn y (by simp)), ih, if_neg (by omega)]
  omega
theorem Pi {α : Type} {p : α -> Prop} [DecidablePred p] : ∀ {l : List α}, (∃ x ∈ l, p x) -> ¬ idx p l = -1
 | [], h => by obtain ⟨x, hx, _⟩ := h;simp at hx
 | y :: l, h => by
  have hge := Fk p l
  rw [idx]
  by_cases hy : p y
  ·rw [if_pos hy];omega
  ·rw [if_neg hy]
   have := Pi (p := p) (l := l) (by
    obtain ⟨x, hx, hp⟩ := h
    rcases List.mem_cons.1 hx with rfl | hx
    ·exact absurd hp hy
    ·exact ⟨x, hx, hp⟩)
   rw [if_neg this];omega
theorem Ie {α : Type} (p : α -> Prop) [DecidablePred p] (l : List α) : decide (0 <= idx p l) = decide (∃ x ∈ l, p x) := by
 by_cases h : ∃ x ∈ l, p x
 ·have : ¬ idx p l = -1 := Pi h
  have := Fk p l
  rw [decide_eq_true h, decide_eq_true (by omega)]
 ·have := Cj (p := p) (l := l) fun x hx hp => h ⟨x, hx, hp⟩
  rw [decide_eq_false h, this];rfl
def AV.cap : AV -> Bool
 | .lf _ => true
 | .rop _ => true
 | _ => false
theorem As {caps : List AV} {n : Nat} {f : Fn} (h : caps.all AV.cap = true) : (AV.fn f [] caps).under n = true := by
 simp only [AV.under, List.all_nil, Bool.true_and]
 exact List.all_eq_true.2 fun x hx => by
  have := List.all_eq_true.1 h x hx
  cases x <;> first | rfl | cases this
theorem Gh {l : List (List Lf)} {caps : List AV} {f : Fn} (h : caps.all AV.cap = true) : ([AV.sl l, .fn f [] caps] : List AV).all AV.tree = true := by
 simp only [List.all_cons, AV.tree, List.all_nil, Bool.true_and, Bool.and_true]
 exact List.all_eq_true.2 fun x hx => by
  have := List.all_eq_true.1 h x hx
  cases x <;> first | rfl | cases this
theorem Cy {row : List Lf} {caps : List AV} (h : caps.all AV.cap = true) : ([AV.agg (row.map .lf)] ++ caps).all AV.tree = true := by
 rw [List.all_append, Bool.and_eq_true]
 refine ⟨by rw [List.all_cons, Yo];rfl, List.all_eq_true.2 fun x hx => ?_⟩
 have := List.all_eq_true.1 h x hx
 cases x <;> first | rfl | cases this
set_option maxHeartbeats 4000000 in
theorem Pj {α : Type} (l : List α) (R : α -> List Lf) (p : α -> Prop) [DecidablePred p] (g : FuncId) (caps : List AV) (hR : ∀ x, (R x).length = 13) (hl : l.length <= 9223372036854775807) (hcaps : caps.all AV.cap = true) (hg : ∀ x ∈ l, Fn0 Tryz.prog g (.agg ((R x).map .lf) :: caps) (.b (decide (p x)))) :
  Fn0 Tryz.prog 159 [.sl (l.map R), .fn (.func g) [] caps] (.i (idx p l)) := by
 refine Fn0.of Tryz.func159 Tryz.ntmps159 rfl rfl rfl ?_
 simp only [A0]
 repeat' (first | refine W ?_ | refine V ?_|(refine W2 ?_ ?_ <;> intro hc))
 refine T.loopS (fun k => k <= l.length /\ ∀ x ∈ l.take k, ¬ p x) (fun k => l.length - k) (fun k => [(8, .i k), (7, .i (l.map R).length), (0, .sl (l.map R)), (1, .fn (.func g) [] caps)]) (fun _ => []) 0 ⟨Nat.zero_le _, by simp⟩ (.cons rfl rfl (.cons rfl rfl (.cons rfl rfl (.cons rfl (As hcaps) .nil)))) .nil ?_
 rintro k ⟨hk, hno⟩
 have hle : (l.map R).length = l.length := List.length_map _
 by_cases hlt : k < l.length
 ·have h1 : (k : Int) < ((l.map R).length : Nat) := by omega
  obtain ⟨x, hx⟩ : ∃ x, l[k]? = some x := ⟨l[k], List.getElem?_eq_getElem hlt⟩
  have hb : (l.map R)[((k : Nat) : Int).toNat]? = some (R x) := by rw [Int.toNat_natCast, List.getElem?_map, hx];rfl
  have hx2 := hg x (List.mem_of_getElem? hx)
  repeat' (first | refine W ?_|(apply S.indexR;(iterate 3 exact rfl);exact hb;omega;exact hR x)|(apply S.loadRW;(iterate 3 exact rfl);exact hR x)|(apply S.callF;exact rfl;exact rfl;exact hx2;exact Cy hcaps;exact rfl)|refine Za ?_ | refine V ?_|(refine W2 ?_ ?_ <;> intro hc))
  all_goals first
   | exact Next.go (k + 1) ⟨by omega, by rw [List.take_add_one, hx];intro y hy;rcases List.mem_append.1 hy with hy | hy;exact hno y hy;obtain rfl : y = x := (by simpa using hy);assumption⟩ (by omega) (.cons rfl rfl (.cons rfl rfl (.cons rfl rfl (.cons rfl (As hcaps) .nil)))) .nil
   | exact A7 (by simp) Tryz.results159 rfl (by rw [Du hx hno (by assumption)])
 ·have h1 : ¬ (k : Int) < ((l.map R).length : Nat) := by omega
  repeat' (first | refine W ?_ | refine V ?_|(refine W2 ?_ ?_ <;> intro hc))
  exact A7 (by simp) Tryz.results159 rfl (by rw [Cj (by rw [List.take_of_length_le (by omega)] at hno;exact hno)])
set_option maxHeartbeats 4000000 in
theorem Og {α : Type} (l : List α) (R : α -> List Lf) (p : α -> Prop) [DecidablePred p] (g : FuncId) (caps : List AV) (hR : ∀ x, (R x).length = 4) (hl : l.length <= 9223372036854775807) (hcaps : caps.all AV.cap = true) (hg : ∀ x ∈ l, Fn0 Tryz.prog g (.agg ((R x).map .lf) :: caps) (.b (decide (p x)))) :
  Fn0 Tryz.prog 221 [.sl (l.map R), .fn (.func g) [] caps] (.i (idx p l)) := by
 refine Fn0.of Tryz.func221 Tryz.ntmps221 rfl rfl rfl ?_
 simp only [A0]
 repeat' (first | refine W ?_ | refine V ?_|(refine W2 ?_ ?_ <;> intro hc))
 refine T.loopS (fun k => k <= l.length /\ ∀ x ∈ l.take k, ¬ p x) (fun k => l.length - k) (fun k => [(8, .i k), (7, .i (l.map R).length), (0, .sl (l.map R)), (1, .fn (.func g) [] caps)]) (fun _ => []) 0 ⟨Nat.zero_le _, by simp⟩ (.cons rfl rfl (.cons rfl rfl (.cons rfl rfl (.cons rfl (As hcaps) .nil)))) .nil ?_
 rintro k ⟨hk, hno⟩
 have hle : (l.map R).length = l.length := List.length_map _
 by_cases hlt : k < l.length
 ·have h1 : (k : Int) < ((l.map R).length : Nat) := by omega
  obtain ⟨x, hx⟩ : ∃ x, l[k]? = some x := ⟨l[k], List.getElem?_eq_getElem hlt⟩
  have hb : (l.map R)[((k : Nat) : Int).toNat]? = some (R x) := by rw [Int.toNat_natCast, List.getElem?_map, hx];rfl
  have hx2 := hg x (List.mem_of_getElem? hx)
  repeat' (first | refine W ?_|(apply S.indexR;(iterate 3 exact rfl);exact hb;omega;exact hR x)|(apply S.loadRW;(iterate 3 exact rfl);exact hR x)|(apply S.callF;exact rfl;exact rfl;exact hx2;exact Cy hcaps;exact rfl)|refine Za ?_ | refine V ?_|(refine W2 ?_ ?_ <;> intro hc))
  all_goals first
   | exact Next.go (k + 1) ⟨by omega, by rw [List.take_add_one, hx];intro y hy;rcases List.mem_append.1 hy with hy | hy;exact hno y hy;obtain rfl : y = x := (by simpa using hy);assumption⟩ (by omega) (.cons rfl rfl (.cons rfl rfl (.cons rfl rfl (.cons rfl (As hcaps) .nil)))) .nil
   | exact A7 (by simp) Tryz.results221 rfl (by rw [Du hx hno (by assumption)])
 ·have h1 : ¬ (k : Int) < ((l.map R).length : Nat) := by omega
  repeat' (first | refine W ?_ | refine V ?_|(refine W2 ?_ ?_ <;> intro hc))
  exact A7 (by simp) Tryz.results221 rfl (by rw [Cj (by rw [List.take_of_length_le (by omega)] at hno;exact hno)])
set_option maxHeartbeats 4000000 in
theorem Oe {α : Type} (l : List α) (R : α -> List Lf) (p : α -> Prop) [DecidablePred p] (g : FuncId) (caps : List AV) (hR : ∀ x, (R x).length = 7) (hl : l.length <= 9223372036854775807) (hcaps : caps.all AV.cap = true) (hg : ∀ x ∈ l, Fn0 Tryz.prog g (.agg ((R x).map .lf) :: caps) (.b (decide (p x)))) :
  Fn0 Tryz.prog 257 [.sl (l.map R), .fn (.func g) [] caps] (.i (idx p l)) := by
 refine Fn0.of Tryz.func257 Tryz.ntmps257 rfl rfl rfl ?_
 simp only [A0]
 repeat' (first | refine W ?_ | refine V ?_|(refine W2 ?_ ?_ <;> intro hc))
 refine T.loopS (fun k => k <= l.length /\ ∀ x ∈ l.take k, ¬ p x) (fun k => l.length - k) (fun k => [(8, .i k), (7, .i (l.map R).length), (0, .sl (l.map R)), (1, .fn (.func g) [] caps)]) (fun _ => []) 0 ⟨Nat.zero_le _, by simp⟩ (.cons rfl rfl (.cons rfl rfl (.cons rfl rfl (.cons rfl (As hcaps) .nil)))) .nil ?_
 rintro k ⟨hk, hno⟩
 have hle : (l.map R).length = l.length := List.length_map _
 by_cases hlt : k < l.length
 ·have h1 : (k : Int) < ((l.map R).length : Nat) := by omega
  obtain ⟨x, hx⟩ : ∃ x, l[k]? = some x := ⟨l[k], List.getElem?_eq_getElem hlt⟩
  have hb : (l.map R)[((k : Nat) : Int).toNat]? = some (R x) := by rw [Int.toNat_natCast, List.getElem?_map, hx];rfl
  have hx2 := hg x (List.mem_of_getElem? hx)
  repeat' (first | refine W ?_|(apply S.indexR;(iterate 3 exact rfl);exact hb;omega;exact hR x)|(apply S.loadRW;(iterate 3 exact rfl);exact hR x)|(apply S.callF;exact rfl;exact rfl;exact hx2;exact Cy hcaps;exact rfl)|refine Za ?_ | refine V ?_|(refine W2 ?_ ?_ <;> intro hc))
  all_goals first
   | exact Next.go (k + 1) ⟨by omega, by rw [List.take_add_one, hx];intro y hy;rcases List.mem_append.1 hy with hy | hy;exact hno y hy;obtain rfl : y = x := (by simpa using hy);assumption⟩ (by omega) (.cons rfl rfl (.cons rfl rfl (.cons rfl rfl (.cons rfl (As hcaps) .nil)))) .nil
   | exact A7 (by simp) Tryz.results257 rfl (by rw [Du hx hno (by assumption)])
 ·have h1 : ¬ (k : Int) < ((l.map R).length : Nat) := by omega
  repeat' (first | refine W ?_ | refine V ?_|(refine W2 ?_ ?_ <;> intro hc))
  exact A7 (by simp) Tryz.results257 rfl (by rw [Cj (by rw [List.take_of_length_le (by omega)] at hno;exact hno)])
set_option maxHeartbeats 4000000 in
theorem Kb {α : Type} (l : List α) (R : α -> List Lf) (p : α -> Prop) [DecidablePred p] (g : FuncId) (caps : List AV) (hR : ∀ x, (R x).length = 4) (hl : l.length <= 9223372036854775807) (hcaps : caps.all AV.cap = true) (hg : ∀ x ∈ l, Fn0 Tryz.prog g (.agg ((R x).map .lf) :: caps) (.b (decide (p x)))) :
  Fn0 Tryz.prog 157 [.sl (l.map R), .fn (.func g) [] caps] (.b (decide (∃ x ∈ l, p x))) := by
 refine Fn0.of Tryz.func157 Tryz.ntmps157 rfl rfl rfl ?_
 simp only [A0]
 repeat' (first | refine W ?_|(apply S.call;exact rfl;exact Gh hcaps;exact Og l R p g caps hR hl hcaps hg;exact rfl) | refine V ?_|(refine W2 ?_ ?_ <;> intro hc))
 all_goals exact A7 (by simp) Tryz.results157 rfl (by rw [Ie p l])
set_option maxHeartbeats 4000000 in
theorem Jz {α : Type} (l : List α) (R : α -> List Lf) (p : α -> Prop) [DecidablePred p] (g : FuncId) (caps : List AV) (hR : ∀ x, (R x).length = 7) (hl : l.length <= 9223372036854775807) (hcaps : caps.all AV.cap = true) (hg : ∀ x ∈ l, Fn0 Tryz.prog g (.agg ((R x).map .lf) :: caps) (.b (decide (p x)))) :
  Fn0 Tryz.prog 214 [.sl (l.map R), .fn (.func g) [] caps] (.b (decide (∃ x ∈ l, p x))) := by
 refine Fn0.of Tryz.func214 Tryz.ntmps214 rfl rfl rfl ?_
 simp only [A0]
 repeat' (first | refine W ?_|(apply S.call;exact rfl;exact Gh hcaps;exact Oe l R p g caps hR hl hcaps hg;exact rfl) | refine V ?_|(refine W2 ?_ ?_ <;> intro hc))
 all_goals exact A7 (by simp) Tryz.results214 rfl (by rw [Ie p l])
end Go.Proofs.YtcfjofhapbkmfaaGreatDoor
