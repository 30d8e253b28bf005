/- Contracts of the functions that look at names: letters, digits, words. No conditions but those of each statement. -/
import Derived.Test.YtlapbaiejnaeiaaGreatDoorMt
import Derived.Test.YtlapbaiejnaeiaaGreatDoorMb
set_option linter.unusedSimpArgs false
set_option linter.unusedVariables false
namespace Go.Proofs.YtlapbaiejnaeiaaGreatDoor
open Go.RowKit
abbrev AV.i (n : Int) : AV := .val (.int .i64 n)
abbrev AV.b (b : Bool) : AV := .val (.bool b)
abbrev AV.s (s : ByteArray) : AV := .val (.string s)
abbrev Lf.i (n : Int) : Lf := .val (.int .i64 n)
abbrev Lf.s (s : ByteArray) : Lf := .val (.string s)
def Fz (n : Int) : Prop := 97 <= n /\ n <= 122 \/ 65 <= n /\ n <= 90
instance (n : Int) : Decidable (Fz n) := by unfold Fz;exact inferInstance
def K5 (n : Int) : Prop := 48 <= n /\ n <= 57
instance (n : Int) : Decidable (K5 n) := by unfold K5;exact inferInstance
def Cv (n : Int) : Prop := Fz n \/ K5 n \/ n = 95
instance (n : Int) : Decidable (Cv n) := by unfold Cv;exact inferInstance
def Bo (s : ByteArray) : Nat := (s.data.toList.takeWhile fun c => decide (Cv c.toNat)).length
theorem Gv {α : Type} (p : α -> Bool) : ∀ (l : List α) (k : Nat) (c : α), k <= (l.takeWhile p).length -> l[k]? = some c -> if p c = true then k + 1 <= (l.takeWhile p).length else (l.takeWhile p).length = k
 | [], k, c, h, hc => by simp at hc
 | x :: l, 0, c, h, hc => by
  simp at hc
  subst hc
  by_cases hp : p x = true <;> simp [List.takeWhile, hp]
 | x :: l, k + 1, c, h, hc => by
  by_cases hp : p x = true
  ·simp only [List.takeWhile, hp, List.length_cons] at h ⊢
   have := Gv p l k c (by omega) (by simpa using hc)
   split at this <;> rename_i h2
   ·rw [if_pos h2];omega
   ·rw [if_neg h2];omega
  ·simp [List.takeWhile, hp] at h
theorem Lp (s : ByteArray) : Bo s <= s.size := by
 have key : ∀ l : List UInt8, (l.takeWhile fun c => decide (Cv c.toNat)).length <= l.length := fun l => by
  induction l with
  | nil => exact Nat.le_refl _
  | cons c l ih =>
   rw [List.takeWhile]
   split
   ·simp only [List.length_cons];omega
   ·exact Nat.zero_le _
 have := key s.data.toList
 rw [Array.length_toList] at this
 exact this
theorem F8 {s : ByteArray} {k : Nat} (h : k < s.size) : ∃ c, s[k]? = some c /\ s.data.toList[k]? = some c := by
 have h' : k < s.data.size := h
 refine ⟨s.data[k], ?_, by simp [h']⟩
 show (if hh : k < s.size then some s[k] else none) = _
 rw [dif_pos h];rfl
set_option maxHeartbeats 4000000 in
theorem Er (n lo hi : Int) : Fn0 Tryz.prog 217 [.i n, .i lo, .i hi] (.b (decide (lo <= n /\ n <= hi))) := by
 refine Fn0.of Tryz.func217 Tryz.ntmps217 rfl rfl rfl ?_
 simp only [A0]
 repeat' (first | refine W ?_ | refine V ?_|(refine W2 ?_ ?_ <;> intro hc))
 all_goals exact A3 (by simp) Tryz.results217 rfl (by simp [*])
set_option maxHeartbeats 4000000 in
theorem Ks (n : Int) : Fn0 Tryz.prog 98 [.val (.int .u8 n)] (.b (decide (Fz n))) := by
 refine Fn0.of Tryz.func98 Tryz.ntmps98 rfl rfl rfl ?_
 simp only [A0]
 repeat' (first | refine W ?_ | refine V ?_|(refine W2 ?_ ?_ <;> intro hc))
 all_goals exact A3 (by simp) Tryz.results98 rfl (by simp only [Fz];simp [*];try omega)
set_option maxHeartbeats 4000000 in
theorem Tx (n : Int) : Fn0 Tryz.prog 149 [.val (.int .u8 n)] (.b (decide (K5 n))) := by
 refine Fn0.of Tryz.func149 Tryz.ntmps149 rfl rfl rfl ?_
 simp only [A0]
 repeat' (first | refine W ?_ | refine V ?_|(refine W2 ?_ ?_ <;> intro hc))
 all_goals exact A3 (by simp) Tryz.results149 rfl (by simp only [K5];simp [*];try omega)
theorem Iy {s : ByteArray} {k : Nat} {c : UInt8} (hk : k <= Bo s) (hc : s.data.toList[k]? = some c) : if Cv c.toNat then k + 1 <= Bo s else Bo s = k := by
 have := Gv (fun c : UInt8 => decide (Cv c.toNat)) s.data.toList k c hk hc
 simp only [decide_eq_true_eq] at this
 exact this
set_option maxHeartbeats 4000000 in
theorem W0 (s : ByteArray) (hs : s.size <= 9223372036854775807) : Fn0 Tryz.prog 99 [.s s] (.i (Bo s)) := by
 refine Fn0.of Tryz.func99 Tryz.ntmps99 rfl rfl rfl ?_
 simp only [A0]
 repeat' (first | refine W ?_ | refine V ?_|(refine W2 ?_ ?_ <;> intro hc))
 refine T.loopS (fun k => k <= Bo s) (fun k => s.size - k) (fun k => [(3, .i k), (0, .s s)]) (fun _ => []) 0 (by omega) CV .nil ?_
 intro k hk
 have hle := Lp s
 by_cases hlt : k < s.size
 ·have h1 : (k : Int) < s.size := by omega
  obtain ⟨c, hc, hc2⟩ := F8 hlt
  have hn := Iy hk hc2
  have hb : s[((k : Nat) : Int).toNat]? = some c := hc
  repeat' (first | refine W ?_|(apply S.byteAt;exact rfl;exact rfl;exact rfl;omega;exact hb)|refine Zc (Ks _) ?_|refine Zc (Tx _) ?_|refine Za ?_ | refine V ?_|(refine W2 ?_ ?_ <;> intro hc))
  all_goals first
   | exact Next.go (k + 1) (by rw [if_pos (by simp [Cv, *])] at hn;exact hn) (by omega) CV .nil
   | exact A3 (by simp) Tryz.results99 rfl (by rw [if_neg (by simp [Cv, *])] at hn;rw [hn])
 ·have h1 : ¬ (k : Int) < s.size := by omega
  repeat' (first | refine W ?_ | refine V ?_|(refine W2 ?_ ?_ <;> intro hc))
  exact A3 (by simp) Tryz.results99 rfl (by rw [show Bo s = k by omega])
def idx {α : Type} (p : α -> Prop) [DecidablePred p] : List α -> Int
 | [] => -1
 | x :: l => if p x then 0 else (if idx p l = -1 then -1 else idx p l + 1)
theorem E4 {α : Type} (p : α -> Prop) [DecidablePred p] : ∀ l : List α, -1 <= idx p l
 | [] => by simp [idx]
 | x :: l => by
  have := E4 p l
  rw [idx];split
  ·omega
  ·split <;> omega
theorem C3 {α : Type} {p : α -> Prop} [DecidablePred p] : ∀ {l : List α}, (∀ x ∈ l, ¬ p x) -> idx p l = -1
 | [], _ => rfl
 | x :: l, h => by
  rw [idx, if_neg (h x (by simp)), if_pos (C3 fun y hy => h y (by simp [hy]))]
theorem Df {α : Type} {p : α -> Prop} [DecidablePred p] : ∀ {l : List α} {k : Nat} {x : α}, l[k]? = some x -> (∀ y ∈ l.take k, ¬ p y) -> p x -> idx p l = k
 | [], k, x, h, _, _ => by simp at h
 | y :: l, 0, x, h, _, hp => by
  simp at h
  subst h
  rw [idx, if_pos hp];rfl
 | y :: l, k + 1, x, h, hn, hp => by
  have ih := Df (l := l) (k := k) (x := x) (by simpa using h) (fun z hz => hn z (by simp [hz])) hp
  rw [idx, if_neg (hn y (by simp)), ih, if_neg (by omega)]
  omega
theorem Ol {α : Type} (p : α -> Prop) [DecidablePred p] : ∀ l : List α, idx p l < l.length
 | [] => by simp [idx]
 | x :: l => by
  have := Ol p l
  rw [idx];simp only [List.length_cons]
  split
  ·omega
  ·split <;> omega
theorem Om {α : Type} {p : α -> Prop} [DecidablePred p] : ∀ {l : List α}, (∃ x ∈ l, p x) -> ¬ idx p l = -1
 | [], h => by obtain ⟨x, hx, _⟩ := h;simp at hx
 | y :: l, h => by
  have hge := E4 p l
  rw [idx]
  by_cases hy : p y
  ·rw [if_pos hy];omega
  ·rw [if_neg hy]
   have := Om (p := p) (l := l) (by
    obtain ⟨x, hx, hp⟩ := h
    rcases List.mem_cons.1 hx with rfl | hx
    ·exact absurd hp hy
    ·exact ⟨x, hx, hp⟩)
   rw [if_neg this];omega
theorem Fk {α : Type} (p : α -> Prop) [DecidablePred p] (l : List α) : decide (0 <= idx p l) = decide (∃ x ∈ l, p x) := by
 by_cases h : ∃ x ∈ l, p x
 ·have : ¬ idx p l = -1 := Om h
  have := E4 p l
  rw [decide_eq_true h, decide_eq_true (by omega)]
 ·have := C3 (p := p) (l := l) fun x hx hp => h ⟨x, hx, hp⟩
  rw [decide_eq_false h, this];rfl
def AV.cap : AV -> Bool
 | .lf _ => true
 | .rop _ => true
 | _ => false
theorem Ai {caps : List AV} {n : Nat} {f : Fn} (h : caps.all AV.cap = true) : (AV.fn f [] caps).under n = true := by
 simp only [AV.under, List.all_nil, Bool.true_and]
 exact List.all_eq_true.2 fun x hx => by
  have := List.all_eq_true.1 h x hx
  cases x <;> first | rfl | cases this
theorem Gg {l : List (List Lf)} {caps : List AV} {f : Fn} (h : caps.all AV.cap = true) : ([AV.sl l, .fn f [] caps] : List AV).all AV.tree = true := by
 simp only [List.all_cons, AV.tree, List.all_nil, Bool.true_and, Bool.and_true]
 exact List.all_eq_true.2 fun x hx => by
  have := List.all_eq_true.1 h x hx
  cases x <;> first | rfl | cases this
theorem Cd {row : List Lf} {caps : List AV} (h : caps.all AV.cap = true) : ([AV.agg (row.map .lf)] ++ caps).all AV.tree = true := by
 rw [List.all_append, Bool.and_eq_true]
 refine ⟨by rw [List.all_cons, Xc];rfl, List.all_eq_true.2 fun x hx => ?_⟩
 have := List.all_eq_true.1 h x hx
 cases x <;> first | rfl | cases this
set_option maxHeartbeats 4000000 in
theorem Ij {α : Type} (l : List α) (R : α -> List Lf) (p : α -> Prop) [DecidablePred p] (g : FuncId) (caps : List AV) (hR : ∀ x, (R x).length = 13) (hl : l.length <= 9223372036854775807) (hcaps : caps.all AV.cap = true) (hg : ∀ x ∈ l, Fn0 Tryz.prog g (.agg ((R x).map .lf) :: caps) (.b (decide (p x)))) :
  Fn0 Tryz.prog 88 [.sl (l.map R), .fn (.func g) [] caps] (.i (idx p l)) := by
 refine Fn0.of Tryz.func88 Tryz.ntmps88 rfl rfl rfl ?_
 simp only [A0]
 repeat' (first | refine W ?_ | refine V ?_|(refine W2 ?_ ?_ <;> intro hc))
 refine T.loopS (fun k => k <= l.length /\ ∀ x ∈ l.take k, ¬ p x) (fun k => l.length - k) (fun k => [(8, .i k), (7, .i (l.map R).length), (0, .sl (l.map R)), (1, .fn (.func g) [] caps)]) (fun _ => []) 0 ⟨Nat.zero_le _, by simp⟩ (.cons rfl rfl (.cons rfl rfl (.cons rfl rfl (.cons rfl (Ai hcaps) .nil)))) .nil ?_
 rintro k ⟨hk, hno⟩
 have hle : (l.map R).length = l.length := List.length_map _
 by_cases hlt : k < l.length
 ·have h1 : (k : Int) < ((l.map R).length : Nat) := by omega
  obtain ⟨x, hx⟩ : ∃ x, l[k]? = some x := ⟨l[k], List.getElem?_eq_getElem hlt⟩
  have hb : (l.map R)[((k : Nat) : Int).toNat]? = some (R x) := by rw [Int.toNat_natCast, List.getElem?_map, hx];rfl
  have hx2 := hg x (List.mem_of_getElem? hx)
  repeat' (first | refine W ?_|(apply S.indexR;exact rfl;exact rfl;exact rfl;exact hb;omega;exact hR x)|(apply S.loadRW;exact rfl;exact rfl;exact rfl;exact hR x)|(apply S.callF;exact rfl;exact rfl;exact hx2;exact Cd hcaps;exact rfl)|refine Za ?_ | refine V ?_|(refine W2 ?_ ?_ <;> intro hc))
  all_goals first
   | exact Next.go (k + 1) ⟨by omega, by rw [List.take_add_one, hx];intro y hy;rcases List.mem_append.1 hy with hy | hy;exact hno y hy;obtain rfl : y = x := (by simpa using hy);assumption⟩ (by omega) (.cons rfl rfl (.cons rfl rfl (.cons rfl rfl (.cons rfl (Ai hcaps) .nil)))) .nil
   | exact A3 (by simp) Tryz.results88 rfl (by rw [Df hx hno (by assumption)])
 ·have h1 : ¬ (k : Int) < ((l.map R).length : Nat) := by omega
  repeat' (first | refine W ?_ | refine V ?_|(refine W2 ?_ ?_ <;> intro hc))
  exact A3 (by simp) Tryz.results88 rfl (by rw [C3 (by rw [List.take_of_length_le (by omega)] at hno;exact hno)])
set_option maxHeartbeats 4000000 in
theorem Nk {α : Type} (l : List α) (R : α -> List Lf) (p : α -> Prop) [DecidablePred p] (g : FuncId) (caps : List AV) (hR : ∀ x, (R x).length = 5) (hl : l.length <= 9223372036854775807) (hcaps : caps.all AV.cap = true) (hg : ∀ x ∈ l, Fn0 Tryz.prog g (.agg ((R x).map .lf) :: caps) (.b (decide (p x)))) :
  Fn0 Tryz.prog 173 [.sl (l.map R), .fn (.func g) [] caps] (.i (idx p l)) := by
 refine Fn0.of Tryz.func173 Tryz.ntmps173 rfl rfl rfl ?_
 simp only [A0]
 repeat' (first | refine W ?_ | refine V ?_|(refine W2 ?_ ?_ <;> intro hc))
 refine T.loopS (fun k => k <= l.length /\ ∀ x ∈ l.take k, ¬ p x) (fun k => l.length - k) (fun k => [(8, .i k), (7, .i (l.map R).length), (0, .sl (l.map R)), (1, .fn (.func g) [] caps)]) (fun _ => []) 0 ⟨Nat.zero_le _, by simp⟩ (.cons rfl rfl (.cons rfl rfl (.cons rfl rfl (.cons rfl (Ai hcaps) .nil)))) .nil ?_
 rintro k ⟨hk, hno⟩
 have hle : (l.map R).length = l.length := List.length_map _
 by_cases hlt : k < l.length
 ·have h1 : (k : Int) < ((l.map R).length : Nat) := by omega
  obtain ⟨x, hx⟩ : ∃ x, l[k]? = some x := ⟨l[k], List.getElem?_eq_getElem hlt⟩
  have hb : (l.map R)[((k : Nat) : Int).toNat]? = some (R x) := by rw [Int.toNat_natCast, List.getElem?_map, hx];rfl
  have hx2 := hg x (List.mem_of_getElem? hx)
  repeat' (first | refine W ?_|(apply S.indexR;exact rfl;exact rfl;exact rfl;exact hb;omega;exact hR x)|(apply S.loadRW;exact rfl;exact rfl;exact rfl;exact hR x)|(apply S.callF;exact rfl;exact rfl;exact hx2;exact Cd hcaps;exact rfl)|refine Za ?_ | refine V ?_|(refine W2 ?_ ?_ <;> intro hc))
  all_goals first
   | exact Next.go (k + 1) ⟨by omega, by rw [List.take_add_one, hx];intro y hy;rcases List.mem_append.1 hy with hy | hy;exact hno y hy;obtain rfl : y = x := (by simpa using hy);assumption⟩ (by omega) (.cons rfl rfl (.cons rfl rfl (.cons rfl rfl (.cons rfl (Ai hcaps) .nil)))) .nil
   | exact A3 (by simp) Tryz.results173 rfl (by rw [Df hx hno (by assumption)])
 ·have h1 : ¬ (k : Int) < ((l.map R).length : Nat) := by omega
  repeat' (first | refine W ?_ | refine V ?_|(refine W2 ?_ ?_ <;> intro hc))
  exact A3 (by simp) Tryz.results173 rfl (by rw [C3 (by rw [List.take_of_length_le (by omega)] at hno;exact hno)])
set_option maxHeartbeats 4000000 in
theorem Ii {α : Type} (l : List α) (R : α -> List Lf) (p : α -> Prop) [DecidablePred p] (g : FuncId) (caps : List AV) (hR : ∀ x, (R x).length = 7) (hl : l.length <= 9223372036854775807) (hcaps : caps.all AV.cap = true) (hg : ∀ x ∈ l, Fn0 Tryz.prog g (.agg ((R x).map .lf) :: caps) (.b (decide (p x)))) :
  Fn0 Tryz.prog 224 [.sl (l.map R), .fn (.func g) [] caps] (.i (idx p l)) := by
 refine Fn0.of Tryz.func224 Tryz.ntmps224 rfl rfl rfl ?_
 simp only [A0]
 repeat' (first | refine W ?_ | refine V ?_|(refine W2 ?_ ?_ <;> intro hc))
 refine T.loopS (fun k => k <= l.length /\ ∀ x ∈ l.take k, ¬ p x) (fun k => l.length - k) (fun k => [(8, .i k), (7, .i (l.map R).length), (0, .sl (l.map R)), (1, .fn (.func g) [] caps)]) (fun _ => []) 0 ⟨Nat.zero_le _, by simp⟩ (.cons rfl rfl (.cons rfl rfl (.cons rfl rfl (.cons rfl (Ai hcaps) .nil)))) .nil ?_
 rintro k ⟨hk, hno⟩
 have hle : (l.map R).length = l.length := List.length_map _
 by_cases hlt : k < l.length
 ·have h1 : (k : Int) < ((l.map R).length : Nat) := by omega
  obtain ⟨x, hx⟩ : ∃ x, l[k]? = some x := ⟨l[k], List.getElem?_eq_getElem hlt⟩
  have hb : (l.map R)[((k : Nat) : Int).toNat]? = some (R x) := by rw [Int.toNat_natCast, List.getElem?_map, hx];rfl
  have hx2 := hg x (List.mem_of_getElem? hx)
  repeat' (first | refine W ?_|(apply S.indexR;exact rfl;exact rfl;exact rfl;exact hb;omega;exact hR x)|(apply S.loadRW;exact rfl;exact rfl;exact rfl;exact hR x)|(apply S.callF;exact rfl;exact rfl;exact hx2;exact Cd hcaps;exact rfl)|refine Za ?_ | refine V ?_|(refine W2 ?_ ?_ <;> intro hc))
  all_goals first
   | exact Next.go (k + 1) ⟨by omega, by rw [List.take_add_one, hx];intro y hy;rcases List.mem_append.1 hy with hy | hy;exact hno y hy;obtain rfl : y = x := (by simpa using hy);assumption⟩ (by omega) (.cons rfl rfl (.cons rfl rfl (.cons rfl rfl (.cons rfl (Ai hcaps) .nil)))) .nil
   | exact A3 (by simp) Tryz.results224 rfl (by rw [Df hx hno (by assumption)])
 ·have h1 : ¬ (k : Int) < ((l.map R).length : Nat) := by omega
  repeat' (first | refine W ?_ | refine V ?_|(refine W2 ?_ ?_ <;> intro hc))
  exact A3 (by simp) Tryz.results224 rfl (by rw [C3 (by rw [List.take_of_length_le (by omega)] at hno;exact hno)])
set_option maxHeartbeats 4000000 in
theorem Nl {α : Type} (l : List α) (R : α -> List Lf) (p : α -> Prop) [DecidablePred p] (g : FuncId) (caps : List AV) (hR : ∀ x, (R x).length = 4) (hl : l.length <= 9223372036854775807) (hcaps : caps.all AV.cap = true) (hg : ∀ x ∈ l, Fn0 Tryz.prog g (.agg ((R x).map .lf) :: caps) (.b (decide (p x)))) :
  Fn0 Tryz.prog 226 [.sl (l.map R), .fn (.func g) [] caps] (.i (idx p l)) := by
 refine Fn0.of Tryz.func226 Tryz.ntmps226 rfl rfl rfl ?_
 simp only [A0]
 repeat' (first | refine W ?_ | refine V ?_|(refine W2 ?_ ?_ <;> intro hc))
 refine T.loopS (fun k => k <= l.length /\ ∀ x ∈ l.take k, ¬ p x) (fun k => l.length - k) (fun k => [(8, .i k), (7, .i (l.map R).length), (0, .sl (l.map R)), (1, .fn (.func g) [] caps)]) (fun _ => []) 0 ⟨Nat.zero_le _, by simp⟩ (.cons rfl rfl (.cons rfl rfl (.cons rfl rfl (.cons rfl (Ai hcaps) .nil)))) .nil ?_
 rintro k ⟨hk, hno⟩
 have hle : (l.map R).length = l.length := List.length_map _
 by_cases hlt : k < l.length
 ·have h1 : (k : Int) < ((l.map R).length : Nat) := by omega
  obtain ⟨x, hx⟩ : ∃ x, l[k]? = some x := ⟨l[k], List.getElem?_eq_getElem hlt⟩
  have hb : (l.map R)[((k : Nat) : Int).toNat]? = some (R x) := by rw [Int.toNat_natCast, List.getElem?_map, hx];rfl
  have hx2 := hg x (List.mem_of_getElem? hx)
  repeat' (first | refine W ?_|(apply S.indexR;exact rfl;exact rfl;exact rfl;exact hb;omega;exact hR x)|(apply S.loadRW;exact rfl;exact rfl;exact rfl;exact hR x)|(apply S.callF;exact rfl;exact rfl;exact hx2;exact Cd hcaps;exact rfl)|refine Za ?_ | refine V ?_|(refine W2 ?_ ?_ <;> intro hc))
  all_goals first
   | exact Next.go (k + 1) ⟨by omega, by rw [List.take_add_one, hx];intro y hy;rcases List.mem_append.1 hy with hy | hy;exact hno y hy;obtain rfl : y = x := (by simpa using hy);assumption⟩ (by omega) (.cons rfl rfl (.cons rfl rfl (.cons rfl rfl (.cons rfl (Ai hcaps) .nil)))) .nil
   | exact A3 (by simp) Tryz.results226 rfl (by rw [Df hx hno (by assumption)])
 ·have h1 : ¬ (k : Int) < ((l.map R).length : Nat) := by omega
  repeat' (first | refine W ?_ | refine V ?_|(refine W2 ?_ ?_ <;> intro hc))
  exact A3 (by simp) Tryz.results226 rfl (by rw [C3 (by rw [List.take_of_length_le (by omega)] at hno;exact hno)])
set_option maxHeartbeats 4000000 in
theorem Nj {α : Type} (l : List α) (R : α -> List Lf) (p : α -> Prop) [DecidablePred p] (g : FuncId) (caps : List AV) (hR : ∀ x, (R x).length = 7) (hl : l.length <= 9223372036854775807) (hcaps : caps.all AV.cap = true) (hg : ∀ x ∈ l, Fn0 Tryz.prog g (.agg ((R x).map .lf) :: caps) (.b (decide (p x)))) :
  Fn0 Tryz.prog 229 [.sl (l.map R), .fn (.func g) [] caps] (.i (idx p l)) := by
 refine Fn0.of Tryz.func229 Tryz.ntmps229 rfl rfl rfl ?_
 simp only [A0]
 repeat' (first | refine W ?_ | refine V ?_|(refine W2 ?_ ?_ <;> intro hc))
 refine T.loopS (fun k => k <= l.length /\ ∀ x ∈ l.take k, ¬ p x) (fun k => l.length - k) (fun k => [(8, .i k), (7, .i (l.map R).length), (0, .sl (l.map R)), (1, .fn (.func g) [] caps)]) (fun _ => []) 0 ⟨Nat.zero_le _, by simp⟩ (.cons rfl rfl (.cons rfl rfl (.cons rfl rfl (.cons rfl (Ai hcaps) .nil)))) .nil ?_
 rintro k ⟨hk, hno⟩
 have hle : (l.map R).length = l.length := List.length_map _
 by_cases hlt : k < l.length
 ·have h1 : (k : Int) < ((l.map R).length : Nat) := by omega
  obtain ⟨x, hx⟩ : ∃ x, l[k]? = some x := ⟨l[k], List.getElem?_eq_getElem hlt⟩
  have hb : (l.map R)[((k : Nat) : Int).toNat]? = some (R x) := by rw [Int.toNat_natCast, List.getElem?_map, hx];rfl
  have hx2 := hg x (List.mem_of_getElem? hx)
  repeat' (first | refine W ?_|(apply S.indexR;exact rfl;exact rfl;exact rfl;exact hb;omega;exact hR x)|(apply S.loadRW;exact rfl;exact rfl;exact rfl;exact hR x)|(apply S.callF;exact rfl;exact rfl;exact hx2;exact Cd hcaps;exact rfl)|refine Za ?_ | refine V ?_|(refine W2 ?_ ?_ <;> intro hc))
  all_goals first
   | exact Next.go (k + 1) ⟨by omega, by rw [List.take_add_one, hx];intro y hy;rcases List.mem_append.1 hy with hy | hy;exact hno y hy;obtain rfl : y = x := (by simpa using hy);assumption⟩ (by omega) (.cons rfl rfl (.cons rfl rfl (.cons rfl rfl (.cons rfl (Ai hcaps) .nil)))) .nil
   | exact A3 (by simp) Tryz.results229 rfl (by rw [Df hx hno (by assumption)])
 ·have h1 : ¬ (k : Int) < ((l.map R).length : Nat) := by omega
  repeat' (first | refine W ?_ | refine V ?_|(refine W2 ?_ ?_ <;> intro hc))
  exact A3 (by simp) Tryz.results229 rfl (by rw [C3 (by rw [List.take_of_length_le (by omega)] at hno;exact hno)])
set_option maxHeartbeats 4000000 in
theorem K3 {α : Type} (l : List α) (R : α -> List Lf) (p : α -> Prop) [DecidablePred p] (g : FuncId) (caps : List AV) (hR : ∀ x, (R x).length = 5) (hl : l.length <= 9223372036854775807) (hcaps : caps.all AV.cap = true) (hg : ∀ x ∈ l, Fn0 Tryz.prog g (.agg ((R x).map .lf) :: caps) (.b (decide (p x)))) :
  Fn0 Tryz.prog 244 [.sl (l.map R), .fn (.func g) [] caps] (.b (decide (∃ x ∈ l, p x))) := by
 refine Fn0.of Tryz.func244 Tryz.ntmps244 rfl rfl rfl ?_
 simp only [A0]
 repeat' (first | refine W ?_|(apply S.call;exact rfl;exact Gg hcaps;exact Nk l R p g caps hR hl hcaps hg;exact rfl) | refine V ?_|(refine W2 ?_ ?_ <;> intro hc))
 all_goals exact A3 (by simp) Tryz.results244 rfl (by rw [Fk p l])
set_option maxHeartbeats 4000000 in
theorem K4 {α : Type} (l : List α) (R : α -> List Lf) (p : α -> Prop) [DecidablePred p] (g : FuncId) (caps : List AV) (hR : ∀ x, (R x).length = 4) (hl : l.length <= 9223372036854775807) (hcaps : caps.all AV.cap = true) (hg : ∀ x ∈ l, Fn0 Tryz.prog g (.agg ((R x).map .lf) :: caps) (.b (decide (p x)))) :
  Fn0 Tryz.prog 171 [.sl (l.map R), .fn (.func g) [] caps] (.b (decide (∃ x ∈ l, p x))) := by
 refine Fn0.of Tryz.func171 Tryz.ntmps171 rfl rfl rfl ?_
 simp only [A0]
 repeat' (first | refine W ?_|(apply S.call;exact rfl;exact Gg hcaps;exact Nl l R p g caps hR hl hcaps hg;exact rfl) | refine V ?_|(refine W2 ?_ ?_ <;> intro hc))
 all_goals exact A3 (by simp) Tryz.results171 rfl (by rw [Fk p l])
set_option maxHeartbeats 4000000 in
theorem K2 {α : Type} (l : List α) (R : α -> List Lf) (p : α -> Prop) [DecidablePred p] (g : FuncId) (caps : List AV) (hR : ∀ x, (R x).length = 7) (hl : l.length <= 9223372036854775807) (hcaps : caps.all AV.cap = true) (hg : ∀ x ∈ l, Fn0 Tryz.prog g (.agg ((R x).map .lf) :: caps) (.b (decide (p x)))) :
  Fn0 Tryz.prog 188 [.sl (l.map R), .fn (.func g) [] caps] (.b (decide (∃ x ∈ l, p x))) := by
 refine Fn0.of Tryz.func188 Tryz.ntmps188 rfl rfl rfl ?_
 simp only [A0]
 repeat' (first | refine W ?_|(apply S.call;exact rfl;exact Gg hcaps;exact Nj l R p g caps hR hl hcaps hg;exact rfl) | refine V ?_|(refine W2 ?_ ?_ <;> intro hc))
 all_goals exact A3 (by simp) Tryz.results188 rfl (by rw [Fk p l])
end Go.Proofs.YtlapbaiejnaeiaaGreatDoor
