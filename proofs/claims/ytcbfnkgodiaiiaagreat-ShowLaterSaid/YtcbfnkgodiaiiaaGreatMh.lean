/- Contracts of the functions that look at names: letters, digits, words. No conditions but those of each statement. -/
import Derived.Test.YtcbfnkgodiaiiaaGreatMt
import Derived.Test.YtcbfnkgodiaiiaaGreatMb
set_option linter.unusedSimpArgs false
set_option linter.unusedVariables false
namespace Go.Proofs.YtcbfnkgodiaiiaaGreat
open Go.RowKit
abbrev AV.i (n : Int) : AV := .val (.int .i64 n)
abbrev AV.b (b : Bool) : AV := .val (.bool b)
abbrev AV.s (s : ByteArray) : AV := .val (.string s)
abbrev Lf.i (n : Int) : Lf := .val (.int .i64 n)
abbrev Lf.s (s : ByteArray) : Lf := .val (.string s)
def Pp (n : Int) : Prop := 97 <= n /\ n <= 122 \/ 65 <= n /\ n <= 90
instance (n : Int) : Decidable (Pp n) := by unfold Pp;exact inferInstance
def Zk (n : Int) : Prop := 48 <= n /\ n <= 57
instance (n : Int) : Decidable (Zk n) := by unfold Zk;exact inferInstance
def Kv (n : Int) : Prop := Pp n \/ Zk n \/ n = 95
instance (n : Int) : Decidable (Kv n) := by unfold Kv;exact inferInstance
def Hn (s : ByteArray) : Nat := (s.data.toList.takeWhile fun c => decide (Kv c.toNat)).length
theorem M9 {α : Type} (p : α -> Bool) : ∀ (l : List α) (k : Nat) (c : α), k <= (l.takeWhile p).length -> l[k]? = some c -> if p c = true then k + 1 <= (l.takeWhile p).length else (l.takeWhile p).length = k
 | [], k, c, h, hc => by simp at hc
 | x :: l, 0, c, h, hc => by
  simp at hc
  subst hc
  by_cases hp : p x = true <;> simp [List.takeWhile, hp]
 | x :: l, k + 1, c, h, hc => by
  by_cases hp : p x = true
  ·simp only [List.takeWhile, hp, List.length_cons] at h ⊢
   have := M9 p l k c (by omega) (by simpa using hc)
   split at this <;> rename_i h2
   ·rw [if_pos h2];omega
   ·rw [if_neg h2];omega
  ·simp [List.takeWhile, hp] at h
theorem A3h (s : ByteArray) : Hn s <= s.size := by
 have key : ∀ l : List UInt8, (l.takeWhile fun c => decide (Kv c.toNat)).length <= l.length := fun l => by
  induction l with
  | nil => exact Nat.le_refl _
  | cons c l ih =>
   rw [List.takeWhile]
   split
   ·simp only [List.length_cons];omega
   ·exact Nat.zero_le _
 have := key s.data.toList
 rw [Array.length_toList] at this
 exact this
theorem A1e {s : ByteArray} {k : Nat} (h : k < s.size) : ∃ c, s[k]? = some c /\ s.data.toList[k]? = some c := by
 have h' : k < s.data.size := h
 refine ⟨s.data[k], ?_, by simp [h']⟩
 show (if hh : k < s.size then some s[k] else none) = _
 rw [dif_pos h];rfl
set_option maxHeartbeats 4000000 in
theorem Iw (n lo hi : Int) : Fn0 Tryz.prog 258 [.i n, .i lo, .i hi] (.b (decide (lo <= n /\ n <= hi))) := by
 refine Fn0.of Tryz.func258 Tryz.ntmps258 rfl rfl rfl ?_
 simp only [A2]
 repeat' (first | refine W ?_ | refine V ?_|(refine W2 ?_ ?_ <;> intro hc))
 all_goals exact A5 (by simp) Tryz.results258 rfl (by simp [*])
set_option maxHeartbeats 4000000 in
theorem T1 (n : Int) : Fn0 Tryz.prog 214 [.val (.int .u8 n)] (.b (decide (Pp n))) := by
 refine Fn0.of Tryz.func214 Tryz.ntmps214 rfl rfl rfl ?_
 simp only [A2]
 repeat' (first | refine W ?_ | refine V ?_|(refine W2 ?_ ?_ <;> intro hc))
 all_goals exact A5 (by simp) Tryz.results214 rfl (by simp only [Pp];simp [*];try omega)
set_option maxHeartbeats 4000000 in
theorem A5i (n : Int) : Fn0 Tryz.prog 275 [.val (.int .u8 n)] (.b (decide (Zk n))) := by
 refine Fn0.of Tryz.func275 Tryz.ntmps275 rfl rfl rfl ?_
 simp only [A2]
 repeat' (first | refine W ?_ | refine V ?_|(refine W2 ?_ ?_ <;> intro hc))
 all_goals exact A5 (by simp) Tryz.results275 rfl (by simp only [Zk];simp [*];try omega)
theorem Y1 {s : ByteArray} {k : Nat} {c : UInt8} (hk : k <= Hn s) (hc : s.data.toList[k]? = some c) : if Kv c.toNat then k + 1 <= Hn s else Hn s = k := by
 have := M9 (fun c : UInt8 => decide (Kv c.toNat)) s.data.toList k c hk hc
 simp only [decide_eq_true_eq] at this
 exact this
set_option maxHeartbeats 4000000 in
theorem A9u (s : ByteArray) (hs : s.size <= 9223372036854775807) : Fn0 Tryz.prog 215 [.s s] (.i (Hn s)) := by
 refine Fn0.of Tryz.func215 Tryz.ntmps215 rfl rfl rfl ?_
 simp only [A2]
 repeat' (first | refine W ?_ | refine V ?_|(refine W2 ?_ ?_ <;> intro hc))
 refine T.loopS (fun k => k <= Hn s) (fun k => s.size - k) (fun k => [(3, .i k), (0, .s s)]) (fun _ => []) 0 (by omega) CV .nil ?_
 intro k hk
 have hle := A3h s
 by_cases hlt : k < s.size
 ·have h1 : (k : Int) < s.size := by omega
  obtain ⟨c, hc, hc2⟩ := A1e hlt
  have hn := Y1 hk hc2
  have hb : s[((k : Nat) : Int).toNat]? = some c := hc
  repeat' (first | refine W ?_|(apply S.byteAt;exact rfl;exact rfl;exact rfl;omega;exact hb)|refine Zc (T1 _) ?_|refine Zc (A5i _) ?_|refine Za ?_ | refine V ?_|(refine W2 ?_ ?_ <;> intro hc))
  all_goals first
   | exact Next.go (k + 1) (by rw [if_pos (by simp [Kv, *])] at hn;exact hn) (by omega) CV .nil
   | exact A5 (by simp) Tryz.results215 rfl (by rw [if_neg (by simp [Kv, *])] at hn;rw [hn])
 ·have h1 : ¬ (k : Int) < s.size := by omega
  repeat' (first | refine W ?_ | refine V ?_|(refine W2 ?_ ?_ <;> intro hc))
  exact A5 (by simp) Tryz.results215 rfl (by rw [show Hn s = k by omega])
def idx {α : Type} (p : α -> Prop) [DecidablePred p] : List α -> Int
 | [] => -1
 | x :: l => if p x then 0 else (if idx p l = -1 then -1 else idx p l + 1)
theorem Ch {α : Type} (p : α -> Prop) [DecidablePred p] : ∀ l : List α, -1 <= idx p l
 | [] => by simp [idx]
 | x :: l => by
  have := Ch p l
  rw [idx];split
  ·omega
  ·split <;> omega
theorem Ez {α : Type} {p : α -> Prop} [DecidablePred p] : ∀ {l : List α}, (∀ x ∈ l, ¬ p x) -> idx p l = -1
 | [], _ => rfl
 | x :: l, h => by
  rw [idx, if_neg (h x (by simp)), if_pos (Ez fun y hy => h y (by simp [hy]))]
theorem I3 {α : Type} {p : α -> Prop} [DecidablePred p] : ∀ {l : List α} {k : Nat} {x : α}, l[k]? = some x -> (∀ y ∈ l.take k, ¬ p y) -> p x -> idx p l = k
 | [], k, x, h, _, _ => by simp at h
 | y :: l, 0, x, h, _, hp => by
  simp at h
  subst h
  rw [idx, if_pos hp];rfl
 | y :: l, k + 1, x, h, hn, hp => by
  have ih := I3 (l := l) (k := k) (x := x) (by simpa using h) (fun z hz => hn z (by simp [hz])) hp
  rw [idx, if_neg (hn y (by simp)), ih, if_neg (by omega)]
  omega
theorem Sl {α : Type} (p : α -> Prop) [DecidablePred p] : ∀ l : List α, idx p l < l.length
 | [] => by simp [idx]
 | x :: l => by
  have := Sl p l
  rw [idx];simp only [List.length_cons]
  split
  ·omega
  ·split <;> omega
theorem K9 {α : Type} {p : α -> Prop} [DecidablePred p] : ∀ {l : List α}, (∃ x ∈ l, p x) -> ¬ idx p l = -1
 | [], h => by obtain ⟨x, hx, _⟩ := h;simp at hx
 | y :: l, h => by
  have hge := Ch p l
  rw [idx]
  by_cases hy : p y
  ·rw [if_pos hy];omega
  ·rw [if_neg hy]
   have := K9 (p := p) (l := l) (by
    obtain ⟨x, hx, hp⟩ := h
    rcases List.mem_cons.1 hx with rfl | hx
    ·exact absurd hp hy
    ·exact ⟨x, hx, hp⟩)
   rw [if_neg this];omega
theorem Lu {α : Type} (p : α -> Prop) [DecidablePred p] (l : List α) : decide (0 <= idx p l) = decide (∃ x ∈ l, p x) := by
 by_cases h : ∃ x ∈ l, p x
 ·have : ¬ idx p l = -1 := K9 h
  have := Ch p l
  rw [decide_eq_true h, decide_eq_true (by omega)]
 ·have := Ez (p := p) (l := l) fun x hx hp => h ⟨x, hx, hp⟩
  rw [decide_eq_false h, this];rfl
def AV.cap : AV -> Bool
 | .lf _ => true
 | .rop _ => true
 | _ => false
theorem Bg {caps : List AV} {n : Nat} {f : Fn} (h : caps.all AV.cap = true) : (AV.fn f [] caps).under n = true := by
 simp only [AV.under, List.all_nil, Bool.true_and]
 exact List.all_eq_true.2 fun x hx => by
  have := List.all_eq_true.1 h x hx
  cases x <;> first | rfl | cases this
theorem Po {l : List (List Lf)} {caps : List AV} {f : Fn} (h : caps.all AV.cap = true) : ([AV.sl l, .fn f [] caps] : List AV).all AV.tree = true := by
 simp only [List.all_cons, AV.tree, List.all_nil, Bool.true_and, Bool.and_true]
 exact List.all_eq_true.2 fun x hx => by
  have := List.all_eq_true.1 h x hx
  cases x <;> first | rfl | cases this
theorem G5 {row : List Lf} {caps : List AV} (h : caps.all AV.cap = true) : ([AV.agg (row.map .lf)] ++ caps).all AV.tree = true := by
 rw [List.all_append, Bool.and_eq_true]
 refine ⟨by rw [List.all_cons, A88];rfl, List.all_eq_true.2 fun x hx => ?_⟩
 have := List.all_eq_true.1 h x hx
 cases x <;> first | rfl | cases this
set_option maxHeartbeats 4000000 in
theorem Kd {α : Type} (l : List α) (R : α -> List Lf) (p : α -> Prop) [DecidablePred p] (g : FuncId) (caps : List AV) (hR : ∀ x, (R x).length = 13) (hl : l.length <= 9223372036854775807) (hcaps : caps.all AV.cap = true) (hg : ∀ x ∈ l, Fn0 Tryz.prog g (.agg ((R x).map .lf) :: caps) (.b (decide (p x)))) :
  Fn0 Tryz.prog 90 [.sl (l.map R), .fn (.func g) [] caps] (.i (idx p l)) := by
 refine Fn0.of Tryz.func90 Tryz.ntmps90 rfl rfl rfl ?_
 simp only [A2]
 repeat' (first | refine W ?_ | refine V ?_|(refine W2 ?_ ?_ <;> intro hc))
 refine T.loopS (fun k => k <= l.length /\ ∀ x ∈ l.take k, ¬ p x) (fun k => l.length - k) (fun k => [(8, .i k), (7, .i (l.map R).length), (0, .sl (l.map R)), (1, .fn (.func g) [] caps)]) (fun _ => []) 0 ⟨Nat.zero_le _, by simp⟩ (.cons rfl rfl (.cons rfl rfl (.cons rfl rfl (.cons rfl (Bg hcaps) .nil)))) .nil ?_
 rintro k ⟨hk, hno⟩
 have hle : (l.map R).length = l.length := List.length_map _
 by_cases hlt : k < l.length
 ·have h1 : (k : Int) < ((l.map R).length : Nat) := by omega
  obtain ⟨x, hx⟩ : ∃ x, l[k]? = some x := ⟨l[k], List.getElem?_eq_getElem hlt⟩
  have hb : (l.map R)[((k : Nat) : Int).toNat]? = some (R x) := by rw [Int.toNat_natCast, List.getElem?_map, hx];rfl
  have hx2 := hg x (List.mem_of_getElem? hx)
  repeat' (first | refine W ?_|(apply S.indexR;exact rfl;exact rfl;exact rfl;exact hb;omega;exact hR x)|(apply S.loadRW;exact rfl;exact rfl;exact rfl;exact hR x)|(apply S.callF;exact rfl;exact rfl;exact hx2;exact G5 hcaps;exact rfl)|refine Za ?_ | refine V ?_|(refine W2 ?_ ?_ <;> intro hc))
  all_goals first
   | exact Next.go (k + 1) ⟨by omega, by rw [List.take_add_one, hx];intro y hy;rcases List.mem_append.1 hy with hy | hy;exact hno y hy;obtain rfl : y = x := (by simpa using hy);assumption⟩ (by omega) (.cons rfl rfl (.cons rfl rfl (.cons rfl rfl (.cons rfl (Bg hcaps) .nil)))) .nil
   | exact A5 (by simp) Tryz.results90 rfl (by rw [I3 hx hno (by assumption)])
 ·have h1 : ¬ (k : Int) < ((l.map R).length : Nat) := by omega
  repeat' (first | refine W ?_ | refine V ?_|(refine W2 ?_ ?_ <;> intro hc))
  exact A5 (by simp) Tryz.results90 rfl (by rw [Ez (by rw [List.take_of_length_le (by omega)] at hno;exact hno)])
set_option maxHeartbeats 4000000 in
theorem Nv {α : Type} (l : List α) (R : α -> List Lf) (p : α -> Prop) [DecidablePred p] (g : FuncId) (caps : List AV) (hR : ∀ x, (R x).length = 5) (hl : l.length <= 9223372036854775807) (hcaps : caps.all AV.cap = true) (hg : ∀ x ∈ l, Fn0 Tryz.prog g (.agg ((R x).map .lf) :: caps) (.b (decide (p x)))) :
  Fn0 Tryz.prog 229 [.sl (l.map R), .fn (.func g) [] caps] (.i (idx p l)) := by
 refine Fn0.of Tryz.func229 Tryz.ntmps229 rfl rfl rfl ?_
 simp only [A2]
 repeat' (first | refine W ?_ | refine V ?_|(refine W2 ?_ ?_ <;> intro hc))
 refine T.loopS (fun k => k <= l.length /\ ∀ x ∈ l.take k, ¬ p x) (fun k => l.length - k) (fun k => [(8, .i k), (7, .i (l.map R).length), (0, .sl (l.map R)), (1, .fn (.func g) [] caps)]) (fun _ => []) 0 ⟨Nat.zero_le _, by simp⟩ (.cons rfl rfl (.cons rfl rfl (.cons rfl rfl (.cons rfl (Bg hcaps) .nil)))) .nil ?_
 rintro k ⟨hk, hno⟩
 have hle : (l.map R).length = l.length := List.length_map _
 by_cases hlt : k < l.length
 ·have h1 : (k : Int) < ((l.map R).length : Nat) := by omega
  obtain ⟨x, hx⟩ : ∃ x, l[k]? = some x := ⟨l[k], List.getElem?_eq_getElem hlt⟩
  have hb : (l.map R)[((k : Nat) : Int).toNat]? = some (R x) := by rw [Int.toNat_natCast, List.getElem?_map, hx];rfl
  have hx2 := hg x (List.mem_of_getElem? hx)
  repeat' (first | refine W ?_|(apply S.indexR;exact rfl;exact rfl;exact rfl;exact hb;omega;exact hR x)|(apply S.loadRW;exact rfl;exact rfl;exact rfl;exact hR x)|(apply S.callF;exact rfl;exact rfl;exact hx2;exact G5 hcaps;exact rfl)|refine Za ?_ | refine V ?_|(refine W2 ?_ ?_ <;> intro hc))
  all_goals first
   | exact Next.go (k + 1) ⟨by omega, by rw [List.take_add_one, hx];intro y hy;rcases List.mem_append.1 hy with hy | hy;exact hno y hy;obtain rfl : y = x := (by simpa using hy);assumption⟩ (by omega) (.cons rfl rfl (.cons rfl rfl (.cons rfl rfl (.cons rfl (Bg hcaps) .nil)))) .nil
   | exact A5 (by simp) Tryz.results229 rfl (by rw [I3 hx hno (by assumption)])
 ·have h1 : ¬ (k : Int) < ((l.map R).length : Nat) := by omega
  repeat' (first | refine W ?_ | refine V ?_|(refine W2 ?_ ?_ <;> intro hc))
  exact A5 (by simp) Tryz.results229 rfl (by rw [Ez (by rw [List.take_of_length_le (by omega)] at hno;exact hno)])
set_option maxHeartbeats 4000000 in
theorem Pc {α : Type} (l : List α) (R : α -> List Lf) (p : α -> Prop) [DecidablePred p] (g : FuncId) (caps : List AV) (hR : ∀ x, (R x).length = 7) (hl : l.length <= 9223372036854775807) (hcaps : caps.all AV.cap = true) (hg : ∀ x ∈ l, Fn0 Tryz.prog g (.agg ((R x).map .lf) :: caps) (.b (decide (p x)))) :
  Fn0 Tryz.prog 145 [.sl (l.map R), .fn (.func g) [] caps] (.i (idx p l)) := by
 refine Fn0.of Tryz.func145 Tryz.ntmps145 rfl rfl rfl ?_
 simp only [A2]
 repeat' (first | refine W ?_ | refine V ?_|(refine W2 ?_ ?_ <;> intro hc))
 refine T.loopS (fun k => k <= l.length /\ ∀ x ∈ l.take k, ¬ p x) (fun k => l.length - k) (fun k => [(8, .i k), (7, .i (l.map R).length), (0, .sl (l.map R)), (1, .fn (.func g) [] caps)]) (fun _ => []) 0 ⟨Nat.zero_le _, by simp⟩ (.cons rfl rfl (.cons rfl rfl (.cons rfl rfl (.cons rfl (Bg hcaps) .nil)))) .nil ?_
 rintro k ⟨hk, hno⟩
 have hle : (l.map R).length = l.length := List.length_map _
 by_cases hlt : k < l.length
 ·have h1 : (k : Int) < ((l.map R).length : Nat) := by omega
  obtain ⟨x, hx⟩ : ∃ x, l[k]? = some x := ⟨l[k], List.getElem?_eq_getElem hlt⟩
  have hb : (l.map R)[((k : Nat) : Int).toNat]? = some (R x) := by rw [Int.toNat_natCast, List.getElem?_map, hx];rfl
  have hx2 := hg x (List.mem_of_getElem? hx)
  repeat' (first | refine W ?_|(apply S.indexR;exact rfl;exact rfl;exact rfl;exact hb;omega;exact hR x)|(apply S.loadRW;exact rfl;exact rfl;exact rfl;exact hR x)|(apply S.callF;exact rfl;exact rfl;exact hx2;exact G5 hcaps;exact rfl)|refine Za ?_ | refine V ?_|(refine W2 ?_ ?_ <;> intro hc))
  all_goals first
   | exact Next.go (k + 1) ⟨by omega, by rw [List.take_add_one, hx];intro y hy;rcases List.mem_append.1 hy with hy | hy;exact hno y hy;obtain rfl : y = x := (by simpa using hy);assumption⟩ (by omega) (.cons rfl rfl (.cons rfl rfl (.cons rfl rfl (.cons rfl (Bg hcaps) .nil)))) .nil
   | exact A5 (by simp) Tryz.results145 rfl (by rw [I3 hx hno (by assumption)])
 ·have h1 : ¬ (k : Int) < ((l.map R).length : Nat) := by omega
  repeat' (first | refine W ?_ | refine V ?_|(refine W2 ?_ ?_ <;> intro hc))
  exact A5 (by simp) Tryz.results145 rfl (by rw [Ez (by rw [List.take_of_length_le (by omega)] at hno;exact hno)])
set_option maxHeartbeats 4000000 in
theorem Wd {α : Type} (l : List α) (R : α -> List Lf) (p : α -> Prop) [DecidablePred p] (g : FuncId) (caps : List AV) (hR : ∀ x, (R x).length = 4) (hl : l.length <= 9223372036854775807) (hcaps : caps.all AV.cap = true) (hg : ∀ x ∈ l, Fn0 Tryz.prog g (.agg ((R x).map .lf) :: caps) (.b (decide (p x)))) :
  Fn0 Tryz.prog 278 [.sl (l.map R), .fn (.func g) [] caps] (.i (idx p l)) := by
 refine Fn0.of Tryz.func278 Tryz.ntmps278 rfl rfl rfl ?_
 simp only [A2]
 repeat' (first | refine W ?_ | refine V ?_|(refine W2 ?_ ?_ <;> intro hc))
 refine T.loopS (fun k => k <= l.length /\ ∀ x ∈ l.take k, ¬ p x) (fun k => l.length - k) (fun k => [(8, .i k), (7, .i (l.map R).length), (0, .sl (l.map R)), (1, .fn (.func g) [] caps)]) (fun _ => []) 0 ⟨Nat.zero_le _, by simp⟩ (.cons rfl rfl (.cons rfl rfl (.cons rfl rfl (.cons rfl (Bg hcaps) .nil)))) .nil ?_
 rintro k ⟨hk, hno⟩
 have hle : (l.map R).length = l.length := List.length_map _
 by_cases hlt : k < l.length
 ·have h1 : (k : Int) < ((l.map R).length : Nat) := by omega
  obtain ⟨x, hx⟩ : ∃ x, l[k]? = some x := ⟨l[k], List.getElem?_eq_getElem hlt⟩
  have hb : (l.map R)[((k : Nat) : Int).toNat]? = some (R x) := by rw [Int.toNat_natCast, List.getElem?_map, hx];rfl
  have hx2 := hg x (List.mem_of_getElem? hx)
  repeat' (first | refine W ?_|(apply S.indexR;exact rfl;exact rfl;exact rfl;exact hb;omega;exact hR x)|(apply S.loadRW;exact rfl;exact rfl;exact rfl;exact hR x)|(apply S.callF;exact rfl;exact rfl;exact hx2;exact G5 hcaps;exact rfl)|refine Za ?_ | refine V ?_|(refine W2 ?_ ?_ <;> intro hc))
  all_goals first
   | exact Next.go (k + 1) ⟨by omega, by rw [List.take_add_one, hx];intro y hy;rcases List.mem_append.1 hy with hy | hy;exact hno y hy;obtain rfl : y = x := (by simpa using hy);assumption⟩ (by omega) (.cons rfl rfl (.cons rfl rfl (.cons rfl rfl (.cons rfl (Bg hcaps) .nil)))) .nil
   | exact A5 (by simp) Tryz.results278 rfl (by rw [I3 hx hno (by assumption)])
 ·have h1 : ¬ (k : Int) < ((l.map R).length : Nat) := by omega
  repeat' (first | refine W ?_ | refine V ?_|(refine W2 ?_ ?_ <;> intro hc))
  exact A5 (by simp) Tryz.results278 rfl (by rw [Ez (by rw [List.take_of_length_le (by omega)] at hno;exact hno)])
set_option maxHeartbeats 4000000 in
theorem W7 {α : Type} (l : List α) (R : α -> List Lf) (p : α -> Prop) [DecidablePred p] (g : FuncId) (caps : List AV) (hR : ∀ x, (R x).length = 7) (hl : l.length <= 9223372036854775807) (hcaps : caps.all AV.cap = true) (hg : ∀ x ∈ l, Fn0 Tryz.prog g (.agg ((R x).map .lf) :: caps) (.b (decide (p x)))) :
  Fn0 Tryz.prog 281 [.sl (l.map R), .fn (.func g) [] caps] (.i (idx p l)) := by
 refine Fn0.of Tryz.func281 Tryz.ntmps281 rfl rfl rfl ?_
 simp only [A2]
 repeat' (first | refine W ?_ | refine V ?_|(refine W2 ?_ ?_ <;> intro hc))
 refine T.loopS (fun k => k <= l.length /\ ∀ x ∈ l.take k, ¬ p x) (fun k => l.length - k) (fun k => [(8, .i k), (7, .i (l.map R).length), (0, .sl (l.map R)), (1, .fn (.func g) [] caps)]) (fun _ => []) 0 ⟨Nat.zero_le _, by simp⟩ (.cons rfl rfl (.cons rfl rfl (.cons rfl rfl (.cons rfl (Bg hcaps) .nil)))) .nil ?_
 rintro k ⟨hk, hno⟩
 have hle : (l.map R).length = l.length := List.length_map _
 by_cases hlt : k < l.length
 ·have h1 : (k : Int) < ((l.map R).length : Nat) := by omega
  obtain ⟨x, hx⟩ : ∃ x, l[k]? = some x := ⟨l[k], List.getElem?_eq_getElem hlt⟩
  have hb : (l.map R)[((k : Nat) : Int).toNat]? = some (R x) := by rw [Int.toNat_natCast, List.getElem?_map, hx];rfl
  have hx2 := hg x (List.mem_of_getElem? hx)
  repeat' (first | refine W ?_|(apply S.indexR;exact rfl;exact rfl;exact rfl;exact hb;omega;exact hR x)|(apply S.loadRW;exact rfl;exact rfl;exact rfl;exact hR x)|(apply S.callF;exact rfl;exact rfl;exact hx2;exact G5 hcaps;exact rfl)|refine Za ?_ | refine V ?_|(refine W2 ?_ ?_ <;> intro hc))
  all_goals first
   | exact Next.go (k + 1) ⟨by omega, by rw [List.take_add_one, hx];intro y hy;rcases List.mem_append.1 hy with hy | hy;exact hno y hy;obtain rfl : y = x := (by simpa using hy);assumption⟩ (by omega) (.cons rfl rfl (.cons rfl rfl (.cons rfl rfl (.cons rfl (Bg hcaps) .nil)))) .nil
   | exact A5 (by simp) Tryz.results281 rfl (by rw [I3 hx hno (by assumption)])
 ·have h1 : ¬ (k : Int) < ((l.map R).length : Nat) := by omega
  repeat' (first | refine W ?_ | refine V ?_|(refine W2 ?_ ?_ <;> intro hc))
  exact A5 (by simp) Tryz.results281 rfl (by rw [Ez (by rw [List.take_of_length_le (by omega)] at hno;exact hno)])
set_option maxHeartbeats 4000000 in
theorem Rb {α : Type} (l : List α) (R : α -> List Lf) (p : α -> Prop) [DecidablePred p] (g : FuncId) (caps : List AV) (hR : ∀ x, (R x).length = 5) (hl : l.length <= 9223372036854775807) (hcaps : caps.all AV.cap = true) (hg : ∀ x ∈ l, Fn0 Tryz.prog g (.agg ((R x).map .lf) :: caps) (.b (decide (p x)))) :
  Fn0 Tryz.prog 292 [.sl (l.map R), .fn (.func g) [] caps] (.b (decide (∃ x ∈ l, p x))) := by
 refine Fn0.of Tryz.func292 Tryz.ntmps292 rfl rfl rfl ?_
 simp only [A2]
 repeat' (first | refine W ?_|(apply S.call;exact rfl;exact Po hcaps;exact Nv l R p g caps hR hl hcaps hg;exact rfl) | refine V ?_|(refine W2 ?_ ?_ <;> intro hc))
 all_goals exact A5 (by simp) Tryz.results292 rfl (by rw [Lu p l])
set_option maxHeartbeats 4000000 in
theorem R8 {α : Type} (l : List α) (R : α -> List Lf) (p : α -> Prop) [DecidablePred p] (g : FuncId) (caps : List AV) (hR : ∀ x, (R x).length = 4) (hl : l.length <= 9223372036854775807) (hcaps : caps.all AV.cap = true) (hg : ∀ x ∈ l, Fn0 Tryz.prog g (.agg ((R x).map .lf) :: caps) (.b (decide (p x)))) :
  Fn0 Tryz.prog 227 [.sl (l.map R), .fn (.func g) [] caps] (.b (decide (∃ x ∈ l, p x))) := by
 refine Fn0.of Tryz.func227 Tryz.ntmps227 rfl rfl rfl ?_
 simp only [A2]
 repeat' (first | refine W ?_|(apply S.call;exact rfl;exact Po hcaps;exact Wd l R p g caps hR hl hcaps hg;exact rfl) | refine V ?_|(refine W2 ?_ ?_ <;> intro hc))
 all_goals exact A5 (by simp) Tryz.results227 rfl (by rw [Lu p l])
set_option maxHeartbeats 4000000 in
theorem R9 {α : Type} (l : List α) (R : α -> List Lf) (p : α -> Prop) [DecidablePred p] (g : FuncId) (caps : List AV) (hR : ∀ x, (R x).length = 7) (hl : l.length <= 9223372036854775807) (hcaps : caps.all AV.cap = true) (hg : ∀ x ∈ l, Fn0 Tryz.prog g (.agg ((R x).map .lf) :: caps) (.b (decide (p x)))) :
  Fn0 Tryz.prog 240 [.sl (l.map R), .fn (.func g) [] caps] (.b (decide (∃ x ∈ l, p x))) := by
 refine Fn0.of Tryz.func240 Tryz.ntmps240 rfl rfl rfl ?_
 simp only [A2]
 repeat' (first | refine W ?_|(apply S.call;exact rfl;exact Po hcaps;exact W7 l R p g caps hR hl hcaps hg;exact rfl) | refine V ?_|(refine W2 ?_ ?_ <;> intro hc))
 all_goals exact A5 (by simp) Tryz.results240 rfl (by rw [Lu p l])
end Go.Proofs.YtcbfnkgodiaiiaaGreat
