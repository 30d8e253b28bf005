/- Contracts of the functions that look at names: letters, digits, words. No conditions but those of each statement. -/
import Derived.Test.YtcfjofhapbkmfaaGreatDoorMt
import Derived.Test.YtcfjofhapbkmfaaGreatDoorMb
set_option linter.unusedSimpArgs false
set_option linter.unusedVariables false
namespace Go.Proofs.YtcfjofhapbkmfaaGreatDoor
open Go.RowKit
abbrev AV.i (n : Int) : AV := .val (.int .i64 n)
abbrev AV.b (b : Bool) : AV := .val (.bool b)
abbrev AV.s (s : ByteArray) : AV := .val (.string s)
abbrev Lf.i (n : Int) : Lf := .val (.int .i64 n)
abbrev Lf.s (s : ByteArray) : Lf := .val (.string s)
def Fa (n : Int) : Prop := 97 <= n /\ n <= 122 \/ 65 <= n /\ n <= 90
instance (n : Int) : Decidable (Fa n) := by unfold Fa;exact inferInstance
def Ib (n : Int) : Prop := 48 <= n /\ n <= 57
instance (n : Int) : Decidable (Ib n) := by unfold Ib;exact inferInstance
def Cy (n : Int) : Prop := Fa n \/ Ib n \/ n = 95
instance (n : Int) : Decidable (Cy n) := by unfold Cy;exact inferInstance
def Br (s : ByteArray) : Nat := (s.data.toList.takeWhile fun c => decide (Cy c.toNat)).length
theorem Fz {α : Type} (p : α -> Bool) : ∀ (l : List α) (k : Nat) (c : α), k <= (l.takeWhile p).length -> l[k]? = some c -> if p c = true then k + 1 <= (l.takeWhile p).length else (l.takeWhile p).length = k
 | [], k, c, h, hc => by simp at hc
 | x :: l, 0, c, h, hc => by
  simp at hc
  subst hc
  by_cases hp : p x = true <;> simp [List.takeWhile, hp]
 | x :: l, k + 1, c, h, hc => by
  by_cases hp : p x = true
  ·simp only [List.takeWhile, hp, List.length_cons] at h ⊢
   have := Fz p l k c (by omega) (by simpa using hc)
   split at this <;> rename_i h2
   ·rw [if_pos h2];omega
   ·rw [if_neg h2];omega
  ·simp [List.takeWhile, hp] at h
theorem Jz (s : ByteArray) : Br s <= s.size := by
 have key : ∀ l : List UInt8, (l.takeWhile fun c => decide (Cy c.toNat)).length <= l.length := fun l => by
  induction l with
  | nil => exact Nat.le_refl _
  | cons c l ih =>
   rw [List.takeWhile]
   split
   ·simp only [List.length_cons];omega
   ·exact Nat.zero_le _
 have := key s.data.toList
 rw [Array.length_toList] at this
 exact this
theorem Hg {s : ByteArray} {k : Nat} (h : k < s.size) : ∃ c, s[k]? = some c /\ s.data.toList[k]? = some c := by
 have h' : k < s.data.size := h
 refine ⟨s.data[k], ?_, by simp [h']⟩
 show (if hh : k < s.size then some s[k] else none) = _
 rw [dif_pos h];rfl
set_option maxHeartbeats 4000000 in
theorem J2 (n : Int) : Fn0 Tryz.prog 114 [.val (.int .u8 n)] (.b (decide (Fa n))) := by
 refine Fn0.of Tryz.func114 Tryz.ntmps114 rfl rfl rfl ?_
 simp only [A0]
 repeat' (first | refine W ?_ | refine V ?_|(refine W2 ?_ ?_ <;> intro hc))
 all_goals exact A3 (by simp) Tryz.results114 rfl (by simp only [Fa];simp [*];try omega)
set_option maxHeartbeats 4000000 in
theorem Qe (n : Int) : Fn0 Tryz.prog 176 [.val (.int .u8 n)] (.b (decide (Ib n))) := by
 refine Fn0.of Tryz.func176 Tryz.ntmps176 rfl rfl rfl ?_
 simp only [A0]
 repeat' (first | refine W ?_ | refine V ?_|(refine W2 ?_ ?_ <;> intro hc))
 all_goals exact A3 (by simp) Tryz.results176 rfl (by simp only [Ib];simp [*];try omega)
theorem He {s : ByteArray} {k : Nat} {c : UInt8} (hk : k <= Br s) (hc : s.data.toList[k]? = some c) : if Cy c.toNat then k + 1 <= Br s else Br s = k := by
 have := Fz (fun c : UInt8 => decide (Cy c.toNat)) s.data.toList k c hk hc
 simp only [decide_eq_true_eq] at this
 exact this
set_option maxHeartbeats 4000000 in
theorem So (s : ByteArray) (hs : s.size <= 9223372036854775807) : Fn0 Tryz.prog 115 [.s s] (.i (Br s)) := by
 refine Fn0.of Tryz.func115 Tryz.ntmps115 rfl rfl rfl ?_
 simp only [A0]
 repeat' (first | refine W ?_ | refine V ?_|(refine W2 ?_ ?_ <;> intro hc))
 refine T.loopS (fun k => k <= Br s) (fun k => s.size - k) (fun k => [(3, .i k), (0, .s s)]) (fun _ => []) 0 (by omega) CV .nil ?_
 intro k hk
 have hle := Jz s
 by_cases hlt : k < s.size
 ·have h1 : (k : Int) < s.size := by omega
  obtain ⟨c, hc, hc2⟩ := Hg hlt
  have hn := He hk hc2
  have hb : s[((k : Nat) : Int).toNat]? = some c := hc
  repeat' (first | refine W ?_|(apply S.byteAt;(iterate 3 exact rfl);omega;exact hb)|refine Zc (J2 _) ?_|refine Zc (Qe _) ?_|refine Za ?_ | refine V ?_|(refine W2 ?_ ?_ <;> intro hc))
  all_goals first
   | exact Next.go (k + 1) (by rw [if_pos (by simp [Cy, *])] at hn;exact hn) (by omega) CV .nil
   | exact A3 (by simp) Tryz.results115 rfl (by rw [if_neg (by simp [Cy, *])] at hn;rw [hn])
 ·have h1 : ¬ (k : Int) < s.size := by omega
  repeat' (first | refine W ?_ | refine V ?_|(refine W2 ?_ ?_ <;> intro hc))
  exact A3 (by simp) Tryz.results115 rfl (by rw [show Br s = k by omega])
def idx {α : Type} (p : α -> Prop) [DecidablePred p] : List α -> Int
 | [] => -1
 | x :: l => if p x then 0 else (if idx p l = -1 then -1 else idx p l + 1)
theorem Ek {α : Type} (p : α -> Prop) [DecidablePred p] : ∀ l : List α, -1 <= idx p l
 | [] => by simp [idx]
 | x :: l => by
  have := Ek p l
  rw [idx];split
  ·omega
  ·split <;> omega
theorem C1 {α : Type} {p : α -> Prop} [DecidablePred p] : ∀ {l : List α}, (∀ x ∈ l, ¬ p x) -> idx p l = -1
 | [], _ => rfl
 | x :: l, h => by
  rw [idx, if_neg (h x (by simp)), if_pos (C1 fun y hy => h y (by simp [hy]))]
theorem D8 {α : Type} {p : α -> Prop} [DecidablePred p] : ∀ {l : List α} {k : Nat} {x : α}, l[k]? = some x -> (∀ y ∈ l.take k, ¬ p y) -> p x -> idx p l = k
 | [], k, x, h, _, _ => by simp at h
 | y :: l, 0, x, h, _, hp => by
  simp at h
  subst h
  rw [idx, if_pos hp];rfl
 | y :: l, k + 1, x, h, hn, hp => by
  have ih := D8 (l := l) (k := k) (x := x) (by simpa using h) (fun z hz => hn z (by simp [hz])) hp
  rw [idx, if_neg (hn y (by simp)), ih, if_neg (by omega)]
  omega
theorem Md {α : Type} {p : α -> Prop} [DecidablePred p] : ∀ {l : List α}, (∃ x ∈ l, p x) -> ¬ idx p l = -1
 | [], h => by obtain ⟨x, hx, _⟩ := h;simp at hx
 | y :: l, h => by
  have hge := Ek p l
  rw [idx]
  by_cases hy : p y
  ·rw [if_pos hy];omega
  ·rw [if_neg hy]
   have := Md (p := p) (l := l) (by
    obtain ⟨x, hx, hp⟩ := h
    rcases List.mem_cons.1 hx with rfl | hx
    ·exact absurd hp hy
    ·exact ⟨x, hx, hp⟩)
   rw [if_neg this];omega
theorem Gv {α : Type} (p : α -> Prop) [DecidablePred p] (l : List α) : decide (0 <= idx p l) = decide (∃ x ∈ l, p x) := by
 by_cases h : ∃ x ∈ l, p x
 ·have : ¬ idx p l = -1 := Md h
  have := Ek p l
  rw [decide_eq_true h, decide_eq_true (by omega)]
 ·have := C1 (p := p) (l := l) fun x hx hp => h ⟨x, hx, hp⟩
  rw [decide_eq_false h, this];rfl
def AV.cap : AV -> Bool
 | .lf _ => true
 | .rop _ => true
 | _ => false
theorem Ah {caps : List AV} {n : Nat} {f : Fn} (h : caps.all AV.cap = true) : (AV.fn f [] caps).under n = true := by
 simp only [AV.under, List.all_nil, Bool.true_and]
 exact List.all_eq_true.2 fun x hx => by
  have := List.all_eq_true.1 h x hx
  cases x <;> first | rfl | cases this
theorem Fm {l : List (List Lf)} {caps : List AV} {f : Fn} (h : caps.all AV.cap = true) : ([AV.sl l, .fn f [] caps] : List AV).all AV.tree = true := by
 simp only [List.all_cons, AV.tree, List.all_nil, Bool.true_and, Bool.and_true]
 exact List.all_eq_true.2 fun x hx => by
  have := List.all_eq_true.1 h x hx
  cases x <;> first | rfl | cases this
theorem C9 {row : List Lf} {caps : List AV} (h : caps.all AV.cap = true) : ([AV.agg (row.map .lf)] ++ caps).all AV.tree = true := by
 rw [List.all_append, Bool.and_eq_true]
 refine ⟨by rw [List.all_cons, Tw];rfl, List.all_eq_true.2 fun x hx => ?_⟩
 have := List.all_eq_true.1 h x hx
 cases x <;> first | rfl | cases this
set_option maxHeartbeats 4000000 in
theorem Mf {α : Type} (l : List α) (R : α -> List Lf) (p : α -> Prop) [DecidablePred p] (g : FuncId) (caps : List AV) (hR : ∀ x, (R x).length = 13) (hl : l.length <= 9223372036854775807) (hcaps : caps.all AV.cap = true) (hg : ∀ x ∈ l, Fn0 Tryz.prog g (.agg ((R x).map .lf) :: caps) (.b (decide (p x)))) :
  Fn0 Tryz.prog 159 [.sl (l.map R), .fn (.func g) [] caps] (.i (idx p l)) := by
 refine Fn0.of Tryz.func159 Tryz.ntmps159 rfl rfl rfl ?_
 simp only [A0]
 repeat' (first | refine W ?_ | refine V ?_|(refine W2 ?_ ?_ <;> intro hc))
 refine T.loopS (fun k => k <= l.length /\ ∀ x ∈ l.take k, ¬ p x) (fun k => l.length - k) (fun k => [(8, .i k), (7, .i (l.map R).length), (0, .sl (l.map R)), (1, .fn (.func g) [] caps)]) (fun _ => []) 0 ⟨Nat.zero_le _, by simp⟩ (.cons rfl rfl (.cons rfl rfl (.cons rfl rfl (.cons rfl (Ah hcaps) .nil)))) .nil ?_
 rintro k ⟨hk, hno⟩
 have hle : (l.map R).length = l.length := List.length_map _
 by_cases hlt : k < l.length
 ·have h1 : (k : Int) < ((l.map R).length : Nat) := by omega
  obtain ⟨x, hx⟩ : ∃ x, l[k]? = some x := ⟨l[k], List.getElem?_eq_getElem hlt⟩
  have hb : (l.map R)[((k : Nat) : Int).toNat]? = some (R x) := by rw [Int.toNat_natCast, List.getElem?_map, hx];rfl
  have hx2 := hg x (List.mem_of_getElem? hx)
  repeat' (first | refine W ?_|(apply S.indexR;(iterate 3 exact rfl);exact hb;omega;exact hR x)|(apply S.loadRW;(iterate 3 exact rfl);exact hR x)|(apply S.callF;exact rfl;exact rfl;exact hx2;exact C9 hcaps;exact rfl)|refine Za ?_ | refine V ?_|(refine W2 ?_ ?_ <;> intro hc))
  all_goals first
   | exact Next.go (k + 1) ⟨by omega, by rw [List.take_add_one, hx];intro y hy;rcases List.mem_append.1 hy with hy | hy;exact hno y hy;obtain rfl : y = x := (by simpa using hy);assumption⟩ (by omega) (.cons rfl rfl (.cons rfl rfl (.cons rfl rfl (.cons rfl (Ah hcaps) .nil)))) .nil
   | exact A3 (by simp) Tryz.results159 rfl (by rw [D8 hx hno (by assumption)])
 ·have h1 : ¬ (k : Int) < ((l.map R).length : Nat) := by omega
  repeat' (first | refine W ?_ | refine V ?_|(refine W2 ?_ ?_ <;> intro hc))
  exact A3 (by simp) Tryz.results159 rfl (by rw [C1 (by rw [List.take_of_length_le (by omega)] at hno;exact hno)])
set_option maxHeartbeats 4000000 in
theorem Lh {α : Type} (l : List α) (R : α -> List Lf) (p : α -> Prop) [DecidablePred p] (g : FuncId) (caps : List AV) (hR : ∀ x, (R x).length = 4) (hl : l.length <= 9223372036854775807) (hcaps : caps.all AV.cap = true) (hg : ∀ x ∈ l, Fn0 Tryz.prog g (.agg ((R x).map .lf) :: caps) (.b (decide (p x)))) :
  Fn0 Tryz.prog 221 [.sl (l.map R), .fn (.func g) [] caps] (.i (idx p l)) := by
 refine Fn0.of Tryz.func221 Tryz.ntmps221 rfl rfl rfl ?_
 simp only [A0]
 repeat' (first | refine W ?_ | refine V ?_|(refine W2 ?_ ?_ <;> intro hc))
 refine T.loopS (fun k => k <= l.length /\ ∀ x ∈ l.take k, ¬ p x) (fun k => l.length - k) (fun k => [(8, .i k), (7, .i (l.map R).length), (0, .sl (l.map R)), (1, .fn (.func g) [] caps)]) (fun _ => []) 0 ⟨Nat.zero_le _, by simp⟩ (.cons rfl rfl (.cons rfl rfl (.cons rfl rfl (.cons rfl (Ah hcaps) .nil)))) .nil ?_
 rintro k ⟨hk, hno⟩
 have hle : (l.map R).length = l.length := List.length_map _
 by_cases hlt : k < l.length
 ·have h1 : (k : Int) < ((l.map R).length : Nat) := by omega
  obtain ⟨x, hx⟩ : ∃ x, l[k]? = some x := ⟨l[k], List.getElem?_eq_getElem hlt⟩
  have hb : (l.map R)[((k : Nat) : Int).toNat]? = some (R x) := by rw [Int.toNat_natCast, List.getElem?_map, hx];rfl
  have hx2 := hg x (List.mem_of_getElem? hx)
  repeat' (first | refine W ?_|(apply S.indexR;(iterate 3 exact rfl);exact hb;omega;exact hR x)|(apply S.loadRW;(iterate 3 exact rfl);exact hR x)|(apply S.callF;exact rfl;exact rfl;exact hx2;exact C9 hcaps;exact rfl)|refine Za ?_ | refine V ?_|(refine W2 ?_ ?_ <;> intro hc))
  all_goals first
   | exact Next.go (k + 1) ⟨by omega, by rw [List.take_add_one, hx];intro y hy;rcases List.mem_append.1 hy with hy | hy;exact hno y hy;obtain rfl : y = x := (by simpa using hy);assumption⟩ (by omega) (.cons rfl rfl (.cons rfl rfl (.cons rfl rfl (.cons rfl (Ah hcaps) .nil)))) .nil
   | exact A3 (by simp) Tryz.results221 rfl (by rw [D8 hx hno (by assumption)])
 ·have h1 : ¬ (k : Int) < ((l.map R).length : Nat) := by omega
  repeat' (first | refine W ?_ | refine V ?_|(refine W2 ?_ ?_ <;> intro hc))
  exact A3 (by simp) Tryz.results221 rfl (by rw [C1 (by rw [List.take_of_length_le (by omega)] at hno;exact hno)])
set_option maxHeartbeats 4000000 in
theorem Ld {α : Type} (l : List α) (R : α -> List Lf) (p : α -> Prop) [DecidablePred p] (g : FuncId) (caps : List AV) (hR : ∀ x, (R x).length = 7) (hl : l.length <= 9223372036854775807) (hcaps : caps.all AV.cap = true) (hg : ∀ x ∈ l, Fn0 Tryz.prog g (.agg ((R x).map .lf) :: caps) (.b (decide (p x)))) :
  Fn0 Tryz.prog 257 [.sl (l.map R), .fn (.func g) [] caps] (.i (idx p l)) := by
 refine Fn0.of Tryz.func257 Tryz.ntmps257 rfl rfl rfl ?_
 simp only [A0]
 repeat' (first | refine W ?_ | refine V ?_|(refine W2 ?_ ?_ <;> intro hc))
 refine T.loopS (fun k => k <= l.length /\ ∀ x ∈ l.take k, ¬ p x) (fun k => l.length - k) (fun k => [(8, .i k), (7, .i (l.map R).length), (0, .sl (l.map R)), (1, .fn (.func g) [] caps)]) (fun _ => []) 0 ⟨Nat.zero_le _, by simp⟩ (.cons rfl rfl (.cons rfl rfl (.cons rfl rfl (.cons rfl (Ah hcaps) .nil)))) .nil ?_
 rintro k ⟨hk, hno⟩
 have hle : (l.map R).length = l.length := List.length_map _
 by_cases hlt : k < l.length
 ·have h1 : (k : Int) < ((l.map R).length : Nat) := by omega
  obtain ⟨x, hx⟩ : ∃ x, l[k]? = some x := ⟨l[k], List.getElem?_eq_getElem hlt⟩
  have hb : (l.map R)[((k : Nat) : Int).toNat]? = some (R x) := by rw [Int.toNat_natCast, List.getElem?_map, hx];rfl
  have hx2 := hg x (List.mem_of_getElem? hx)
  repeat' (first | refine W ?_|(apply S.indexR;(iterate 3 exact rfl);exact hb;omega;exact hR x)|(apply S.loadRW;(iterate 3 exact rfl);exact hR x)|(apply S.callF;exact rfl;exact rfl;exact hx2;exact C9 hcaps;exact rfl)|refine Za ?_ | refine V ?_|(refine W2 ?_ ?_ <;> intro hc))
  all_goals first
   | exact Next.go (k + 1) ⟨by omega, by rw [List.take_add_one, hx];intro y hy;rcases List.mem_append.1 hy with hy | hy;exact hno y hy;obtain rfl : y = x := (by simpa using hy);assumption⟩ (by omega) (.cons rfl rfl (.cons rfl rfl (.cons rfl rfl (.cons rfl (Ah hcaps) .nil)))) .nil
   | exact A3 (by simp) Tryz.results257 rfl (by rw [D8 hx hno (by assumption)])
 ·have h1 : ¬ (k : Int) < ((l.map R).length : Nat) := by omega
  repeat' (first | refine W ?_ | refine V ?_|(refine W2 ?_ ?_ <;> intro hc))
  exact A3 (by simp) Tryz.results257 rfl (by rw [C1 (by rw [List.take_of_length_le (by omega)] at hno;exact hno)])
set_option maxHeartbeats 4000000 in
theorem Ia {α : Type} (l : List α) (R : α -> List Lf) (p : α -> Prop) [DecidablePred p] (g : FuncId) (caps : List AV) (hR : ∀ x, (R x).length = 4) (hl : l.length <= 9223372036854775807) (hcaps : caps.all AV.cap = true) (hg : ∀ x ∈ l, Fn0 Tryz.prog g (.agg ((R x).map .lf) :: caps) (.b (decide (p x)))) :
  Fn0 Tryz.prog 157 [.sl (l.map R), .fn (.func g) [] caps] (.b (decide (∃ x ∈ l, p x))) := by
 refine Fn0.of Tryz.func157 Tryz.ntmps157 rfl rfl rfl ?_
 simp only [A0]
 repeat' (first | refine W ?_|(apply S.call;exact rfl;exact Fm hcaps;exact Lh l R p g caps hR hl hcaps hg;exact rfl) | refine V ?_|(refine W2 ?_ ?_ <;> intro hc))
 all_goals exact A3 (by simp) Tryz.results157 rfl (by rw [Gv p l])
set_option maxHeartbeats 4000000 in
theorem I8 {α : Type} (l : List α) (R : α -> List Lf) (p : α -> Prop) [DecidablePred p] (g : FuncId) (caps : List AV) (hR : ∀ x, (R x).length = 7) (hl : l.length <= 9223372036854775807) (hcaps : caps.all AV.cap = true) (hg : ∀ x ∈ l, Fn0 Tryz.prog g (.agg ((R x).map .lf) :: caps) (.b (decide (p x)))) :
  Fn0 Tryz.prog 214 [.sl (l.map R), .fn (.func g) [] caps] (.b (decide (∃ x ∈ l, p x))) := by
 refine Fn0.of Tryz.func214 Tryz.ntmps214 rfl rfl rfl ?_
 simp only [A0]
 repeat' (first | refine W ?_|(apply S.call;exact rfl;exact Fm hcaps;exact Ld l R p g caps hR hl hcaps hg;exact rfl) | refine V ?_|(refine W2 ?_ ?_ <;> intro hc))
 all_goals exact A3 (by simp) Tryz.results214 rfl (by rw [Gv p l])
end Go.Proofs.YtcfjofhapbkmfaaGreatDoor
