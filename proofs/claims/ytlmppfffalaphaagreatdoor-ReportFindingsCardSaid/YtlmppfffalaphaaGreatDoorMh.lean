/- Contracts of the functions that look at names: letters, digits, words. No conditions but those of each statement. -/
import Derived.Test.YtlmppfffalaphaaGreatDoorMt
import Derived.Test.YtlmppfffalaphaaGreatDoorMb
set_option linter.unusedSimpArgs false
set_option linter.unusedVariables false
namespace Go.Proofs.YtlmppfffalaphaaGreatDoor
open Go.RowKit
abbrev AV.i (n : Int) : AV := .val (.int .i64 n)
abbrev AV.b (b : Bool) : AV := .val (.bool b)
abbrev AV.s (s : ByteArray) : AV := .val (.string s)
abbrev Lf.i (n : Int) : Lf := .val (.int .i64 n)
abbrev Lf.s (s : ByteArray) : Lf := .val (.string s)
def Dl (n : Int) : Prop := 97 <= n /\ n <= 122 \/ 65 <= n /\ n <= 90
instance (n : Int) : Decidable (Dl n) := by unfold Dl;exact inferInstance
def G6 (n : Int) : Prop := 48 <= n /\ n <= 57
instance (n : Int) : Decidable (G6 n) := by unfold G6;exact inferInstance
def Bu (n : Int) : Prop := Dl n \/ G6 n \/ n = 95
instance (n : Int) : Decidable (Bu n) := by unfold Bu;exact inferInstance
def Ay (s : ByteArray) : Nat := (s.data.toList.takeWhile fun c => decide (Bu c.toNat)).length
theorem E9 {α : Type} (p : α -> Bool) : ∀ (l : List α) (k : Nat) (c : α), k <= (l.takeWhile p).length -> l[k]? = some c -> if p c = true then k + 1 <= (l.takeWhile p).length else (l.takeWhile p).length = k
 | [], k, c, h, hc => by simp at hc
 | x :: l, 0, c, h, hc => by
  simp at hc
  subst hc
  by_cases hp : p x = true <;> simp [List.takeWhile, hp]
 | x :: l, k + 1, c, h, hc => by
  by_cases hp : p x = true
  ·simp only [List.takeWhile, hp, List.length_cons] at h ⊢
   have := E9 p l k c (by omega) (by simpa using hc)
   split at this <;> rename_i h2
   ·rw [if_pos h2];omega
   ·rw [if_neg h2];omega
  ·simp [List.takeWhile, hp] at h
theorem H6 (s : ByteArray) : Ay s <= s.size := by
 have key : ∀ l : List UInt8, (l.takeWhile fun c => decide (Bu c.toNat)).length <= l.length := fun l => by
  induction l with
  | nil => exact Nat.le_refl _
  | cons c l ih =>
   rw [List.takeWhile]
   split
   ·simp only [List.length_cons];omega
   ·exact Nat.zero_le _
 have := key s.data.toList
 rw [Array.length_toList] at this
 exact this
theorem Bh {s : ByteArray} {k : Nat} (h : k < s.size) : ∃ c, s[k]? = some c /\ s.data.toList[k]? = some c := by
 have h' : k < s.data.size := h
 refine ⟨s.data[k], ?_, by simp [h']⟩
 show (if hh : k < s.size then some s[k] else none) = _
 rw [dif_pos h];rfl
set_option maxHeartbeats 4000000 in
theorem Gl (n : Int) : Fn0 Tryz.prog 55 [.val (.int .u8 n)] (.b (decide (Dl n))) := by
 refine Fn0.of Tryz.func55 Tryz.ntmps55 rfl rfl rfl ?_
 simp only [A0]
 repeat' (first | refine W ?_ | refine V ?_|(refine W2 ?_ ?_ <;> intro hc))
 all_goals exact A4 (by simp) Tryz.results55 rfl (by simp only [Dl];simp [*];try omega)
set_option maxHeartbeats 4000000 in
theorem Lp (n : Int) : Fn0 Tryz.prog 88 [.val (.int .u8 n)] (.b (decide (G6 n))) := by
 refine Fn0.of Tryz.func88 Tryz.ntmps88 rfl rfl rfl ?_
 simp only [A0]
 repeat' (first | refine W ?_ | refine V ?_|(refine W2 ?_ ?_ <;> intro hc))
 all_goals exact A4 (by simp) Tryz.results88 rfl (by simp only [G6];simp [*];try omega)
theorem Fe {s : ByteArray} {k : Nat} {c : UInt8} (hk : k <= Ay s) (hc : s.data.toList[k]? = some c) : if Bu c.toNat then k + 1 <= Ay s else Ay s = k := by
 have := E9 (fun c : UInt8 => decide (Bu c.toNat)) s.data.toList k c hk hc
 simp only [decide_eq_true_eq] at this
 exact this
set_option maxHeartbeats 4000000 in
theorem Ni (s : ByteArray) (hs : s.size <= 9223372036854775807) : Fn0 Tryz.prog 56 [.s s] (.i (Ay s)) := by
 refine Fn0.of Tryz.func56 Tryz.ntmps56 rfl rfl rfl ?_
 simp only [A0]
 repeat' (first | refine W ?_ | refine V ?_|(refine W2 ?_ ?_ <;> intro hc))
 refine T.loopS (fun k => k <= Ay s) (fun k => s.size - k) (fun k => [(3, .i k), (0, .s s)]) (fun _ => []) 0 (by omega) CV .nil ?_
 intro k hk
 have hle := H6 s
 by_cases hlt : k < s.size
 ·have h1 : (k : Int) < s.size := by omega
  obtain ⟨c, hc, hc2⟩ := Bh hlt
  have hn := Fe hk hc2
  have hb : s[((k : Nat) : Int).toNat]? = some c := hc
  repeat' (first | refine W ?_|(apply S.byteAt;(iterate 3 exact rfl);omega;exact hb)|refine Zc (Gl _) ?_|refine Zc (Lp _) ?_|refine Za ?_ | refine V ?_|(refine W2 ?_ ?_ <;> intro hc))
  all_goals first
   | exact Next.go (k + 1) (by rw [if_pos (by simp [Bu, *])] at hn;exact hn) (by omega) CV .nil
   | exact A4 (by simp) Tryz.results56 rfl (by rw [if_neg (by simp [Bu, *])] at hn;rw [hn])
 ·have h1 : ¬ (k : Int) < s.size := by omega
  repeat' (first | refine W ?_ | refine V ?_|(refine W2 ?_ ?_ <;> intro hc))
  exact A4 (by simp) Tryz.results56 rfl (by rw [show Ay s = k by omega])
def idx {α : Type} (p : α -> Prop) [DecidablePred p] : List α -> Int
 | [] => -1
 | x :: l => if p x then 0 else (if idx p l = -1 then -1 else idx p l + 1)
theorem Cw {α : Type} (p : α -> Prop) [DecidablePred p] : ∀ l : List α, -1 <= idx p l
 | [] => by simp [idx]
 | x :: l => by
  have := Cw p l
  rw [idx];split
  ·omega
  ·split <;> omega
theorem Db {α : Type} {p : α -> Prop} [DecidablePred p] : ∀ {l : List α}, (∀ x ∈ l, ¬ p x) -> idx p l = -1
 | [], _ => rfl
 | x :: l, h => by
  rw [idx, if_neg (h x (by simp)), if_pos (Db fun y hy => h y (by simp [hy]))]
theorem J2 {α : Type} {p : α -> Prop} [DecidablePred p] : ∀ {l : List α} {k : Nat} {x : α}, l[k]? = some x -> (∀ y ∈ l.take k, ¬ p y) -> p x -> idx p l = k
 | [], k, x, h, _, _ => by simp at h
 | y :: l, 0, x, h, _, hp => by
  simp at h
  subst h
  rw [idx, if_pos hp];rfl
 | y :: l, k + 1, x, h, hn, hp => by
  have ih := J2 (l := l) (k := k) (x := x) (by simpa using h) (fun z hz => hn z (by simp [hz])) hp
  rw [idx, if_neg (hn y (by simp)), ih, if_neg (by omega)]
  omega
theorem J3 {α : Type} (p : α -> Prop) [DecidablePred p] : ∀ l : List α, idx p l < l.length
 | [] => by simp [idx]
 | x :: l => by
  have := J3 p l
  rw [idx];simp only [List.length_cons]
  split
  ·omega
  ·split <;> omega
theorem J4 {α : Type} {p : α -> Prop} [DecidablePred p] : ∀ {l : List α}, (∃ x ∈ l, p x) -> ¬ idx p l = -1
 | [], h => by obtain ⟨x, hx, _⟩ := h;simp at hx
 | y :: l, h => by
  have hge := Cw p l
  rw [idx]
  by_cases hy : p y
  ·rw [if_pos hy];omega
  ·rw [if_neg hy]
   have := J4 (p := p) (l := l) (by
    obtain ⟨x, hx, hp⟩ := h
    rcases List.mem_cons.1 hx with rfl | hx
    ·exact absurd hp hy
    ·exact ⟨x, hx, hp⟩)
   rw [if_neg this];omega
theorem Pu {α : Type} (p : α -> Prop) [DecidablePred p] (l : List α) : decide (0 <= idx p l) = decide (∃ x ∈ l, p x) := by
 by_cases h : ∃ x ∈ l, p x
 ·have : ¬ idx p l = -1 := J4 h
  have := Cw p l
  rw [decide_eq_true h, decide_eq_true (by omega)]
 ·have := Db (p := p) (l := l) fun x hx hp => h ⟨x, hx, hp⟩
  rw [decide_eq_false h, this];rfl
def AV.cap : AV -> Bool
 | .lf _ => true
 | .rop _ => true
 | _ => false
theorem D0 {caps : List AV} {n : Nat} {f : Fn} (h : caps.all AV.cap = true) : (AV.fn f [] caps).under n = true := by
 simp only [AV.under, List.all_nil, Bool.true_and]
 exact List.all_eq_true.2 fun x hx => by
  have := List.all_eq_true.1 h x hx
  cases x <;> first | rfl | cases this
theorem P3 {l : List (List Lf)} {caps : List AV} {f : Fn} (h : caps.all AV.cap = true) : ([AV.sl l, .fn f [] caps] : List AV).all AV.tree = true := by
 simp only [List.all_cons, AV.tree, List.all_nil, Bool.true_and, Bool.and_true]
 exact List.all_eq_true.2 fun x hx => by
  have := List.all_eq_true.1 h x hx
  cases x <;> first | rfl | cases this
theorem Is {row : List Lf} {caps : List AV} (h : caps.all AV.cap = true) : ([AV.agg (row.map .lf)] ++ caps).all AV.tree = true := by
 rw [List.all_append, Bool.and_eq_true]
 refine ⟨by rw [List.all_cons, Ou];rfl, List.all_eq_true.2 fun x hx => ?_⟩
 have := List.all_eq_true.1 h x hx
 cases x <;> first | rfl | cases this
end Go.Proofs.YtlmppfffalaphaaGreatDoor
