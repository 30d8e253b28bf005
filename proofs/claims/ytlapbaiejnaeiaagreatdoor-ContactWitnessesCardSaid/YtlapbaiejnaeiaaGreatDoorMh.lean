/- Lemmas of the proof. -/
import Derived.Test.YtlapbaiejnaeiaaGreatDoorMt
import Derived.Test.YtlapbaiejnaeiaaGreatDoorMb
import Derived.Test.YtlapbaiejnaeiaaGreatDoorNx
import Derived.Laws.StructEq
set_option linter.all false
set_option maxHeartbeats 64000000
namespace Go.Proofs.YtlapbaiejnaeiaaGreatDoor
open Go.RowKit
def a0x := @List.take_add_one
def a1j := @List.mem_cons
def a7w := @Bool.true_and
abbrev AV.i (n : Int) : AV := .val (.int .i64 n)
abbrev AV.b (b : Bool) : AV := .val (.bool b)
abbrev AV.s (s : ByteArray) : AV := .val (.string s)
abbrev Lf.i (n : Int) : Lf := .val (.int .i64 n)
abbrev Lf.s (s : ByteArray) : Lf := .val (.string s)
def P6 (n : Int) : Prop := 97 <= n /\ n <= 122 \/ 65 <= n /\ n <= 90
instance (n : Int) : Decidable (P6 n) := by unfold P6;exact inferInstance
def Xe (n : Int) : Prop := 48 <= n /\ n <= 57
instance (n : Int) : Decidable (Xe n) := by unfold Xe;exact inferInstance
def Gi (n : Int) : Prop := P6 n \/ Xe n \/ n = 95
instance (n : Int) : Decidable (Gi n) := by unfold Gi;exact inferInstance
def Ey (s : ByteArray) : Nat := (s.data.toList.takeWhile fun c => decide (Gi c.toNat)).length
theorem Lh {α : Type} (p : α -> Bool) : ∀ (l : List α) (k : Nat) (c : α), k <= (l.takeWhile p).length -> l[k]? = some c -> if p c = true then k + 1 <= (l.takeWhile p).length else (l.takeWhile p).length = k
 | [], k, c, h, hc => by simp at hc
 | x :: l, 0, c, h, hc => by
  simp at hc
  subst hc
  by_cases hp : p x = true <;> simp [List.takeWhile, hp]
 | x :: l, k + 1, c, h, hc => by
  by_cases hp : p x = true
  ·simp only [List.takeWhile, hp, a0i] at h ⊢
   have := Lh p l k c (by omega) (by simpa using hc)
   split at this <;> rename_i h2
   ·rw [if_pos h2];omega
   ·rw [if_neg h2];omega
  ·simp [List.takeWhile, hp] at h
theorem A42 (s : ByteArray) : Ey s <= s.size := by
 have key : ∀ l : List UInt8, (l.takeWhile fun c => decide (Gi c.toNat)).length <= l.length := fun l => by
  induction l with
  | nil => exact a0l _
  | cons c l ih =>
   rw [List.takeWhile]
   split
   ·simp only [a0i];omega
   ·exact a0o _
 have := key s.data.toList
 rw [a4a] at this
 exact this
theorem A0s {s : ByteArray} {k : Nat} (h : k < s.size) : ∃ c, s[k]? = some c /\ s.data.toList[k]? = some c := by
 have h' : k < s.data.size := h
 refine ⟨s.data[k], ?_, by simp [h']⟩
 show (if hh : k < s.size then some s[k] else none) = _
 rw [dif_pos h];rfl
theorem I8 (n lo hi : Int) : Fn0 Tryz.prog 217 [.i n, .i lo, .i hi] (.b (decide (lo <= n /\ n <= hi))) := by
 refine Fn0.of Tryz.func217 Tryz.ntmps217 rfl rfl rfl ?_
 simp only [A2]
 repeat' (first|refine W ?_|refine V ?_|(refine W2 ?_ ?_<;>intro hc))
 all_goals exact A4 (by simp) Tryz.results217 rfl (by simp [*])
theorem S7 (n : Int) : Fn0 Tryz.prog 98 [.val (.int .u8 n)] (.b (decide (P6 n))) := by
 refine Fn0.of Tryz.func98 Tryz.ntmps98 rfl rfl rfl ?_
 simp only [A2]
 repeat' (first|refine W ?_|refine V ?_|(refine W2 ?_ ?_<;>intro hc))
 all_goals exact A4 (by simp) Tryz.results98 rfl (by simp only [P6];simp [*];try omega)
theorem A56 (n : Int) : Fn0 Tryz.prog 149 [.val (.int .u8 n)] (.b (decide (Xe n))) := by
 refine Fn0.of Tryz.func149 Tryz.ntmps149 rfl rfl rfl ?_
 simp only [A2]
 repeat' (first|refine W ?_|refine V ?_|(refine W2 ?_ ?_<;>intro hc))
 all_goals exact A4 (by simp) Tryz.results149 rfl (by simp only [Xe];simp [*];try omega)
theorem Zm {s : ByteArray} {k : Nat} {c : UInt8} (hk : k <= Ey s) (hc : s.data.toList[k]? = some c) : if Gi c.toNat then k + 1 <= Ey s else Ey s = k := by
 have := Lh (fun c : UInt8 => decide (Gi c.toNat)) s.data.toList k c hk hc
 simp only [decide_eq_true_eq] at this
 exact this
theorem A8b (s : ByteArray) (hs : s.size <= 9223372036854775807) : Fn0 Tryz.prog 99 [.s s] (.i (Ey s)) := by
 refine Fn0.of Tryz.func99 Tryz.ntmps99 rfl rfl rfl ?_
 simp only [A2]
 repeat' (first|refine W ?_|refine V ?_|(refine W2 ?_ ?_<;>intro hc))
 refine p0d (fun k => k <= Ey s) (fun k => s.size - k) (fun k => [(3, .i k), (0, .s s)]) (fun _ => []) 0 (by omega) CV .nil ?_
 intro k hk
 have hle := A42 s
 by_cases hlt : k < s.size
 ·have h1 : (k : Int) < s.size := by omega
  obtain ⟨c, hc, hc2⟩ := A0s hlt
  have hn := Zm hk hc2
  have hb : s[((k : Nat) : Int).toNat]? = some c := hc
  repeat' (first|refine W ?_|(apply S.byteAt;(iterate 3 exact rfl);omega;exact hb)|refine Zc (S7 _) ?_|refine Zc (A56 _) ?_|refine Za ?_|refine V ?_|(refine W2 ?_ ?_<;>intro hc))
  all_goals first
   | exact Next.go (k + 1) (by rw [if_pos (by simp [Gi, *])] at hn;exact hn) (by omega) CV .nil
   | exact A4 (by simp) Tryz.results99 rfl (by rw [if_neg (by simp [Gi, *])] at hn;rw [hn])
 ·have h1 : ¬ (k : Int) < s.size := by omega
  repeat' (first|refine W ?_|refine V ?_|(refine W2 ?_ ?_<;>intro hc))
  exact A4 (by simp) Tryz.results99 rfl (by rw [show Ey s = k by omega])
def idx {α : Type} (p : α -> Prop) [DecidablePred p] : List α -> Int
 | [] => -1
 | x :: l => if p x then 0 else (if idx p l = -1 then -1 else idx p l + 1)
theorem Fq {α : Type} (p : α -> Prop) [DecidablePred p] : ∀ l : List α, -1 <= idx p l
 | [] => by simp [idx]
 | x :: l => by
  have := Fq p l
  rw [idx];split
  ·omega
  ·split <;> omega
theorem E1 {α : Type} {p : α -> Prop} [DecidablePred p] : ∀ {l : List α}, (∀ x ∈ l, ¬ p x) -> idx p l = -1
 | [], _ => rfl
 | x :: l, h => by
  rw [idx, if_neg (h x (by simp)), if_pos (E1 fun y hy => h y (by simp [hy]))]
theorem G7 {α : Type} {p : α -> Prop} [DecidablePred p] : ∀ {l : List α} {k : Nat} {x : α}, l[k]? = some x -> (∀ y ∈ l.take k, ¬ p y) -> p x -> idx p l = k
 | [], k, x, h, _, _ => by simp at h
 | y :: l, 0, x, h, _, hp => by
  simp at h
  subst h
  rw [idx, if_pos hp];rfl
 | y :: l, k + 1, x, h, hn, hp => by
  have ih := G7 (l := l) (k := k) (x := x) (by simpa using h) (fun z hz => hn z (by simp [hz])) hp
  rw [idx, if_neg (hn y (by simp)), ih, if_neg (by omega)]
  omega
theorem L6 {α : Type} (p : α -> Prop) [DecidablePred p] : ∀ l : List α, idx p l < l.length
 | [] => by simp [idx]
 | x :: l => by
  have := L6 p l
  rw [idx];simp only [a0i]
  split
  ·omega
  ·split <;> omega
theorem R3 {α : Type} {p : α -> Prop} [DecidablePred p] : ∀ {l : List α}, (∃ x ∈ l, p x) -> ¬ idx p l = -1
 | [], h => by obtain ⟨x, hx, _⟩ := h;simp at hx
 | y :: l, h => by
  have hge := Fq p l
  rw [idx]
  by_cases hy : p y
  ·rw [if_pos hy];omega
  ·rw [if_neg hy]
   have := R3 (p := p) (l := l) (by
    obtain ⟨x, hx, hp⟩ := h
    rcases a1j.1 hx with rfl | hx
    ·exact absurd hp hy
    ·exact ⟨x, hx, hp⟩)
   rw [if_neg this];omega
theorem Jl {α : Type} (p : α -> Prop) [DecidablePred p] (l : List α) : decide (0 <= idx p l) = decide (∃ x ∈ l, p x) := by
 by_cases h : ∃ x ∈ l, p x
 ·have : ¬ idx p l = -1 := R3 h
  have := Fq p l
  rw [decide_eq_true h, decide_eq_true (by omega)]
 ·have := E1 (p := p) (l := l) fun x hx hp => h ⟨x, hx, hp⟩
  rw [decide_eq_false h, this];rfl
def p1p : AV -> Bool
 | .lf _ => true
 | .rop _ => true
 | _ => false
theorem Bg {caps : List AV} {n : Nat} {f : Fn} (h : caps.all p1p = true) : (AV.fn f [] caps).under n = true := by
 simp only [AV.under, List.all_nil, a7w]
 exact a0k.2 fun x hx => by
  have := a0k.1 h x hx
  cases x <;> first | rfl | cases this
theorem Ou {l : List (List Lf)} {caps : List AV} {f : Fn} (h : caps.all p1p = true) : ([AV.sl l, .fn f [] caps] : List AV).all AV.tree = true := by
 simp only [a7x, AV.tree, List.all_nil, a7w, Bool.and_true]
 exact a0k.2 fun x hx => by
  have := a0k.1 h x hx
  cases x <;> first | rfl | cases this
theorem F7 {row : List Lf} {caps : List AV} (h : caps.all p1p = true) : ([AV.agg (row.map .lf)] ++ caps).all AV.tree = true := by
 rw [a2r, a0y]
 refine ⟨by rw [a7x, Aae];rfl, a0k.2 fun x hx => ?_⟩
 have := a0k.1 h x hx
 cases x <;> first | rfl | cases this
theorem Jm {α : Type} (l : List α) (R : α -> List Lf) (p : α -> Prop) [DecidablePred p] (g : FuncId) (caps : List AV) (hR : ∀ x, (R x).length = 13) (hl : l.length <= 9223372036854775807) (hcaps : caps.all p1p = true) (hg : ∀ x ∈ l, Fn0 Tryz.prog g (.agg ((R x).map .lf) :: caps) (.b (decide (p x)))) :
  Fn0 Tryz.prog 88 [.sl (l.map R), .fn (.func g) [] caps] (.i (idx p l)) := by
 refine Fn0.of Tryz.func88 Tryz.ntmps88 rfl rfl rfl ?_
 simp only [A2]
 repeat' (first|refine W ?_|refine V ?_|(refine W2 ?_ ?_<;>intro hc))
 refine p0d (fun k => k <= l.length /\ ∀ x ∈ l.take k, ¬ p x) (fun k => l.length - k) (fun k => [(8, .i k), (7, .i (l.map R).length), (0, .sl (l.map R)), (1, .fn (.func g) [] caps)]) (fun _ => []) 0 ⟨a0o _, by simp⟩ (.cons rfl rfl (.cons rfl rfl (.cons rfl rfl (.cons rfl (Bg hcaps) .nil)))) .nil ?_
 rintro k ⟨hk, hno⟩
 have hle : (l.map R).length = l.length := a0a _
 by_cases hlt : k < l.length
 ·have h1 : (k : Int) < ((l.map R).length : Nat) := by omega
  obtain ⟨x, hx⟩ : ∃ x, l[k]? = some x := ⟨l[k], a0b hlt⟩
  have hb : (l.map R)[((k : Nat) : Int).toNat]? = some (R x) := by rw [a0v, a0e, hx];rfl
  have hx2 := hg x (a0c hx)
  repeat' (first|refine W ?_|(apply S.indexR;(iterate 3 exact rfl);exact hb;omega;exact hR x)|(apply p0k;(iterate 3 exact rfl);exact hR x)|(apply S.callF;exact rfl;exact rfl;exact hx2;exact F7 hcaps;exact rfl)|refine Za ?_|refine V ?_|(refine W2 ?_ ?_<;>intro hc))
  all_goals first
   | exact Next.go (k + 1) ⟨by omega, by rw [a0x, hx];intro y hy;rcases a0u.1 hy with hy | hy;exact hno y hy;obtain rfl : y = x := (by simpa using hy);assumption⟩ (by omega) (.cons rfl rfl (.cons rfl rfl (.cons rfl rfl (.cons rfl (Bg hcaps) .nil)))) .nil
   | exact A4 (by simp) Tryz.results88 rfl (by rw [G7 hx hno (by assumption)])
 ·have h1 : ¬ (k : Int) < ((l.map R).length : Nat) := by omega
  repeat' (first|refine W ?_|refine V ?_|(refine W2 ?_ ?_<;>intro hc))
  exact A4 (by simp) Tryz.results88 rfl (by rw [E1 (by rw [a0h (by omega)] at hno;exact hno)])
theorem N2 {α : Type} (l : List α) (R : α -> List Lf) (p : α -> Prop) [DecidablePred p] (g : FuncId) (caps : List AV) (hR : ∀ x, (R x).length = 5) (hl : l.length <= 9223372036854775807) (hcaps : caps.all p1p = true) (hg : ∀ x ∈ l, Fn0 Tryz.prog g (.agg ((R x).map .lf) :: caps) (.b (decide (p x)))) :
  Fn0 Tryz.prog 173 [.sl (l.map R), .fn (.func g) [] caps] (.i (idx p l)) := by
 refine Fn0.of Tryz.func173 Tryz.ntmps173 rfl rfl rfl ?_
 simp only [A2]
 repeat' (first|refine W ?_|refine V ?_|(refine W2 ?_ ?_<;>intro hc))
 refine p0d (fun k => k <= l.length /\ ∀ x ∈ l.take k, ¬ p x) (fun k => l.length - k) (fun k => [(8, .i k), (7, .i (l.map R).length), (0, .sl (l.map R)), (1, .fn (.func g) [] caps)]) (fun _ => []) 0 ⟨a0o _, by simp⟩ (.cons rfl rfl (.cons rfl rfl (.cons rfl rfl (.cons rfl (Bg hcaps) .nil)))) .nil ?_
 rintro k ⟨hk, hno⟩
 have hle : (l.map R).length = l.length := a0a _
 by_cases hlt : k < l.length
 ·have h1 : (k : Int) < ((l.map R).length : Nat) := by omega
  obtain ⟨x, hx⟩ : ∃ x, l[k]? = some x := ⟨l[k], a0b hlt⟩
  have hb : (l.map R)[((k : Nat) : Int).toNat]? = some (R x) := by rw [a0v, a0e, hx];rfl
  have hx2 := hg x (a0c hx)
  repeat' (first|refine W ?_|(apply S.indexR;(iterate 3 exact rfl);exact hb;omega;exact hR x)|(apply p0k;(iterate 3 exact rfl);exact hR x)|(apply S.callF;exact rfl;exact rfl;exact hx2;exact F7 hcaps;exact rfl)|refine Za ?_|refine V ?_|(refine W2 ?_ ?_<;>intro hc))
  all_goals first
   | exact Next.go (k + 1) ⟨by omega, by rw [a0x, hx];intro y hy;rcases a0u.1 hy with hy | hy;exact hno y hy;obtain rfl : y = x := (by simpa using hy);assumption⟩ (by omega) (.cons rfl rfl (.cons rfl rfl (.cons rfl rfl (.cons rfl (Bg hcaps) .nil)))) .nil
   | exact A4 (by simp) Tryz.results173 rfl (by rw [G7 hx hno (by assumption)])
 ·have h1 : ¬ (k : Int) < ((l.map R).length : Nat) := by omega
  repeat' (first|refine W ?_|refine V ?_|(refine W2 ?_ ?_<;>intro hc))
  exact A4 (by simp) Tryz.results173 rfl (by rw [E1 (by rw [a0h (by omega)] at hno;exact hno)])
theorem Np {α : Type} (l : List α) (R : α -> List Lf) (p : α -> Prop) [DecidablePred p] (g : FuncId) (caps : List AV) (hR : ∀ x, (R x).length = 7) (hl : l.length <= 9223372036854775807) (hcaps : caps.all p1p = true) (hg : ∀ x ∈ l, Fn0 Tryz.prog g (.agg ((R x).map .lf) :: caps) (.b (decide (p x)))) :
  Fn0 Tryz.prog 224 [.sl (l.map R), .fn (.func g) [] caps] (.i (idx p l)) := by
 refine Fn0.of Tryz.func224 Tryz.ntmps224 rfl rfl rfl ?_
 simp only [A2]
 repeat' (first|refine W ?_|refine V ?_|(refine W2 ?_ ?_<;>intro hc))
 refine p0d (fun k => k <= l.length /\ ∀ x ∈ l.take k, ¬ p x) (fun k => l.length - k) (fun k => [(8, .i k), (7, .i (l.map R).length), (0, .sl (l.map R)), (1, .fn (.func g) [] caps)]) (fun _ => []) 0 ⟨a0o _, by simp⟩ (.cons rfl rfl (.cons rfl rfl (.cons rfl rfl (.cons rfl (Bg hcaps) .nil)))) .nil ?_
 rintro k ⟨hk, hno⟩
 have hle : (l.map R).length = l.length := a0a _
 by_cases hlt : k < l.length
 ·have h1 : (k : Int) < ((l.map R).length : Nat) := by omega
  obtain ⟨x, hx⟩ : ∃ x, l[k]? = some x := ⟨l[k], a0b hlt⟩
  have hb : (l.map R)[((k : Nat) : Int).toNat]? = some (R x) := by rw [a0v, a0e, hx];rfl
  have hx2 := hg x (a0c hx)
  repeat' (first|refine W ?_|(apply S.indexR;(iterate 3 exact rfl);exact hb;omega;exact hR x)|(apply p0k;(iterate 3 exact rfl);exact hR x)|(apply S.callF;exact rfl;exact rfl;exact hx2;exact F7 hcaps;exact rfl)|refine Za ?_|refine V ?_|(refine W2 ?_ ?_<;>intro hc))
  all_goals first
   | exact Next.go (k + 1) ⟨by omega, by rw [a0x, hx];intro y hy;rcases a0u.1 hy with hy | hy;exact hno y hy;obtain rfl : y = x := (by simpa using hy);assumption⟩ (by omega) (.cons rfl rfl (.cons rfl rfl (.cons rfl rfl (.cons rfl (Bg hcaps) .nil)))) .nil
   | exact A4 (by simp) Tryz.results224 rfl (by rw [G7 hx hno (by assumption)])
 ·have h1 : ¬ (k : Int) < ((l.map R).length : Nat) := by omega
  repeat' (first|refine W ?_|refine V ?_|(refine W2 ?_ ?_<;>intro hc))
  exact A4 (by simp) Tryz.results224 rfl (by rw [E1 (by rw [a0h (by omega)] at hno;exact hno)])
theorem Wf {α : Type} (l : List α) (R : α -> List Lf) (p : α -> Prop) [DecidablePred p] (g : FuncId) (caps : List AV) (hR : ∀ x, (R x).length = 4) (hl : l.length <= 9223372036854775807) (hcaps : caps.all p1p = true) (hg : ∀ x ∈ l, Fn0 Tryz.prog g (.agg ((R x).map .lf) :: caps) (.b (decide (p x)))) :
  Fn0 Tryz.prog 226 [.sl (l.map R), .fn (.func g) [] caps] (.i (idx p l)) := by
 refine Fn0.of Tryz.func226 Tryz.ntmps226 rfl rfl rfl ?_
 simp only [A2]
 repeat' (first|refine W ?_|refine V ?_|(refine W2 ?_ ?_<;>intro hc))
 refine p0d (fun k => k <= l.length /\ ∀ x ∈ l.take k, ¬ p x) (fun k => l.length - k) (fun k => [(8, .i k), (7, .i (l.map R).length), (0, .sl (l.map R)), (1, .fn (.func g) [] caps)]) (fun _ => []) 0 ⟨a0o _, by simp⟩ (.cons rfl rfl (.cons rfl rfl (.cons rfl rfl (.cons rfl (Bg hcaps) .nil)))) .nil ?_
 rintro k ⟨hk, hno⟩
 have hle : (l.map R).length = l.length := a0a _
 by_cases hlt : k < l.length
 ·have h1 : (k : Int) < ((l.map R).length : Nat) := by omega
  obtain ⟨x, hx⟩ : ∃ x, l[k]? = some x := ⟨l[k], a0b hlt⟩
  have hb : (l.map R)[((k : Nat) : Int).toNat]? = some (R x) := by rw [a0v, a0e, hx];rfl
  have hx2 := hg x (a0c hx)
  repeat' (first|refine W ?_|(apply S.indexR;(iterate 3 exact rfl);exact hb;omega;exact hR x)|(apply p0k;(iterate 3 exact rfl);exact hR x)|(apply S.callF;exact rfl;exact rfl;exact hx2;exact F7 hcaps;exact rfl)|refine Za ?_|refine V ?_|(refine W2 ?_ ?_<;>intro hc))
  all_goals first
   | exact Next.go (k + 1) ⟨by omega, by rw [a0x, hx];intro y hy;rcases a0u.1 hy with hy | hy;exact hno y hy;obtain rfl : y = x := (by simpa using hy);assumption⟩ (by omega) (.cons rfl rfl (.cons rfl rfl (.cons rfl rfl (.cons rfl (Bg hcaps) .nil)))) .nil
   | exact A4 (by simp) Tryz.results226 rfl (by rw [G7 hx hno (by assumption)])
 ·have h1 : ¬ (k : Int) < ((l.map R).length : Nat) := by omega
  repeat' (first|refine W ?_|refine V ?_|(refine W2 ?_ ?_<;>intro hc))
  exact A4 (by simp) Tryz.results226 rfl (by rw [E1 (by rw [a0h (by omega)] at hno;exact hno)])
theorem We {α : Type} (l : List α) (R : α -> List Lf) (p : α -> Prop) [DecidablePred p] (g : FuncId) (caps : List AV) (hR : ∀ x, (R x).length = 7) (hl : l.length <= 9223372036854775807) (hcaps : caps.all p1p = true) (hg : ∀ x ∈ l, Fn0 Tryz.prog g (.agg ((R x).map .lf) :: caps) (.b (decide (p x)))) :
  Fn0 Tryz.prog 229 [.sl (l.map R), .fn (.func g) [] caps] (.i (idx p l)) := by
 refine Fn0.of Tryz.func229 Tryz.ntmps229 rfl rfl rfl ?_
 simp only [A2]
 repeat' (first|refine W ?_|refine V ?_|(refine W2 ?_ ?_<;>intro hc))
 refine p0d (fun k => k <= l.length /\ ∀ x ∈ l.take k, ¬ p x) (fun k => l.length - k) (fun k => [(8, .i k), (7, .i (l.map R).length), (0, .sl (l.map R)), (1, .fn (.func g) [] caps)]) (fun _ => []) 0 ⟨a0o _, by simp⟩ (.cons rfl rfl (.cons rfl rfl (.cons rfl rfl (.cons rfl (Bg hcaps) .nil)))) .nil ?_
 rintro k ⟨hk, hno⟩
 have hle : (l.map R).length = l.length := a0a _
 by_cases hlt : k < l.length
 ·have h1 : (k : Int) < ((l.map R).length : Nat) := by omega
  obtain ⟨x, hx⟩ : ∃ x, l[k]? = some x := ⟨l[k], a0b hlt⟩
  have hb : (l.map R)[((k : Nat) : Int).toNat]? = some (R x) := by rw [a0v, a0e, hx];rfl
  have hx2 := hg x (a0c hx)
  repeat' (first|refine W ?_|(apply S.indexR;(iterate 3 exact rfl);exact hb;omega;exact hR x)|(apply p0k;(iterate 3 exact rfl);exact hR x)|(apply S.callF;exact rfl;exact rfl;exact hx2;exact F7 hcaps;exact rfl)|refine Za ?_|refine V ?_|(refine W2 ?_ ?_<;>intro hc))
  all_goals first
   | exact Next.go (k + 1) ⟨by omega, by rw [a0x, hx];intro y hy;rcases a0u.1 hy with hy | hy;exact hno y hy;obtain rfl : y = x := (by simpa using hy);assumption⟩ (by omega) (.cons rfl rfl (.cons rfl rfl (.cons rfl rfl (.cons rfl (Bg hcaps) .nil)))) .nil
   | exact A4 (by simp) Tryz.results229 rfl (by rw [G7 hx hno (by assumption)])
 ·have h1 : ¬ (k : Int) < ((l.map R).length : Nat) := by omega
  repeat' (first|refine W ?_|refine V ?_|(refine W2 ?_ ?_<;>intro hc))
  exact A4 (by simp) Tryz.results229 rfl (by rw [E1 (by rw [a0h (by omega)] at hno;exact hno)])
theorem Qv {α : Type} (l : List α) (R : α -> List Lf) (p : α -> Prop) [DecidablePred p] (g : FuncId) (caps : List AV) (hR : ∀ x, (R x).length = 5) (hl : l.length <= 9223372036854775807) (hcaps : caps.all p1p = true) (hg : ∀ x ∈ l, Fn0 Tryz.prog g (.agg ((R x).map .lf) :: caps) (.b (decide (p x)))) :
  Fn0 Tryz.prog 244 [.sl (l.map R), .fn (.func g) [] caps] (.b (decide (∃ x ∈ l, p x))) := by
 refine Fn0.of Tryz.func244 Tryz.ntmps244 rfl rfl rfl ?_
 simp only [A2]
 repeat' (first|refine W ?_|(apply S.call;exact rfl;exact Ou hcaps;exact N2 l R p g caps hR hl hcaps hg;exact rfl)|refine V ?_|(refine W2 ?_ ?_<;>intro hc))
 all_goals exact A4 (by simp) Tryz.results244 rfl (by rw [Jl p l])
theorem Qw {α : Type} (l : List α) (R : α -> List Lf) (p : α -> Prop) [DecidablePred p] (g : FuncId) (caps : List AV) (hR : ∀ x, (R x).length = 4) (hl : l.length <= 9223372036854775807) (hcaps : caps.all p1p = true) (hg : ∀ x ∈ l, Fn0 Tryz.prog g (.agg ((R x).map .lf) :: caps) (.b (decide (p x)))) :
  Fn0 Tryz.prog 171 [.sl (l.map R), .fn (.func g) [] caps] (.b (decide (∃ x ∈ l, p x))) := by
 refine Fn0.of Tryz.func171 Tryz.ntmps171 rfl rfl rfl ?_
 simp only [A2]
 repeat' (first|refine W ?_|(apply S.call;exact rfl;exact Ou hcaps;exact Wf l R p g caps hR hl hcaps hg;exact rfl)|refine V ?_|(refine W2 ?_ ?_<;>intro hc))
 all_goals exact A4 (by simp) Tryz.results171 rfl (by rw [Jl p l])
theorem Qu {α : Type} (l : List α) (R : α -> List Lf) (p : α -> Prop) [DecidablePred p] (g : FuncId) (caps : List AV) (hR : ∀ x, (R x).length = 7) (hl : l.length <= 9223372036854775807) (hcaps : caps.all p1p = true) (hg : ∀ x ∈ l, Fn0 Tryz.prog g (.agg ((R x).map .lf) :: caps) (.b (decide (p x)))) :
  Fn0 Tryz.prog 188 [.sl (l.map R), .fn (.func g) [] caps] (.b (decide (∃ x ∈ l, p x))) := by
 refine Fn0.of Tryz.func188 Tryz.ntmps188 rfl rfl rfl ?_
 simp only [A2]
 repeat' (first|refine W ?_|(apply S.call;exact rfl;exact Ou hcaps;exact We l R p g caps hR hl hcaps hg;exact rfl)|refine V ?_|(refine W2 ?_ ?_<;>intro hc))
 all_goals exact A4 (by simp) Tryz.results188 rfl (by rw [Jl p l])
end Go.Proofs.YtlapbaiejnaeiaaGreatDoor
namespace Go.Proofs.YtlapbaiejnaeiaaGreatDoor
open Go Go.RowKit
section
variable {P : Program} {N : Nat} {ops : Array Oper} {m : Option Nat} {K : Tm -> AH -> Prop} {tm tm' : Tm} {H : AH} {rest : List Oper} {ty : TypeId} {pos : String} {af : Array Edge} {d : Nat} {t e : TypeId} {x y z : Operand}
structure FnOwnT (P : Program) (f : FuncId) (args : List AV) (rows : List (List Lf)) (n : Nat) (u : Value) : Prop where
 ent : Enters P f
 run : ∀ (L : Nat -> Prop) (w : World) (vs : List Value), Glob w -> (∀ k, L k -> k < w.heap.size) -> args.length = vs.length -> (∀ (i : Nat) (x : AV) (v : Value), args[i]? = some x -> vs[i]? = some v -> RelV w L Ap x v) ->
  Calls P f vs.toArray w fun e w' => ∃ v, e = .returned (.tuple #[v, u]) /\ Below w.heap.size w w' /\
   ∃ k o c el lo hi cap, v = .slice (some ⟨k, o, none⟩) rows.length cap /\ w.heap.size <= k /\ w'.heap[k]? = some (.cells c el (lo, hi)) /\ hi <= lo /\ rows.length <= cap /\ o + cap * n <= c.size /\ ∀ (j : Nat) (x : Lf), rows.flatten[j]? = some x -> ∃ u, c[o + j]? = some u /\ RelL w' (fun i => L i \/ i = k) x u
def Rm (P : Program) (fn : Func) (rows : List (List Lf)) (n : Nat) (u : Value) (e : Exit) (st : St) : Prop := (e = .normal \/ e = .ret) /\
 ∃ b, ResL P st fn.results.toList [.own b 0 rows.length n, .val u] /\ st.H.at b = .live (rows.flatten.map .lf)
theorem FnOwnT.of {f : FuncId} {fn : Func} {c : Code} {args : List AV} {rows : List (List Lf)} {n : Nat} {u : Value} {N : Nat} (hf : P.funcs[f]? = some fn) (hnt : fn.ntmps = N) (hb : fn.body = some c) (hn : (fn.name == "runtime.NumGoroutine") = false) (hN : Nat.ble args.length N = true)
  (h : T P N c ⟨A2 0 args, []⟩ (Rm P fn rows n u)) : FnOwnT P f args rows n u := by
 subst hnt
 refine ⟨⟨fn, hf, hn, by rw [hb];rfl⟩, fun L w vs hG hL hl hv => ?_⟩
 have hN' := a0d hN
 refine calls_of_wp hf hb ?_
 let E : Env := { N := fn.ntmps, L := L, O := fun _ => False, w0 := w, good := fun w' hf => hG.below (Fr.below hf) }
 have hsz : (vs.toArray ++ Array.replicate (fn.ntmps - vs.toArray.size) undef).size = fn.ntmps := by simp;omega
 have hst : RelSt E ⟨A2 0 args, []⟩ { tmps := vs.toArray ++ Array.replicate (fn.ntmps - vs.toArray.size) undef, defers := [] } w Ap := by
  refine ⟨hsz, rfl, fun t x hx => ?_, ⟨fun b _ => rfl, (fun b h => by simp [AH.at] at h), (fun b cs h => by simp [AH.at] at h), (fun b cs h => by simp [AH.at] at h), (fun b b' k o o' h => by cases h), ExtOk.nil _ _ _⟩, Fr.refl _ _, (fun b k o h => by cases h), hL⟩
  obtain ⟨_, hx⟩ := Gu _ _ _ _ hx
  rw [a6u] at hx
  have ht : t < args.length := (a0g.1 hx).1
  refine ⟨by show t < fn.ntmps;omega, ?_⟩
  have hu : vs[t]? = some (vs[t]'(by omega)) := a0b _
  have : (vs.toArray ++ Array.replicate (fn.ntmps - vs.toArray.size) undef).getD t undef = vs[t]'(by omega) := by
   rw [a0s, a1l (by simp;omega)]
   simp [hu]
  show RelV w L Ap x ((vs.toArray ++ Array.replicate (fn.ntmps - vs.toArray.size) undef).getD t undef)
  rw [this]
  exact hv t x _ hx hu
 refine wp_mono (h.out E _ w Ap rfl hst) ?_
 rintro e a' w' ⟨st', ρ', ⟨he, b, hx, hlive⟩, hr'⟩
 have hb' : Below w.heap.size w w' := Fr.below hr'.fr
 have fin : ∃ v, (results fn a'.tmps).run P w' = .ok (.tuple #[v, u]) w' /\
   ∃ k o c el lo hi cap, v = .slice (some ⟨k, o, none⟩) rows.length cap /\ w.heap.size <= k /\ w'.heap[k]? = some (.cells c el (lo, hi)) /\ hi <= lo /\ rows.length <= cap /\ o + cap * n <= c.size /\ ∀ (j : Nat) (x : Lf), rows.flatten[j]? = some x -> ∃ u, c[o + j]? = some u /\ RelL w' (fun i => L i \/ i = k) x u := by
  obtain ⟨us, h1, h2, h3⟩ := hx.run hr'
  have hres := Fy (fn := fn) h1
  match us, h2, h3, hres with
  | [v, u'], _, h3, hres =>
   have hu : u' = u := (h3 1 _ u' rfl rfl).val_eq
   subst hu
   have h2 := h3 0 _ v rfl rfl
   obtain ⟨k, o, c, el, lo, hi, g1, g2, g3, g4, g5, g6⟩ := hr'.H.live b _ hlive
   obtain ⟨cap, e2, n2, hveq, hc, hsh, hfit⟩ := h2.own_out k o g1
   have hk : w.heap.size <= k := by
    rcases hr'.mineO g1 with h | h
    ·exact h.elim
    ·exact h
   have hn2 : n2 = c.size := by
    rw [Bs g2] at hsh
    simp only [a0f, a1e] at hsh
    exact hsh.2.symm
   rw [a2z] at hveq hfit
   refine ⟨v, hres, k, o, c, el, lo, hi, cap, hveq, hk, g2, g3, hc, by rw [<- hn2];exact hfit, fun j x hj => ?_⟩
   obtain ⟨v, q1, q2⟩ := g6 j (.lf x) (by rw [a0e, hj];rfl)
   refine ⟨v, q1, q2.lf_out.less fun i hi => ?_⟩
   rcases hi with hi | hi
   ·exact .inl hi
   ·exact .inr ⟨b, o, hi ▸ g1⟩
 obtain ⟨v, h1, h2⟩ := fin
 rcases he with rfl | rfl
 ·exact ⟨hr'.defers, _, h1, v, rfl, hb', h2⟩
 ·exact ⟨hr'.defers, _, h1, v, rfl, hb', h2⟩
theorem p2i (b : Nat) {n : Nat} {f : FuncId} {xs : Array Operand} {ts : Array TypeId} {ys : List AV} {rows : List (List Lf)} {u : Value} (hp : FnOwnT P f ys rows n u) (hx : evs (evT tm) xs.toList = some ys) (ht : ys.all AV.tree = true) (hb : (H.at b).idle = true) (htm : tm.clearO b = some tm') (hH : AH.clear b 0 H = true) (hN : Nat.ble (d + 1) N = true)
  (hr : ∀ row ∈ rows, row.length = n)
  (h2 : Reg none P N ops rest ((d, .tup [.own b 0 rows.length n, .val u]) :: tm') (H.put b (.live (rows.flatten.map .lf))) K) : Reg none P N ops (⟨some d, .call ⟨.value (.func f), xs, ts⟩, ty, pos, af, none⟩ :: rest) tm H K := by
 refine ⟨fun E a w ρ hE hR => ?_⟩
 replace h2 := h2.out
 refine wpList_plain rfl fun K' hK => ?_
 have hN' := a0d hN
 obtain ⟨g1, g2⟩ := Dg _ _ hx
 have hrun : (execOp a.eval ⟨some d, .call ⟨.value (.func f), xs, ts⟩, ty, pos, af, none⟩).run P w = .ok (.enter f (xs.toList.map a.eval).toArray) w := by
  have : (execOp a.eval ⟨some d, .call ⟨.value (.func f), xs, ts⟩, ty, pos, af, none⟩).run P w = (callFunc f (#[] ++ xs.map a.eval ++ #[])).run P w := by simp [execOp, resolve, Act.eval, Deferred.ofValue, invoke]
  rw [this, hp.1.run]
  simp only [a3f, a3v, true_and, and_true]
  apply a4y
  simp
 unfold Oper.wp
 rw [hrun]
 refine (hp.2 (Fb E.L ρ) w (xs.toList.map a.eval) hR.glob hR.fb_lt (by simp [<- g1]) fun i x v hx hv => ?_).mono ?_
 ·refine RelV.bare ?_ (a0k.1 ht x (a0c hx))
  obtain ⟨z, h5, h6⟩ := g2 i x hx
  rw [a0e, h5] at hv
  simp at hv
  subst hv
  exact hR.ev (by rw [Ag];exact h6)
 ·rintro e w' ⟨v, rfl, hbel, k, o, c, el, lo, hi, cap, rfl, hk, hw, hlo, hcap, hsz, hc⟩
  have hlen : rows.length * n <= cap * n := a1x _ hcap
  obtain ⟨s1, s2⟩ := hR.regrow (tm' := tm') (cells' := rows.flatten.map AV.lf) (w' := w') (k' := k) (o' := o) htm hH (p1r hb) hw hlo
   (by rw [a0a, Bi rows hr];omega) (.inr hk) (fun k2 hk2 _ => hbel.block k2 hk2) (fun k2 x hx => (Eu (L := E.L) (ρ := ρ) hbel).shape k2 x hx) hbel.os hbel.tape hbel.output hbel.size fun hla j z hj => by
    rw [a0e] at hj
    cases hf : rows.flatten[j]? with
    | none => rw [hf] at hj;cases hj
    | some x =>
     rw [hf] at hj
     simp only [a1c, a0f] at hj
     subst hj
     obtain ⟨u, p1, p2⟩ := hc j x hf
     refine ⟨u, p1, .lf _ _ (p2.less fun i hi => ?_)⟩
     rcases hi with hi | ⟨b', o', hi⟩
     ·exact .inl (.inl hi)
     ·unfold Pl.upd at hi
      by_cases e' : b' = b
      ·rw [if_pos e'] at hi
       simp only [a0f, a1e] at hi
       exact .inr hi.1.symm
      ·rw [if_neg e'] at hi
       exact .inl (.inr ⟨b', o', hi⟩)
  refine hK _ _ (h2 E _ w' _ hE (s2.put (by rw [hE];exact hN') (RelV.tup [.own b 0 rows.length n, .val u] [.slice (some ⟨k, o, none⟩) rows.length cap, u] rfl fun i x v hx hv => ?_)))
  match i, hx, hv with
  | 0, hx, hv => simp at hx hv;subst hx hv;exact Gz hcap (Bs hw) hsz
  | 1, hx, hv => simp at hx hv;subst hx hv;exact A7 _
theorem p3n {n0 n b off len : Nat} {k : IntKind} {i : Int} {o2 : Nat} [hu : HasU P t (.slice e)] [hi : HasS P e n] (hx : evT tm x = some (.own b off len n)) (hy : evT tm y = some (.val (.int k i))) (hb : (Bo none H b).isLive = true) (hm : A9k ops = true) (hN : Nat.ble (d + 1) N = true) (h0 : 0 <= i /\ i < len) (ho : off + i.toNat * n = o2) (h : Reg (some n0) P N ops rest ((d, .ptr b o2) :: tm) H K) : Reg (some n0) P N ops (⟨some d, .indexAddr t x y, ty, pos, af, none⟩ :: rest) tm H K := by
 subst ho
 obtain ⟨cs, hb'⟩ := D8 hb
 refine ⟨?_⟩
 obtain ⟨ss, g1, g2⟩ := h.out
 exact ⟨.lv (.ptr b (off + i.toNat * n)) b :: ss, ⟨⟨a0d hN, rfl, g1⟩, rfl, ⟨cs, hb'⟩, fun cells => OpV.indexO rfl hx (if_pos rfl) hy hu.out hi.out h0.1 h0.2, hm⟩, g2⟩
theorem p3o {n0 b off n : Nat} {cells l : List AV} {ds : TypeDesc} [hu : HasU P t ds] [hi : HasS P t n] (hx : evT tm x = some (.ptr b off)) (hb : H.at b = .live cells) (hd : ds.isRow = true) (hld : Wp ops d = true) (hN : Nat.ble (d + 1) N = true) (hl : (cells.drop off).take n = l) (hle : off + n <= cells.length) (h : Reg (some n0) P N ops rest ((d, .agg l) :: tm) H K) : Reg (some n0) P N ops (⟨some d, .load t x, ty, pos, af, none⟩ :: rest) tm H K := by
 subst hl
 exact S.ld hb (OpV.loadPA rfl hx (if_pos rfl) hu.out hd hi.out (a2o hle)) hld hN h
theorem p3e {n0 b off n : Nat} {cells : List AV} {r : AV} [hi : HasS P t n] (hx : evT tm x = some (.ptr b off)) (hy : evT tm y = some r) (hb : H.at b = .live cells) (h1 : r.boxed = true) (h2 : (r.cells.all AV.one) = true) (hn : r.cells.length = n) (hl : off + n <= cells.length) (hm : Nat.ble n0 b = true) (h : Reg (some n0) P N ops rest tm (H.put b (.live (As off r.cells cells))) K) : Reg (some n0) P N ops (⟨none, .store t x y, ty, pos, af, none⟩ :: rest) tm H K :=
 p3q hx hy hb h1 h2 hn (a2o hl) hm h
theorem S.field {i : Nat} {cs : List AV} {c : AV} {fs : Array Field} {f : Field} {ds : TypeDesc} (hu : P.underlying t = some (.struct fs)) (hf : fs[i]? = some f) (hd : P.underlying f.type = some ds) (hr : ds.isRow = false) (hx : evT tm x = some (.agg cs)) (hc : cs[f.offset]? = some c) (hN : Nat.ble (d + 1) N = true) (h : Reg m P N ops rest ((d, c) :: tm) H K) : Reg m P N ops (⟨some d, .field t x i, ty, pos, af, none⟩ :: rest) tm H K :=
 S.val (OpV.field rfl hx hu hf hd hr hc) hN h
theorem p4g (b : Nat) {v : Value} [hz : HasZ P t v] (hb : (H.at b).idle = true) (htm : tm.clearO b = some tm') (hH : AH.clear b 0 H = true) (h1 : (AV.cst v).boxed = true) (hN : Nat.ble (d + 1) N = true) (h : Reg none P N ops rest ((d, .ptr b 0) :: tm') (H.put b (.live (AV.cst v).cells)) K) : Reg none P N ops (⟨some d, .alloc t, ty, pos, af, none⟩ :: rest) tm H K := by
 refine ⟨fun E a w ρ hE hR => ?_⟩
 replace h := h.out
 refine wpList_plain rfl fun K' hK => ?_
 have hcell : ∀ (w : World) (ρ : Pl), (AV.cst v).cells.length = v.cells.toList.length /\ _ := fun w ρ => (Mh (w := w) (L := E.L) (ρ := ρ) v).cells h1
 obtain ⟨s1, s2⟩ := hR.regrow (tm' := tm') (cells' := (AV.cst v).cells) (w' := w.alloc (.cells v.cells t)) (k' := w.heap.size) (o' := 0) htm hH (p1r hb) (B7 w _) (a0l _)
  (by have := (hcell w ρ).1;simp at this ⊢;omega) (.inr (a0l _)) (fun k2 hk2 _ => Ai w _ hk2) (fun k2 x hx => by rw [Au (Ai w _ (D6 hx))];exact hx) rfl rfl rfl (by simp) fun hla j z hj => by
   obtain ⟨u, p1, p2⟩ := (hcell (w.alloc (.cells v.cells t)) (ρ.upd b (some (w.heap.size, 0)))).2 j z hj
   exact ⟨u, by rw [a1r];simpa using p1, p2⟩
 have hrun : (execOp a.eval ⟨some d, .alloc t, ty, pos, af, none⟩).run P w = .ok (.value (.pointer (some ⟨w.heap.size, 0, none⟩))) (w.alloc (.cells v.cells t)) := by
  simp only [execOp, Instr.alloc, a0m, E3 hz.out, Iw, a0j, a1f]
 unfold Oper.wp
 rw [hrun]
 refine hK _ _ (h E _ _ _ hE (s2.put (by rw [hE];exact a0d hN) (.ptr b 0 _ (by unfold Pl.upd;rw [if_pos rfl];simp) rfl fun k2 o2 hk2 => ?_)))
 unfold Pl.upd at hk2
 rw [if_pos rfl] at hk2
 simp only [a0f, a1e] at hk2
 obtain ⟨rfl, rfl⟩ := hk2
 rfl
end
section
variable {P : Program} {N : Nat}
theorem p2p (n0 : Nat) {id : Nat} {l : List Oper} {Q : Exit -> St -> Prop} {tm : Tm} {H : AH} (n : Nat) (hm : P.follows .mixedOrders = true) (hB : G5 l.toArray n = true)
  (h : Reg (some n0) P N l.toArray (l.take n) tm H (fun tm' H' => Reg none P N l.toArray (l.drop n) tm' H' (fun tm H => Q .normal ⟨tm, H⟩))) : T P N (.region id l.toArray true) ⟨tm, H⟩ Q := by
 refine ⟨fun E a w ρ hE hr => ?_⟩
 obtain ⟨ss, hok, hK⟩ := h.out
 have hn : n <= l.length := by simp only [G5, a0y, decide_eq_true_eq] at hB;simpa using hB.2
 have htl : (l.take n).length = n := by simp;omega
 obtain ⟨h1, h2, h3, h4⟩ := Sn (ops := l.toArray) (tm0 := tm) (H0 := H) (tr := ss) (l.take n) ss 0 tm H (fun j hj => by rw [htl] at hj;simp [hj]) (fun j _ => by simp) hok (fun t => rfl) (fun b => rfl)
 have F : Rn P N n0 l.toArray ss tm H n := fun j hj => by
  obtain ⟨o, s, tmj, Hj, g⟩ := h2 j (by rw [htl];exact hj)
  rw [a1r] at g
  exact ⟨o, s, tmj, Hj, g⟩
 rw [htl, a1r] at h3 h4
 have hr' : RelSt E ⟨tm, H⟩ a { w with drawn := w.drawn + 1 } ρ := hr.below ⟨rfl, rfl, rfl, a0l _, fun _ _ => rfl⟩
 have hrep : ∀ i, (Array.replicate l.toArray.size false).getD i false = false := fun i => getD_replicate_false _ _
 have hcnt : cnt (Array.replicate l.toArray.size false) n = n := by
  have : ∀ k, cnt (Array.replicate l.toArray.size false) k = k := fun k => by
   induction k with
   | zero => rfl
   | succ k ih => simp only [cnt, hrep, ih];simp
  exact this n
 refine wp_mono (wp_region_any hm ?_ (Q := fun e a' w' => e = .normal /\ ∃ st' ρ', Q .normal st' /\ RelSt E st' a' w' ρ')) ?_
 ·have key := Qz (ops := l.toArray) (tr := ss) (n := n) (E := E) F hB hE (Q := fun e a' w' => e = .normal /\ ∃ st' ρ', Q .normal st' /\ RelSt E st' a' w' ρ') (l := l.drop n) (fun j => by simp [a1t]) (by simp) (fun a w ⟨tm', H', ρ', g1, g2, g3⟩ => by
   have g4 : RelSt E ⟨Oz (l.take n) ss tm, Tv ss H⟩ a w ρ' := (g1.weaken _ fun t x hx => by rw [g2 t, <- h3 t];exact hx).sameH fun b => by rw [h4 b, <- g3 b]
   exact hK.out E a w ρ' hE g4) n _ a { w with drawn := w.drawn + 1 } hcnt ⟨by simp, (fun j oj _ hl => by rw [hrep] at hl;cases hl), (fun t _ ht => getD_in (by simpa using ht) (hrep t))⟩ ⟨tm, H, ρ, hr', fun t => ?_, fun b => ?_⟩
  ·rw [show n + (l.toArray.size - n) = l.toArray.size by simp;omega] at key
   exact key
  ·rw [Jb (k := 0) n (by omega) fun i _ _ _ => hrep i];rfl
  ·exact (Gw n fun i _ _ _ => hrep i).symm
 ·rintro e a' w' ⟨rfl, st', ρ', g1, g2⟩
  exact ⟨st', ρ', g1, g2⟩
end
section
variable {P : Program} {N : Nat} {ops : Array Oper} {m : Option Nat} {K : Tm -> AH -> Prop} {tm tm' : Tm} {H : AH} {rest : List Oper} {ty : TypeId} {pos : String} {af : Array Edge} {d : Nat} {t e : TypeId} {x y z : Operand}
theorem p2f {ps : Array (Nat × Operand)} {n len : Nat} {zs : Array Value} {ys : List (Nat × AV)} {out : List AV} [hu : HasU P t (.array len e)] [hi : HasS P e n] [hz : HasZ P t (.agg zs)] (hy : Do (evT tm) ps.toList = some ys) (ho : Fp (fun (i : Nat) => some (i * n, n)) ys (zs.toList.map Pn) = some out) (hN : Nat.ble (d + 1) N = true) (h : Reg m P N ops rest ((d, .agg out) :: tm) H K) : Reg m P N ops (⟨some d, .build t ps, ty, pos, af, none⟩ :: rest) tm H K := by
 refine S.val (OpV.mk fun L w ρ η hη hH => ?_) hN h
 obtain ⟨g1, g2⟩ := Ij (w := w) (L := L) (ρ := ρ) hy fun x hx y he => hη x (by simpa [Op.operands] using hx) y he
 have hc : Gk w L ρ (zs.toList.map Pn) zs := ⟨by simp, fun j x hx => by
  rw [a0e] at hx
  cases e : zs.toList[j]? with
  | none => rw [e] at hx;cases hx
  | some v =>
   rw [e] at hx
   simp only [a1c, a0f] at hx
   subst hx
   exact ⟨v, by simpa using e, T4 v⟩⟩
 obtain ⟨r, h3, h4, h5⟩ := Hx ys _ _ zs out g1 g2 hc ho
 refine ⟨.agg r, ?_, ?_⟩
 ·simp only [execOp, Instr.build, a0m, E3 hz.out, run_underlying hu.out, a0j, Aw hi.out, Value.cells]
  rw [h3]
  simp only [a1f, a0j]
 ·have : r = r.toList.toArray := by simp
  rw [this]
  refine .agg out r.toList (by simpa using h4) fun i x v hx hv => ?_
  obtain ⟨v', h6, h7⟩ := h5 i x hx
  simp only [a6q] at hv
  rw [h6] at hv
  injection hv with hv
  subst hv
  exact h7
theorem p4i {u : TypeId} {a b c f : ByteArray} [hu : HasU P t (.array 2 e)] [he : HasU P e .string] [hi : HasS P e 1] (hg : P.eqGuardType P.depth t = false) (hx : evT tm x = some (.agg [.val (.string a), .val (.string b)])) (hy : evT tm y = some (.agg [.val (.string c), .val (.string f)])) (hN : Nat.ble (d + 1) N = true) (h : Reg m P N ops rest ((d, .val (.bool (decide ((a, b) = (c, f))))) :: tm) H K) : Reg m P N ops (⟨some d, .binOp .eql t x y u, ty, pos, af, none⟩ :: rest) tm H K := by
 refine S.val (OpV.mk fun L w ρ η hη hH => ?_) hN h
 have h1 := (hη x (by simp [Op.operands]) _ hx).flat (u := .agg #[.string a, .string b]) rfl
 have h2 := (hη y (by simp [Op.operands]) _ hy).flat (u := .agg #[.string c, .string f]) rfl
 have h3 := run_eqGuard_agg (P := P) w .eql t x y #[.string a, .string b] #[.string c, .string f] hg
 have h4 := Is hu.out he.out hi.out (a, b) (c, f) w
 refine ⟨.bool (decide ((a, b) = (c, f))), ?_, A7 _⟩
 simp only [execOp, h1, h2, a0m, h3, a0j]
 have h5 : (binOp .eql t (.agg #[.string a, .string b]) (.agg #[.string c, .string f])).run P w = .ok (.bool (decide ((a, b) = (c, f)))) w := by
  simp only [binOp, a0m]
  have : (Op.equal t (.agg #[.string a, .string b]) (.agg #[.string c, .string f])).run P w = .ok (decide ((a, b) = (c, f))) w := h4
  rw [this]
  rfl
 rw [h5]
 rfl
theorem p4j {u : TypeId} {a b c f : ByteArray} [hu : HasU P t (.array 2 e)] [he : HasU P e .string] [hi : HasS P e 1] (hg : P.eqGuardType P.depth t = false) (hx : evT tm x = some (.agg [.val (.string a), .val (.string b)])) (hy : evT tm y = some (.agg [.val (.string c), .val (.string f)])) (hN : Nat.ble (d + 1) N = true) (h : Reg m P N ops rest ((d, .val (.bool (decide (¬ (a, b) = (c, f))))) :: tm) H K) : Reg m P N ops (⟨some d, .binOp .neq t x y u, ty, pos, af, none⟩ :: rest) tm H K := by
 refine S.val (OpV.mk fun L w ρ η hη hH => ?_) hN h
 have h1 := (hη x (by simp [Op.operands]) _ hx).flat (u := .agg #[.string a, .string b]) rfl
 have h2 := (hη y (by simp [Op.operands]) _ hy).flat (u := .agg #[.string c, .string f]) rfl
 have h3 := run_eqGuard_agg (P := P) w .neq t x y #[.string a, .string b] #[.string c, .string f] hg
 have h4 := Is hu.out he.out hi.out (a, b) (c, f) w
 refine ⟨.bool (decide (¬ (a, b) = (c, f))), ?_, A7 _⟩
 simp only [execOp, h1, h2, a0m, h3, a0j]
 have h5 : (binOp .neq t (.agg #[.string a, .string b]) (.agg #[.string c, .string f])).run P w = .ok (.bool (decide (¬ (a, b) = (c, f)))) w := by
  simp only [binOp, a0m]
  have : (Op.equal t (.agg #[.string a, .string b]) (.agg #[.string c, .string f])).run P w = .ok (decide ((a, b) = (c, f))) w := h4
  rw [this]
  simp
 rw [h5]
 rfl
end
end Go.Proofs.YtlapbaiejnaeiaaGreatDoor
