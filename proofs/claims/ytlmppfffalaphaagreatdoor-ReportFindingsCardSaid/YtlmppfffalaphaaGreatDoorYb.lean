/- Plain laws of the texts of findings: how a text is read. No conditions but those of each statement. -/
import Derived.Test.YtlmppfffalaphaaGreatDoorXb
import Derived.Test.YtlmppfffalaphaaGreatDoorMh
import Derived.Test.YtlmppfffalaphaaGreatDoorXc
import Derived.Test.YtlmppfffalaphaaGreatDoorMn
import Derived.Test.YtlmppfffalaphaaGreatDoorXa
set_option linter.unusedSimpArgs false
set_option linter.unusedVariables false
namespace Go.Proofs.YtlmppfffalaphaaGreatDoor
open Go Go.RowKit
structure FinR where
 kind : Int
 name : ByteArray
abbrev FinR.row (x : FinR) : List Lf := [.i x.kind, .s x.name]
def lnF (x : FinR) : List UInt8 := Lib.itoa x.kind ++ 32 :: x.name.data.toList
def okF (x : FinR) : Prop := 0 <= x.kind /\ (Lib.itoa x.kind).length <= 7 /\ At x.name = true
theorem Ki {x : FinR} (h : okF x) : x.kind <= 9999999 := by
 obtain ⟨h0, h1, _⟩ := h
 refine Decidable.byContradiction fun hn => ?_
 obtain ⟨m, hm⟩ : ∃ m : Nat, x.kind = m := ⟨x.kind.toNat, by omega⟩
 rw [hm] at h1 hn
 have key : ∀ (k m : Nat), 10 ^ k <= m -> k + 1 <= (Lib.decDigits m).length := by
  intro k
  induction k with
  | zero =>
   intro m _
   have := Ev m
   cases h : Lib.decDigits m with
   | nil => exact absurd h this
   | cons a l => simp
  | succ k ih =>
   intro m hm
   have hp : 10 ^ (k + 1) = 10 ^ k * 10 := Nat.pow_succ ..
   have h10 : ¬ m < 10 := by
    have := Nat.one_le_pow k 10 (by decide)
    omega
   rw [Fg h10, List.length_append]
   have := ih (m / 10) (by omega)
   simp only [List.length_cons, List.length_nil]
   omega
 have := key 7 m (by omega)
 unfold Lib.itoa at h1
 rw [if_neg (by omega), Int.toNat_natCast] at h1
 omega
theorem Gu {x : FinR} (h : okF x) : -9223372036854775808 <= x.kind /\ x.kind <= 9223372036854775807 := by
 have := Ki h
 have := h.1
 omega
theorem Hk (x : FinR) : Lib.cut (lnF x) [32] = (Lib.itoa x.kind, x.name.data.toList, true) := Fh (G9 (by decide) _)
theorem P9 {x y : FinR} (hx : okF x) (hy : okF y) (h : lnF x = lnF y) : x = y := by
 have h1 := Hk x
 rw [h, Hk y] at h1
 simp only [Prod.mk.injEq, and_true] at h1
 obtain ⟨a1, a2⟩ := Gu hx
 obtain ⟨b1, b2⟩ := Gu hy
 have e1 := Ny b1 b2 a1 a2 h1.1
 have e2 := Bx h1.2
 cases x;cases y
 simp only at e1 e2
 subst e1 e2
 rfl
theorem Q5 {x : FinR} (h : okF x) : (10 : UInt8) ∉ lnF x := by
 intro hm
 rcases List.mem_append.1 hm with h1 | h1
 ·exact G9 (by decide) _ h1
 ·rcases List.mem_cons.1 h1 with h2 | h2
  ·cases h2
  ·exact J6 h.2.2 (by decide) h2
open Classical in
noncomputable def B5 (t : List UInt8) : Option FinR := if h : ∃ x, okF x /\ t = lnF x then some h.choose else none
theorem Eh {x : FinR} (h : okF x) : B5 (lnF x) = some x := by
 have he : ∃ y, okF y /\ lnF x = lnF y := ⟨x, h, rfl⟩
 unfold B5
 rw [dif_pos he]
 exact congrArg some (P9 he.choose_spec.1 h he.choose_spec.2.symm)
theorem Eg {t : List UInt8} (h : ∀ x, okF x -> t = lnF x -> False) : B5 t = none := by
 unfold B5
 rw [dif_neg (fun ⟨x, h1, h2⟩ => h x h1 h2)]
theorem O3 {t : List UInt8} {x : FinR} (h : B5 t = some x) : okF x /\ t = lnF x := by
 unfold B5 at h
 split at h
 ·rename_i he
  injection h with h
  subst h
  exact he.choose_spec
 ·cases h
noncomputable def Cp : Nat -> List FinR -> List UInt8 -> List FinR × Bool
 | 0, o, s => (o, decide (s = []))
 | n + 1, o, s => if s = [] then (o, true) else if (Lib.cut s [10]).2.2 = true then match B5 (Lib.cut s [10]).1 with
  | some x => Cp n (o ++ [x]) (Lib.cut s [10]).2.1
  | none => (o, false) else (o, false)
theorem L8 : ∀ (k n m : Nat) (o : List FinR) (s : List UInt8), s.length <= k -> s.length <= n -> s.length <= m -> Cp n o s = Cp m o s := by
 intro k
 induction k with
 | zero =>
  intro n m o s h0 _ _
  obtain rfl := List.eq_nil_of_length_eq_zero (Nat.le_zero.1 h0)
  cases n <;> cases m <;> simp [Cp]
 | succ k ih =>
  intro n m o s h0 h1 h2
  by_cases hs : s = []
  ·subst hs
   cases n <;> cases m <;> simp [Cp]
  have hpos : 0 < s.length := List.length_pos_iff.2 hs
  obtain ⟨n, rfl⟩ : ∃ a, n = a + 1 := ⟨n - 1, by omega⟩
  obtain ⟨m, rfl⟩ : ∃ a, m = a + 1 := ⟨m - 1, by omega⟩
  have hlt := Iw (c := 10) hs
  unfold Cp
  rw [if_neg hs, if_neg hs]
  split
  ·split
   ·exact ih n m _ _ (by omega) (by omega) (by omega)
   ·rfl
  ·rfl
noncomputable def Ag (o : List FinR) (s : List UInt8) : List FinR × Bool := Cp s.length o s
theorem Fa (o : List FinR) : Ag o [] = (o, true) := by simp [Ag, Cp]
theorem En {o : List FinR} {s : List UInt8} {x : FinR} (h0 : s ≠ []) (h1 : (Lib.cut s [10]).2.2 = true) (h2 : B5 (Lib.cut s [10]).1 = some x) : Ag o s = Ag (o ++ [x]) (Lib.cut s [10]).2.1 := by
 have hpos : 0 < s.length := List.length_pos_iff.2 h0
 have hlt := Iw (c := 10) h0
 unfold Ag
 obtain ⟨n, hn⟩ : ∃ a, s.length = a + 1 := ⟨s.length - 1, by omega⟩
 rw [hn]
 rw [Cp, if_neg h0, if_pos h1, h2]
 exact L8 s.length _ _ _ _ (by omega) (by omega) (Nat.le_refl _)
theorem F9 {o : List FinR} {s : List UInt8} (h0 : s ≠ []) (h : (Lib.cut s [10]).2.2 = true -> B5 (Lib.cut s [10]).1 = none) : Ag o s = (o, false) := by
 have hpos : 0 < s.length := List.length_pos_iff.2 h0
 unfold Ag
 obtain ⟨n, hn⟩ : ∃ a, s.length = a + 1 := ⟨s.length - 1, by omega⟩
 rw [hn]
 rw [Cp, if_neg h0]
 split
 ·rename_i hc
  rw [h hc]
 ·rfl
def B9 (l : List FinR) : Int := idx (fun x => x.kind > 1000000) l
noncomputable def Bf (s : List UInt8) : List FinR × (Int × Int) × Int :=
 if (Ag [] s).2 = false then ([], (((Ag [] s).1.length : Int) + 1, 1), 7) else
 if B9 (Ag [] s).1 >= 0 then ([], (B9 (Ag [] s).1 + 1, 1), 2) else
 if 1000 < (Ag [] s).1.length then ([], (0, 0), 4) else ((Ag [] s).1, (0, 0), 0)
theorem Gc {s : List UInt8} {o : List FinR} (h : Ag [] s = (o, false)) : Bf s = ([], ((o.length : Int) + 1, 1), 7) := by
 unfold Bf
 rw [h, if_pos rfl]
theorem Ja {s : List UInt8} {o : List FinR} (h : Ag [] s = (o, true)) (hb : B9 o >= 0) : Bf s = ([], (B9 o + 1, 1), 2) := by
 unfold Bf
 rw [h, if_neg (fun e => by cases e), if_pos hb]
theorem I2 {s : List UInt8} {o : List FinR} (h : Ag [] s = (o, true)) (hb : ¬ B9 o >= 0) (hl : 1000 < o.length) : Bf s = ([], (0, 0), 4) := by
 unfold Bf
 rw [h, if_neg (fun e => by cases e), if_neg hb, if_pos hl]
theorem Hm {s : List UInt8} {o : List FinR} (h : Ag [] s = (o, true)) (hb : ¬ B9 o >= 0) (hl : ¬ 1000 < o.length) : Bf s = (o, (0, 0), 0) := by
 unfold Bf
 rw [h, if_neg (fun e => by cases e), if_neg hb, if_neg hl]
def Ah (l : List FinR) : List UInt8 := (l.map fun x => lnF x ++ [10]).flatten
theorem H2 (x : FinR) (l : List FinR) : Ah (x :: l) = lnF x ++ 10 :: Ah l := by simp [Ah]
theorem Jo (l m : List FinR) : Ah (l ++ m) = Ah l ++ Ah m := by simp [Ah]
theorem N5 (x : FinR) : Ah [x] = lnF x ++ [10] := by simp [Ah]
theorem Lo {x : FinR} (h : okF x) (t : List UInt8) : Lib.cut (lnF x ++ 10 :: t) [10] = (lnF x, t, true) := Fh (Q5 h)
theorem I6 : ∀ (l o : List FinR), (∀ x ∈ l, okF x) -> Ag o (Ah l) = (o ++ l, true)
 | [], o, _ => by rw [List.append_nil];exact Fa o
 | x :: l, o, h => by
  have hx := h x (by simp)
  have hc := Lo hx (Ah l)
  rw [H2, En (x := x) (by simp) (by rw [hc]) (by rw [hc];exact Eh hx), hc]
  rw [I6 l (o ++ [x]) (fun y hy => h y (by simp [hy])), List.append_assoc]
  rfl
def Ao (x : FinR) : Prop := ¬ x.kind < 0 /\ ¬ x.kind > 1000000 /\ At x.name = true
instance (x : FinR) : Decidable (Ao x) := by unfold Ao;exact inferInstance
theorem Em {x : FinR} (h : Ao x) : okF x := by
 obtain ⟨h0, h1, h2⟩ := h
 refine ⟨by omega, ?_, h2⟩
 obtain ⟨m, hm⟩ : ∃ m : Nat, x.kind = m := ⟨x.kind.toNat, by omega⟩
 have key : ∀ (k m : Nat), m < 10 ^ (k + 1) -> (Lib.decDigits m).length <= k + 1 := by
  intro k
  induction k with
  | zero => intro m hm;rw [Lib.decDigits_one (by omega)];simp
  | succ k ih =>
   intro m hm
   by_cases h10 : m < 10
   ·rw [Lib.decDigits_one h10];simp
   ·rw [Fg h10, List.length_append]
    have hp : 10 ^ (k + 1 + 1) = 10 ^ (k + 1) * 10 := Nat.pow_succ ..
    have := ih (m / 10) (by omega)
    simp only [List.length_cons, List.length_nil]
    omega
 rw [hm]
 unfold Lib.itoa
 rw [if_neg (by omega), Int.toNat_natCast]
 exact key 6 m (by omega)
theorem Oc {l : List FinR} (h : ∀ x ∈ l, Ao x) (hl : l.length <= 1000) : Bf (Ah l) = (l, (0, 0), 0) := by
 have hs := I6 l [] fun x hx => Em (h x hx)
 rw [List.nil_append] at hs
 refine Hm hs ?_ (by omega)
 unfold B9
 rw [Db (fun x hx => (h x hx).2.1)]
 decide
theorem Q4 {x : FinR} (h : okF x) : (lnF x).length <= 28 := by
 obtain ⟨_, h1, h2⟩ := h
 simp only [At, Bool.and_eq_true, decide_eq_true_eq] at h2
 have := h2.1.1.2
 have hs : x.name.data.toList.length = x.name.size := Array.length_toList
 unfold lnF
 rw [List.length_append, List.length_cons, hs]
 omega
theorem Cs {c : UInt8} : ∀ {s : List UInt8}, c ∈ s -> ∃ a b, c ∉ a /\ s = a ++ c :: b
 | [], h => by simp at h
 | x :: s, h => by
  by_cases e : x = c
  ·subst e;exact ⟨[], s, by simp, rfl⟩
  ·obtain ⟨a, b, h1, h2⟩ := Cs (s := s) (by
    rcases List.mem_cons.1 h with h | h
    ·exact absurd h.symm e
    ·exact h)
   exact ⟨x :: a, b, by simp [h1, Ne.symm e], by rw [h2];rfl⟩
theorem Ix {c : UInt8} {s : List UInt8} (h : (Lib.cut s [c]).2.2 = true) : c ∉ (Lib.cut s [c]).1 /\ s = (Lib.cut s [c]).1 ++ c :: (Lib.cut s [c]).2.1 := by
 by_cases hm : c ∈ s
 ·obtain ⟨a, b, h1, h2⟩ := Cs hm
  have := Fh (r := b) h1
  rw [<- h2] at this
  rw [this]
  exact ⟨h1, h2⟩
 ·rw [K9 hm] at h
  cases h
theorem Ga (x : ByteArray) : ofL x.data.toList = x := Bx (Ac _)
theorem M1 (n : Int) : ofL (Lib.itoa n) = A6 n := rfl
theorem P4 (t : List UInt8) (h : t.length < 4294967281) : Fn0 Tryz.prog 28 [.s (ofL t), .s ⟨#[32]⟩] (.tup [.s (ofL (Lib.cut t [32]).1), .s (ofL (Lib.cut t [32]).2.1), .b (Lib.cut t [32]).2.2]) := by
 have := Km (ofL t) ⟨#[32]⟩ (by rw [Ae];exact h)
 rw [Ac] at this
 exact this
noncomputable def G8 (t : List UInt8) : AV × Bool := match B5 t with
 | some x => (A1 x.row, true)
 | none => (A1 [.i 0, .s ⟨#[]⟩], false)
set_option maxHeartbeats 16000000 in
theorem L6 (t : List UInt8) (h : t.length <= 262144) : Fn0 Tryz.prog 29 [.s (ofL t)] (.tup [(G8 t).1, .b (G8 t).2]) := by
 have cc := P4 t (by omega)
 by_cases hx : ∃ x, okF x /\ t = lnF x
 ·obtain ⟨x, hx, rfl⟩ := hx
  rw [Hk] at cc
  simp only [Ga, M1] at cc
  unfold G8
  rw [Eh hx]
  simp only []
  obtain ⟨b1, b2⟩ := Gu hx
  have ci := Df x.kind b1 b2
  have ca := Fx (A6 x.kind) (by have := Cy b1 b2;omega) (v := x.kind) (Ew _ b1 b2)
  have cn := Cd x.name
  obtain ⟨o1, o2, o3⟩ := hx
  rw [decide_eq_true o3] at cn
  have h0 : ¬ x.kind < 0 := by omega
  have hs : (A6 x.kind).size = (Lib.itoa x.kind).length := Ae _
  have h7 : ¬ ((A6 x.kind).size : Int) > 7 := by omega
  have he : ¬ ¬ A6 x.kind = A6 x.kind := fun k => k rfl
  obtain ⟨k, n⟩ := x
  dsimp only at *
  generalize A6 k = kb at *
  refine Fn0.of Tryz.func29 Tryz.ntmps29 rfl rfl rfl ?_
  simp only [A0]
  repeat' (first
   | refine W ?_
   | refine Y ?_|(apply S.nilNe;exact rfl;exact rfl)
   | refine V ?_
   | (refine W2 ?_ ?_ <;> intro hc))
  all_goals exact ⟨.inr rfl, [A1 (FinR.row ⟨k, n⟩), .b true], .cons (Res.row (FinR.row ⟨k, n⟩) rfl rfl rfl rfl rfl) (.cons (.tmp rfl) .nil), .tup (.cons (.agg (A5 _)) (.cons (.one (.lf _)) .nil))⟩
 ·have hnone := Eg (t := t) fun x h1 h2 => hx ⟨x, h1, h2⟩
  unfold G8
  rw [hnone]
  simp only []
  have hle := Ln t [32]
  by_cases h2 : (Lib.cut t [32]).2.2 = true
  ·obtain ⟨_, ht⟩ := Ix h2
   rw [h2] at cc
   have cn := Cd (ofL (Lib.cut t [32]).2.1)
   have hs := Ae (Lib.cut t [32]).1
   have hl := Ac (Lib.cut t [32]).1
   have hl2 := Ac (Lib.cut t [32]).2.1
   rcases Im (ofL (Lib.cut t [32]).1) (by rw [Ae];omega) with ⟨v, v1, ⟨v2, v3⟩, ca⟩ | ⟨_, m, ca⟩
   ·have ci := Df v v2 v3
    have hbad : ¬ v < 0 -> ¬ ((ofL (Lib.cut t [32]).1).size : Int) > 7 -> A6 v = ofL (Lib.cut t [32]).1 -> At (ofL (Lib.cut t [32]).2.1) = true -> False := fun g1 g2 g3 g4 => by
     have e1 : Lib.itoa v = (Lib.cut t [32]).1 := by
      have := congrArg (fun z : ByteArray => z.data.toList) g3
      simpa [A6, Ac] using this
     refine hx ⟨⟨v, ofL (Lib.cut t [32]).2.1⟩, ⟨by dsimp only;omega, ?_, g4⟩, ?_⟩
     ·dsimp only
      rw [e1, <- hs]
      omega
     ·unfold lnF
      dsimp only
      rw [e1, hl2]
      exact ht
    generalize ofL (Lib.cut t [32]).1 = ka at *
    generalize ofL (Lib.cut t [32]).2.1 = na at *
    refine Fn0.of Tryz.func29 Tryz.ntmps29 rfl rfl rfl ?_
    simp only [A0]
    repeat' (first
     | refine W ?_
     | refine Y ?_|(apply S.nilNe;exact rfl;exact rfl)
     | refine V ?_
     | (refine W2 ?_ ?_ <;> intro hc))
    all_goals first
     | exact ⟨.inr rfl, [A1 ([.i 0, .s ⟨#[]⟩] : List Lf), .b false], .cons (Res.row ([.i 0, .s ⟨#[]⟩] : List Lf) rfl rfl rfl rfl rfl) (.cons (.tmp rfl) .nil), .tup (.cons (.agg (A5 _)) (.cons (.one (.lf _)) .nil))⟩
     | (exfalso;exact hbad (by assumption) (by assumption) (by first | assumption|(apply Classical.not_not.1;assumption)) (by assumption))
   ·generalize ofL (Lib.cut t [32]).1 = ka at *
    generalize ofL (Lib.cut t [32]).2.1 = na at *
    refine Fn0.of Tryz.func29 Tryz.ntmps29 rfl rfl rfl ?_
    simp only [A0]
    repeat' (first
     | refine W ?_
     | refine Y ?_|(apply S.errNe;exact rfl;exact rfl)
     | refine V ?_
     | (refine W2 ?_ ?_ <;> intro hc))
    all_goals exact ⟨.inr rfl, [A1 ([.i 0, .s ⟨#[]⟩] : List Lf), .b false], .cons (Res.row ([.i 0, .s ⟨#[]⟩] : List Lf) rfl rfl rfl rfl rfl) (.cons (.tmp rfl) .nil), .tup (.cons (.agg (A5 _)) (.cons (.one (.lf _)) .nil))⟩
  ·have h2' : (Lib.cut t [32]).2.2 = false := by simpa using h2
   rw [h2'] at cc
   obtain ⟨m3, e3, ca⟩ : ∃ (m3 : Int) (e3 : AV), Fn0 Tryz.prog 52 [.s (ofL (Lib.cut t [32]).1)] (.tup [.i m3, e3]) := by
    rcases Im (ofL (Lib.cut t [32]).1) (by rw [Ae];omega) with ⟨hi, _, _, c3⟩ | ⟨_, m3, c3⟩
    ·exact ⟨_, _, c3⟩
    ·exact ⟨_, _, c3⟩
   generalize ofL (Lib.cut t [32]).1 = ka at *
   generalize ofL (Lib.cut t [32]).2.1 = na at *
   refine Fn0.of Tryz.func29 Tryz.ntmps29 rfl rfl rfl ?_
   simp only [A0]
   repeat' (first
    | refine W ?_
    | refine Y ?_
    | refine V ?_
    | (refine W2 ?_ ?_ <;> intro hc))
   all_goals exact ⟨.inr rfl, [A1 ([.i 0, .s ⟨#[]⟩] : List Lf), .b false], .cons (Res.row ([.i 0, .s ⟨#[]⟩] : List Lf) rfl rfl rfl rfl rfl) (.cons (.tmp rfl) .nil), .tup (.cons (.agg (A5 _)) (.cons (.one (.lf _)) .nil))⟩
theorem Kd (l : List FinR) : ∀ r ∈ l.map FinR.row, r.length = 2 := by
 intro r hr
 obtain ⟨x, _, rfl⟩ := List.mem_map.1 hr
 rfl
abbrev By (l : List FinR) : List AV := (l.map FinR.row).flatten.map .lf
theorem Eb (l : List FinR) : (By l).length = l.length * 2 := by
 rw [List.length_map, Ar _ (Kd l), List.length_map]
theorem Dt (l : List FinR) (x : FinR) : By (l ++ [x]) = By l ++ (([x.row] : List (List Lf)).flatten).map AV.lf := by simp [By]
theorem E2 (l : List FinR) : OwnRows (By l) 0 l.length 2 (l.map FinR.row) := by
 have := OwnRows.of (l.map FinR.row).flatten (Kd l) rfl
 rwa [List.length_map] at this
set_option maxHeartbeats 4000000 in
theorem Dc {α : Type} (l : List α) (R : α -> List Lf) (p : α -> Prop) [DecidablePred p] (g : FuncId) (caps : List AV) (hR : ∀ x, (R x).length = 2) (hl : l.length <= 9223372036854775807) (hcaps : caps.all AV.cap = true) (hg : ∀ x ∈ l, Fn0 Tryz.prog g (.agg ((R x).map .lf) :: caps) (.b (decide (p x)))) :
  Fn0 Tryz.prog 27 [.sl (l.map R), .fn (.func g) [] caps] (.i (idx p l)) := by
 refine Fn0.of Tryz.func27 Tryz.ntmps27 rfl rfl rfl ?_
 simp only [A0]
 repeat' (first
  | refine W ?_

  | refine V ?_
  | (refine W2 ?_ ?_ <;> intro hc))
 refine T.loopS (fun k => k <= l.length /\ ∀ x ∈ l.take k, ¬ p x) (fun k => l.length - k) (fun k => [(8, .i k), (7, .i (l.map R).length), (0, .sl (l.map R)), (1, .fn (.func g) [] caps)]) (fun _ => []) 0 ⟨Nat.zero_le _, by simp⟩ (.cons rfl rfl (.cons rfl rfl (.cons rfl rfl (.cons rfl (D0 hcaps) .nil)))) .nil ?_
 rintro k ⟨hk, hno⟩
 have hle : (l.map R).length = l.length := List.length_map _
 by_cases hlt : k < l.length
 ·have h1 : (k : Int) < ((l.map R).length : Nat) := by omega
  obtain ⟨x, hx⟩ : ∃ x, l[k]? = some x := ⟨l[k], List.getElem?_eq_getElem hlt⟩
  have hb : (l.map R)[((k : Nat) : Int).toNat]? = some (R x) := by rw [Int.toNat_natCast, List.getElem?_map, hx];rfl
  have hx2 := hg x (List.mem_of_getElem? hx)
  repeat' (first
   | refine W ?_
   | (apply S.indexR;(iterate 3 exact rfl);exact hb;omega;exact hR x)|(apply S.loadRW;(iterate 3 exact rfl);exact hR x)|(apply S.callF;exact rfl;exact rfl;exact hx2;exact Is hcaps;exact rfl)|refine Za ?_
   | refine V ?_
   | (refine W2 ?_ ?_ <;> intro hc))
  all_goals first
   | exact Next.go (k + 1) ⟨by omega, by rw [List.take_add_one, hx];intro y hy;rcases List.mem_append.1 hy with hy | hy;exact hno y hy;obtain rfl : y = x := (by simpa using hy);assumption⟩ (by omega) (.cons rfl rfl (.cons rfl rfl (.cons rfl rfl (.cons rfl (D0 hcaps) .nil)))) .nil
   | exact A4 (by simp) Tryz.results27 rfl (by rw [J2 hx hno (by assumption)])
 ·have h1 : ¬ (k : Int) < ((l.map R).length : Nat) := by omega
  repeat' (first
   | refine W ?_

   | refine V ?_
   | (refine W2 ?_ ?_ <;> intro hc))
  exact A4 (by simp) Tryz.results27 rfl (by rw [Db (by rw [List.take_of_length_le (by omega)] at hno;exact hno)])
theorem Ol (x : FinR) : Fn0 Tryz.prog 30 [A1 x.row] (.b (decide (x.kind > 1000000))) := by
 refine Fn0.of Tryz.func30 Tryz.ntmps30 rfl rfl rfl ?_
 simp only [A0]
 repeat' (first
  | refine W ?_
  | refine Y ?_
  | refine V ?_
  | (refine W2 ?_ ?_ <;> intro hc))
 all_goals exact A4 (by simp) Tryz.results30 rfl rfl
structure ParT where
 o : List FinR
 t : List UInt8
set_option maxHeartbeats 64000000 in
theorem Ji (s : List UInt8) (hsz : s.length <= 262144) : Fn0 Tryz.prog 9 [.s (ofL s)] (.tup [.sl ((Bf s).1.map FinR.row), A1 [.i (Bf s).2.1.1, .i (Bf s).2.1.2], .i (Bf s).2.2]) := by
 have h0 : ¬ ((ofL s).size : Int) > 262144 := by rw [Ae];omega
 refine Fn0.of Tryz.func9 Tryz.ntmps9 rfl rfl rfl ?_
 simp only [A0]
 repeat' (first
  | refine W ?_
  | refine Y ?_
  | refine V ?_
  | (refine W2 ?_ ?_ <;> intro hc))
 refine T.kill 1 ?_
 refine T.loopS (fun a : ParT => Ag [] s = Ag a.o a.t /\ a.o.length + a.t.length <= 262144) (fun a => a.t.length) (fun a => [(0, .s (ofL a.t)), (3, .ptr 0 0), (5, rT 1 2 a.o.length)]) (fun a => [.live ([.i 0, .i 0].map .lf), rB (By a.o) a.o.length]) ⟨[], s⟩ ⟨rfl, by simpa using hsz⟩ CW CH ?_
 rintro ⟨o, t⟩ ⟨hs, hlen⟩
 dsimp only at hs hlen ⊢
 by_cases ht : t = []
 ·subst ht
  rw [Fa] at hs
  have h1 : ¬ ¬ ofL ([] : List UInt8) = (⟨#[]⟩ : ByteArray) := fun k => k rfl
  have ci := Dc o FinR.row (fun x => x.kind > 1000000) 30 [] (fun _ => rfl) (by simp only [List.length_nil] at hlen;omega) rfl (fun x _ => Ol x)
  have hlm : (o.map FinR.row).length = o.length := List.length_map _
  have hbl := J3 (fun x : FinR => x.kind > 1000000) o
  simp only [List.length_nil, Nat.add_zero] at hlen
  by_cases hb : B9 o >= 0
  ·rw [Ja hs hb]
   unfold B9 at hb ⊢
   generalize idx (fun x : FinR => x.kind > 1000000) o = ix at *
   have hb2 : (0 : Int) <= ix := hb
   cases o with
   | nil =>
    have ci0 := Fn0.nils ci (args := [.val (.slice none 0 0), .fn (.func 30) [] []]) rfl
    repeat' (first
     | refine W ?_
     | refine Y ?_|(apply S.callV;exact rfl;exact ci0;exact .cons (.one (.lf _)) (.cons (.fn .nil) .nil);exact rfl;exact rfl)|refine Za ?_|(refine T.nilU 2 rfl ?_;apply T.ret;change Av _ _ _ _ _)
     | refine V ?_
     | (refine W2 ?_ ?_ <;> intro hc))
    all_goals exact ⟨.inr rfl, [.sl [], A1 [.i (ix + 1), .i 1], .i 2], .cons (.tmp rfl) (.cons (Res.row [.i (ix + 1), .i 1] rfl rfl rfl rfl rfl) (.cons (.tmp rfl) .nil)), .tup (.cons (.one (.lf _)) (.cons (.agg (A5 _)) (.cons (.one (.lf _)) .nil)))⟩
   | cons y o =>
    repeat' (first
     | refine W ?_
     | refine Y ?_|(apply S.callV;exact rfl;exact ci;exact .cons (.one (.own rfl (E2 (y :: o)))) (.cons (.fn .nil) .nil);exact rfl;exact rfl)|refine Za ?_|(refine T.nilU 2 rfl ?_;apply T.ret;change Av _ _ _ _ _)
     | refine V ?_
     | (refine W2 ?_ ?_ <;> intro hc))
    all_goals exact ⟨.inr rfl, [.sl [], A1 [.i (ix + 1), .i 1], .i 2], .cons (.tmp rfl) (.cons (Res.row [.i (ix + 1), .i 1] rfl rfl rfl rfl rfl) (.cons (.tmp rfl) .nil)), .tup (.cons (.one (.lf _)) (.cons (.agg (A5 _)) (.cons (.one (.lf _)) .nil)))⟩
  ·have hb' := hb
   unfold B9 at hb'
   by_cases hl : 1000 < o.length
   ·rw [I2 hs hb hl]
    generalize idx (fun x : FinR => x.kind > 1000000) o = ix at *
    have hb2 : ¬ (0 : Int) <= ix := hb'
    cases o with
    | nil => exact absurd hl (by simp)
    | cons y o =>
     have hl2 : ((o.length + 1 : Nat) : Int) > 1000 := by simp only [List.length_cons] at hl;omega
     repeat' (first
      | refine W ?_
      | refine Y ?_|(apply S.callV;exact rfl;exact ci;exact .cons (.one (.own rfl (E2 (y :: o)))) (.cons (.fn .nil) .nil);exact rfl;exact rfl)|(apply S.lenRT (n := o.length + 1);(iterate 3 exact rfl))|refine Za ?_|(refine T.nilU 2 rfl ?_;apply T.ret;change Av _ _ _ _ _)
      | refine V ?_
      | (refine W2 ?_ ?_ <;> intro hc))
     all_goals exact ⟨.inr rfl, [.sl [], A1 [.i 0, .i 0], .i 4], .cons (.tmp rfl) (.cons (Res.row [.i 0, .i 0] rfl rfl rfl rfl rfl) (.cons (.tmp rfl) .nil)), .tup (.cons (.one (.lf _)) (.cons (.agg (A5 _)) (.cons (.one (.lf _)) .nil)))⟩
   ·rw [Hm hs hb hl]
    generalize idx (fun x : FinR => x.kind > 1000000) o = ix at *
    have hb2 : ¬ (0 : Int) <= ix := hb'
    cases o with
    | nil =>
     have ci0 := Fn0.nils ci (args := [.val (.slice none 0 0), .fn (.func 30) [] []]) rfl
     repeat' (first
      | refine W ?_
      | refine Y ?_|(apply S.callV;exact rfl;exact ci0;exact .cons (.one (.lf _)) (.cons (.fn .nil) .nil);exact rfl;exact rfl)|(apply S.lenRT (n := 0) (cells := []);(iterate 3 exact rfl))|refine Za ?_|(refine T.nilU 2 rfl ?_;apply T.ret;change Av _ _ _ _ _)
      | refine V ?_
      | (refine W2 ?_ ?_ <;> intro hc))
     all_goals exact ⟨.inr rfl, [.sl [], A1 [.i 0, .i 0], .i 0], .cons (.tmp rfl) (.cons (Res.row [.i 0, .i 0] rfl rfl rfl rfl rfl) (.cons (.tmp rfl) .nil)), .tup (.cons (.one (.lf _)) (.cons (.agg (A5 _)) (.cons (.one (.lf _)) .nil)))⟩
    | cons y o =>
     have hl2 : ¬ ((o.length + 1 : Nat) : Int) > 1000 := by simp only [List.length_cons] at hl;omega
     repeat' (first
      | refine W ?_
      | refine Y ?_|(apply S.callV;exact rfl;exact ci;exact .cons (.one (.own rfl (E2 (y :: o)))) (.cons (.fn .nil) .nil);exact rfl;exact rfl)|(apply S.lenRT (n := o.length + 1);(iterate 3 exact rfl))|refine Za ?_
      | refine V ?_
      | (refine W2 ?_ ?_ <;> intro hc))
     all_goals exact ⟨.inr rfl, [.own 1 0 (o.length + 1) 2, A1 [.i 0, .i 0], .i 0], .cons (.tmp rfl) (.cons (Res.row [.i 0, .i 0] rfl rfl rfl rfl rfl) (.cons (.tmp rfl) .nil)), .tup (.cons (.one (.own rfl (E2 (y :: o)))) (.cons (.agg (A5 _)) (.cons (.one (.lf _)) .nil)))⟩
 have h1 : ¬ ofL t = (⟨#[]⟩ : ByteArray) := fun e => ht (Pd e)
 have cc := Pq t (by omega)
 have cle := Ln t [10]
 have cf := L6 (Lib.cut t [10]).1 (by omega)
 have hlt := Iw (c := 10) ht
 have hbad : ((Lib.cut t [10]).2.2 = true -> B5 (Lib.cut t [10]).1 = none) -> Bf s = ([], ((o.length : Int) + 1, 1), 7) := fun hh => Gc (hs.trans (F9 ht hh))
 by_cases h2 : (Lib.cut t [10]).2.2 = true
 ·cases h3 : B5 (Lib.cut t [10]).1 with
  | none =>
   rw [hbad fun _ => h3]
   unfold G8 at cf
   rw [h3] at cf
   rw [h2] at cc
   simp only [] at cf
   generalize ofL (Lib.cut t [10]).1 = ka at *
   generalize ofL (Lib.cut t [10]).2.1 = na at *
   cases o with
   | nil =>
    repeat' (first
     | refine W ?_
     | refine Y ?_|(apply S.lenRT (n := 0) (cells := []);(iterate 3 exact rfl))|refine Za ?_|(refine T.nilU 2 rfl ?_;apply T.ret;change Av _ _ _ _ _)
     | refine V ?_
     | (refine W2 ?_ ?_ <;> intro hc))
    all_goals exact ⟨.inr rfl, [.sl [], A1 [.i (((([] : List FinR).length : Nat) : Int) + 1), .i 1], .i 7], .cons (.tmp rfl) (.cons (Res.row [.i (((([] : List FinR).length : Nat) : Int) + 1), .i 1] rfl rfl rfl rfl rfl) (.cons (.tmp rfl) .nil)), .tup (.cons (.one (.lf _)) (.cons (.agg (A5 _)) (.cons (.one (.lf _)) .nil)))⟩
   | cons y o =>
    have hz : o.length + 1 <= 262144 := by simp only [List.length_cons] at hlen;omega
    repeat' (first
     | refine W ?_
     | refine Y ?_|(apply S.lenRT (n := o.length + 1);(iterate 3 exact rfl))|refine Za ?_|(refine T.nilU 2 rfl ?_;apply T.ret;change Av _ _ _ _ _)
     | refine V ?_
     | (refine W2 ?_ ?_ <;> intro hc))
    all_goals exact ⟨.inr rfl, [.sl [], A1 [.i (((o.length + 1 : Nat) : Int) + 1), .i 1], .i 7], .cons (.tmp rfl) (.cons (Res.row [.i (((o.length + 1 : Nat) : Int) + 1), .i 1] rfl rfl rfl rfl rfl) (.cons (.tmp rfl) .nil)), .tup (.cons (.one (.lf _)) (.cons (.agg (A5 _)) (.cons (.one (.lf _)) .nil)))⟩
  | some x =>
   obtain ⟨x1, x2⟩ := O3 h3
   have hstep := En (o := o) ht h2 h3
   have hct := (Ix h2).2
   unfold G8 at cf
   rw [h3] at cf
   rw [h2] at cc
   simp only [] at cf
   have hlc := congrArg List.length hct
   rw [List.length_append, List.length_cons, x2] at hlc
   have hl : (o ++ [x]).length = o.length + 1 := by simp
   have hz2 : o.length + 1 + (Lib.cut t [10]).2.1.length <= 262144 := by omega
   have hI : Ag [] s = Ag (o ++ [x]) (Lib.cut t [10]).2.1 := hs.trans hstep
   generalize ofL (Lib.cut t [10]).1 = ka at *
   generalize hne : (Lib.cut t [10]).2.1 = na at *
   cases o with
   | nil =>
    repeat' (first
     | refine W ?_
     | refine Y ?_|(apply S.buildSlice1;(iterate 7 exact rfl))|(apply S.appendN 1 (rows := []);(iterate 8 exact rfl);exact A9 rfl;exact rfl;exact Nat.le_of_ble_eq_true rfl;exact Nat.le_of_ble_eq_true rfl)
     | refine V ?_
     | (refine W2 ?_ ?_ <;> intro hc))
    all_goals (change Next _ _ _ _ _ _)
    all_goals exact Next.go ⟨[] ++ [x], na⟩ ⟨hI, by rw [hl];exact hz2⟩ hlt CW CH
   | cons y o =>
    have hcl : (By (y :: o)).length = (o.length + 1) * 2 := Eb (y :: o)
    have hz0 : o.length + 1 <= 262144 := by simp only [List.length_cons] at hlen;omega
    have hC := Dt (y :: o) x
    repeat' (first
     | refine W ?_
     | refine Y ?_|(apply S.buildSlice1;(iterate 7 exact rfl))|(apply S.appendO;(iterate 8 exact rfl);exact hcl;exact A9 rfl;exact rfl;exact Cg _ _;simp only [List.length_cons, List.length_nil];omega;simp only [List.length_cons, List.length_nil];omega)
     | refine V ?_
     | (refine W2 ?_ ?_ <;> intro hc))
    all_goals (change Next _ _ _ _ _ _)
    all_goals exact Next.go ⟨(y :: o) ++ [x], na⟩ ⟨hI, by rw [hl];exact hz2⟩ hlt (by dsimp only;rw [hl];exact CW) (by dsimp only;rw [hl, hC];exact .live rfl (.live (by rw [<- List.map_append];exact C6 _ _) .nil))
 ·have h2' : (Lib.cut t [10]).2.2 = false := by simpa using h2
  rw [hbad fun k => absurd k h2]
  rw [h2'] at cc
  obtain ⟨r0, r1, b, cf⟩ : ∃ (r0 : Int) (r1 : ByteArray) (b : Bool), Fn0 Tryz.prog 29 [.s (ofL (Lib.cut t [10]).1)] (.tup [A1 [.i r0, .s r1], .b b]) := by
   unfold G8 at cf
   split at cf
   ·exact ⟨_, _, _, cf⟩
   ·exact ⟨_, _, _, cf⟩
  generalize ofL (Lib.cut t [10]).1 = ka at *
  generalize ofL (Lib.cut t [10]).2.1 = na at *
  cases o with
  | nil =>
   repeat' (first
    | refine W ?_
    | refine Y ?_|(apply S.lenRT (n := 0) (cells := []);(iterate 3 exact rfl))|refine Za ?_|(refine T.nilU 2 rfl ?_;apply T.ret;change Av _ _ _ _ _)
    | refine V ?_
    | (refine W2 ?_ ?_ <;> intro hc))
   all_goals exact ⟨.inr rfl, [.sl [], A1 [.i (((([] : List FinR).length : Nat) : Int) + 1), .i 1], .i 7], .cons (.tmp rfl) (.cons (Res.row [.i (((([] : List FinR).length : Nat) : Int) + 1), .i 1] rfl rfl rfl rfl rfl) (.cons (.tmp rfl) .nil)), .tup (.cons (.one (.lf _)) (.cons (.agg (A5 _)) (.cons (.one (.lf _)) .nil)))⟩
  | cons y o =>
   have hz : o.length + 1 <= 262144 := by simp only [List.length_cons] at hlen;omega
   repeat' (first
    | refine W ?_
    | refine Y ?_|(apply S.lenRT (n := o.length + 1);(iterate 3 exact rfl))|refine Za ?_|(refine T.nilU 2 rfl ?_;apply T.ret;change Av _ _ _ _ _)
    | refine V ?_
    | (refine W2 ?_ ?_ <;> intro hc))
   all_goals exact ⟨.inr rfl, [.sl [], A1 [.i (((o.length + 1 : Nat) : Int) + 1), .i 1], .i 7], .cons (.tmp rfl) (.cons (Res.row [.i (((o.length + 1 : Nat) : Int) + 1), .i 1] rfl rfl rfl rfl rfl) (.cons (.tmp rfl) .nil)), .tup (.cons (.one (.lf _)) (.cons (.agg (A5 _)) (.cons (.one (.lf _)) .nil)))⟩
end Go.Proofs.YtlmppfffalaphaaGreatDoor
