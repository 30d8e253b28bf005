/- Contracts: strings.Cut, strings.Split, strings.HasPrefix, strings.Count of one byte, strconv.Atoi. Conditions: those of each statement (bounds on lengths). -/
import Derived.Test.YtlmppfffalaphaaGreatDoorMd
import Derived.Test.YtlmppfffalaphaaGreatDoorMc
import Derived.Test.YtlmppfffalaphaaGreatDoorXa
import Derived.Test.YtlmppfffalaphaaGreatDoorMh
import Derived.Lib.UnsafeStr
import Derived.Test.YtlmppfffalaphaaGreatDoorMy
import Derived.Test.YtlmppfffalaphaaGreatDoorPf
import Derived.Test.YtlmppfffalaphaaGreatDoorPa
import Derived.Test.YtlmppfffalaphaaGreatDoorMk
set_option linter.unusedSimpArgs false
set_option linter.unusedVariables false
namespace Go.Proofs.YtlmppfffalaphaaGreatDoor
open Go Go.RowKit
instance : HasU Tryz.prog 122 (.interface (Tryz.prog.methodsAt 122)) := ⟨by kernel_rfl⟩
theorem Nn : Tryz.prog.globalNamed "internal/bytealg.MaxLen" = some 0 := by kernel_rfl
theorem Nr : Tryz.prog.globalNamed "strconv.ErrSyntax" = some 2 := by kernel_rfl
theorem Nq : Tryz.prog.globalNamed "strconv.ErrRange" = some 3 := by kernel_rfl
theorem Km (s sep : ByteArray) (hs : s.size < 4294967281) : Fn0 Tryz.prog 28 [.s s, .s sep] (.tup [.s ⟨(Lib.cut s.data.toList sep.data.toList).1.toArray⟩, .s ⟨(Lib.cut s.data.toList sep.data.toList).2.1.toArray⟩, .b (Lib.cut s.data.toList sep.data.toList).2.2]) := by
 refine ⟨⟨_, Tryz.func28, rfl, rfl⟩, fun L w vs hG hL hl hv => ?_⟩
 match vs, hl with
 | [u, v], _ =>
  obtain rfl := (hv 0 (.s s) u rfl rfl).val_eq
  obtain rfl := (hv 1 (.s sep) v rfl rfl).val_eq
  obtain ⟨m, hm⟩ := hG.len _ Nn
  refine (Tryz.strings_Cut s sep m w hs hm).mono ?_
  rintro e w' ⟨rfl, n, rfl⟩
  refine ⟨_, rfl, .tup _ [_, _, _] rfl (fun i x v hx hv => ?_), ?_⟩
  ·match i with
   | 0 => simp at hx hv;subst hx hv;exact A3 _
   | 1 => simp at hx hv;subst hx hv;exact A3 _
   | 2 => simp at hx hv;subst hx hv;exact A3 _
   | i + 3 => simp at hx
  ·exact ⟨rfl, rfl, rfl, Nat.le_refl _, fun i hi => rfl⟩
theorem Fx (s : ByteArray) (hs : s.size <= 281474976710656) {v : Int} (h : Lib.atoiAll s.data.toList = .ok v) : Fn0 Tryz.prog 52 [.s s] (.tup [.i v, .val .nilIface]) := by
 refine ⟨⟨_, Tryz.func52, rfl, rfl⟩, fun L w vs hG hL hl hv => ?_⟩
 match vs, hl with
 | [u], _ =>
  obtain rfl := (hv 0 (.s s) u rfl rfl).val_eq
  refine (Tryz.strconv_Atoi_ok s (by omega) v h w).mono ?_
  rintro e w' ⟨rfl, hw⟩
  refine ⟨_, rfl, .tup _ [_, _] rfl (fun i x v hx hv => ?_), ?_⟩
  ·match i with
   | 0 => simp at hx hv;subst hx hv;exact A3 _
   | 1 => simp at hx hv;subst hx hv;exact A3 _
   | i + 2 => simp at hx
  ·rcases hw with rfl | ⟨t, rfl⟩
   ·exact ⟨rfl, rfl, rfl, Nat.le_refl _, fun i hi => rfl⟩
   ·exact Lib.below_freeze (((Below.refl _ _).drew).alloc (Nat.le_refl _) _) (Nat.le_refl _) _
theorem Jm (s : ByteArray) (hs : s.size <= 281474976710656) (h : ∀ v, Lib.atoiAll s.data.toList ≠ .ok v) : ∃ n : Int, (-9223372036854775808 <= n /\ n <= 9223372036854775807) /\ Fn0 Tryz.prog 52 [.s s] (.tup [.i n, .err]) := by
 have two : ∀ {w' : World} {L : Nat -> Prop} {n : Int} {t : TypeId} {p : Value}, RelV w' L Af (.tup [.i n, .err]) (.tuple #[.int .i64 n, .iface t p]) := fun {w' L n t p} => .tup _ [_, _] rfl fun i x v hx hv => by
  match i with
  | 0 => simp at hx hv;subst hx hv;exact A3 _
  | 1 => simp at hx hv;subst hx hv;exact .err _ _
  | i + 2 => simp at hx
 cases h0 : Lib.atoiAll s.data.toList with
 | ok v => exact absurd h0 (h v)
 | range =>
  refine ⟨Lib.atoiSat s.data.toList, by unfold Lib.atoiSat;split <;> omega, ⟨⟨_, Tryz.func52, rfl, rfl⟩, fun L w vs hG hL hl hv => ?_⟩⟩
  match vs, hl with
  | [u], _ =>
   obtain rfl := (hv 0 (.s s) u rfl rfl).val_eq
   obtain ⟨ev, h1, h2⟩ := hG.ran _ Nq
   refine (Tryz.strconv_Atoi_range s (by omega) h0 ev w h1 h2).mono ?_
   rintro e w' ⟨N, rfl, _, _, hb⟩
   exact ⟨_, rfl, two, hb⟩
 | _ =>
  refine ⟨0, by omega, ⟨⟨_, Tryz.func52, rfl, rfl⟩, fun L w vs hG hL hl hv => ?_⟩⟩
  match vs, hl with
  | [u], _ =>
   obtain rfl := (hv 0 (.s s) u rfl rfl).val_eq
   obtain ⟨ev, h1, h2⟩ := hG.syn _ Nr
   refine (Tryz.strconv_Atoi_syntax s (by omega) (h0.trans rfl) ev w h1 h2).mono ?_
   rintro e w' ⟨N, rfl, _, _, hb⟩
   exact ⟨_, rfl, two, hb⟩
theorem G4 (a b : List UInt8) : Lib.byteCells (a ++ b) = Lib.byteCells a ++ Lib.byteCells b := by simp [Lib.byteCells]
theorem Es (a : List UInt8) : (Lib.byteCells a).length = a.length := by simp [Lib.byteCells]
theorem CovH.bldE {n : Nat} {T e : TypeId} {b2 : Nat} {s s' : List UInt8} {H H' : AH} (h : s = s') (hb : Nat.blt b2 n = true) (c : CovH n H H') : CovH n (.bld T e b2 (Lib.byteCells s') :: H) (.bld T e b2 (Lib.byteCells s) :: H') := by
 subst h
 exact .bld hb c
theorem G9 {c : UInt8} (hc : c.toNat < 45) (n : Int) : c ∉ Lib.itoa n := by
 unfold Lib.itoa
 split
 ·intro h
  rcases List.mem_cons.1 h with h | h
  ·subst h;exact absurd hc (by decide)
  ·have := Dj _ _ h;omega
 ·intro h
  have := Dj _ _ h;omega
theorem J6 {s : ByteArray} (h : At s = true) {c : UInt8} (hc : ¬ Bu c.toNat) : c ∉ s.data.toList := by
 simp only [At, Bool.and_eq_true, decide_eq_true_eq] at h
 obtain ⟨_, hw⟩ := h
 intro h10
 have hl : s.data.toList.takeWhile (fun c => decide (Bu c.toNat)) = s.data.toList := by
  refine (List.takeWhile_prefix _).eq_of_length ?_
  have : (Ay s : Int) = s.size := hw
  unfold Ay at this
  rw [Array.length_toList]
  exact Int.ofNat.inj this
 have ha := List.all_takeWhile (p := fun c : UInt8 => decide (Bu c.toNat)) (l := s.data.toList)
 rw [hl] at ha
 have := List.all_eq_true.1 ha c h10
 exact hc (of_decide_eq_true this)
/-! ### Numbers -/
def Hc (c : UInt8) : Prop := ¬ (c.toNat : Int) < 48 /\ ¬ (c.toNat : Int) > 57
instance (c : UInt8) : Decidable (Hc c) := by unfold Hc;exact inferInstance
def Bv (l : List UInt8) : Int := l.foldl (fun n c => 10 * n + ((c.toNat : Int) - 48)) 0
def O8 (l : List UInt8) : Prop := ¬ (l.length < 1 \/ l.length > 16) /\ ∀ c ∈ l, Hc c
instance (l : List UInt8) : Decidable (O8 l) := by unfold O8;exact inferInstance
theorem Dm (l : List UInt8) (c : UInt8) : Bv (l ++ [c]) = 10 * Bv l + ((c.toNat : Int) - 48) := by simp [Bv]
theorem Cz : ∀ (k : Nat) (l : List UInt8), l.length = k -> (∀ c ∈ l, Hc c) -> 0 <= Bv l /\ Bv l < 10 ^ k
 | 0, l, h, _ => by
  obtain rfl := List.eq_nil_of_length_eq_zero h
  exact ⟨Int.le_refl _, by decide⟩
 | k + 1, l, h, hl => by
  rcases List.eq_nil_or_concat l with rfl | ⟨m, c, rfl⟩
  ·cases h
  ·rw [List.concat_eq_append] at h hl ⊢
   rw [List.length_append, List.length_cons, List.length_nil] at h
   obtain ⟨h1, h2⟩ := Cz k m (by omega) fun x hx => hl x (by simp [hx])
   obtain ⟨d1, d2⟩ := hl c (by simp)
   rw [Dm]
   have : (10 : Int) ^ (k + 1) = 10 * 10 ^ k := by rw [Int.pow_succ, Int.mul_comm]
   omega
theorem J7 : ∀ (k m : Nat), m <= k -> Bv (Lib.decDigits m) = (m : Int)
 | k, m, hk => by
  by_cases h : m < 10
  ·rw [Lib.decDigits_one h]
   simp only [Bv, List.foldl_cons, List.foldl_nil]
   rw [D1 h];omega
  ·cases k with
   | zero => omega
   | succ k =>
    rw [Ec h, Dm, J7 k (m / 10) (by omega), D1 (by omega)]
    omega
theorem Ka : ∀ (k m : Nat), m < 10 ^ (k + 1) -> (Lib.decDigits m).length <= k + 1
 | 0, m, h => by rw [Lib.decDigits_one (by omega)];simp
 | k + 1, m, h => by
  by_cases h1 : m < 10
  ·rw [Lib.decDigits_one h1];simp
  ·rw [Ec h1, List.length_append]
   have h2 : m / 10 < 10 ^ (k + 1) := by
    have : (10 : Nat) ^ (k + 1 + 1) = 10 ^ (k + 1) * 10 := Nat.pow_succ ..
    omega
   have := Ka k (m / 10) h2
   simp only [List.length_cons, List.length_nil]
   omega
theorem O9 {n : Int} (h0 : 0 <= n) (h1 : n <= 1125899906842625) : O8 (Lib.itoa n) /\ Bv (Lib.itoa n) = n := by
 obtain ⟨m, rfl⟩ : ∃ m : Nat, n = m := ⟨n.toNat, by omega⟩
 have hi : Lib.itoa (m : Int) = Lib.decDigits m := by unfold Lib.itoa;rw [if_neg (by omega), Int.toNat_natCast]
 rw [hi]
 refine ⟨⟨?_, fun c hc => ?_⟩, J7 m m (Nat.le_refl _)⟩
 ·have h2 := Ka 15 m (by omega)
  have h3 := List.length_pos_iff.2 (Ev m)
  omega
 ·have := Dj _ _ hc
  unfold Hc;omega
/-! ### Where the reading stands -/
end Go.Proofs.YtlmppfffalaphaaGreatDoor
